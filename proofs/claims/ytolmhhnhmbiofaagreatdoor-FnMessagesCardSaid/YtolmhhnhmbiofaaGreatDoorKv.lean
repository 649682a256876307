/- Plain lemmas and definitions. Nothing is claimed here. -/
import Derived.Test.YtolmhhnhmbiofaaGreatDoorKu
import Derived.Lib.AtoiTie
import Derived.Lib.IndexMore
set_option linter.unusedVariables false
set_option linter.unusedSimpArgs false
set_option maxRecDepth 100000
namespace Go.YtolmhhnhmbiofaaGreatDoor
open Go Go.RowKit Go.Pv Go.Pu
noncomputable section
def blank (c : UInt8) : Bool := c == 32 || c == 9
def rtrim (x : List UInt8) : List UInt8 := (x.reverse.dropWhile blank).reverse
def trimT (x : List UInt8) : List UInt8 := rtrim (x.dropWhile blank)
theorem rtrim_cons (e : UInt8) (l : List UInt8) : rtrim (e :: l) = if rtrim l = [] then (if blank e then [] else [e]) else e :: rtrim l := by
  unfold rtrim
  rw [List.reverse_cons, List.dropWhile_append]
  cases h : l.reverse.dropWhile blank with
  | nil => cases hb : blank e <;> simp [List.dropWhile_cons, hb]
  | cons a m => simp
theorem rtrim_snoc (l : List UInt8) (c : UInt8) : rtrim (l ++ [c]) = if blank c then rtrim l else l ++ [c] := by
  unfold rtrim
  rw [List.reverse_append]
  cases hb : blank c <;> simp [List.dropWhile_cons, hb]
theorem trim_comm : ∀ x : List UInt8, rtrim (x.dropWhile blank) = (rtrim x).dropWhile blank
  | [] => rfl
  | e :: l => by
    have ih := trim_comm l
    rw [rtrim_cons, List.dropWhile_cons]
    cases hb : blank e with
    | true =>
      by_cases h : rtrim l = []
      · rw [h] at ih; simp [h, ih]
      · simp [h, List.dropWhile_cons, hb, ih]
    | false =>
      rw [if_neg (by simp), rtrim_cons]
      by_cases h : rtrim l = []
      · simp [h, List.dropWhile_cons, hb]
      · simp [h, List.dropWhile_cons, hb]
theorem trimS_eq (x : List UInt8) : Lib.trimS x [32, 9] = trimT x := by
  have hc : (fun b : UInt8 => ([32, 9] : List UInt8).contains b) = blank := by
    funext b; unfold blank
    simp only [List.contains, List.elem]
    cases h1 : (b == 32) <;> cases h2 : (b == 9) <;> rfl
  unfold Lib.trimS Lib.trimLeftS Lib.trimRightS trimT
  rw [hc, trim_comm]; rfl
theorem rtrim_len (x : List UInt8) : (rtrim x).length ≤ x.length := by
  unfold rtrim
  have := (List.dropWhile_sublist blank (l := x.reverse)).length_le
  simpa using this
theorem trimT_len (x : List UInt8) : (trimT x).length ≤ x.length := by
  have h1 := (List.dropWhile_sublist blank (l := x)).length_le
  have h2 := rtrim_len (x.dropWhile blank)
  unfold trimT; omega
theorem I_TrimText_eq {k : Nat} (x : List UInt8) (h : x.length < 1073741824) : I_TrimText k x = some (trimT x) := by
  have hd : (decide (x.length ≤ 9223372036854775807) && decide (([32, 9] : List UInt8).length < 4294967281) && ([32, 9] : List UInt8).all (fun b => decide (b.toNat < 128))) = true := by
    rw [Bool.and_eq_true, Bool.and_eq_true]; exact ⟨⟨decide_eq_true (by omega), by decide⟩, by decide⟩
  rw [I_TrimText, strings_Trim, trimO, hd, cond_true, trimS_eq]; rfl
theorem S_l4Blank_eq {k : Nat} (c : UInt8) : S_l4Blank k (UInt8.toNat c : Int) = some (blank c) := by
  have h1 := u8_eq c 32
  have h2 := u8_eq c 9
  rw [S_l4Blank, show (32 : Int) = ((32 : UInt8).toNat : Int) from rfl, h1, show (9 : Int) = ((9 : UInt8).toNat : Int) from rfl, h2]
  unfold blank
  cases (c == 32) <;> rfl
theorem S_Trim_1 {k : Nat} : ∀ (n : Nat) (x : List UInt8), x.length < n → x.length < 1073741824 → S_TrimText_b0 k n x = some (x.dropWhile blank) := by
  intro n
  induction n with
  | zero => intro x h; omega
  | succ n ih =>
    intro x h hx
    rw [S_TrimText_b0, bif_dec]
    cases x with
    | nil => rw [if_neg (by simp)]; rfl
    | cons c l =>
      have e : idx (c :: l) (0 : Int) = some c := rfl
      have hs : ssub (c :: l) (1 : Int) ((c :: l).length : Int) = some l := by
        have := ssub_drop (x := c :: l) (i := 1) (by simp)
        simpa using this
      rw [if_pos (by rw [List.length_cons]; omega), e, Option.bind_some, S_l4Blank_eq, Option.bind_some, List.dropWhile_cons]
      cases blank c with
      | true => rw [cond_true, hs, Option.bind_some, ih l (by simp at h; omega) (by simp at hx; omega), if_pos rfl]
      | false => rw [cond_false, if_neg (by simp)]
theorem S_Trim_2 {k : Nat} : ∀ (n : Nat) (x : List UInt8), x.length < n → x.length < 1073741824 → S_TrimText_b2 k n x = some (rtrim x) := by
  intro n
  induction n with
  | zero => intro x h; omega
  | succ n ih =>
    intro x h hx
    rw [S_TrimText_b2, bif_dec]
    rcases List.eq_nil_or_concat x with rfl | ⟨l, c, rfl⟩
    · rw [if_neg (by simp)]; rfl
    · rw [List.concat_eq_append] at *
      have hl : (l ++ [c]).length = l.length + 1 := by simp
      have e1 : IntKind.wrap .i64 (((l ++ [c]).length : Int) - 1) = (l.length : Int) := by rw [wrap_id (by omega) (by omega)]; omega
      have e2 : idx (l ++ [c]) (l.length : Int) = some c := by
        show (l ++ [c])[l.length]? = some c
        simp
      have e3 : ssub (l ++ [c]) (0 : Int) (l.length : Int) = some l := by
        rw [ssub_take (by omega)]; simp
      rw [if_pos (by omega), e1, e2, Option.bind_some, S_l4Blank_eq, Option.bind_some, rtrim_snoc]
      cases blank c with
      | true => rw [cond_true, e3, Option.bind_some, ih l (by omega) (by omega), if_pos rfl]
      | false => rw [cond_false, if_neg (by simp)]
theorem S_TrimText_eq {k : Nat} (hk : 1073741824 ≤ k) (x : List UInt8) (h : x.length < 1073741824) : S_TrimText k x = some (trimT x) := by
  have h1 := (List.dropWhile_sublist blank (l := x)).length_le
  rw [S_TrimText, S_Trim_1 k x (by omega) h, Option.bind_some, S_Trim_2 k _ (by omega) (by omega)]; rfl
def sub (x : List UInt8) (f i : Nat) : List UInt8 := (x.take i).drop f
def joinT (l : List (List UInt8)) : List UInt8 := Lib.join l [44, 32]
theorem S_JoinList_loop {k : Nat} {x : List UInt8} {r : List (List UInt8)} (h : 2 * r.length + Lib.lens (x :: r) < 1073741824) : ∀ (n j : Nat), j ≤ r.length → r.length - j < n →
    S_JoinList_b0 k n (x :: r) (x ++ Lib.joinTail [44, 32] (r.take j)) ((j + 1 : Nat) : Int) = some (x ++ Lib.joinTail [44, 32] r) := by
  have hx : Lib.lens (x :: r) = x.length + Lib.lens r := rfl
  intro n
  induction n with
  | zero => intro j _ h; omega
  | succ n ih =>
    intro j hj hn
    rw [S_JoinList_b0, bif_dec]
    by_cases c : j < r.length
    · have hlen : ((j + 1 : Nat) : Int) < ((x :: r).length : Int) := by simp; omega
      have e1 : decide (((j + 1 : Nat) : Int) > 0) = true := decide_eq_true (by omega)
      have e2 : idx (x :: r) ((j + 1 : Nat) : Int) = some r[j] := by
        rw [idx_nat (by simp; omega)]; simp
      have b1 := Lib.joinTail_take_le [44, 32] r j
      have b2 := Lib.joinTail_length [44, 32] r
      have b3 := Lib.joinTail_take_le [44, 32] r (j + 1)
      have b4 := Lib.joinTail_take_succ [44, 32] r j r[j] (List.getElem?_eq_getElem c)
      have b5 := congrArg List.length b4
      simp only [List.length_append, List.length_cons, List.length_nil] at b2 b5
      rw [if_pos hlen, S_JoinList_b1, S_JoinList_c12, e1, cond_true, cat_ok (by simp; omega), Option.bind_some, Option.bind_some, e2, Option.bind_some, cat_ok (by simp; omega), Option.bind_some, Option.bind_some, wrap_succ (by omega)]
      have := ih (j + 1) (by omega) (by omega)
      rw [b4] at this
      rw [← this]
      congr 1
      simp
    · have hlen : ¬ ((j + 1 : Nat) : Int) < ((x :: r).length : Int) := by simp; omega
      rw [if_neg hlen, List.take_of_length_le (by omega)]
theorem S_JoinList_eq {k : Nat} (hk : 1073741824 ≤ k) (l : List (List UInt8)) (h : 2 * l.length + Lib.lens l < 1073741824) : S_JoinList k l = some (joinT l) := by
  obtain ⟨n, rfl⟩ : ∃ n, k = n + 1 := ⟨k - 1, by omega⟩
  rw [S_JoinList, S_JoinList_b0, bif_dec]
  cases l with
  | nil => rfl
  | cons x r =>
    have hx : Lib.lens (x :: r) = x.length + Lib.lens r := rfl
    simp only [List.length_cons] at h
    have hlen : (0 : Int) < ((x :: r).length : Int) := by rw [List.length_cons]; omega
    have e2 : idx (x :: r) (0 : Int) = some x := rfl
    have := S_JoinList_loop (k := n + 1) (x := x) (r := r) (by omega) n 0 (by omega) (by omega)
    rw [List.take_zero] at this
    rw [if_pos hlen, S_JoinList_b1, S_JoinList_c12, e2]
    rw [show (decide ((0 : Int) > 0)) = false from rfl, cond_false, Option.bind_some, Option.bind_some, cat_ok (by simp; omega), Option.bind_some, Option.bind_some]
    rw [show IntKind.wrap .i64 ((0 : Int) + 1) = ((0 + 1 : Nat) : Int) from by rw [wrap_id (by omega) (by omega)]; rfl]
    have e3 : Lib.joinTail [44, 32] ([] : List (List UInt8)) = [] := rfl
    rw [e3, List.append_nil] at this
    rw [List.nil_append, this, Option.bind_some, joinT, Lib.join_cons]
theorem trimT_pre {pre p : List UInt8} (h : ∀ c ∈ pre, blank c = true) : trimT (pre ++ p) = trimT p := by
  unfold trimT
  rw [List.dropWhile_append_of_pos h]
def lowB (c : UInt8) : UInt8 := bif decide (65 ≤ c.toNat) && decide (c.toNat ≤ 90) then c + 32 else c
def lowT (s : List UInt8) : List UInt8 := s.map lowB
theorem lowB_add : ∀ j : Fin 256, (65 ≤ j.val ∧ j.val ≤ 90) → IntKind.wrap .u8 ((j.val : Int) + 32) = (((UInt8.ofNat j.val) + 32).toNat : Int) := by decide +kernel
theorem low_wrap (c : UInt8) (h : 65 ≤ c.toNat ∧ c.toNat ≤ 90) : IntKind.wrap .u8 ((c.toNat : Int) + 32) = ((c + 32).toNat : Int) := by
  have := lowB_add ⟨c.toNat, UInt8.toNat_lt c⟩ h
  simpa using this
theorem bytes_ints (s : List UInt8) : bytesOf (intsOf s) = s := by
  unfold bytesOf intsOf
  rw [List.map_map]
  conv => rhs; rw [← List.map_id s]
  refine List.map_congr_left fun c _ => ?_
  simp
theorem ints_len (s : List UInt8) : (intsOf s).length = s.length := by unfold intsOf; simp
theorem ints_idx {s : List UInt8} {i : Nat} (h : i < s.length) : idx (intsOf s) (i : Int) = some (s[i].toNat : Int) := by
  rw [idx_nat (by rw [ints_len]; exact h)]; simp [intsOf]
theorem ints_set (s : List UInt8) (i : Nat) (c : UInt8) : (intsOf s).set i (c.toNat : Int) = intsOf (s.set i c) := by
  unfold intsOf; rw [List.map_set]
theorem low_loop {L : Nat} {F : Nat → Int → List Int → Option (List Int)} (T : ∀ n (i : Nat) (s : List UInt8) (h : i < s.length), s.length = L → F (n + 1) (i : Int) (intsOf s) = F n ((i + 1 : Nat) : Int) (intsOf (s.set i (lowB s[i]))))
    (E : ∀ n (i : Nat) (s : List UInt8), s.length ≤ i → s.length = L → F (n + 1) (i : Int) (intsOf s) = some (intsOf s)) : ∀ (n i : Nat) (s : List UInt8), i ≤ s.length → s.length - i < n → s.length = L → F n (i : Int) (intsOf s) = some (intsOf (s.take i ++ (s.drop i).map lowB)) := by
  intro n
  induction n with
  | zero => intro i s _ h; omega
  | succ n ih =>
    intro i s hi hn hs
    by_cases h : i < s.length
    · rw [T n i s h hs, ih (i + 1) _ (by simp; omega) (by simp; omega) (by simpa using hs)]
      congr 2
      rw [List.drop_eq_getElem_cons h, List.map_cons]
      have e1 : (s.set i (lowB s[i])).take (i + 1) = s.take i ++ [lowB s[i]] := by
        apply List.ext_getElem?
        intro j
        by_cases hj : j < i
        · rw [List.getElem?_take, if_pos (by omega), List.getElem?_set_ne (by omega), List.getElem?_append_left (by simp; omega), List.getElem?_take, if_pos hj]
        · by_cases hj2 : j = i
          · subst hj2
            rw [List.getElem?_take, if_pos (by omega), List.getElem?_set_self h, List.getElem?_append_right (by simp; omega)]
            simp [Nat.min_eq_left (Nat.le_of_lt h)]
          · rw [List.getElem?_take, if_neg (by omega), List.getElem?_eq_none (by simp; omega)]
      have e2 : (s.set i (lowB s[i])).drop (i + 1) = s.drop (i + 1) := by
        apply List.ext_getElem?
        intro j
        rw [List.getElem?_drop, List.getElem?_drop, List.getElem?_set_ne (by omega)]
      rw [e1, e2, List.append_assoc]; rfl
    · rw [E n i s (by omega) hs, List.drop_of_length_le (by omega), List.take_of_length_le (by omega)]; simp
theorem S_LowerText_eq {k : Nat} (hk : 1073741824 ≤ k) (s : List UInt8) (h : s.length < 1073741824) : S_LowerText k s = some (lowT s) := by
  have := low_loop (L := s.length) (F := fun n i r => S_LowerText_b0 k n i r) (fun n i s hi hs => by
    have hb := UInt8.toNat_lt s[i]
    have hlen : ((i : Int) < ((intsOf s).length : Int)) := by rw [ints_len]; omega
    simp only [S_LowerText_b0, bif_dec, hlen, if_true, S_LowerText_b1, ints_idx hi, Option.bind_some, wrap_succ (by omega : i < 9223372036854775807)]
    rw [wrap_id (by omega) (by omega), S_l1In]
    by_cases c1 : 65 ≤ s[i].toNat
    · by_cases c2 : s[i].toNat ≤ 90
      · have e1 : decide ((s[i].toNat : Int) ≥ 65) = true := decide_eq_true (by omega)
        have e2 : decide ((s[i].toNat : Int) ≤ 90) = true := decide_eq_true (by omega)
        have e3 : lowB s[i] = s[i] + 32 := by unfold lowB; rw [decide_eq_true c1, decide_eq_true c2]; rfl
        simp only [e1, e2, S_LowerText_c18, cond_true, Option.bind_some, ints_idx hi, low_wrap _ ⟨c1, c2⟩, Int.toNat_natCast, ints_set, e3]
      · have e1 : decide ((s[i].toNat : Int) ≥ 65) = true := decide_eq_true (by omega)
        have e2 : decide ((s[i].toNat : Int) ≤ 90) = false := decide_eq_false (by omega)
        have e3 : lowB s[i] = s[i] := by unfold lowB; rw [decide_eq_false c2]; simp
        simp only [e1, e2, cond_true, cond_false, Option.bind_some, S_LowerText_c18, e3, List.set_getElem_self]
    · have e1 : decide ((s[i].toNat : Int) ≥ 65) = false := decide_eq_false (by omega)
      have e3 : lowB s[i] = s[i] := by unfold lowB; rw [decide_eq_false c1]; simp
      simp only [e1, cond_false, Option.bind_some, S_LowerText_c18, e3, List.set_getElem_self]) (fun n i s hi _ => by
    have hlen : ¬ ((i : Int) < ((intsOf s).length : Int)) := by rw [ints_len]; omega
    simp only [S_LowerText_b0, bif_dec, hlen, if_false]) k 0 s (by omega) (by omega) rfl
  have h1 : S_LowerText_b0 k k 0 (intsOf s) = some (intsOf (s.take 0 ++ (s.drop 0).map lowB)) := this
  rw [S_LowerText, h1, Option.bind_some, bytes_ints]; simp [lowT]
theorem I_LowerText_eq {k : Nat} (hk : 1073741824 ≤ k) (s : List UInt8) (h : s.length < 1073741824) : I_LowerText k s = some (lowT s) := by
  have := low_loop (L := s.length) (F := fun n i r => I_LowerText_b0 k n (s.length : Int) i r) (fun n i t hi hs => by
    have hb := UInt8.toNat_lt t[i]
    have hlen : ((i : Int) < (s.length : Int)) := by omega
    simp only [I_LowerText_b0, bif_dec, hlen, if_true, I_LowerText_b1, ints_idx hi, Option.bind_some, wrap_succ (by omega : i < 9223372036854775807)]
    by_cases c1 : 65 ≤ t[i].toNat
    · by_cases c2 : t[i].toNat ≤ 90
      · have e1 : ((t[i].toNat : Int) ≥ 65) := by omega
        have e2 : decide ((t[i].toNat : Int) ≤ 90) = true := decide_eq_true (by omega)
        have e3 : lowB t[i] = t[i] + 32 := by unfold lowB; rw [decide_eq_true c1, decide_eq_true c2]; rfl
        simp only [e1, e2, if_true, I_LowerText_c20, cond_true, Option.bind_some, ints_idx hi, low_wrap _ ⟨c1, c2⟩, Int.toNat_natCast, ints_set, e3]
      · have e1 : ((t[i].toNat : Int) ≥ 65) := by omega
        have e2 : decide ((t[i].toNat : Int) ≤ 90) = false := decide_eq_false (by omega)
        have e3 : lowB t[i] = t[i] := by unfold lowB; rw [decide_eq_false c2]; simp
        simp only [e1, e2, if_true, I_LowerText_c20, cond_false, Option.bind_some, e3, List.set_getElem_self]
    · have e1 : ¬ ((t[i].toNat : Int) ≥ 65) := by omega
      have e3 : lowB t[i] = t[i] := by unfold lowB; rw [decide_eq_false c1]; simp
      simp only [e1, if_false, I_LowerText_c20, cond_false, Option.bind_some, e3, List.set_getElem_self]) (fun n i t hi ht => by
    have hlen : ¬ ((i : Int) < (s.length : Int)) := by omega
    simp only [I_LowerText_b0, bif_dec, hlen, if_false]) k 0 s (by omega) (by omega) rfl
  have h1 : I_LowerText_b0 k k (s.length : Int) 0 (intsOf s) = some (intsOf (s.take 0 ++ (s.drop 0).map lowB)) := this
  rw [I_LowerText, ints_len, h1, Option.bind_some, bytes_ints]; simp [lowT]
theorem lowT_len (s : List UInt8) : (lowT s).length = s.length := by unfold lowT; simp
def mk15 : List UInt8 := [33, 35, 36, 37, 38, 39, 42, 43, 45, 46, 94, 95, 124, 126, 96]
def mk14 : List UInt8 := [33, 35, 36, 37, 38, 39, 42, 43, 45, 46, 94, 95, 124, 126]
def letB (c : UInt8) : Bool := (decide (97 ≤ c.toNat) && decide (c.toNat ≤ 122)) || (decide (65 ≤ c.toNat) && decide (c.toNat ≤ 90)) || (decide (48 ≤ c.toNat) && decide (c.toNat ≤ 57))
def mkP (c : UInt8) (i : Nat) : Bool := match mk15[i]? with | some m => c == m | none => false
def tokB (c : UInt8) : Bool := (firstI (mkP c) 15 0).isSome || letB c
theorem S_l4Letter_eq {k : Nat} (c : UInt8) : S_l4Letter k (c.toNat : Int) = some (letB c) := by
  have hb := UInt8.toNat_lt c
  rw [S_l4Letter, wrap_id (by omega) (by omega)]
  simp only [S_l1In, bif_dec, letB]
  by_cases a1 : 97 ≤ c.toNat <;> by_cases a2 : c.toNat ≤ 122 <;> by_cases a3 : 65 ≤ c.toNat <;> by_cases a4 : c.toNat ≤ 90 <;> by_cases a5 : 48 ≤ c.toNat <;> by_cases a6 : c.toNat ≤ 57 <;>
    simp [a1, a2, a3, a4, a5, a6, show ((c.toNat : Int) ≥ 97) = (97 ≤ c.toNat) from by simp; omega, show ((c.toNat : Int) ≤ 122) = (c.toNat ≤ 122) from by simp; omega, show ((c.toNat : Int) ≥ 65) = (65 ≤ c.toNat) from by simp; omega, show ((c.toNat : Int) ≤ 90) = (c.toNat ≤ 90) from by simp; omega, show ((c.toNat : Int) ≥ 48) = (48 ≤ c.toNat) from by simp; omega, show ((c.toNat : Int) ≤ 57) = (c.toNat ≤ 57) from by simp; omega]
theorem S_l4Token_eq {k : Nat} (hk : 1073741824 ≤ k) (c : UInt8) : S_l4Token k (c.toNat : Int) = some (tokB c) := by
  have := find_all (len := 15) (c := fun i => bif mkP c i then some true else none) (F := fun n i => S_l4Token_b0 k n (c.toNat : Int) i) (fun n i hi => by
    have hl : i < mk15.length := hi
    have e : idx ([33, 35, 36, 37, 38, 39, 42, 43, 45, 46, 94, 95, 124, 126, 96] : List UInt8) (i : Int) = some mk15[i] := idx_nat hl
    have e2 : decide ((i : Int) < 15) = true := decide_eq_true (by omega)
    simp only [S_l4Token_b0, e2, cond_true, e, Option.bind_some, u8_eq, wrap_succ (by omega : i < 9223372036854775807), mkP, List.getElem?_eq_getElem hl]
    cases (c == mk15[i]) <;> rfl) (fun n i hi => by
    have e2 : decide ((i : Int) < 15) = false := decide_eq_false (by omega)
    simp only [S_l4Token_b0, e2, cond_false]) (k := k) (by omega)
  rw [S_l4Token, this, findI_first]
  unfold tokB
  cases firstI (mkP c) 15 0 with
  | none => simp [ocOf, oc, S_l4Letter_eq]
  | some j => simp [ocOf, oc]
theorem tok_tab : ∀ j : Fin 256, tokB (UInt8.ofNat j.val) = (letB (UInt8.ofNat j.val) || decide (Lib.indexByte mk14 (UInt8.ofNat j.val) ≥ 0) || (UInt8.ofNat j.val == 96)) := by decide +kernel
theorem tok_eq (c : UInt8) : tokB c = (letB c || decide (Lib.indexByte mk14 c ≥ 0) || (c == 96)) := by
  have := tok_tab ⟨c.toNat, UInt8.toNat_lt c⟩
  simpa using this
theorem I_isTokenByte_eq {k : Nat} (c : UInt8) : I_isTokenByte k (c.toNat : Int) = some (tokB c) := by
  have hb := UInt8.toNat_lt c
  have hi : strings_IndexByte k [33, 35, 36, 37, 38, 39, 42, 43, 45, 46, 94, 95, 124, 126] (c.toNat : Int) = some (Lib.indexByte mk14 c) := by
    rw [strings_IndexByte, indexByteO, Int.toNat_natCast]; simp [mk14]
  have h96 : ((c.toNat : Int) == 96) = (c == 96) := u8_eq c 96
  rw [I_isTokenByte, hi, h96, tok_eq]
  simp only [Option.bind_some, bif_dec, letB]
  by_cases a1 : 97 ≤ c.toNat <;> by_cases a2 : c.toNat ≤ 122 <;> by_cases a3 : 65 ≤ c.toNat <;> by_cases a4 : c.toNat ≤ 90 <;> by_cases a5 : 48 ≤ c.toNat <;> by_cases a6 : c.toNat ≤ 57 <;> by_cases a7 : Lib.indexByte mk14 c ≥ 0 <;>
    simp [a1, a2, a3, a4, a5, a6, a7, show ((c.toNat : Int) ≥ 97) = (97 ≤ c.toNat) from by simp; omega, show ((c.toNat : Int) ≤ 122) = (c.toNat ≤ 122) from by simp; omega, show ((c.toNat : Int) ≥ 65) = (65 ≤ c.toNat) from by simp; omega, show ((c.toNat : Int) ≤ 90) = (c.toNat ≤ 90) from by simp; omega, show ((c.toNat : Int) ≥ 48) = (48 ≤ c.toNat) from by simp; omega, show ((c.toNat : Int) ≤ 57) = (c.toNat ≤ 57) from by simp; omega]
def ntP (x : List UInt8) (i : Nat) : Bool := match x[i]? with | some c => !tokB c | none => false
def inR (n a b : Int) : Bool := decide (a ≤ n) && decide (n ≤ b)
theorem S_l1In_eq {k : Nat} (n a b : Int) : S_l1In k n a b = some (inR n a b) := by
  rw [S_l1In, bif_dec, inR]
  by_cases h : a ≤ n <;> simp [h]
theorem I_inRange_eq {k : Nat} (n a b : Int) : I_inRange k n a b = some (inR n a b) := by
  rw [I_inRange, bif_dec, inR]
  by_cases h : a ≤ n <;> simp [h]
def isTok (x : List UInt8) : Bool := (firstI (ntP x) x.length 0).isNone && inR (x.length : Int) 1 40
theorem S_IsToken_eq {k : Nat} (hk : 1073741824 ≤ k) (x : List UInt8) (h : x.length < 1073741824) : S_IsToken k x = some (isTok x) := by
  have := find_all (len := x.length) (c := fun i => bif ntP x i then some false else none) (F := fun n i => S_IsToken_b0 k n x i) (fun n i hi => by
    simp only [S_IsToken_b0, idx_nat hi, Option.bind_some, wrap_succ (by omega : i < 9223372036854775807), bif_dec, lt_cast, hi, if_true, ntP, List.getElem?_eq_getElem hi, S_l4Token_eq hk]
    cases tokB x[i] <;> rfl) (fun n i hi => by
    simp only [S_IsToken_b0, bif_dec, lt_cast]
    rw [if_neg (by omega)]) (k := k) (by omega)
  rw [S_IsToken, this, findI_first]
  unfold isTok
  cases firstI (ntP x) x.length 0 <;> simp [ocOf, oc, S_l1In_eq]
theorem I_IsToken_eq {k : Nat} (hk : 1073741824 ≤ k) (x : List UInt8) (h : x.length < 1073741824) : I_IsToken k x = some (isTok x) := by
  have := find_all (len := x.length) (c := fun i => bif ntP x i then some false else none) (F := fun n i => I_IsToken_b0 k n x (x.length : Int) i) (fun n i hi => by
    simp only [I_IsToken_b0, idx_nat hi, Option.bind_some, wrap_succ (by omega : i < 9223372036854775807), bif_dec, lt_cast, hi, if_true, ntP, List.getElem?_eq_getElem hi, I_isTokenByte_eq]
    cases tokB x[i] <;> rfl) (fun n i hi => by
    simp only [I_IsToken_b0, bif_dec, lt_cast]
    rw [if_neg (by omega)]) (k := k) (by omega)
  rw [I_IsToken, this, findI_first]
  unfold isTok
  cases firstI (ntP x) x.length 0 <;> simp [ocOf, oc, I_inRange_eq]
def badV (c : UInt8) : Bool := !inR (c.toNat : Int) 32 126 && c != 9
def bvP (x : List UInt8) (i : Nat) : Bool := match x[i]? with | some c => badV c | none => false
def valOK (x : List UInt8) : Bool := (firstI (bvP x) x.length 0).isNone && decide ((x.length : Int) ≤ 200) && (trimT x == x)
def nameOK (x : List UInt8) : Bool := isTok x && (lowT x == x)
def bfP (l : List IField) (i : Nat) : Bool := match l[i]? with | some e => !nameOK e.Name || !valOK e.Value | none => false
def areF (l : List IField) : Bool := (firstI (bfP l) l.length 0).isNone && decide ((l.length : Int) ≤ 24)
theorem u8_ne9 (c : UInt8) : ((UInt8.toNat c : Int) != (9 : Int)) = (c != 9) := by
  have := u8_eq c 9
  unfold bne
  rw [← this]; rfl
theorem S_l5Value_eq {k : Nat} (hk : 1073741824 ≤ k) (x : List UInt8) (h : x.length < 1073741824) : S_l5Value k x = some (valOK x) := by
  have := find_all (len := x.length) (c := fun i => bif bvP x i then some false else none) (F := fun n i => S_l5Value_b0 k n x i) (fun n i hi => by
    have hb := UInt8.toNat_lt x[i]
    simp only [S_l5Value_b0, idx_nat hi, Option.bind_some, wrap_succ (by omega : i < 9223372036854775807), bif_dec, lt_cast, hi, if_true, bvP, List.getElem?_eq_getElem hi, badV, u8_ne9]
    rw [wrap_id (by omega) (by omega), S_l1In_eq, Option.bind_some]
    cases inR (x[i].toNat : Int) 32 126 <;> cases (x[i] != 9) <;> rfl) (fun n i hi => by
    simp only [S_l5Value_b0, bif_dec, lt_cast]
    rw [if_neg (by omega)]) (k := k) (by omega)
  rw [S_l5Value, this, findI_first, S_TrimText_eq hk x h]
  unfold valOK
  cases firstI (bvP x) x.length 0 with
  | none => cases decide ((x.length : Int) ≤ 200) <;> simp [ocOf, oc]
  | some j => simp [ocOf, oc]
theorem I_isFieldValue_eq {k : Nat} (hk : 1073741824 ≤ k) (x : List UInt8) (h : x.length < 1073741824) : I_isFieldValue k x = some (valOK x) := by
  have := find_all (len := x.length) (c := fun i => bif bvP x i then some false else none) (F := fun n i => I_isFieldValue_b0 k n x (x.length : Int) i) (fun n i hi => by
    have hb := UInt8.toNat_lt x[i]
    simp only [I_isFieldValue_b0, idx_nat hi, Option.bind_some, wrap_succ (by omega : i < 9223372036854775807), bif_dec, lt_cast, hi, if_true, bvP, List.getElem?_eq_getElem hi, badV, u8_ne9]
    rw [wrap_id (by omega) (by omega), I_inRange_eq, Option.bind_some]
    cases inR (x[i].toNat : Int) 32 126 <;> cases (x[i] != 9) <;> rfl) (fun n i hi => by
    simp only [I_isFieldValue_b0, bif_dec, lt_cast]
    rw [if_neg (by omega)]) (k := k) (by omega)
  rw [I_isFieldValue, this, findI_first, I_TrimText_eq x h]
  unfold valOK
  cases firstI (bvP x) x.length 0 with
  | none => cases decide ((x.length : Int) ≤ 200) <;> simp [ocOf, oc]
  | some j => simp [ocOf, oc]
theorem S_l5Name_eq {k : Nat} (hk : 1073741824 ≤ k) (x : List UInt8) (h : x.length < 1073741824) : S_l5Name k x = some (nameOK x) := by
  rw [S_l5Name, S_IsToken_eq hk x h, Option.bind_some, S_LowerText_eq hk x h]
  unfold nameOK
  cases isTok x <;> rfl
def shortF (l : List IField) : Prop := ∀ e ∈ l, e.Name.length < 1073741824 ∧ e.Value.length < 1073741824
theorem S_AreFields_eq {k : Nat} (hk : 1073741824 ≤ k) (l : List IField) (h : l.length < 1073741824) (hs : shortF l) : S_AreFields k l = some (areF l) := by
  have := find_all (len := l.length) (c := fun i => bif bfP l i then some false else none) (F := fun n i => S_AreFields_b0 k n l i) (fun n i hi => by
    obtain ⟨h1, h2⟩ := hs l[i] (List.getElem_mem hi)
    simp only [S_AreFields_b0, idx_nat hi, Option.bind_some, wrap_succ (by omega : i < 9223372036854775807), bif_dec, lt_cast, hi, if_true, bfP, List.getElem?_eq_getElem hi, S_l5Name_eq hk _ h1, S_l5Value_eq hk _ h2]
    cases nameOK l[i].Name <;> cases valOK l[i].Value <;> rfl) (fun n i hi => by
    simp only [S_AreFields_b0, bif_dec, lt_cast]
    rw [if_neg (by omega)]) (k := k) (by omega)
  rw [S_AreFields, this, findI_first]
  unfold areF
  cases firstI (bfP l) l.length 0 <;> simp [ocOf, oc]
theorem I_AreFields_eq {k : Nat} (hk : 1073741824 ≤ k) (l : List IField) (h : l.length < 1073741824) (hs : shortF l) : I_AreFields k l = some (areF l) := by
  have := find_all (len := l.length) (c := fun i => bif bfP l i then some false else none) (F := fun n i => I_AreFields_b0 k n l l (l.length : Int) i) (fun n i hi => by
    obtain ⟨h1, h2⟩ := hs l[i] (List.getElem_mem hi)
    simp only [I_AreFields_b0, idx_nat hi, Option.bind_some, wrap_succ (by omega : i < 9223372036854775807), bif_dec, lt_cast, hi, if_true, bfP, List.getElem?_eq_getElem hi, I_IsToken_eq hk _ h1, I_LowerText_eq hk _ h1, I_isFieldValue_eq hk _ h2, nameOK]
    cases isTok l[i].Name <;> cases (lowT l[i].Name == l[i].Name) <;> cases valOK l[i].Value <;> rfl) (fun n i hi => by
    simp only [I_AreFields_b0, bif_dec, lt_cast]
    rw [if_neg (by omega)]) (k := k) (by omega)
  rw [I_AreFields, this, findI_first]
  unfold areF
  cases firstI (bfP l) l.length 0 <;> simp [ocOf, oc]
def valOfF (n : List UInt8) (e : IField) : List (List UInt8) := bif e.Name == n then [e.Value] else []
def valsF (l : List IField) (n : List UInt8) : List (List UInt8) := l.flatMap (valOfF n)
def fsz (l : List IField) : Nat := l.length + (l.map fun e => e.Value.length).sum
theorem valsF_len (n : List UInt8) : ∀ l : List IField, (valsF l n).length ≤ l.length
  | [] => by simp [valsF]
  | e :: l => by
    have := valsF_len n l
    unfold valsF at this ⊢
    rw [List.flatMap_cons, List.length_append]
    have h2 : (valOfF n e).length ≤ 1 := by unfold valOfF; cases (e.Name == n) <;> simp
    rw [List.length_cons]; omega
theorem valsF_lens (n : List UInt8) : ∀ l : List IField, Lib.lens (valsF l n) ≤ (l.map fun e => e.Value.length).sum
  | [] => by simp [valsF, Lib.lens]
  | e :: l => by
    have := valsF_lens n l
    unfold valsF at this ⊢
    rw [List.flatMap_cons]
    unfold valOfF at this ⊢
    cases (e.Name == n) with
    | true => simp only [cond_true, List.cons_append, List.nil_append, List.map_cons, List.sum_cons]; show e.Value.length + Lib.lens _ ≤ _; omega
    | false => simp only [cond_false, List.nil_append, List.map_cons, List.sum_cons]; omega
def getF (l : List IField) (n : List UInt8) : List UInt8 × Bool := (joinT (valsF l n), decide (((valsF l n).length : Int) > 0))
theorem S_GetField_eq {k : Nat} (hk : 1073741824 ≤ k) (l : List IField) (n : List UInt8) (h : fsz l < 268435456) : S_GetField k l n = some (getF l n) := by
  have hl : l.length < 268435456 := by unfold fsz at h; omega
  have := fold_all (len := l.length) (g := fun j s => s ++ (l[j]?).elim [] (valOfF n)) (Inv := fun i s => s.length ≤ i) (F := fun m i s => S_GetField_b0 k m l n i s) (out := id) (fun m i s hi hI => by
    simp only [S_GetField_b0, bif_dec, lt_cast, hi, if_true, S_GetField_b1, idx_nat hi, Option.bind_some, S_GetField_c21, wrap_succ (by omega : i < 9223372036854775807), List.getElem?_eq_getElem hi, Option.elim_some, valOfF]
    cases (l[i].Name == n) with
    | true => rw [cond_true, cond_true, appn_ok (by simp; omega)]; exact ⟨rfl, by simp; omega⟩
    | false => rw [cond_false, cond_false, List.append_nil]; exact ⟨rfl, by omega⟩) (fun m i s hi => by
    simp only [S_GetField_b0, bif_dec, lt_cast]
    rw [if_neg (by omega)]; rfl) (k := k) (by omega) (s := []) (by simp)
  have h1 : S_GetField_b0 k k l n 0 [] = some (foldI (fun j s => s ++ (l[j]?).elim [] (valOfF n)) l.length 0 []) := this.1
  have h2 := valsF_len n l
  have h3 := valsF_lens n l
  have hv : foldI (fun j s => s ++ (l[j]?).elim [] (valOfF n)) l.length 0 [] = valsF l n := by
    rw [foldI_append (f := valOfF n) l.length 0 [] (by omega), List.drop_zero]; rfl
  rw [S_GetField, h1, hv, Option.bind_some, S_JoinList_eq hk _ (by unfold fsz at h; omega)]; rfl
def nmP (l : List IField) (n : List UInt8) (i : Nat) : Bool := match l[i]? with | some e => e.Name == n | none => false
def hasF (l : List IField) (n : List UInt8) : Bool := l.any fun e => e.Name == n
theorem firstI_any (l : List IField) (n : List UInt8) : (firstI (nmP l n) l.length 0).isSome = hasF l n := by
  unfold hasF
  cases hf : firstI (nmP l n) l.length 0 with
  | some j =>
    obtain ⟨_, h1, h2, _⟩ := firstI_some _ _ _ hf
    have hj : j < l.length := by omega
    simp only [nmP, List.getElem?_eq_getElem hj] at h2
    exact (List.any_eq_true.2 ⟨l[j], List.getElem_mem hj, h2⟩).symm
  | none =>
    have hn := firstI_none _ _ hf
    refine Eq.symm (List.any_eq_false.2 fun e he => ?_)
    obtain ⟨j, hj, rfl⟩ := List.mem_iff_getElem.1 he
    have := hn j (by omega) (by omega)
    simp only [nmP, List.getElem?_eq_getElem hj] at this
    rw [this]; simp
theorem getF_has (n : List UInt8) : ∀ l : List IField, decide (((valsF l n).length : Int) > 0) = hasF l n
  | [] => rfl
  | e :: l => by
    have ih := getF_has n l
    unfold valsF hasF at ih ⊢
    rw [List.flatMap_cons, List.any_cons, List.length_append]
    unfold valOfF at ih ⊢
    cases (e.Name == n) with
    | true => simp only [cond_true, Bool.true_or, List.length_cons, List.length_nil]; exact decide_eq_true (by omega)
    | false => simp only [cond_false, Bool.false_or, List.length_nil, Nat.zero_add]; exact ih
theorem I_hasField_eq {k : Nat} (hk : 1073741824 ≤ k) (l : List IField) (n : List UInt8) (h : l.length < 1073741824) : I_hasField k l n = some (hasF l n) := by
  have := find_all (len := l.length) (c := fun i => bif nmP l n i then some (i : Int) else none) (F := fun m i => slices_IndexFunc_IField_at_I_hasField_1_b0 k m l n (l.length : Int) i) (fun m i hi => by
    simp only [slices_IndexFunc_IField_at_I_hasField_1_b0, I_hasField_1, idx_nat hi, Option.bind_some, wrap_succ (by omega : i < 9223372036854775807), bif_dec, lt_cast, hi, if_true, nmP, List.getElem?_eq_getElem hi]
    cases (l[i].Name == n) <;> rfl) (fun m i hi => by
    simp only [slices_IndexFunc_IField_at_I_hasField_1_b0, bif_dec, lt_cast]
    rw [if_neg (by omega)]) (k := k) (by omega)
  rw [I_hasField, slices_ContainsFunc_IField_at_I_hasField_1, slices_IndexFunc_IField_at_I_hasField_1, this, findI_first, ← firstI_any]
  cases firstI (nmP l n) l.length 0 with
  | none => rfl
  | some j => simp [ocOf, oc]
def clen : List UInt8 := [99, 111, 110, 116, 101, 110, 116, 45, 108, 101, 110, 103, 116, 104]
def isResp (x : IResponse) : Bool := inR x.Code 200 599 && areF x.Fields && decide ((x.Fields.length : Int) < 24) && !hasF x.Fields clen && decide ((x.Body.length : Int) ≤ 600)
theorem S_IsResponse_eq {k : Nat} (hk : 1073741824 ≤ k) (x : IResponse) (h : fsz x.Fields < 268435456) (hs : shortF x.Fields) : S_IsResponse k x = some (isResp x) := by
  have hl : x.Fields.length < 1073741824 := by unfold fsz at h; omega
  rw [S_IsResponse, S_l1In_eq, Option.bind_some, S_l11Fields]
  show (bif inR x.Code 200 599 then (((S_GetField k x.Fields clen).bind _).bind _) else some false) = _
  rw [S_GetField_eq hk _ _ h, Option.bind_some, S_AreFields_eq hk _ hl hs, Option.bind_some]
  have hg : (getF x.Fields clen).2 = hasF x.Fields clen := getF_has clen x.Fields
  rw [hg]
  unfold isResp
  cases inR x.Code 200 599 <;> cases areF x.Fields <;> cases decide ((x.Fields.length : Int) < 24) <;> cases hasF x.Fields clen <;> rfl
theorem I_IsResponse_eq {k : Nat} (hk : 1073741824 ≤ k) (x : IResponse) (h : fsz x.Fields < 268435456) (hs : shortF x.Fields) : I_IsResponse k x = some (isResp x) := by
  have hl : x.Fields.length < 1073741824 := by unfold fsz at h; omega
  rw [I_IsResponse, I_inRange_eq, Option.bind_some, I_AreFields_eq hk _ hl hs, Option.bind_some]
  show (bif inR x.Code 200 599 then (bif areF x.Fields then (bif decide ((x.Fields.length : Int) < 24) then ((I_hasField k x.Fields clen).bind _) else some false) else some false) else some false) = _
  rw [I_hasField_eq hk _ _ hl, Option.bind_some]
  unfold isResp
  cases inR x.Code 200 599 <;> cases areF x.Fields <;> cases decide ((x.Fields.length : Int) < 24) <;> cases hasF x.Fields clen <;> rfl
def bP (p : UInt8 → Bool) (x : List UInt8) (i : Nat) : Bool := match x[i]? with | some c => p c | none => false
def noB (p : UInt8 → Bool) (x : List UInt8) : Bool := (firstI (bP p x) x.length 0).isNone
theorem bP_at {p : UInt8 → Bool} {x : List UInt8} {i : Nat} (h : i < x.length) : bP p x i = p x[i] := by simp only [bP, List.getElem?_eq_getElem h]
structure ReqIn (r : IRequest) : Prop where
  m : r.Method.length < 1073741824
  h : r.Host.length < 1073741824
  t : r.Target.length < 1073741824
  f : fsz r.Fields < 268435456
  s : shortF r.Fields
theorem noB_all (p : UInt8 → Bool) (x : List UInt8) : noB p x = x.all fun c => !p c := by
  unfold noB
  cases hf : firstI (bP p x) x.length 0 with
  | some j =>
    obtain ⟨_, h1, h2, _⟩ := firstI_some _ _ _ hf
    have hj : j < x.length := by omega
    rw [bP_at hj] at h2
    refine Eq.symm (List.all_eq_false.2 ⟨x[j], List.getElem_mem hj, by simp [h2]⟩)
  | none =>
    have hn := firstI_none _ _ hf
    refine Eq.symm (List.all_eq_true.2 fun c hc => ?_)
    obtain ⟨j, hj, rfl⟩ := List.mem_iff_getElem.1 hc
    have := hn j (by omega) (by omega)
    rw [bP_at hj] at this
    rw [this]; rfl
theorem u8_ne (c d : UInt8) : ((UInt8.toNat c : Int) != (UInt8.toNat d : Int)) = (c != d) := by
  have := u8_eq c d
  unfold bne
  rw [← this]
def isLow (c : UInt8) : Bool := inR (c.toNat : Int) 97 122
def badH (c : UInt8) : Bool := !inR (c.toNat : Int) 97 122 && (!inR (c.toNat : Int) 48 57 && (c != 45 && c != 46))
def badT (c : UInt8) : Bool := !inR (c.toNat : Int) 33 126
def hostT : List UInt8 := [104, 111, 115, 116]
def isReq (r : IRequest) : Bool :=
  noB isLow r.Method && noB badH r.Host && noB badT r.Target && isTok r.Method && inR (r.Host.length : Int) 1 40 && inR (r.Target.length : Int) 1 100 && (r.Target.head? == some 47) && areF r.Fields && decide ((r.Fields.length : Int) < 24) && !hasF r.Fields clen && !hasF r.Fields hostT
theorem idx0 {x : List UInt8} (h : inR (x.length : Int) 1 100 = true) : ∃ c, idx x (0 : Int) = some c ∧ x.head? = some c := by
  unfold inR at h
  simp only [Bool.and_eq_true, decide_eq_true_eq] at h
  cases x with
  | nil => simp at h
  | cons c r => exact ⟨c, rfl, rfl⟩
theorem req_b0 {k : Nat} (hk : 1073741824 ≤ k) (a b c : List UInt8) (d : List IField) (h : a.length < 1073741824) : S_IsRequest_b0 k k 0 a b c d = some (ocOf (bif noB isLow a then none else some false)) := by
  have := find_all (len := a.length) (c := fun i => bif bP isLow a i then some false else none) (F := fun n i => S_IsRequest_b0 k n i a b c d) (fun n i hi => by
    have hb := UInt8.toNat_lt a[i]
    simp only [S_IsRequest_b0, idx_nat hi, Option.bind_some, wrap_succ (by omega : i < 9223372036854775807), bif_dec, lt_cast, hi, if_true, bP_at hi, isLow]
    rw [wrap_id (by omega) (by omega), S_l1In_eq, Option.bind_some]
    cases inR (a[i].toNat : Int) 97 122 <;> rfl) (fun n i hi => by
    simp only [S_IsRequest_b0, bif_dec, lt_cast]
    rw [if_neg (by omega)]) (k := k) (by omega)
  rw [this, findI_first]
  unfold noB
  cases firstI (bP isLow a) a.length 0 <;> rfl
theorem req_b2 {k : Nat} (hk : 1073741824 ≤ k) (a b c : List UInt8) (d : List IField) (h : b.length < 1073741824) : S_IsRequest_b2 k k 0 a b c d = some (ocOf (bif noB badH b then none else some false)) := by
  have := find_all (len := b.length) (c := fun i => bif bP badH b i then some false else none) (F := fun n i => S_IsRequest_b2 k n i a b c d) (fun n i hi => by
    have hb := UInt8.toNat_lt b[i]
    have e45 : ((UInt8.toNat b[i] : Int) != (45 : Int)) = (b[i] != 45) := u8_ne b[i] 45
    have e46 : ((UInt8.toNat b[i] : Int) != (46 : Int)) = (b[i] != 46) := u8_ne b[i] 46
    simp only [S_IsRequest_b2, idx_nat hi, Option.bind_some, wrap_succ (by omega : i < 9223372036854775807), bif_dec, lt_cast, hi, if_true, bP_at hi, badH, e45, e46]
    rw [wrap_id (by omega) (by omega), S_l1In_eq, S_l1In_eq, Option.bind_some]
    cases inR (b[i].toNat : Int) 97 122 <;> cases inR (b[i].toNat : Int) 48 57 <;> cases (b[i] != 45) <;> cases (b[i] != 46) <;> rfl) (fun n i hi => by
    simp only [S_IsRequest_b2, bif_dec, lt_cast]
    rw [if_neg (by omega)]) (k := k) (by omega)
  rw [this, findI_first]
  unfold noB
  cases firstI (bP badH b) b.length 0 <;> rfl
theorem req_b4 {k : Nat} (hk : 1073741824 ≤ k) (a b c : List UInt8) (d : List IField) (h : c.length < 1073741824) : S_IsRequest_b4 k k 0 a b c d = some (ocOf (bif noB badT c then none else some false)) := by
  have := find_all (len := c.length) (c := fun i => bif bP badT c i then some false else none) (F := fun n i => S_IsRequest_b4 k n i a b c d) (fun n i hi => by
    have hb := UInt8.toNat_lt c[i]
    simp only [S_IsRequest_b4, idx_nat hi, Option.bind_some, wrap_succ (by omega : i < 9223372036854775807), bif_dec, lt_cast, hi, if_true, bP_at hi, badT]
    rw [wrap_id (by omega) (by omega), S_l1In_eq, Option.bind_some]
    cases inR (c[i].toNat : Int) 33 126 <;> rfl) (fun n i hi => by
    simp only [S_IsRequest_b4, bif_dec, lt_cast]
    rw [if_neg (by omega)]) (k := k) (by omega)
  rw [this, findI_first]
  unfold noB
  cases firstI (bP badT c) c.length 0 <;> rfl
theorem S_IsRequest_eq {k : Nat} (hk : 1073741824 ≤ k) (r : IRequest) (h : ReqIn r) : S_IsRequest k r = some (isReq r) := by
  have hl : r.Fields.length < 1073741824 := by have := h.f; unfold fsz at this; omega
  have hg : (getF r.Fields hostT).2 = hasF r.Fields hostT := getF_has hostT r.Fields
  have hg2 : (getF r.Fields clen).2 = hasF r.Fields clen := getF_has clen r.Fields
  have e11 : S_l11Fields k r.Fields = some (areF r.Fields && decide ((r.Fields.length : Int) < 24) && !hasF r.Fields clen) := by
    rw [S_l11Fields]
    show (S_GetField k r.Fields clen).bind _ = _
    rw [S_GetField_eq hk _ _ h.f, Option.bind_some, S_AreFields_eq hk _ hl h.s, Option.bind_some, hg2]
    cases areF r.Fields <;> cases decide ((r.Fields.length : Int) < 24) <;> rfl
  rw [S_IsRequest, req_b0 hk _ _ _ _ h.m, Option.bind_some]
  unfold isReq
  cases noB isLow r.Method with
  | false => rfl
  | true =>
    simp only [cond_true, ocOf, oc, req_b2 hk _ _ _ _ h.h, Option.bind_some]
    cases noB badH r.Host with
    | false => rfl
    | true =>
      simp only [cond_true, req_b4 hk _ _ _ _ h.t, Option.bind_some, ocOf, oc]
      cases noB badT r.Target with
      | false => rfl
      | true =>
        simp only [cond_true]
        show ((S_GetField k r.Fields hostT).bind _) = _
        rw [S_GetField_eq hk _ _ h.f, Option.bind_some, S_IsToken_eq hk _ h.m, Option.bind_some, hg]
        simp only [S_l1In_eq, Option.bind_some]
        cases isTok r.Method <;> cases inR (r.Host.length : Int) 1 40 <;> try rfl
        cases ht : inR (r.Target.length : Int) 1 100 with
        | false => simp
        | true =>
          obtain ⟨c, hc, hd⟩ := idx0 ht
          have e47 : ((UInt8.toNat c : Int) == (47 : Int)) = (c == 47) := u8_eq c 47
          have e47' : (some c == some (47 : UInt8)) = (c == 47) := by cases h : (c == 47) <;> simp_all
          simp only [cond_true, hc, hd, Option.bind_some, e47, e11, e47', Bool.true_and]
          cases (c == 47) <;> cases areF r.Fields <;> cases decide ((r.Fields.length : Int) < 24) <;> cases hasF r.Fields clen <;> simp
theorem I_isHost_eq {k : Nat} (hk : 1073741824 ≤ k) (x : List UInt8) (h : x.length < 1073741824) : I_isHost k x = some (noB badH x && inR (x.length : Int) 1 40) := by
  have := find_all (len := x.length) (c := fun i => bif bP badH x i then some false else none) (F := fun n i => I_isHost_b0 k n x (x.length : Int) i) (fun n i hi => by
    have hb := UInt8.toNat_lt x[i]
    have e45 : ((UInt8.toNat x[i] : Int) == (45 : Int)) = (x[i] == 45) := u8_eq x[i] 45
    have e46 : ((UInt8.toNat x[i] : Int) == (46 : Int)) = (x[i] == 46) := u8_eq x[i] 46
    simp only [I_isHost_b0, idx_nat hi, Option.bind_some, wrap_succ (by omega : i < 9223372036854775807), bif_dec, lt_cast, hi, if_true, bP_at hi, badH, e45, e46, inR, bne]
    by_cases a1 : 97 ≤ x[i].toNat <;> by_cases a2 : x[i].toNat ≤ 122 <;> by_cases a5 : 48 ≤ x[i].toNat <;> by_cases a6 : x[i].toNat ≤ 57 <;> cases (x[i] == 45) <;> cases (x[i] == 46) <;>
      simp [a1, a2, a5, a6, show ((x[i].toNat : Int) ≥ 97) = (97 ≤ x[i].toNat) from by simp; omega, show ((97 : Int) ≤ (x[i].toNat : Int)) = (97 ≤ x[i].toNat) from by simp; omega, show ((x[i].toNat : Int) ≤ 122) = (x[i].toNat ≤ 122) from by simp; omega, show ((x[i].toNat : Int) ≥ 48) = (48 ≤ x[i].toNat) from by simp; omega, show ((48 : Int) ≤ (x[i].toNat : Int)) = (48 ≤ x[i].toNat) from by simp; omega, show ((x[i].toNat : Int) ≤ 57) = (x[i].toNat ≤ 57) from by simp; omega]) (fun n i hi => by
    simp only [I_isHost_b0, bif_dec, lt_cast]
    rw [if_neg (by omega)]) (k := k) (by omega)
  rw [I_isHost, this, findI_first]
  unfold noB
  cases firstI (bP badH x) x.length 0 <;> simp [ocOf, oc, I_inRange_eq]
theorem tok_asc : ∀ j : Fin 256, (!tokB (UInt8.ofNat j.val) || decide ((UInt8.ofNat j.val).toNat < 128)) = true := by decide +kernel
theorem upp_tab : ∀ j : Fin 256, (Lib.upperB (UInt8.ofNat j.val) == UInt8.ofNat j.val) = !isLow (UInt8.ofNat j.val) := by decide +kernel
theorem upp_eq (c : UInt8) : (Lib.upperB c == c) = !isLow c := by
  have := upp_tab ⟨c.toNat, UInt8.toNat_lt c⟩
  simpa using this
theorem isTok_asc {x : List UInt8} (h : isTok x = true) : (x.all fun c => decide (c.toNat < 128)) = true := by
  unfold isTok at h
  simp only [Bool.and_eq_true] at h
  have hn : noB (fun c => !tokB c) x = true := h.1
  rw [noB_all] at hn
  refine List.all_eq_true.2 fun c hc => ?_
  have h1 := List.all_eq_true.1 hn c hc
  have h2 := tok_asc ⟨c.toNat, UInt8.toNat_lt c⟩
  simp at h1 h2
  simpa [h1] using h2
theorem upp_all : ∀ x : List UInt8, (Lib.toUpperA x == x) = noB isLow x
  | [] => rfl
  | c :: r => by
    have ih := upp_all r
    rw [noB_all] at ih ⊢
    have e : Lib.toUpperA (c :: r) = Lib.upperB c :: Lib.toUpperA r := rfl
    rw [e, List.cons_beq_cons, upp_eq, ih, List.all_cons]
theorem toUpper_ok {k : Nat} {x : List UInt8} (h : isTok x = true) (hl : x.length < 1073741824) : strings_ToUpper k x = some (Lib.toUpperA x) := by
  rw [strings_ToUpper, toUpperO, isTok_asc h, decide_eq_true (by omega)]; rfl
theorem I_IsRequest_eq {k : Nat} (hk : 1073741824 ≤ k) (r : IRequest) (h : ReqIn r) : I_IsRequest k r = some (isReq r) := by
  have hl : r.Fields.length < 1073741824 := by have := h.f; unfold fsz at this; omega
  have hb0 : I_IsRequest_b0 k k (r.Target.length : Int) 0 r.Method r.Host r.Target r.Fields = some (ocOf (bif noB badT r.Target then none else some false)) := by
    have := find_all (len := r.Target.length) (c := fun i => bif bP badT r.Target i then some false else none) (F := fun n i => I_IsRequest_b0 k n (r.Target.length : Int) i r.Method r.Host r.Target r.Fields) (fun n i hi => by
      have hb := UInt8.toNat_lt r.Target[i]
      have := h.t
      simp only [I_IsRequest_b0, idx_nat hi, Option.bind_some, wrap_succ (by omega : i < 9223372036854775807), bif_dec, lt_cast, hi, if_true, bP_at hi, badT]
      rw [wrap_id (by omega) (by omega), I_inRange_eq, Option.bind_some]
      cases inR (r.Target[i].toNat : Int) 33 126 <;> rfl) (fun n i hi => by
      simp only [I_IsRequest_b0, bif_dec, lt_cast]
      rw [if_neg (by omega)]) (k := k) (by have := h.t; omega)
    rw [this, findI_first]
    unfold noB
    cases firstI (bP badT r.Target) r.Target.length 0 <;> rfl
  have hh1 : I_hasField k r.Fields ([104, 111, 115, 116] : List UInt8) = some (hasF r.Fields hostT) := I_hasField_eq hk _ _ hl
  have hh2 : I_hasField k r.Fields ([99, 111, 110, 116, 101, 110, 116, 45, 108, 101, 110, 103, 116, 104] : List UInt8) = some (hasF r.Fields clen) := I_hasField_eq hk _ _ hl
  rw [I_IsRequest, I_IsToken_eq hk _ h.m, Option.bind_some]
  unfold isReq
  cases hm : isTok r.Method with
  | false => simp
  | true =>
    rw [Bool.not_true, cond_false, toUpper_ok hm h.m, Option.bind_some, upp_all, I_isHost_eq hk _ h.h, Option.bind_some]
    cases noB isLow r.Method with
    | false => rfl
    | true =>
      cases noB badH r.Host with
      | false => rfl
      | true =>
        cases inR (r.Host.length : Int) 1 40 with
        | false => simp
        | true =>
          rw [I_inRange_eq, Option.bind_some]
          cases ht : inR (r.Target.length : Int) 1 100 with
          | false => simp
          | true =>
            obtain ⟨c, hc, hd⟩ := idx0 ht
            have e47 : ((UInt8.toNat c : Int) != (47 : Int)) = (c != 47) := u8_ne c 47
            have e47' : (some c == some (47 : UInt8)) = (c == 47) := by cases h : (c == 47) <;> simp_all
            rw [hc, hd, Option.bind_some, e47, e47', hb0, I_AreFields_eq hk _ hl h.s, hh1, hh2]
            unfold bne
            cases (c == 47) <;> cases noB badT r.Target <;> cases areF r.Fields <;> cases decide ((r.Fields.length : Int) < 24) <;> cases hasF r.Fields hostT <;> cases hasF r.Fields clen <;> rfl
def fmtE (e : IField) : List UInt8 := e.Name ++ ([58, 32] ++ (e.Value ++ [13, 10]))
def fmtF (l : List IField) : List UInt8 := l.flatMap fmtE
theorem I_FormatFields_eq {k : Nat} (hk : 1073741824 ≤ k) (l : List IField) (h : l.length < 1073741824) (hs : shortF l) : I_FormatFields k l = some (fmtF l) := by
  have := fold_all (len := l.length) (g := fun j s => s ++ (l[j]?).elim [] fmtE) (Inv := fun i s => s.length ≤ i * 2147483652) (F := fun m i s => I_FormatFields_b0 k m s l (l.length : Int) i) (out := id) (fun m i s hi hI => by
    obtain ⟨h1, h2⟩ := hs l[i] (List.getElem_mem hi)
    have hI : s.length ≤ i * 2147483652 := hI
    have e1 : (l[i]?).elim [] fmtE = fmtE l[i] := by rw [List.getElem?_eq_getElem hi, Option.elim_some]
    have e2 : (fmtE l[i]).length = l[i].Name.length + l[i].Value.length + 4 := by simp [fmtE]; omega
    constructor
    · show I_FormatFields_b0 k (m + 1) s l (l.length : Int) (i : Int) = I_FormatFields_b0 k m (s ++ (l[i]?).elim [] fmtE) l (l.length : Int) _
      rw [e1]
      simp only [I_FormatFields_b0, bif_dec, lt_cast, hi, if_true, idx_nat hi, Option.bind_some, wrap_succ (by omega : i < 9223372036854775807)]
      rw [cat_ok (by simp; omega), Option.bind_some, cat_ok (by simp; omega), Option.bind_some, cat_ok (by simp; omega), Option.bind_some, cat_ok (by simp; omega), Option.bind_some]
      unfold fmtE
      simp only [List.append_assoc]
    · show (s ++ (l[i]?).elim [] fmtE).length ≤ _
      rw [e1, List.length_append, e2]; omega) (fun m i s hi => by
    simp only [I_FormatFields_b0, bif_dec, lt_cast]
    rw [if_neg (by omega)]; rfl) (k := k) (by omega) (s := []) (by simp)
  have hv : foldI (fun j s => s ++ (l[j]?).elim [] fmtE) l.length 0 [] = fmtF l := by
    rw [foldI_append (f := fmtE) l.length 0 [] (by omega), List.drop_zero]; rfl
  rw [hv] at this
  have h1 : I_FormatFields_b0 k k [] l (l.length : Int) 0 = some (fmtF l) := this.1
  rw [I_FormatFields, h1]; rfl
def fmtQ (r : IRequest) : List UInt8 := r.Method ++ ([32] ++ (r.Target ++ ([32, 72, 84, 84, 80, 47, 49, 46, 49, 13, 10, 104, 111, 115, 116, 58, 32] ++ (r.Host ++ ([13, 10] ++ (fmtF r.Fields ++ [13, 10]))))))
def fmtReq (r : IRequest) : List UInt8 := bif isReq r then fmtQ r else []
def dd (m : Nat) : List UInt8 := if m = 0 then [] else Lib.decDigits m
theorem dd_step {m : Nat} (h : m ≠ 0) : dd m = dd (m / 10) ++ [UInt8.ofNat (48 + m % 10)] := by
  unfold dd
  rw [if_neg h]
  by_cases c : m < 10
  · rw [Lib.decDigits, dif_pos c, if_pos (by omega), Nat.mod_eq_of_lt c]; rfl
  · rw [Lib.decDigits, dif_neg c, if_neg (by omega)]
theorem dd_len (d : Nat) : ∀ m : Nat, m < 10 ^ d → (dd m).length ≤ d := by
  induction d with
  | zero => intro m h; have : m = 0 := by simpa using h
            subst this; simp [dd]
  | succ d ih =>
    intro m h
    by_cases h0 : m = 0
    · subst h0; simp [dd]
    · rw [dd_step h0, List.length_append]
      have := ih (m / 10) (by rw [Nat.pow_succ] at h; omega)
      simp; omega
theorem itoa_dd (n : Int) : Lib.itoa n = if n = 0 then [48] else if n < 0 then 45 :: dd n.natAbs else dd n.natAbs := by
  unfold Lib.itoa
  by_cases h0 : n = 0
  · subst h0; rw [if_neg (by omega), if_pos rfl, Lib.decDigits]; rfl
  · rw [if_neg h0]
    have hm : ¬ n.natAbs = 0 := by omega
    unfold dd
    rw [if_neg hm]
    by_cases h : n < 0
    · rw [if_pos h, if_pos h]
    · rw [if_neg h, if_neg h, show n.toNat = n.natAbs by omega]
theorem pow19 : (10 : Nat) ^ 19 = 10000000000000000000 := by decide
theorem I_FormatInt_eq {k : Nat} (n : Int) (h1 : -9223372036854775808 ≤ n) (h2 : n ≤ 9223372036854775807) : I_FormatInt k n = some (Lib.itoa n) := by
  have hd : (decide (-9223372036854775808 ≤ n) && decide (n ≤ 9223372036854775807)) = true := by rw [Bool.and_eq_true]; exact ⟨decide_eq_true h1, decide_eq_true h2⟩
  rw [I_FormatInt, strconv_Itoa, itoaO, hd]; rfl
theorem itoa_len {n : Int} (h1 : -9223372036854775808 ≤ n) (h2 : n ≤ 9223372036854775807) : (Lib.itoa n).length ≤ 20 := by
  have hp := pow19
  have hl := dd_len 19 n.natAbs (by omega)
  rw [itoa_dd]
  split
  · simp
  · split
    · simp; omega
    · omega
def fmtR (x : IResponse) : List UInt8 := [72, 84, 84, 80, 47, 49, 46, 49, 32] ++ (Lib.itoa x.Code ++ ([13, 10] ++ (fmtF x.Fields ++ ([99, 111, 110, 116, 101, 110, 116, 45, 108, 101, 110, 103, 116, 104, 58, 32] ++ (Lib.itoa (x.Body.length : Int) ++ ([13, 10, 13, 10] ++ x.Body))))))
def fmtResp (x : IResponse) : List UInt8 := bif isResp x then fmtR x else []
theorem isResp_code {x : IResponse} (h : isResp x = true) : 200 ≤ x.Code ∧ x.Code ≤ 599 := by
  unfold isResp inR at h
  simp only [Bool.and_eq_true, decide_eq_true_eq] at h
  omega
def lineL : List UInt8 → Option (List UInt8 × List UInt8)
  | [] => none
  | c :: r => bif c == 13 && (r.head? == some 10) then some ([], r.drop 1) else (lineL r).map fun p => (c :: p.1, p.2)
def h4L : List UInt8 → Option (List UInt8 × List UInt8)
  | [] => none
  | c :: r => bif c == 13 && (r.take 3 == [10, 13, 10]) then some ([], r.drop 3) else (h4L r).map fun p => (c :: p.1, p.2)
def colL : List UInt8 → Option (List UInt8 × List UInt8)
  | [] => none
  | c :: r => bif c == 58 then some ([], r) else (colL r).map fun p => (c :: p.1, p.2)
theorem cut_nil {sep : List UInt8} (h : sep ≠ []) : Lib.cut [] sep = ([], [], false) := by
  have : sep.isEmpty = false := by cases sep with | nil => exact absurd rfl h | cons _ _ => rfl
  unfold Lib.cut
  rw [Lib.index, this]; rfl
theorem cut_cons {a : UInt8} {l sep : List UInt8} : Lib.cut (a :: l) sep = bif sep.isPrefixOf (a :: l) then ([], (a :: l).drop sep.length, true) else bif (Lib.cut l sep).2.2 then (a :: (Lib.cut l sep).1, (Lib.cut l sep).2.1, true) else (a :: l, [], false) := by
  have hg := Lib.index_ge l sep
  cases hp : sep.isPrefixOf (a :: l) with
  | true =>
    have hi : Lib.index (a :: l) sep = 0 := by rw [Lib.index, hp]; rfl
    rw [cond_true]
    unfold Lib.cut
    rw [hi, if_pos (by omega)]
    simp
  | false =>
    have hi : Lib.index (a :: l) sep = if Lib.index l sep == -1 then -1 else Lib.index l sep + 1 := by rw [Lib.index, hp]; rfl
    rw [cond_false]
    unfold Lib.cut
    rw [hi]
    by_cases hm : Lib.index l sep = -1
    · rw [hm]; rfl
    · rw [beq_ne hm]
      simp only [Bool.false_eq_true, if_false]
      rw [if_pos (by omega), if_pos (by omega), show (Lib.index l sep + 1).toNat = (Lib.index l sep).toNat + 1 by omega]
      simp only [cond_true, List.take_succ_cons]
      rw [show (Lib.index l sep).toNat + 1 + sep.length = ((Lib.index l sep).toNat + sep.length) + 1 by omega, List.drop_succ_cons]
def cutOf (o : Option (List UInt8 × List UInt8)) (x : List UInt8) : List UInt8 × List UInt8 × Bool := match o with | some p => (p.1, p.2, true) | none => (x, [], false)
theorem cutOf_map {o : Option (List UInt8 × List UInt8)} {c : UInt8} {r : List UInt8} : (bif (cutOf o r).2.2 then (c :: (cutOf o r).1, (cutOf o r).2.1, true) else (c :: r, [], false)) = cutOf (o.map fun p => (c :: p.1, p.2)) (c :: r) := by cases o <;> rfl
theorem pre2 (c : UInt8) (r : List UInt8) : ([13, 10] : List UInt8).isPrefixOf (c :: r) = (c == 13 && (r.head? == some 10)) := by
  cases r with
  | nil => cases h : (c == 13) <;> simp [List.isPrefixOf]
  | cons d r =>
    simp only [List.isPrefixOf, List.head?_cons, Bool.and_true]
    rw [show ((13 : UInt8) == c) = (c == 13) from BEq.comm, show ((10 : UInt8) == d) = (d == 10) from BEq.comm]; rfl
theorem pre4 (c : UInt8) (r : List UInt8) : ([13, 10, 13, 10] : List UInt8).isPrefixOf (c :: r) = (c == 13 && (r.take 3 == [10, 13, 10])) := by
  have e1 : ((13 : UInt8) == c) = (c == 13) := BEq.comm
  match r with
  | [] => simp [List.isPrefixOf]
  | [a] => simp [List.isPrefixOf]
  | [a, b] => simp [List.isPrefixOf]
  | a :: b :: d :: r =>
    simp only [List.isPrefixOf, Bool.and_true, List.take_succ_cons, List.take_zero]
    rw [e1, show ((10 : UInt8) == a) = (a == 10) from BEq.comm, show ((13 : UInt8) == b) = (b == 13) from BEq.comm, show ((10 : UInt8) == d) = (d == 10) from BEq.comm]
    simp
theorem cut_line : ∀ x : List UInt8, Lib.cut x [13, 10] = cutOf (lineL x) x
  | [] => cut_nil (by simp)
  | c :: r => by
    rw [cut_cons, pre2, cut_line r, lineL, cutOf_map]
    cases hc : c == 13 && (r.head? == some 10) with
    | false => rfl
    | true => rfl
theorem cut_h4 : ∀ x : List UInt8, Lib.cut x [13, 10, 13, 10] = cutOf (h4L x) x
  | [] => cut_nil (by simp)
  | c :: r => by
    rw [cut_cons, pre4, cut_h4 r, h4L, cutOf_map]
    cases hc : c == 13 && (r.take 3 == [10, 13, 10]) with
    | false => rfl
    | true => rfl
theorem cut_col : ∀ x : List UInt8, Lib.cut x [58] = cutOf (colL x) x
  | [] => cut_nil (by simp)
  | c :: r => by
    have e : ([58] : List UInt8).isPrefixOf (c :: r) = (c == 58) := by
      simp only [List.isPrefixOf, Bool.and_true]; exact BEq.comm
    rw [cut_cons, e, cut_col r, colL, cutOf_map]
    cases hc : c == 58 with
    | false => rfl
    | true => rfl
theorem lineL_some : ∀ {x a b : List UInt8}, lineL x = some (a, b) → x = a ++ 13 :: 10 :: b
  | [], _, _, h => by cases h
  | c :: r, a, b, h => by
    rw [lineL] at h
    cases hc : c == 13 && (r.head? == some 10) with
    | true =>
      rw [hc, cond_true] at h
      rw [Bool.and_eq_true, beq_iff_eq, beq_iff_eq] at hc
      cases r with
      | nil => simp at hc
      | cons d r =>
        simp only [List.head?_cons, Option.some.injEq] at hc
        simp only [List.drop_succ_cons, List.drop_zero, Option.some.injEq, Prod.mk.injEq] at h
        rw [hc.1, hc.2, ← h.1, ← h.2]; rfl
    | false =>
      rw [hc, cond_false] at h
      cases hr : lineL r with
      | none => rw [hr] at h; cases h
      | some p =>
        rw [hr] at h
        simp only [Option.map_some, Option.some.injEq, Prod.mk.injEq] at h
        have := lineL_some (a := p.1) (b := p.2) (by rw [hr])
        rw [← h.1, ← h.2, List.cons_append, ← this]
theorem colL_some : ∀ {x a b : List UInt8}, colL x = some (a, b) → x = a ++ 58 :: b
  | [], _, _, h => by cases h
  | c :: r, a, b, h => by
    rw [colL] at h
    cases hc : c == 58 with
    | true =>
      rw [hc, cond_true] at h
      simp only [Option.some.injEq, Prod.mk.injEq] at h
      rw [beq_iff_eq] at hc
      rw [hc, ← h.1, ← h.2]; rfl
    | false =>
      rw [hc, cond_false] at h
      cases hr : colL r with
      | none => rw [hr] at h; cases h
      | some p =>
        rw [hr] at h
        simp only [Option.map_some, Option.some.injEq, Prod.mk.injEq] at h
        have := colL_some (a := p.1) (b := p.2) (by rw [hr])
        rw [← h.1, ← h.2, List.cons_append, ← this]
def pfL : Nat → List UInt8 → List IField → Option (List IField)
  | 0, _, _ => none
  | n + 1, x, r => bif x == [] then some r else match lineL x with
    | none => none
    | some p => match colL p.1 with
      | none => none
      | some q => pfL n p.2 (r ++ [⟨lowT q.1, trimT q.2⟩])
theorem lineL_len {x : List UInt8} {p : List UInt8 × List UInt8} (h : lineL x = some p) : x.length = p.1.length + p.2.length + 2 := by
  have := lineL_some (a := p.1) (b := p.2) h
  rw [this]; simp; omega
theorem colL_len {x : List UInt8} {p : List UInt8 × List UInt8} (h : colL x = some p) : x.length = p.1.length + p.2.length + 1 := by
  have := colL_some (a := p.1) (b := p.2) h
  rw [this]; simp; omega
theorem I_pf_loop {k : Nat} (hk : 1073741824 ≤ k) : ∀ (n m : Nat) (x : List UInt8) (r : List IField), x.length < n → x.length < m → x.length < 1073741824 → r.length + x.length < 1073741824 →
    I_ParseFields_b0 k n x r = some (match pfL m x r with | some l => .nrm l | none => .oth ([], false)) := by
  intro n
  induction n with
  | zero => intro m x r h; omega
  | succ n ih =>
    intro m x r h1 h2 h3 h4
    obtain ⟨m, rfl⟩ : ∃ m', m = m' + 1 := ⟨m - 1, by omega⟩
    have e1 : strings_Cut k x [13, 10] = some (Lib.cut x [13, 10]) := by
      show (bif decide (x.length < 4294967281) then some (Lib.cut x [13, 10]) else none) = _
      rw [decide_eq_true (by omega)]; rfl
    rw [I_ParseFields_b0, pfL, e1, Option.bind_some, cut_line]
    cases hx : (x == []) with
    | true => rfl
    | false =>
      rw [Bool.not_false, cond_true, cond_false]
      have e2 : ∀ y : List UInt8, y.length < 4294967281 → strings_Cut k y [58] = some (cutOf (colL y) y) := by
        intro y hy
        show (bif decide (y.length < 4294967281) then some (Lib.cut y [58]) else none) = _
        rw [decide_eq_true hy, cut_col]; rfl
      cases hl : lineL x with
      | none =>
        show ((strings_Cut k x [58]).bind _) = _
        rw [e2 x (by omega)]; rfl
      | some p =>
        have hp := lineL_len hl
        show ((strings_Cut k p.1 [58]).bind _) = _
        rw [e2 p.1 (by omega), Option.bind_some]
        simp only [cutOf, Bool.not_true, cond_false]
        cases hc : colL p.1 with
        | none => rfl
        | some q =>
          have hq := colL_len hc
          simp only [Bool.not_true, cond_false]
          rw [I_LowerText_eq hk _ (by omega), Option.bind_some, I_TrimText_eq _ (by omega), Option.bind_some, appn_ok (by simp; omega), Option.bind_some]
          exact ih m p.2 _ (by omega) (by omega) (by omega) (by simp; omega)
theorem pfL_ok {N : Nat} : ∀ (m : Nat) (x : List UInt8) (r l : List IField), pfL m x r = some l → x.length ≤ N → (∀ e ∈ r, e.Name.length ≤ N ∧ e.Value.length ≤ N) → (∀ e ∈ l, e.Name.length ≤ N ∧ e.Value.length ≤ N) ∧ l.length ≤ r.length + x.length
  | 0, _, _, _, h, _, _ => by cases h
  | m + 1, x, r, l, h, hx, hr => by
    rw [pfL] at h
    cases hb : (x == []) with
    | true =>
      rw [hb, cond_true, Option.some.injEq] at h
      subst h
      exact ⟨hr, by omega⟩
    | false =>
      rw [hb, cond_false] at h
      cases hl : lineL x with
      | none => rw [hl] at h; cases h
      | some p =>
        have hp := lineL_len hl
        rw [hl] at h
        simp only at h
        cases hc : colL p.1 with
        | none => rw [hc] at h; cases h
        | some q =>
          have hq := colL_len hc
          have ht := trimT_len q.2
          have hlow := lowT_len q.1
          rw [hc] at h
          simp only at h
          obtain ⟨g1, g2⟩ := pfL_ok (N := N) m p.2 _ l h (by omega) (fun e he => by
            rw [List.mem_append, List.mem_singleton] at he
            rcases he with he | rfl
            · exact hr e he
            · exact ⟨by simp only; omega, by simp only; omega⟩)
          refine ⟨g1, ?_⟩
          rw [List.length_append] at g2
          simp only [List.length_cons, List.length_nil] at g2
          omega
def parseF (x : List UInt8) : List IField × Bool := match pfL (x.length + 1) x [] with | some l => bif areF l then (l, true) else ([], false) | none => ([], false)
theorem parseF_ok {N : Nat} (x : List UInt8) (h : x.length ≤ N) : (∀ e ∈ (parseF x).1, e.Name.length ≤ N ∧ e.Value.length ≤ N) ∧ (parseF x).1.length ≤ x.length := by
  unfold parseF
  cases hp : pfL (x.length + 1) x [] with
  | none => simp
  | some l =>
    have := pfL_ok (N := N) _ _ _ _ hp h (by simp)
    simp only
    cases areF l with
    | false => simp
    | true => simpa using this
theorem I_ParseFields_eq {k : Nat} (hk : 1073741824 ≤ k) (x : List UInt8) (h : x.length < 536870912) : I_ParseFields k x = some (parseF x) := by
  rw [I_ParseFields, I_pf_loop hk k (x.length + 1) x [] (by omega) (by omega) (by omega) (by simp; omega), Option.bind_some]
  unfold parseF
  cases hp : pfL (x.length + 1) x [] with
  | none => rfl
  | some l =>
    obtain ⟨g1, g2⟩ := pfL_ok (N := x.length) _ _ _ _ hp (Nat.le_refl _) (by simp)
    simp only [List.length_nil] at g2
    simp only [oc]
    rw [I_AreFields_eq hk l (by omega) (fun e he => by have := g1 e he; omega), Option.bind_some]
    cases areF l <;> rfl
def chL : Nat → List UInt8 → Option (List UInt8 × List UInt8)
  | 0, _ => none
  | n + 1, x => match lineL x with
    | none => none
    | some p => bif p.1 == [] then some ([], p.2) else (chL n p.2).map fun q => (p.1 ++ 13 :: 10 :: q.1, q.2)
theorem chL_some : ∀ {n : Nat} {x : List UInt8} {q : List UInt8 × List UInt8}, chL n x = some q → x = q.1 ++ 13 :: 10 :: q.2
  | 0, _, _, h => by cases h
  | n + 1, x, q, h => by
    rw [chL] at h
    cases hl : lineL x with
    | none => rw [hl] at h; cases h
    | some p =>
      have hp := lineL_some (a := p.1) (b := p.2) hl
      rw [hl] at h
      simp only at h
      cases hb : (p.1 == []) with
      | true =>
        rw [hb, cond_true, Option.some.injEq] at h
        rw [beq_iff_eq] at hb
        rw [hp, hb, ← h, List.nil_append]
      | false =>
        rw [hb, cond_false] at h
        cases hc : chL n p.2 with
        | none => rw [hc] at h; cases h
        | some t =>
          rw [hc] at h
          simp only [Option.map_some, Option.some.injEq] at h
          have := chL_some hc
          rw [hp, ← h]
          simp only [List.append_assoc, List.cons_append]
          rw [← this]
def headL (s : List UInt8) : Option (List UInt8 × List UInt8 × List UInt8) := match lineL s with
  | none => none
  | some p => (chL (s.length + 1) p.2).map fun q => (p.1, q.1, q.2)
def hdT (s : List UInt8) : List UInt8 × List IField × Int := match headL s with
  | none => ([], [], -1)
  | some t => bif !(parseF t.2.1).2 then ([], [], -1) else (t.1, (parseF t.2.1).1, ((s.length - t.2.2.length : Nat) : Int))
def crB (x : List UInt8) : Bool := x.take 2 == [13, 10]
theorem lineL_none_h4 : ∀ {x : List UInt8}, lineL x = none → h4L x = none ∧ crB x = false
  | [], _ => ⟨rfl, rfl⟩
  | c :: r, h => by
    rw [lineL] at h
    cases hc : c == 13 && (r.head? == some 10) with
    | true => rw [hc] at h; cases h
    | false =>
      rw [hc, cond_false, Option.map_eq_none_iff] at h
      obtain ⟨h1, h2⟩ := lineL_none_h4 h
      have e3 : (c == 13 && (r.take 3 == [10, 13, 10])) = false := by
        cases h13 : (c == 13) with
        | false => rfl
        | true =>
          rw [h13, Bool.true_and] at hc
          rw [Bool.true_and]
          cases r with
          | nil => rfl
          | cons d r =>
            simp only [List.head?_cons] at hc
            refine beq_ne fun e => ?_
            simp only [List.take_succ_cons, List.cons.injEq] at e
            rw [e.1] at hc
            simp at hc
      refine ⟨by rw [h4L, e3, cond_false, h1]; rfl, ?_⟩
      unfold crB
      cases r with
      | nil => exact beq_ne fun e => by simp at e
      | cons d r =>
        simp only [List.take_succ_cons, List.take_zero]
        refine beq_ne fun e => ?_
        simp only [List.cons.injEq, and_true] at e
        rw [e.1, e.2] at hc
        simp at hc
theorem h4_line : ∀ {a x y : List UInt8}, lineL (a ++ 13 :: 10 :: x) = some (a, x) → h4L (a ++ 13 :: 10 :: y) = bif crB y then some (a, y.drop 2) else (h4L y).map fun p => (a ++ 13 :: 10 :: p.1, p.2)
  | [], x, y, _ => by
    rw [List.nil_append, h4L]
    have e1 : (13 == (13 : UInt8) && ((10 :: y).take 3 == [10, 13, 10])) = crB y := by
      unfold crB
      rw [beq_self_eq_true, Bool.true_and, List.take_succ_cons]
      show ((10 :: y.take 2 : List UInt8) == 10 :: [13, 10]) = _
      rw [List.cons_beq_cons, beq_self_eq_true, Bool.true_and]
    rw [e1]
    cases crB y with
    | true => rfl
    | false =>
      rw [cond_false, cond_false, h4L]
      have : ((10 : UInt8) == 13 && (y.take 3 == [10, 13, 10])) = false := rfl
      rw [this, cond_false, Option.map_map]; rfl
  | c :: a, x, y, h => by
    have hh : ∀ z : List UInt8, (c == 13 && ((a ++ 13 :: 10 :: z).head? == some 10)) = (c == 13 && ((a ++ 13 :: 10 :: x).head? == some 10)) := by
      intro z
      cases a <;> rfl
    rw [List.cons_append, lineL] at h
    cases hc : (c == 13 && ((a ++ 13 :: 10 :: x).head? == some 10)) with
    | true => rw [hc, cond_true] at h; simp at h
    | false =>
      rw [hc, cond_false] at h
      cases hr : lineL (a ++ 13 :: 10 :: x) with
      | none => rw [hr] at h; cases h
      | some p =>
        rw [hr] at h
        simp only [Option.map_some, Option.some.injEq, Prod.mk.injEq, List.cons.injEq, true_and] at h
        have ih := h4_line (a := a) (x := x) (y := y) (by rw [hr, ← h.1, ← h.2])
        have hz := hh y
        rw [hc] at hz
        have e3 : (c == 13 && ((a ++ 13 :: 10 :: y).take 3 == [10, 13, 10])) = false := by
          cases h13 : (c == 13) with
          | false => rfl
          | true =>
            rw [h13, Bool.true_and] at hz
            rw [Bool.true_and]
            cases hq : (a ++ 13 :: 10 :: y) with
            | nil => rfl
            | cons d q =>
              rw [hq, List.head?_cons] at hz
              refine beq_ne fun e => ?_
              simp only [List.take_succ_cons, List.cons.injEq] at e
              rw [e.1] at hz
              simp at hz
        rw [List.cons_append, h4L, e3, cond_false, ih]
        cases crB y with
        | true => rfl
        | false =>
          rw [cond_false, cond_false, Option.map_map]; rfl
theorem line_swap : ∀ {a x y : List UInt8}, lineL (a ++ 13 :: 10 :: x) = some (a, x) → lineL (a ++ 13 :: 10 :: y) = some (a, y)
  | [], _, _, _ => rfl
  | c :: a, x, y, h => by
    have hh : (c == 13 && ((a ++ 13 :: 10 :: y).head? == some 10)) = (c == 13 && ((a ++ 13 :: 10 :: x).head? == some 10)) := by cases a <;> rfl
    rw [List.cons_append, lineL] at h
    cases hc : (c == 13 && ((a ++ 13 :: 10 :: x).head? == some 10)) with
    | true => rw [hc, cond_true] at h; simp at h
    | false =>
      rw [hc, cond_false] at h
      cases hr : lineL (a ++ 13 :: 10 :: x) with
      | none => rw [hr] at h; cases h
      | some p =>
        rw [hr] at h
        simp only [Option.map_some, Option.some.injEq, Prod.mk.injEq, List.cons.injEq, true_and] at h
        have ih := line_swap (a := a) (x := x) (y := y) (by rw [hr, ← h.1, ← h.2])
        rw [List.cons_append, lineL, hh, hc, cond_false, ih]; rfl
theorem chL_h4 : ∀ {n : Nat} {x : List UInt8}, x.length < n → match chL n x with
    | none => crB x = false ∧ h4L x = none
    | some q => (q.1 = [] ∧ crB x = true ∧ x.drop 2 = q.2) ∨ (∃ g, q.1 = g ++ [13, 10] ∧ crB x = false ∧ h4L x = some (g, q.2))
  | 0, x, h => by omega
  | n + 1, x, h => by
    rw [chL]
    cases hl : lineL x with
    | none =>
      obtain ⟨h1, h2⟩ := lineL_none_h4 hl
      exact ⟨h2, h1⟩
    | some p =>
      have hp := lineL_some (a := p.1) (b := p.2) hl
      have hlen := lineL_len hl
      simp only
      cases hb : (p.1 == []) with
      | true =>
        rw [beq_iff_eq] at hb
        rw [hb] at hp
        rw [cond_true]
        refine .inl ⟨rfl, ?_, ?_⟩
        · rw [hp]; rfl
        · rw [hp]; rfl
      | false =>
        rw [cond_false]
        have hne : p.1 ≠ [] := by simpa using hb
        have hcr : crB x = false := by
          have hl' := hl
          rw [hp] at hl'
          unfold crB
          rw [hp]
          cases hq : p.1 with
          | nil => exact absurd hq hne
          | cons c a =>
            rw [hq] at hl'
            rw [List.cons_append, lineL] at hl'
            cases hc : (c == 13 && ((a ++ 13 :: 10 :: p.2).head? == some 10)) with
            | true =>
              rw [hc, cond_true, Option.some.injEq] at hl'
              have h0 := congrArg Prod.fst hl'
              rw [hq] at h0
              cases h0
            | false =>
              refine beq_ne fun e => ?_
              rw [List.cons_append] at e
              cases hz : (a ++ 13 :: 10 :: p.2) with
              | nil => simp at hz
              | cons d r =>
                rw [hz] at e hc
                simp only [List.take_succ_cons, List.take_zero, List.cons.injEq, and_true] at e
                rw [e.1, e.2] at hc
                simp at hc
        have ih := chL_h4 (n := n) (x := p.2) (by omega)
        have h4 := h4_line (a := p.1) (x := p.2) (y := p.2) (by rw [← hp]; exact hl)
        rw [← hp] at h4
        cases hc : chL n p.2 with
        | none =>
          rw [hc] at ih
          simp only at ih
          rw [ih.1, cond_false, ih.2] at h4
          exact ⟨hcr, h4⟩
        | some q =>
          rw [hc] at ih
          simp only at ih
          simp only [Option.map_some]
          rcases ih with ⟨i1, i2, i3⟩ | ⟨g, i1, i2, i3⟩
          · rw [i2, cond_true, i3] at h4
            exact .inr ⟨p.1, by rw [i1], hcr, h4⟩
          · rw [i2, cond_false, i3] at h4
            exact .inr ⟨p.1 ++ 13 :: 10 :: g, by rw [i1]; simp, hcr, h4⟩
theorem sum_le {N : Nat} : ∀ l : List IField, (∀ e ∈ l, e.Value.length ≤ N) → (l.map fun e => e.Value.length).sum ≤ l.length * N
  | [], _ => by simp
  | e :: l, h => by
    have h1 := h e (by simp)
    have h2 := sum_le l (fun x hx => h x (by simp [hx]))
    simp only [List.map_cons, List.sum_cons, List.length_cons]
    rw [Nat.succ_mul]; omega
theorem parseF_in {x : List UInt8} (h : x.length ≤ 2097152) : (parseF x).1.length ≤ 24 ∧ ∀ n, fsz ((parseF x).1.take n) < 268435456 ∧ shortF ((parseF x).1.take n) := by
  obtain ⟨g1, g2⟩ := parseF_ok (N := 2097152) x h
  have g3 : (parseF x).1.length ≤ 24 := by
    unfold parseF
    cases hp : pfL (x.length + 1) x [] with
    | none => simp
    | some l =>
      simp only
      cases ha : areF l with
      | false => simp
      | true =>
        unfold areF at ha
        rw [Bool.and_eq_true, decide_eq_true_eq] at ha
        rw [cond_true]; simp only; omega
  refine ⟨g3, fun n => ⟨?_, fun e he => ?_⟩⟩
  · have h1 := sum_le (N := 2097152) ((parseF x).1.take n) (fun e he => (g1 e (List.mem_of_mem_take he)).2)
    have h2 : ((parseF x).1.take n).length ≤ 24 := by simp; omega
    unfold fsz
    have h3 : ((parseF x).1.take n).length * 2097152 ≤ 24 * 2097152 := Nat.mul_le_mul_right _ h2
    omega
  · have := g1 e (List.mem_of_mem_take he)
    omega
def spL : List UInt8 → Option (List UInt8 × List UInt8)
  | [] => none
  | c :: r => bif c == 32 then some ([], r) else (spL r).map fun p => (c :: p.1, p.2)
theorem cut_sp : ∀ x : List UInt8, Lib.cut x [32] = cutOf (spL x) x
  | [] => cut_nil (by simp)
  | c :: r => by
    have e : ([32] : List UInt8).isPrefixOf (c :: r) = (c == 32) := by
      simp only [List.isPrefixOf, Bool.and_true]; exact BEq.comm
    rw [cut_cons, e, cut_sp r, spL, cutOf_map]
    cases hc : c == 32 with
    | false => rfl
    | true => rfl
theorem spL_some : ∀ {x a b : List UInt8}, spL x = some (a, b) → x = a ++ 32 :: b
  | [], _, _, h => by cases h
  | c :: r, a, b, h => by
    rw [spL] at h
    cases hc : c == 32 with
    | true =>
      rw [hc, cond_true] at h
      simp only [Option.some.injEq, Prod.mk.injEq] at h
      rw [beq_iff_eq] at hc
      rw [hc, ← h.1, ← h.2]; rfl
    | false =>
      rw [hc, cond_false] at h
      cases hr : spL r with
      | none => rw [hr] at h; cases h
      | some p =>
        rw [hr] at h
        simp only [Option.map_some, Option.some.injEq, Prod.mk.injEq] at h
        have := spL_some (a := p.1) (b := p.2) (by rw [hr])
        rw [← h.1, ← h.2, List.cons_append, ← this]
theorem spL_len {x : List UInt8} {p : List UInt8 × List UInt8} (h : spL x = some p) : x.length = p.1.length + p.2.length + 1 := by
  have := spL_some (a := p.1) (b := p.2) h
  rw [this]; simp; omega
def ver9 : List UInt8 := [32, 72, 84, 84, 80, 47, 49, 46, 49]
def sufT (x suf : List UInt8) : Bool := decide (suf.length ≤ x.length) && (x.drop (x.length - suf.length) == suf)
theorem cutSuf_eq {k : Nat} (x suf : List UInt8) (hx : x.length < 1073741824) (hs : suf.length ≤ 1000) : strings_CutSuffix k x suf = some (bif sufT x suf then (x.take (x.length - suf.length), true) else (x, false)) := by
  rw [strings_CutSuffix, internal_stringslite_CutSuffix, internal_stringslite_HasSuffix, bif_dec]
  unfold sufT
  by_cases c : suf.length ≤ x.length
  · have e1 : IntKind.wrap .i64 ((x.length : Int) - (suf.length : Int)) = ((x.length - suf.length : Nat) : Int) := by rw [wrap_id (by omega) (by omega)]; omega
    have e2 : ssub x ((x.length - suf.length : Nat) : Int) (x.length : Int) = some (x.drop (x.length - suf.length)) := ssub_drop (by omega)
    have e3 : ssub x (0 : Int) ((x.length - suf.length : Nat) : Int) = some (x.take (x.length - suf.length)) := by rw [ssub_ok (by omega) (by omega) (by omega)]; simp
    rw [if_pos (by omega), e1, e2, Option.bind_some, Option.bind_some, e3, decide_eq_true c, Bool.true_and]
    cases (x.drop (x.length - suf.length) == suf) <;> rfl
  · rw [if_neg (by omega), decide_eq_false c]; rfl
theorem parseF_in3 {x : List UInt8} (h : x.length ≤ 2097152) (n : Nat) : fsz ((parseF x).1.drop n) < 268435456 ∧ shortF ((parseF x).1.drop n) ∧ ∀ e ∈ (parseF x).1, e.Value.length ≤ 2097152 := by
  obtain ⟨g1, g2⟩ := parseF_ok (N := 2097152) x h
  obtain ⟨g3, _⟩ := parseF_in h
  refine ⟨?_, fun e he => ?_, fun e he => (g1 e he).2⟩
  · have h1 := sum_le (N := 2097152) ((parseF x).1.drop n) (fun e he => (g1 e (List.mem_of_mem_drop he)).2)
    have h2 : ((parseF x).1.drop n).length ≤ 24 := by simp; omega
    unfold fsz
    have h3 : ((parseF x).1.drop n).length * 2097152 ≤ 24 * 2097152 := Nat.mul_le_mul_right _ h2
    omega
  · have := g1 e (List.mem_of_mem_drop he)
    omega
def noReq : IRequest := ⟨[], [], [], []⟩
def fstF (l : List IField) : IField := (l[0]?).getD ⟨[], []⟩
def goodQ (l : List IField) (m t : List UInt8) : Bool := decide (l.length ≠ 0) && (((fstF l).Name == hostT) && isReq ⟨m, (fstF l).Value, t.take (t.length - 9), l.drop 1⟩)
def crl : List UInt8 := [13, 10]
def reqP (s : List UInt8) : IRequest × Bool := match lineL s with
  | none => (noReq, false)
  | some p => match spL p.1 with
    | none => (noReq, false)
    | some q => bif sufT q.2 ver9 && (sufT p.2 crl && ((parseF (p.2.take (p.2.length - 2))).2 && goodQ (parseF (p.2.take (p.2.length - 2))).1 q.1 q.2)) then
        (⟨q.1, (fstF (parseF (p.2.take (p.2.length - 2))).1).Value, q.2.take (q.2.length - 9), (parseF (p.2.take (p.2.length - 2))).1.drop 1⟩, true) else (noReq, false)
theorem fst_idx {l : List IField} (h : l.length ≠ 0) : idx l (0 : Int) = some (fstF l) := by
  have : idx l (0 : Int) = some (l[0]'(by omega)) := idx_nat (i := 0) (by omega)
  rw [this]
  unfold fstF
  rw [List.getElem?_eq_getElem (by omega : 0 < l.length)]; rfl
theorem I_ParseRequest_eq {k : Nat} (hk : 1073741824 ≤ k) (s : List UInt8) (hs : s.length ≤ 1048576) : I_ParseRequest k s = some (reqP s) := by
  have e2 : ∀ y : List UInt8, y.length < 4294967281 → strings_Cut k y [13, 10] = some (cutOf (lineL y) y) := by
    intro y hy
    show (bif decide (y.length < 4294967281) then some (Lib.cut y [13, 10]) else none) = _
    rw [decide_eq_true hy, cut_line]; rfl
  have e3 : ∀ y : List UInt8, y.length < 4294967281 → strings_Cut k y [32] = some (cutOf (spL y) y) := by
    intro y hy
    show (bif decide (y.length < 4294967281) then some (Lib.cut y [32]) else none) = _
    rw [decide_eq_true hy, cut_sp]; rfl
  have hv : ∀ y : List UInt8, y.length < 1073741824 → strings_CutSuffix k y ([32, 72, 84, 84, 80, 47, 49, 46, 49] : List UInt8) = some (bif sufT y ver9 then (y.take (y.length - 9), true) else (y, false)) := fun y hy => cutSuf_eq y ver9 hy (by decide)
  have hc : ∀ y : List UInt8, y.length < 1073741824 → strings_CutSuffix k y ([13, 10] : List UInt8) = some (bif sufT y crl then (y.take (y.length - 2), true) else (y, false)) := fun y hy => cutSuf_eq y crl hy (by decide)
  rw [I_ParseRequest, e2 s (by omega), Option.bind_some]
  unfold reqP
  cases hl : lineL s with
  | none =>
    simp only [cutOf]
    rw [e3 s (by omega), Option.bind_some]
    have hsl : (cutOf (spL s) s).2.1.length < 1073741824 := by
      cases hsp : spL s with
      | none => simp [cutOf]
      | some q => have := spL_len hsp; simp only [cutOf]; omega
    rw [hv _ hsl, Option.bind_some, hc _ (by simp), Option.bind_some]
    have e : (bif sufT ([] : List UInt8) crl then (([] : List UInt8).take (([] : List UInt8).length - 2), true) else ([], false)) = (([] : List UInt8), false) := rfl
    rw [e, I_ParseFields_eq hk _ (by simp), Option.bind_some]; rfl
  | some p =>
    have hlen := lineL_len hl
    simp only [cutOf]
    rw [e3 p.1 (by omega), Option.bind_some]
    cases hsp : spL p.1 with
    | none =>
      simp only [cutOf]
      rw [hv _ (by simp), Option.bind_some, hc _ (by omega), Option.bind_some]
      have hx : (bif sufT p.2 crl then (p.2.take (p.2.length - 2), true) else (p.2, false)).1.length < 536870912 := by cases sufT p.2 crl <;> simp <;> omega
      rw [I_ParseFields_eq hk _ hx, Option.bind_some]; rfl
    | some q =>
      have hql := spL_len hsp
      simp only [cutOf]
      rw [hv _ (by omega), Option.bind_some, hc _ (by omega), Option.bind_some]
      have hx : (bif sufT p.2 crl then (p.2.take (p.2.length - 2), true) else (p.2, false)).1.length < 536870912 := by cases sufT p.2 crl <;> simp <;> omega
      rw [I_ParseFields_eq hk _ hx, Option.bind_some]
      simp only [Bool.not_true, cond_false]
      cases h9 : sufT q.2 ver9 with
      | false => rfl
      | true =>
        cases h2 : sufT p.2 crl with
        | false => rfl
        | true =>
          simp only [cond_true, Bool.not_true, cond_false, Bool.true_and]
          have hfl : (p.2.take (p.2.length - 2)).length ≤ 2097152 := by simp; omega
          obtain ⟨g1, g2, g3⟩ := parseF_in3 hfl 1
          obtain ⟨g4, _⟩ := parseF_in hfl
          generalize hlx : (parseF (p.2.take (p.2.length - 2))).1 = l at *
          cases (parseF (p.2.take (p.2.length - 2))).2 with
          | false => rfl
          | true =>
            rw [Bool.not_true, cond_false, Bool.true_and]
            unfold goodQ
            by_cases h0 : l.length = 0
            · rw [beq_iff_eq.2 (by omega : (l.length : Int) = 0), cond_true, decide_eq_false (by omega)]; rfl
            · have hi := fst_idx h0
              have hm : (fstF l).Value.length ≤ 2097152 := by
                have : fstF l ∈ l := by
                  unfold fstF
                  rw [List.getElem?_eq_getElem (by omega : 0 < l.length)]
                  exact List.getElem_mem _
                exact g3 _ this
              have hd : ssub l (1 : Int) (l.length : Int) = some (l.drop 1) := ssub_drop (i := 1) (by omega)
              rw [beq_ne (by omega : ¬ (l.length : Int) = 0), cond_false, decide_eq_true h0, Bool.true_and, hi, Option.bind_some, Option.bind_some, Option.bind_some, Option.bind_some]
              show (bif !((fstF l).Name == hostT) then _ else _) = _
              cases hn : ((fstF l).Name == hostT) with
              | false => rfl
              | true =>
                rw [Bool.not_true, cond_false, Bool.true_and, hd, Option.bind_some, guardT_self, guardT_self, show Int.toNat (1 : Int) = 1 from rfl, I_IsRequest_eq hk _ ⟨by simp only; omega, by simp only; omega, by simp; omega, g1, g2⟩, Option.bind_some]
                cases isReq ⟨q.1, (fstF l).Value, q.2.take (q.2.length - 9), l.drop 1⟩ <;> rfl
def pInt (s : List UInt8) : Int × Bool :=
  match (if s.length ≤ 13 then Lib.decNat s else none) with
  | some m => bif decide ((m : Int) ≤ 1000000000000) && (Lib.itoa (m : Int) == s) then ((m : Int), true) else (0, false)
  | none => (0, false)
theorem decFrom_lt : ∀ (l : List UInt8) (acc n : Nat), Lib.decFrom acc l = some n → n < (acc + 1) * 10 ^ l.length
  | [], acc, n, h => by
    simp only [Lib.decFrom, Option.some.injEq] at h
    subst h; simp
  | b :: r, acc, n, h => by
    simp only [Lib.decFrom] at h
    split at h
    · rename_i d hd
      have hd9 : d ≤ 9 := by
        unfold Lib.digitVal at hd
        split at hd
        · cases hd; omega
        · cases hd
      have := decFrom_lt r _ _ h
      rw [List.length_cons, Nat.pow_succ]
      calc n < (acc * 10 + d + 1) * 10 ^ r.length := this
        _ ≤ ((acc + 1) * 10) * 10 ^ r.length := Nat.mul_le_mul_right _ (by omega)
        _ = (acc + 1) * (10 ^ r.length * 10) := by rw [Nat.mul_assoc, Nat.mul_comm 10]
    · cases h
theorem decNat_lt {s : List UInt8} {n : Nat} (h : Lib.decNat s = some n) : n < 10 ^ s.length := by
  unfold Lib.decNat at h
  split at h
  · cases h
  · have := decFrom_lt s 0 n h
    simpa using this
theorem itoa_head (m : Nat) : ∃ c r, Lib.itoa (m : Int) = c :: r ∧ 48 ≤ c.toNat ∧ c.toNat ≤ 57 := by
  rw [itoa_dd]
  have hd : ∀ (f m : Nat), m ≤ f → m ≠ 0 → ∃ c r, dd m = c :: r ∧ 48 ≤ c.toNat ∧ c.toNat ≤ 57 := by
    intro f
    induction f with
    | zero => intro m h1 h2; omega
    | succ f ih =>
      intro m h1 h2
      rw [dd_step h2]
      by_cases h0 : m / 10 = 0
      · rw [h0]
        refine ⟨UInt8.ofNat (48 + m % 10), [], by simp [dd], ?_⟩
        have : (UInt8.ofNat (48 + m % 10)).toNat = 48 + m % 10 := by simp [UInt8.toNat_ofNat]; omega
        rw [this]; omega
      · obtain ⟨c, r, e, b1, b2⟩ := ih (m / 10) (by omega) h0
        exact ⟨c, r ++ [UInt8.ofNat (48 + m % 10)], by rw [e]; rfl, b1, b2⟩
  split
  · exact ⟨48, [], rfl, by decide, by decide⟩
  · rename_i h0
    rw [if_neg (by omega)]
    exact hd m m (Nat.le_refl _) (by omega)
theorem itoa_ne_sign (m : Nat) {c : UInt8} (r : List UInt8) (h : c.toNat < 48) : Lib.itoa (m : Int) ≠ c :: r := by
  obtain ⟨c', r', e, h1, _⟩ := itoa_head m
  rw [e]
  intro he
  simp only [List.cons.injEq] at he
  rw [he.1] at h1; omega
theorem decNat_sign {c : UInt8} (r : List UInt8) (h : c.toNat < 48) : Lib.decNat (c :: r) = none := by
  simp [Lib.decNat, Lib.decFrom, Lib.digitVal, show ¬ 48 ≤ c.toNat by omega]
theorem I_ParseInt_eq {k : Nat} (s : List UInt8) : I_ParseInt k s = some (pInt s) := by
  rw [I_ParseInt, bif_dec]
  unfold pInt
  by_cases h13 : s.length ≤ 13
  case neg => rw [if_pos (by omega), if_neg h13]
  rw [if_neg (by omega), if_pos h13]
  have ha : Lib.atoiAll s = Lib.NumEnd.ofOption (Lib.atoi s) := Lib.atoiAll_short s (by omega)
  rw [strconv_Atoi, atoiO, decide_eq_true (by omega), cond_true, ha]
  have good : ∀ m : Nat, m < 10 ^ 13 → (((bif (false : Bool) then some ((0 : Int), false) else ((I_inRange k (m : Int) (0 : Int) (1000000000000 : Int)).bind fun w2 =>
    (bif (!w2) then some ((0 : Int), false) else ((I_FormatInt k (m : Int)).bind fun w3 =>
    (bif (!(w3 == s)) then some ((0 : Int), false) else some ((m : Int), true))))))) : Option (Int × Bool)) = some (bif decide ((m : Int) ≤ 1000000000000) && (Lib.itoa (m : Int) == s) then ((m : Int), true) else (0, false)) := by
    intro m hm
    have h10 : (10 : Nat) ^ 13 = 10000000000000 := by decide
    rw [h10] at hm
    rw [cond_false, I_inRange_eq, Option.bind_some, I_FormatInt_eq _ (by omega) (by omega), Option.bind_some]
    have : inR (m : Int) 0 1000000000000 = decide ((m : Int) ≤ 1000000000000) := by unfold inR; rw [decide_eq_true (by omega), Bool.true_and]
    rw [this]
    cases decide ((m : Int) ≤ 1000000000000) <;> cases (Lib.itoa (m : Int) == s) <;> rfl
  have p13 : ∀ {l : List UInt8} {m : Nat}, Lib.decNat l = some m → l.length ≤ 13 → m < 10 ^ 13 := fun h hl => Nat.lt_of_lt_of_le (decNat_lt h) (Nat.pow_le_pow_right (by decide) hl)
  cases s with
  | nil => rfl
  | cons b r =>
    simp only [Lib.atoi]
    by_cases h45 : (b == 45) = true
    · rw [if_pos h45]
      have hb : b = 45 := by simpa using h45
      subst hb
      rw [decNat_sign r (by decide)]
      cases hd : Lib.decNat r with
      | none => rfl
      | some m =>
        have hm := p13 hd (by simp at h13; omega)
        have h10 : (10 : Nat) ^ 13 = 10000000000000 := by decide
        rw [h10] at hm
        simp only [Option.map_some, Lib.NumEnd.ofOption, Option.bind_some, cond_false]
        rw [I_inRange_eq, Option.bind_some]
        by_cases h0 : m = 0
        · subst h0
          have : inR (-(0 : Nat) : Int) 0 1000000000000 = true := by decide
          rw [this, Bool.not_true, cond_false, I_FormatInt_eq _ (by omega) (by omega), Option.bind_some]
          have : (Lib.itoa (-((0 : Nat) : Int)) == (45 :: r)) = false := beq_ne (itoa_ne_sign 0 r (by decide))
          rw [this]; rfl
        · have : inR (-(m : Int)) 0 1000000000000 = false := by unfold inR; rw [decide_eq_false (by omega)]; rfl
          rw [this]; rfl
    · rw [if_neg h45]
      by_cases h43 : (b == 43) = true
      · rw [if_pos h43]
        have hb : b = 43 := by simpa using h43
        subst hb
        rw [decNat_sign r (by decide)]
        cases hd : Lib.decNat r with
        | none => rfl
        | some m =>
          have hm := p13 hd (by simp at h13; omega)
          have := good m hm
          simp only [Option.map_some, Lib.NumEnd.ofOption, Option.bind_some]
          rw [this]
          have : (Lib.itoa (m : Int) == (43 :: r)) = false := beq_ne (itoa_ne_sign m r (by decide))
          rw [this, Bool.and_false]; rfl
      · rw [if_neg h43]
        cases hd : Lib.decNat (b :: r) with
        | none => rfl
        | some m =>
          have := good m (p13 hd h13)
          simp only [Option.map_some, Lib.NumEnd.ofOption, Option.bind_some]
          exact this
theorem decFrom_snoc : ∀ (l : List UInt8) (acc : Nat) (c : UInt8), Lib.decFrom acc (l ++ [c]) = (Lib.decFrom acc l).bind fun a => (Lib.digitVal c).map fun d => a * 10 + d
  | [], acc, c => by
    simp only [List.nil_append, Lib.decFrom, Option.bind_some]
    cases Lib.digitVal c <;> rfl
  | b :: r, acc, c => by
    simp only [List.cons_append, Lib.decFrom]
    cases Lib.digitVal b with
    | none => rfl
    | some d => exact decFrom_snoc r _ c
theorem digitVal_t : ∀ j : Fin 10, Lib.digitVal (UInt8.ofNat (48 + j.val)) = some j.val := by decide +kernel
theorem decFrom_dd : ∀ (f m : Nat), m ≤ f → Lib.decFrom 0 (dd m) = some m := by
  intro f
  induction f with
  | zero => intro m h; rw [show m = 0 by omega]; rfl
  | succ f ih =>
    intro m h
    by_cases h0 : m = 0
    · subst h0; rfl
    · have ht := digitVal_t ⟨m % 10, by omega⟩
      simp only at ht
      rw [dd_step h0, decFrom_snoc, ih (m / 10) (by omega), Option.bind_some, ht, Option.map_some]
      congr 1; omega
theorem decNat_itoa (m : Nat) : Lib.decNat (Lib.itoa (m : Int)) = some m := by
  rw [itoa_dd]
  by_cases h0 : m = 0
  · subst h0; rfl
  · rw [if_neg (by omega), if_neg (by omega), Int.natAbs_natCast]
    have hne : dd m ≠ [] := by rw [dd_step h0]; simp
    unfold Lib.decNat
    have : (dd m).isEmpty = false := by cases h : dd m with | nil => exact absurd h hne | cons _ _ => rfl
    rw [this]
    exact decFrom_dd m m (Nat.le_refl _)
theorem pow13 : (10 : Nat) ^ 13 = 10000000000000 := by decide
theorem itoa_short {m : Nat} (h : m ≤ 1000000000000) : (Lib.itoa (m : Int)).length ≤ 13 := by
  rw [itoa_dd]
  split
  · simp
  · split
    · omega
    · rw [Int.natAbs_natCast]
      exact dd_len 13 m (by rw [pow13]; omega)
theorem pInt_itoa {m : Nat} (h : m ≤ 1000000000000) : pInt (Lib.itoa (m : Int)) = ((m : Int), true) := by
  unfold pInt
  rw [if_pos (itoa_short h), decNat_itoa]
  simp only
  rw [decide_eq_true (by omega), beq_self_eq_true]; rfl
def verH : List UInt8 := [72, 84, 84, 80, 47, 49, 46, 49, 32]
def noResp : IResponse := ⟨0, [], []⟩
def lastF (l : List IField) : IField := (l[l.length - 1]?).getD ⟨[], []⟩
def goodR (a : List UInt8) (l : List IField) (b : List UInt8) : Bool :=
  (a.take 9 == verH) && ((pInt (a.drop 9)).2 && (decide (l.length ≠ 0) && (((lastF l).Name == clen) && (((lastF l).Value == Lib.itoa (b.length : Int)) && isResp ⟨(pInt (a.drop 9)).1, l.take (l.length - 1), b⟩))))
def respP (s : List UInt8) : IResponse × Bool := match headL s with
  | none => (noResp, false)
  | some t => bif (parseF t.2.1).2 && goodR t.1 (parseF t.2.1).1 t.2.2 then (⟨(pInt (t.1.drop 9)).1, (parseF t.2.1).1.take ((parseF t.2.1).1.length - 1), t.2.2⟩, true) else (noResp, false)
theorem last_idx {l : List IField} (h : l.length ≠ 0) (h2 : l.length < 1073741824) : idx l (IntKind.wrap .i64 ((l.length : Int) - 1)) = some (lastF l) := by
  have e1 : IntKind.wrap .i64 ((l.length : Int) - 1) = ((l.length - 1 : Nat) : Int) := by rw [wrap_id (by omega) (by omega)]; omega
  rw [e1, idx_nat (by omega)]
  unfold lastF
  rw [List.getElem?_eq_getElem (by omega : l.length - 1 < l.length)]; rfl
theorem cutPre_H {k : Nat} (s : List UInt8) : strings_CutPrefix k s verH = some (bif s.take 9 == verH then (s.drop 9, true) else (s, false)) := by
  have l9 : (verH.length : Int) = 9 := rfl
  rw [strings_CutPrefix, internal_stringslite_CutPrefix, internal_stringslite_HasPrefix, l9, bif_dec]
  by_cases c : 9 ≤ s.length
  · have e1 : ssub s (0 : Int) (9 : Int) = some (s.take 9) := by rw [ssub_ok (by omega) (by omega) (by omega)]; rfl
    have e2 : ssub s (9 : Int) (s.length : Int) = some (s.drop 9) := ssub_drop (i := 9) (by omega)
    rw [if_pos (by omega), e1, Option.bind_some, Option.bind_some, e2]
    cases (s.take 9 == verH) <;> rfl
  · have : (s.take 9 == verH) = false := beq_ne fun e => by
      have := congrArg List.length e
      rw [List.length_take] at this
      have e9 : verH.length = 9 := rfl
      omega
    rw [if_neg (by omega), this]; rfl
theorem I_ParseResponse_eq {k : Nat} (hk : 1073741824 ≤ k) (s : List UInt8) (hs : s.length ≤ 1048576) : I_ParseResponse k s = some (respP s) := by
  have e1 : strings_Cut k s [13, 10, 13, 10] = some (cutOf (h4L s) s) := by
    show (bif decide (s.length < 4294967281) then some (Lib.cut s [13, 10, 13, 10]) else none) = _
    rw [decide_eq_true (by omega), cut_h4]; rfl
  have e2 : ∀ y : List UInt8, y.length < 4294967281 → strings_Cut k y [13, 10] = some (cutOf (lineL y) y) := by
    intro y hy
    show (bif decide (y.length < 4294967281) then some (Lib.cut y [13, 10]) else none) = _
    rw [decide_eq_true hy, cut_line]; rfl
  have hv : ∀ y, strings_CutPrefix k y ([72, 84, 84, 80, 47, 49, 46, 49, 32] : List UInt8) = some (bif y.take 9 == verH then (y.drop 9, true) else (y, false)) := fun y => cutPre_H y
  rw [I_ParseResponse, e1, Option.bind_some]
  unfold respP headL
  have bad : ∀ (h b : List UInt8), h.length ≤ 1048576 → lineL h = none → ∀ (x : Bool), ((strings_Cut k h [13, 10]).bind fun w2 =>
    ((strings_CutPrefix k w2.1 ([72, 84, 84, 80, 47, 49, 46, 49, 32] : List UInt8)).bind fun w3 =>
    ((I_ParseInt k w3.1).bind fun w4 =>
    ((cat w2.2.1 ([13, 10] : List UInt8)).bind fun t5 =>
    ((I_ParseFields k t5).bind fun w6 =>
    (bif (!x) then some ((⟨(0 : Int), [], ([] : List UInt8)⟩ : IResponse), false) else (bif (!w2.2.2) then some ((⟨(0 : Int), [], ([] : List UInt8)⟩ : IResponse), false) else none))))))) = some (noResp, false) := by
    intro h b hh hl x
    rw [e2 h (by omega), Option.bind_some, hl]
    simp only [cutOf]
    rw [hv, Option.bind_some, I_ParseInt_eq, Option.bind_some, cat_ok (by simp), Option.bind_some, I_ParseFields_eq hk _ (by simp), Option.bind_some]
    cases x <;> rfl
  cases hl : lineL s with
  | none =>
    obtain ⟨h1, _⟩ := lineL_none_h4 hl
    rw [h1]
    simp only [cutOf]
    rw [e2 s (by omega), Option.bind_some, hl]
    simp only [cutOf]
    rw [hv, Option.bind_some, I_ParseInt_eq, Option.bind_some, cat_ok (by simp), Option.bind_some, I_ParseFields_eq hk _ (by simp), Option.bind_some]
    rfl
  | some p =>
    have hp := lineL_some (a := p.1) (b := p.2) hl
    have hlen := lineL_len hl
    have ch := chL_h4 (n := s.length + 1) (x := p.2) (by omega)
    have h4 := h4_line (a := p.1) (x := p.2) (y := p.2) (by rw [← hp]; exact hl)
    rw [← hp] at h4
    simp only
    cases hc : chL (s.length + 1) p.2 with
    | none =>
      rw [hc] at ch
      simp only at ch
      rw [ch.1, cond_false, ch.2] at h4
      have h4' : h4L s = none := h4
      rw [h4']
      simp only [cutOf]
      rw [e2 s (by omega), Option.bind_some, hl]
      simp only [cutOf]
      rw [hv, Option.bind_some, I_ParseInt_eq, Option.bind_some, cat_ok (by simp; omega), Option.bind_some, I_ParseFields_eq hk _ (by simp; omega), Option.bind_some]
      rfl
    | some q =>
      have hq := chL_some hc
      have hql := congrArg List.length hq
      simp only [List.length_append, List.length_cons] at hql
      rw [hc] at ch
      simp only at ch
      simp only [Option.map_some]
      rcases ch with ⟨i1, i2, i3⟩ | ⟨g, i1, i2, i3⟩
      · rw [i2, cond_true, i3] at h4
        have hno : lineL p.1 = none := by
          cases hx : lineL p.1 with
          | none => rfl
          | some z =>
            exfalso
            have hz := lineL_some (a := z.1) (b := z.2) hx
            have hl2 := hl
            rw [hp, hz, List.append_assoc] at hl2
            have hsw := line_swap (a := z.1) (x := z.2) (y := z.2 ++ 13 :: 10 :: p.2) (by rw [← hz]; exact hx)
            have e : z.1 ++ (13 :: 10 :: z.2 ++ 13 :: 10 :: p.2) = z.1 ++ 13 :: 10 :: (z.2 ++ 13 :: 10 :: p.2) := by simp
            rw [e, hsw] at hl2
            rw [Option.some.injEq] at hl2
            have h1 := congrArg (fun y : List UInt8 × List UInt8 => y.1.length) hl2
            have h2 := congrArg List.length hz
            simp only [List.length_append, List.length_cons] at h1 h2
            omega
        have hpf : parseF ([] : List UInt8) = ([], true) := by decide +kernel
        rw [h4]
        simp only [cutOf]
        rw [e2 p.1 (by omega), Option.bind_some, hno]
        simp only [cutOf]
        rw [hv, Option.bind_some, I_ParseInt_eq, Option.bind_some, cat_ok (by simp), Option.bind_some, I_ParseFields_eq hk _ (by simp), Option.bind_some, i1, hpf]
        have hg : goodR p.1 [] q.2 = false := by
          unfold goodR
          simp
        simp only
        rw [hg]; rfl
      · rw [i2, cond_false, i3, Option.map_some] at h4
        have hg : lineL (p.1 ++ 13 :: 10 :: g) = some (p.1, g) := line_swap (x := p.2) (by rw [← hp]; exact hl)
        have hgl : g.length + 2 = q.1.length := by rw [i1]; simp
        obtain ⟨p1, p2⟩ := parseF_in (x := q.1) (by omega)
        rw [h4]
        simp only [cutOf]
        rw [e2 _ (by simp; omega), Option.bind_some, hg]
        simp only [cutOf]
        rw [hv, Option.bind_some, I_ParseInt_eq, Option.bind_some, cat_ok (by simp; omega), Option.bind_some, ← i1, I_ParseFields_eq hk _ (by omega), Option.bind_some]
        simp only [Bool.not_true, cond_false]
        generalize hlx : (parseF q.1).1 = l at *
        unfold goodR
        cases h9 : (p.1.take 9 == verH) with
        | false => cases (parseF q.1).2 <;> rfl
        | true =>
          simp only [cond_true, Bool.not_true, cond_false, Bool.true_and]
          cases hpi : (pInt (p.1.drop 9)).2 with
          | false => cases (parseF q.1).2 <;> rfl
          | true =>
            rw [Bool.not_true, cond_false, Bool.true_and]
            cases hok : (parseF q.1).2 with
            | false => rfl
            | true =>
              rw [Bool.not_true, cond_false, Bool.true_and]
              by_cases h0 : l.length = 0
              · have e1 : IntKind.wrap .i64 ((l.length : Int) - 1) = -1 := by rw [h0]; decide
                rw [e1, show decide ((-1 : Int) < 0) = true from rfl, cond_true, decide_eq_false (by omega)]; rfl
              · have hi := last_idx h0 (by omega)
                have ew : IntKind.wrap .i64 ((l.length : Int) - 1) = ((l.length - 1 : Nat) : Int) := by rw [wrap_id (by omega) (by omega)]; omega
                have ht : ssub l (0 : Int) (IntKind.wrap .i64 ((l.length : Int) - 1)) = some (l.take (l.length - 1)) := by
                  rw [ew, ssub_ok (by omega) (by omega) (by omega)]; rfl
                obtain ⟨q1, q2⟩ := p2 (l.length - 1)
                have hd : decide (IntKind.wrap .i64 ((l.length : Int) - 1) < 0) = false := by rw [ew]; exact decide_eq_false (by omega)
                rw [hd, cond_false, decide_eq_true h0, Bool.true_and, hi, Option.bind_some, Option.bind_some, Option.bind_some, Option.bind_some]
                show (bif !((lastF l).Name == clen) then _ else _) = _
                cases hn : ((lastF l).Name == clen) with
                | false => rfl
                | true =>
                  rw [Bool.not_true, cond_false, Bool.true_and, I_FormatInt_eq _ (by omega) (by omega), Option.bind_some]
                  cases ((lastF l).Value == Lib.itoa (q.2.length : Int)) with
                  | false => rfl
                  | true =>
                    rw [Bool.not_true, cond_false, Bool.true_and, ht, Option.bind_some, guardT_self, I_IsResponse_eq hk _ q1 q2, Option.bind_some]
                    cases isResp ⟨(pInt (p.1.drop 9)).1, l.take (l.length - 1), q.2⟩ <;> rfl
theorem I_SameFields_eq {k : Nat} (hk : 1073741824 ≤ k) (a b : List IField) (h : a.length < 1073741824) : I_SameFields k a b = some (decide (a = b)) := by
  have : slices_Equal_IField k a b = some (decide (a = b)) :=
    eq_all (F := fun n x y i => slices_Equal_IField_b0 k n x y (x.length : Int) i) (f := fun e e' => some ((e.Name == e'.Name) && (e.Value == e'.Value))) (fun _ _ _ _ => rfl) (fun e _ e' _ => by
      obtain ⟨a, b⟩ := e
      obtain ⟨c, d⟩ := e'
      by_cases h1 : a = c <;> by_cases h2 : b = d <;> simp [h1, h2, beq_ne]) (by omega) (by omega)
  rw [I_SameFields, this]; rfl
def CurOk (c : Sl1Cur) : Prop := 0 ≤ c.i ∧ c.i ≤ (c.b.length : Int) ∧ c.b.length ≤ 1048576
theorem and255 (n : Int) : 0 ≤ andI .i64 n 255 ∧ andI .i64 n 255 ≤ 255 := by
  have h : (BitVec.ofInt 64 n &&& BitVec.ofInt 64 255).toNat ≤ 255 := by
    rw [BitVec.toNat_and]; exact Nat.le_trans Nat.and_le_right (by decide)
  show 0 ≤ IntKind.wrap .i64 (((BitVec.ofInt 64 n &&& BitVec.ofInt 64 255).toNat : Nat) : Int) ∧ IntKind.wrap .i64 (((BitVec.ofInt 64 n &&& BitVec.ofInt 64 255).toNat : Nat) : Int) ≤ 255
  rw [wrap_id (by omega) (by omega)]; omega
theorem S_l1Byte_tot {k : Nat} {c : Sl1Cur} (h : CurOk c) : ∃ v c', S_l1Byte k c = some (v, c') ∧ (0 ≤ v ∧ v ≤ 255) ∧ CurOk c' := by
  obtain ⟨b, i, hh⟩ := c
  obtain ⟨h1, h2, h3⟩ := h
  obtain ⟨n, rfl⟩ := Int.eq_ofNat_of_zero_le h1
  have h2 : (n : Int) ≤ (b.length : Int) := h2
  have h3 : b.length ≤ 1048576 := h3
  unfold S_l1Byte
  generalize IntKind.wrap .i64 (IntKind.wrap .i64 ((⟨b, (n : Int), hh⟩ : Sl1Cur).h * 6364136223846793005) + 1442695040888963407) = g
  obtain ⟨q1, e1⟩ : ∃ q, shrI .i64 g 33 = some q := ⟨_, rfl⟩
  obtain ⟨q2, e2⟩ : ∃ q, shrI .i64 g 47 = some q := ⟨_, rfl⟩
  rw [e1, Option.bind_some, e2, Option.bind_some, S_l1Byte_c34, bif_dec]
  by_cases c : (n : Int) < (b.length : Int)
  · have e3 : idx b (n : Int) = some b[n] := idx_nat (by omega)
    rw [if_pos c]
    simp only [e3, Option.bind_some]
    refine ⟨_, _, rfl, and255 _, ?_, ?_, h3⟩
    · show 0 ≤ IntKind.wrap .i64 ((n : Int) + 1)
      rw [wrap_succ (by omega)]; omega
    · show IntKind.wrap .i64 ((n : Int) + 1) ≤ (b.length : Int)
      rw [wrap_succ (by omega)]; omega
  · rw [if_neg c, Option.bind_some]
    exact ⟨_, _, rfl, and255 _, h1, h2, h3⟩
theorem md_pos {a n : Int} (h : 0 ≤ a) (hn : 0 < n) : ∃ r, md a n = some r ∧ 0 ≤ r ∧ r < n :=
  ⟨a.tmod n, by unfold md; rw [if_neg (by omega)], Int.tmod_nonneg n h, Int.tmod_lt_of_pos a hn⟩
theorem S_l1Below_tot {k : Nat} {c : Sl1Cur} (h : CurOk c) {n : Int} (hn : 0 < n) : ∃ v c', S_l1Below k c n = some (v, c') ∧ (0 ≤ v ∧ v < n) ∧ CurOk c' := by
  unfold S_l1Below
  rw [bif_dec, if_neg (by omega), bif_dec]
  obtain ⟨v1, c1, e1, ⟨a1, b1⟩, h1⟩ := S_l1Byte_tot (k := k) h
  rw [e1]
  by_cases hs : n ≤ 256
  · rw [if_pos hs, Option.bind_some]
    obtain ⟨r, er, hr⟩ := md_pos a1 hn
    rw [er]
    exact ⟨_, _, rfl, hr, h1⟩
  · rw [if_neg hs, Option.bind_some]
    obtain ⟨v2, c2, e2, ⟨a2, b2⟩, h2⟩ := S_l1Byte_tot (k := k) h1
    obtain ⟨v3, c3, e3, ⟨a3, b3⟩, h3⟩ := S_l1Byte_tot (k := k) h2
    rw [e2, Option.bind_some, e3, Option.bind_some]
    rw [wrap_id (n := v1 * 65536) (by omega) (by omega), wrap_id (n := v2 * 256) (by omega) (by omega), wrap_id (n := v1 * 65536 + v2 * 256) (by omega) (by omega), wrap_id (by omega) (by omega)]
    obtain ⟨r, er, hr⟩ := md_pos (a := v1 * 65536 + v2 * 256 + v3) (by omega) hn
    rw [er]
    exact ⟨_, _, rfl, hr, h3⟩
theorem S_l1Str_tot {k : Nat} {c : Sl1Cur} (h : CurOk c) {l : List (List UInt8)} (h0 : 0 < l.length) : ∃ s c', S_l1Str k c l = some (s, c') ∧ s ∈ l ∧ CurOk c' := by
  unfold S_l1Str
  obtain ⟨v, c1, e1, ⟨a1, b1⟩, h1⟩ := S_l1Below_tot (k := k) h (n := (l.length : Int)) (by omega)
  obtain ⟨m, rfl⟩ := Int.eq_ofNat_of_zero_le a1
  rw [e1, Option.bind_some, idx_nat (by omega), Option.bind_some]
  exact ⟨_, _, rfl, List.getElem_mem _, h1⟩
theorem S_l1Str_len {k : Nat} {c : Sl1Cur} (h : CurOk c) {l : List (List UInt8)} (h0 : 0 < l.length) {n : Nat} (hn : ∀ s ∈ l, s.length ≤ n) : ∃ s c', S_l1Str k c l = some (s, c') ∧ s.length ≤ n ∧ CurOk c' := by
  obtain ⟨s, c', e, hs, h'⟩ := S_l1Str_tot (k := k) h h0
  exact ⟨s, c', e, hn s hs, h'⟩
theorem S_l1New_loop {k : Nat} {x : List Int} (hx : x.length ≤ 1048576) : ∀ (n i : Nat) (s : Int), i ≤ x.length → x.length - i < n → ∃ r, S_l1New_b0 k n x s (i : Int) = some r := by
  intro n
  induction n with
  | zero => intro i s _ h; omega
  | succ n ih =>
    intro i s hi hn
    rw [S_l1New_b0, bif_dec, bif_dec]
    by_cases c : (i : Int) < (x.length : Int)
    · rw [if_pos c]
      by_cases c2 : (i : Int) < 4000
      · rw [if_pos c2, idx_nat (by omega), Option.bind_some, wrap_succ (by omega)]
        exact ih (i + 1) _ (by omega) (by omega)
      · rw [if_neg c2]; exact ⟨_, rfl⟩
    · rw [if_neg c]; exact ⟨_, rfl⟩
theorem S_l1New_tot {k : Nat} (hk : 1073741824 ≤ k) {x : List Int} (hx : x.length ≤ 1048576) : ∃ c, S_l1New k x = some c ∧ CurOk c := by
  unfold S_l1New
  obtain ⟨r, e⟩ := S_l1New_loop (k := k) hx k 0 (IntKind.wrap .i64 ((271091 : Int) + (x.length : Int))) (by omega) (by omega)
  rw [show (((0 : Nat)) : Int) = 0 from rfl] at e
  rw [e, Option.bind_some]
  exact ⟨_, rfl, by show (0 : Int) ≤ 0; omega, by show (0 : Int) ≤ (x.length : Int); omega, hx⟩
theorem wrap_pred {j : Nat} (h : j + 1 ≤ 9223372036854775807) : IntKind.wrap .i64 (((j + 1 : Nat) : Int) - 1) = (j : Int) := by rw [wrap_id (by omega) (by omega)]; omega
theorem L_big_eq {k : Nat} {x : List Int} : L_big k x = some (decide ((x.length : Int) > 1048576)) := rfl
theorem fsz_le {n : Nat} : ∀ {l : List IField}, (∀ e ∈ l, e.Value.length ≤ n) → fsz l ≤ l.length + l.length * n
  | [], _ => by simp [fsz]
  | e :: l, h => by
    have h1 := h e (.head _)
    have h2 := fsz_le (l := l) fun e he => h e (.tail _ he)
    unfold fsz at h2 ⊢
    simp only [List.length_cons, List.map_cons, List.sum_cons, Nat.add_mul, Nat.one_mul] at h2 ⊢
    omega
theorem S_l1Once_tot {k : Nat} {c : Sl1Cur} (h : CurOk c) {n : Int} (hn : 0 < n) : ∃ v c', S_l1Once k c n = some (v, c') ∧ CurOk c' := by
  unfold S_l1Once
  obtain ⟨v, c1, e1, _, h1⟩ := S_l1Below_tot (k := k) h hn
  rw [e1]; exact ⟨_, _, rfl, h1⟩
theorem S_l11Target_tot {k : Nat} {c : Sl1Cur} (h : CurOk c) : ∃ v c', S_l11Target k c = some (v, c') ∧ v.length ≤ 20 ∧ CurOk c' := by
  unfold S_l11Target
  obtain ⟨v, c1, e1, l1, h1⟩ := S_l1Str_len (k := k) h (l := [([47, 97] : List UInt8), ([47, 98] : List UInt8), ([47, 97, 63, 120, 61, 49, 38, 121, 61, 50] : List UInt8), ([47, 97, 63, 121, 61, 50, 38, 120, 61, 49] : List UInt8), ([47, 46, 47, 97] : List UInt8), ([47, 99, 47, 46, 46, 47, 97] : List UInt8), ([47, 37, 54, 49] : List UInt8), ([47, 112] : List UInt8), ([47, 112, 97, 103, 101] : List UInt8), ([47, 108, 97, 110, 103] : List UInt8), ([47, 109, 105, 110, 101] : List UInt8), ([47, 110, 111, 110, 101] : List UInt8), ([47, 98, 105, 103] : List UInt8), ([47, 65] : List UInt8), ([47, 97, 63] : List UInt8)]) (by decide) (n := 20) (by decide)
  rw [e1]; exact ⟨_, _, rfl, l1, h1⟩
theorem line_at : ∀ (x y : List UInt8), (∀ c ∈ x, c ≠ 13) → lineL (x ++ 13 :: 10 :: y) = some (x, y)
  | [], y, _ => by simp [lineL]
  | c :: r, y, h => by
    have hc : (c == 13) = false := beq_eq_false_iff_ne.2 (h c (.head _))
    rw [List.cons_append, lineL, hc, Bool.false_and, cond_false, line_at r y fun d hd => h d (.tail _ hd)]; rfl
theorem col_at : ∀ (x y : List UInt8), (∀ c ∈ x, c ≠ 58) → colL (x ++ 58 :: y) = some (x, y)
  | [], y, _ => by simp [colL]
  | c :: r, y, h => by
    have hc : (c == 58) = false := beq_eq_false_iff_ne.2 (h c (.head _))
    rw [List.cons_append, colL, hc, cond_false, col_at r y fun d hd => h d (.tail _ hd)]; rfl
theorem sp_at : ∀ (x y : List UInt8), (∀ c ∈ x, c ≠ 32) → spL (x ++ 32 :: y) = some (x, y)
  | [], y, _ => by simp [spL]
  | c :: r, y, h => by
    have hc : (c == 32) = false := beq_eq_false_iff_ne.2 (h c (.head _))
    rw [List.cons_append, spL, hc, cond_false, sp_at r y fun d hd => h d (.tail _ hd)]; rfl
theorem isTok_el {x : List UInt8} (h : isTok x = true) : (∀ c ∈ x, tokB c = true) ∧ x ≠ [] := by
  unfold isTok at h
  rw [Bool.and_eq_true, Option.isNone_iff_eq_none] at h
  refine ⟨fun c hc => ?_, fun e => ?_⟩
  · obtain ⟨j, hj, rfl⟩ := List.mem_iff_getElem.1 hc
    have := firstI_none _ _ h.1 j (by omega) (by omega)
    unfold ntP at this
    rw [List.getElem?_eq_getElem hj] at this
    simpa using this
  · rw [e] at h; revert h; decide
theorem tok_ne {x : List UInt8} (h : isTok x = true) {d : UInt8} (hd : tokB d = false) : ∀ c ∈ x, c ≠ d := fun c hc e => by
  have := (isTok_el h).1 c hc
  rw [e, hd] at this; cases this
theorem valOK_el {x : List UInt8} (h : valOK x = true) : (∀ c ∈ x, badV c = false) ∧ trimT x = x := by
  unfold valOK at h
  rw [Bool.and_eq_true, Bool.and_eq_true, Option.isNone_iff_eq_none] at h
  refine ⟨fun c hc => ?_, by simpa using h.2⟩
  obtain ⟨j, hj, rfl⟩ := List.mem_iff_getElem.1 hc
  have := firstI_none _ _ h.1.1 j (by omega) (by omega)
  unfold bvP at this
  rw [List.getElem?_eq_getElem hj] at this
  exact this
theorem valOK_of {x : List UInt8} (h1 : ∀ c ∈ x, badV c = false) (h2 : x.length ≤ 200) (h3 : trimT x = x) : valOK x = true := by
  unfold valOK
  have : firstI (bvP x) x.length 0 = none := firstI_no fun j hj => by
    unfold bvP
    rw [List.getElem?_eq_getElem hj]
    exact h1 _ (List.getElem_mem hj)
  rw [this, h3, decide_eq_true (by omega), beq_self_eq_true]; rfl
def FOK (e : IField) : Prop := nameOK e.Name = true ∧ valOK e.Value = true
theorem areF_iff {l : List IField} : areF l = true ↔ (∀ e ∈ l, FOK e) ∧ l.length ≤ 24 := by
  unfold areF
  rw [Bool.and_eq_true, Option.isNone_iff_eq_none, decide_eq_true_eq]
  constructor
  · intro ⟨h1, h2⟩
    refine ⟨fun e he => ?_, by omega⟩
    obtain ⟨j, hj, rfl⟩ := List.mem_iff_getElem.1 he
    have := firstI_none _ _ h1 j (by omega) (by omega)
    unfold bfP at this
    rw [List.getElem?_eq_getElem hj] at this
    simp only [Bool.or_eq_false_iff, Bool.not_eq_false'] at this
    exact this
  · intro ⟨h1, h2⟩
    refine ⟨firstI_no fun j hj => ?_, by omega⟩
    have := h1 _ (List.getElem_mem hj)
    unfold bfP
    rw [List.getElem?_eq_getElem hj]
    simp only [this.1, this.2]; rfl
theorem nob {x : List UInt8} (h : ∀ c ∈ x, blank c = false) : trimT x = x := by
  have d : ∀ y : List UInt8, (∀ c ∈ y, blank c = false) → y.dropWhile blank = y := fun y hy => by
    cases y with
    | nil => rfl
    | cons c r => rw [List.dropWhile_cons, hy c (.head _)]; rfl
  unfold trimT rtrim
  rw [d x h, d x.reverse fun c hc => h c (List.mem_reverse.1 hc), List.reverse_reverse]
theorem lineE {e : IField} (h : FOK e) : ∀ c ∈ e.Name ++ 58 :: 32 :: e.Value, c ≠ 13 := by
  obtain ⟨h1, h2⟩ := h
  unfold nameOK at h1
  rw [Bool.and_eq_true] at h1
  have v := (valOK_el h2).1
  intro c hc
  rcases List.mem_append.1 hc with hc | hc
  · exact tok_ne h1.1 (by decide) c hc
  · rcases List.mem_cons.1 hc with rfl | hc
    · decide
    · rcases List.mem_cons.1 hc with rfl | hc
      · decide
      · intro e; have := v c hc; rw [e] at this; revert this; decide
theorem fmtF_cons (e : IField) (l : List IField) (t : List UInt8) : fmtF (e :: l) ++ t = (e.Name ++ 58 :: 32 :: e.Value) ++ 13 :: 10 :: (fmtF l ++ t) := by simp [fmtF, fmtE]
theorem fmtF_len : ∀ l : List IField, l.length ≤ (fmtF l).length
  | [] => Nat.le_refl _
  | e :: l => by
    have := fmtF_len l
    have h := congrArg List.length (fmtF_cons e l [])
    simp only [List.append_nil, List.length_append, List.length_cons] at h
    rw [List.length_cons]; omega
theorem pf_fmt : ∀ (l r : List IField) (n : Nat), (∀ e ∈ l, FOK e) → l.length < n → pfL n (fmtF l) r = some (r ++ l)
  | l, r, 0, _, h => by omega
  | [], r, n + 1, _, _ => by rw [pfL]; simp [fmtF]
  | e :: l, r, n + 1, h, hn => by
    have he := h e (.head _)
    have hf := fmtF_cons e l []
    rw [List.append_nil, List.append_nil] at hf
    have hne : (fmtF (e :: l) == []) = false := by
      rw [hf]
      cases e.Name <;> rfl
    have h1 := he.1
    unfold nameOK at h1
    rw [Bool.and_eq_true] at h1
    have hl : lowT e.Name = e.Name := by simpa using h1.2
    have hv : trimT (32 :: e.Value) = e.Value := by
      have := trimT_pre (pre := [32]) (p := e.Value) (fun c hc => by rw [List.mem_singleton] at hc; subst hc; rfl)
      rw [List.singleton_append] at this
      rw [this, (valOK_el he.2).2]
    rw [pfL, hne, cond_false, hf, line_at _ _ (lineE he)]
    simp only
    rw [col_at _ _ (tok_ne h1.1 (by decide))]
    simp only
    rw [hl, hv, pf_fmt l _ n (fun x hx => h x (.tail _ hx)) (by simp only [List.length_cons] at hn; omega)]
    simp
theorem parseF_fmt {l : List IField} (h : areF l = true) : parseF (fmtF l) = (l, true) := by
  have := pf_fmt l [] ((fmtF l).length + 1) (areF_iff.1 h).1 (by have := fmtF_len l; omega)
  unfold parseF
  rw [this]
  simp only [List.nil_append]
  rw [h]; rfl
theorem ch_fmt : ∀ (l : List IField) (b : List UInt8) (n : Nat), (∀ e ∈ l, FOK e) → l.length < n → chL n (fmtF l ++ 13 :: 10 :: b) = some (fmtF l, b)
  | l, b, 0, _, h => by omega
  | [], b, n + 1, _, _ => by
    rw [chL]
    have : fmtF [] ++ 13 :: 10 :: b = [] ++ 13 :: 10 :: b := rfl
    rw [this, line_at [] b (fun c hc => by cases hc)]; rfl
  | e :: l, b, n + 1, h, hn => by
    have he := h e (.head _)
    have hne : (e.Name ++ 58 :: 32 :: e.Value == []) = false := by cases e.Name <;> rfl
    rw [chL, fmtF_cons, line_at _ _ (lineE he)]
    simp only
    rw [hne, cond_false, ch_fmt l b n (fun x hx => h x (.tail _ hx)) (by simp only [List.length_cons] at hn; omega)]
    simp only [Option.map_some]
    have hf := fmtF_cons e l []
    rw [List.append_nil, List.append_nil] at hf
    rw [hf]
theorem suf_app (x s : List UInt8) : sufT (x ++ s) s = true := by
  unfold sufT
  rw [List.length_append, decide_eq_true (by omega), Nat.add_sub_cancel, List.drop_left, beq_self_eq_true]; rfl
theorem take_suf {x s : List UInt8} {n : Nat} (h : n = s.length) : (x ++ s).take ((x ++ s).length - n) = x := by
  rw [h, List.length_append, Nat.add_sub_cancel, List.take_left]
theorem badH_el {x : List UInt8} (h : noB badH x = true) : ∀ c ∈ x, badV c = false ∧ blank c = false := by
  rw [noB_all] at h
  have tab : ∀ j : Fin 256, badH (UInt8.ofNat j.val) = false → badV (UInt8.ofNat j.val) = false ∧ blank (UInt8.ofNat j.val) = false := by decide +kernel
  intro c hc
  have h1 := List.all_eq_true.1 h c hc
  have := tab ⟨c.toNat, UInt8.toNat_lt c⟩
  simp only [UInt8.ofNat_toNat] at this
  exact this (by simpa using h1)
theorem badT_el {x : List UInt8} (h : noB badT x = true) : ∀ c ∈ x, c ≠ 13 ∧ c ≠ 32 := by
  rw [noB_all] at h
  intro c hc
  have h1 := List.all_eq_true.1 h c hc
  constructor <;> (intro e; rw [e] at h1; revert h1; decide)
theorem req_back (r : IRequest) : reqP (fmtReq r) = bif isReq r then (r, true) else (noReq, false) := by
  cases hr : isReq r with
  | false => unfold fmtReq; rw [hr]; rfl
  | true =>
    have hq := hr
    unfold isReq at hq
    simp only [Bool.and_eq_true, decide_eq_true_eq] at hq
    obtain ⟨⟨⟨⟨⟨⟨⟨⟨⟨⟨a1, a2⟩, a3⟩, a4⟩, a5⟩, a6⟩, a7⟩, a8⟩, a9⟩, a10⟩, a11⟩ := hq
    have hH := badH_el a2
    have hl40 : r.Host.length ≤ 40 := by unfold inR at a5; simp only [Bool.and_eq_true, decide_eq_true_eq] at a5; omega
    have ha : areF (⟨hostT, r.Host⟩ :: r.Fields) = true := by
      obtain ⟨q1, q2⟩ := areF_iff.1 a8
      refine areF_iff.2 ⟨fun e he => ?_, by simp only [List.length_cons]; omega⟩
      rcases List.mem_cons.1 he with rfl | he
      · exact ⟨(by show nameOK hostT = true; decide), valOK_of (fun c hc => (hH c hc).1) (by simp only; omega) (nob fun c hc => (hH c hc).2)⟩
      · exact q1 e he
    have ht : fmtReq r = (r.Method ++ 32 :: (r.Target ++ ver9)) ++ 13 :: 10 :: (fmtF (⟨hostT, r.Host⟩ :: r.Fields) ++ crl) := by
      unfold fmtReq
      rw [hr, cond_true]
      simp [fmtQ, fmtF, fmtE, ver9, crl, hostT]
    have hn13 : ∀ c ∈ r.Method ++ 32 :: (r.Target ++ ver9), c ≠ 13 := fun c hc => by
      rcases List.mem_append.1 hc with hc | hc
      · exact tok_ne a4 (by decide) c hc
      · rcases List.mem_cons.1 hc with rfl | hc
        · decide
        · rcases List.mem_append.1 hc with hc | hc
          · exact (badT_el a3 c hc).1
          · have hv : ∀ c ∈ ver9, c ≠ 13 := by decide
            exact hv c hc
    unfold reqP
    rw [ht, line_at _ _ hn13]
    simp only
    rw [sp_at _ _ (tok_ne a4 (by decide))]
    simp only
    rw [suf_app, suf_app, take_suf (n := 2) (s := crl) rfl, take_suf (n := 9) (s := ver9) rfl, parseF_fmt ha]
    unfold goodQ
    rw [take_suf (n := 9) (s := ver9) rfl]
    have e0 : fstF (⟨hostT, r.Host⟩ :: r.Fields) = ⟨hostT, r.Host⟩ := rfl
    rw [e0]
    simp only [List.drop_succ_cons, List.drop_zero, hr]
    rfl
theorem dd_dig (n : Nat) : ∀ m, m ≤ n → ∀ c ∈ dd m, 48 ≤ c.toNat ∧ c.toNat ≤ 57 := by
  induction n with
  | zero => intro m hm c hc; have : m = 0 := by omega
            subst this; simp [dd] at hc
  | succ n ih =>
    intro m hm c hc
    by_cases h0 : m = 0
    · subst h0; simp [dd] at hc
    · rw [dd_step h0] at hc
      rcases List.mem_append.1 hc with hc | hc
      · exact ih (m / 10) (by omega) c hc
      · rw [List.mem_singleton] at hc
        subst hc
        rw [UInt8.toNat_ofNat']
        omega
theorem itoa_dig (m : Nat) : ∀ c ∈ Lib.itoa (m : Int), 48 ≤ c.toNat ∧ c.toNat ≤ 57 := by
  rw [itoa_dd]
  by_cases h0 : m = 0
  · subst h0; intro c hc; rw [if_pos (by rfl), List.mem_singleton] at hc; subst hc; decide
  · rw [if_neg (by omega), if_neg (by omega), Int.natAbs_natCast]
    exact dd_dig m m (Nat.le_refl _)
theorem dig_ok {c : UInt8} (h : 48 ≤ c.toNat ∧ c.toNat ≤ 57) : badV c = false ∧ blank c = false ∧ c ≠ 13 := by
  have tab : ∀ j : Fin 256, 48 ≤ (UInt8.ofNat j.val).toNat ∧ (UInt8.ofNat j.val).toNat ≤ 57 → badV (UInt8.ofNat j.val) = false ∧ blank (UInt8.ofNat j.val) = false ∧ (UInt8.ofNat j.val) ≠ 13 := by decide +kernel
  have := tab ⟨c.toNat, UInt8.toNat_lt c⟩
  simp only [UInt8.ofNat_toNat] at this
  exact this h
theorem resp_back (x : IResponse) : respP (fmtResp x) = bif isResp x then (x, true) else (noResp, false) := by
  cases hr : isResp x with
  | false => unfold fmtResp; rw [hr]; rfl
  | true =>
    have hq := hr
    unfold isResp at hq
    simp only [Bool.and_eq_true, decide_eq_true_eq] at hq
    obtain ⟨⟨⟨⟨a1, a2⟩, a3⟩, a4⟩, a5⟩ := hq
    obtain ⟨c1, c2⟩ := isResp_code hr
    obtain ⟨m, hm⟩ := Int.eq_ofNat_of_zero_le (by omega : 0 ≤ x.Code)
    obtain ⟨q1, q2⟩ := areF_iff.1 a2
    have hd := itoa_dig x.Body.length
    have hls := itoa_short (m := x.Body.length) (by omega)
    generalize hl : x.Fields ++ [⟨clen, Lib.itoa (x.Body.length : Int)⟩] = l
    have hla : areF l = true := by
      rw [← hl]
      refine areF_iff.2 ⟨fun e he => ?_, by simp only [List.length_append, List.length_cons, List.length_nil]; omega⟩
      rcases List.mem_append.1 he with he | he
      · exact q1 e he
      · rw [List.mem_singleton] at he
        subst he
        exact ⟨(by show nameOK clen = true; decide), valOK_of (fun c hc => (dig_ok (hd c hc)).1) (by simp only; omega) (nob fun c hc => (dig_ok (hd c hc)).2.1)⟩
    have ht : fmtResp x = (verH ++ Lib.itoa x.Code) ++ 13 :: 10 :: (fmtF l ++ 13 :: 10 :: x.Body) := by
      unfold fmtResp
      rw [hr, cond_true, ← hl]
      simp [fmtR, fmtF, fmtE, verH, clen]
    have hn13 : ∀ c ∈ verH ++ Lib.itoa x.Code, c ≠ 13 := fun c hc => by
      rcases List.mem_append.1 hc with hc | hc
      · have hv : ∀ c ∈ verH, c ≠ 13 := by decide
        exact hv c hc
      · rw [hm] at hc
        exact (dig_ok (itoa_dig m c hc)).2.2
    have hfl := fmtF_len l
    have hh : headL (fmtResp x) = some (verH ++ Lib.itoa x.Code, fmtF l, x.Body) := by
      unfold headL
      rw [ht, line_at _ _ hn13]
      simp only
      rw [ch_fmt l x.Body _ (areF_iff.1 hla).1 (by simp only [List.length_append, List.length_cons]; omega)]
      rfl
    unfold respP
    rw [hh]
    simp only
    rw [parseF_fmt hla]
    have e1 : (verH ++ Lib.itoa x.Code).take 9 = verH := rfl
    have e2 : (verH ++ Lib.itoa x.Code).drop 9 = Lib.itoa x.Code := rfl
    have e3 : pInt (Lib.itoa x.Code) = (x.Code, true) := by rw [hm]; exact pInt_itoa (by omega)
    have e4 : lastF l = ⟨clen, Lib.itoa (x.Body.length : Int)⟩ := by
      unfold lastF
      rw [← hl]
      simp
    have e5 : l.length ≠ 0 := by rw [← hl]; simp
    have e6 : l.take (l.length - 1) = x.Fields := by rw [← hl]; simp
    unfold goodR
    simp only [e1, e2, e3, e4, e6, decide_eq_true e5, beq_self_eq_true, Bool.true_and]
    have e7 : isResp ⟨x.Code, x.Fields, x.Body⟩ = true := hr
    rw [e7]
theorem S_l5Draw_loop2 {k : Nat} : ∀ (n j : Nat) (r : List IField) (b : List Int) (i h : Int), j < n → r.length + j ≤ 100 → CurOk ⟨b, i, h⟩ → (∀ e ∈ r, e.Name.length ≤ 20 ∧ e.Value.length ≤ 60) →
    ∃ b' i' h' t, S_l5Draw_b0 k n (j : Int) b i h r = some (b', i', h', t) ∧ t.length ≤ r.length + j ∧ CurOk ⟨b', i', h'⟩ ∧ ∀ e ∈ t, e.Name.length ≤ 20 ∧ e.Value.length ≤ 60 := by
  intro n
  induction n with
  | zero => intro j r b i h hj; omega
  | succ n ih =>
    intro j r b i h hj hx hc hr
    rw [S_l5Draw_b0, bif_dec]
    cases j with
    | zero => rw [if_neg (by omega)]; exact ⟨_, _, _, _, rfl, by omega, hc, hr⟩
    | succ j =>
      rw [if_pos (by omega)]
      obtain ⟨s1, c1, e1, l1, h1⟩ := S_l1Str_len (k := k) hc (l := [([97, 99, 99, 101, 112, 116, 45, 108, 97, 110, 103, 117, 97, 103, 101] : List UInt8), ([97] : List UInt8), ([98] : List UInt8), ([99, 97, 99, 104, 101, 45, 99, 111, 110, 116, 114, 111, 108] : List UInt8), ([120, 45, 107] : List UInt8), ([97] : List UInt8)]) (by decide) (n := 20) (by decide)
      rw [e1, Option.bind_some]
      obtain ⟨s2, c2, e2, l2, h2⟩ := S_l1Str_len (k := k) h1 (l := [([] : List UInt8), ([100, 101, 44, 32, 101, 110] : List UInt8), ([110, 111, 45, 99, 97, 99, 104, 101] : List UInt8), ([49] : List UInt8), ([120, 32, 32, 121] : List UInt8), ([109, 97, 120, 45, 97, 103, 101, 61, 53] : List UInt8), ([34, 113, 34] : List UInt8)]) (by decide) (n := 60) (by decide)
      simp only [e2, Option.bind_some]
      rw [appn_ok (by simp only [List.length_cons, List.length_nil]; omega), Option.bind_some, wrap_pred (by omega)]
      obtain ⟨b', i', h', t, e, hl, hc', ht⟩ := ih j (r ++ [⟨s1, s2⟩]) c2.b c2.i c2.h (by omega) (by simp only [List.length_append, List.length_cons, List.length_nil]; omega) h2 (fun e he => by
        rcases List.mem_append.1 he with he | he
        · exact hr e he
        · have : e = ⟨s1, s2⟩ := by simpa using he
          subst this; exact ⟨l1, l2⟩)
      exact ⟨b', i', h', t, e, by simp only [List.length_append, List.length_cons, List.length_nil] at hl; omega, hc', ht⟩
theorem S_l5Draw_tot2 {k : Nat} (hk : 1073741824 ≤ k) {c : Sl1Cur} (h : CurOk c) : ∃ t c', S_l5Draw k c = some (t, c') ∧ CurOk c' ∧ t.length ≤ 5 ∧ ∀ e ∈ t, e.Name.length ≤ 20 ∧ e.Value.length ≤ 60 := by
  unfold S_l5Draw
  obtain ⟨v, c1, e1, ⟨a1, b1⟩, h1⟩ := S_l1Below_tot (k := k) h (n := 6) (by omega)
  obtain ⟨m, rfl⟩ := Int.eq_ofNat_of_zero_le a1
  rw [e1, Option.bind_some]
  obtain ⟨b', i', h', t, e, hl, hc', ht⟩ := S_l5Draw_loop2 (k := k) k m [] c1.b c1.i c1.h (by omega) (by simp only [List.length_nil]; omega) h1 (by simp)
  simp only [e, Option.bind_some]
  exact ⟨t, _, rfl, hc', by simp only [List.length_nil] at hl; omega, ht⟩
theorem S_l11Request_tot2 {k : Nat} (hk : 1073741824 ≤ k) {c : Sl1Cur} (h : CurOk c) : ∃ r c', S_l11Request k c = some (r, c') ∧ CurOk c' ∧ (r.Method.length ≤ 20 ∧ r.Host.length ≤ 20 ∧ r.Target.length ≤ 20) ∧ r.Fields.length ≤ 5 ∧ ∀ e ∈ r.Fields, e.Name.length ≤ 20 ∧ e.Value.length ≤ 60 := by
  unfold S_l11Request
  obtain ⟨v1, c1, e1, l1, h1⟩ := S_l1Str_len (k := k) h (l := [([71, 69, 84] : List UInt8), ([71, 69, 84] : List UInt8), ([71, 69, 84] : List UInt8), ([72, 69, 65, 68] : List UInt8), ([80, 79, 83, 84] : List UInt8), ([103, 101, 116] : List UInt8)]) (by decide) (n := 20) (by decide)
  obtain ⟨v2, c2, e2, l2, h2⟩ := S_l1Str_len (k := k) h1 (l := [([104, 46, 101, 120, 97, 109, 112, 108, 101] : List UInt8), ([104, 46, 101, 120, 97, 109, 112, 108, 101] : List UInt8), ([120] : List UInt8), ([72] : List UInt8)]) (by decide) (n := 20) (by decide)
  obtain ⟨v3, c3, e3, l3, h3⟩ := S_l11Target_tot (k := k) h2
  obtain ⟨v4, c4, e4, h4, n4, l4⟩ := S_l5Draw_tot2 hk h3
  obtain ⟨v5, c5, e5, h5⟩ := S_l1Once_tot (k := k) h4 (n := 12) (by omega)
  simp only [e1, Option.bind_some, e2, e3, e4, e5]
  cases v5 with
  | false => exact ⟨_, _, rfl, h5, ⟨l1, l2, l3⟩, n4, l4⟩
  | true =>
    obtain ⟨v6, c6, e6, l6, h6⟩ := S_l1Str_len (k := k) h5 (l := [([97] : List UInt8), ([47, 97, 32, 98] : List UInt8), ([47, 195, 169] : List UInt8), ([42] : List UInt8)]) (by decide) (n := 20) (by decide)
    have e6' : S_l1Str k (⟨c5.b, c5.i, c5.h⟩ : Sl1Cur) [([97] : List UInt8), ([47, 97, 32, 98] : List UInt8), ([47, 195, 169] : List UInt8), ([42] : List UInt8)] = some (v6, c6) := e6
    simp only [S_l11Request_c16, cond_true, e6', Option.bind_some]
    exact ⟨_, _, rfl, h6, ⟨l1, l2, l6⟩, n4, l4⟩
theorem S_l1Int_tot {k : Nat} {c : Sl1Cur} (h : CurOk c) {l : List Int} (h0 : 0 < l.length) : ∃ v c', S_l1Int k c l = some (v, c') ∧ v ∈ l ∧ CurOk c' := by
  unfold S_l1Int
  obtain ⟨v, c1, e1, ⟨a1, b1⟩, h1⟩ := S_l1Below_tot (k := k) h (n := (l.length : Int)) (by omega)
  obtain ⟨m, rfl⟩ := Int.eq_ofNat_of_zero_le a1
  rw [e1, Option.bind_some, idx_nat (by omega), Option.bind_some]
  exact ⟨_, _, rfl, List.getElem_mem _, h1⟩
theorem req_small {r : IRequest} (hm : r.Method.length ≤ 60) (hh : r.Host.length ≤ 60) (ht : r.Target.length ≤ 300) (hn : r.Fields.length ≤ 5) (hf : ∀ e ∈ r.Fields, e.Name.length ≤ 20 ∧ e.Value.length ≤ 60) : ReqIn r := by
  have z := fsz_le (l := r.Fields) (n := 60) fun e he => (hf e he).2
  exact ⟨by omega, by omega, by omega, by omega, fun e he => by have := hf e he; omega⟩
theorem S_DrawFormatRequest_tot {k : Nat} (hk : 1073741824 ≤ k) {x : List Int} (hx : x.length ≤ 1048576) : ∃ r, S_DrawFormatRequest k x = some r ∧ ReqIn r ∧ r.Method.length ≤ 20 ∧ r.Host.length ≤ 20 ∧ r.Target.length ≤ 20 ∧ r.Fields.length ≤ 5 ∧ ∀ e ∈ r.Fields, e.Name.length ≤ 20 ∧ e.Value.length ≤ 60 := by
  unfold S_DrawFormatRequest
  obtain ⟨c0, e0, h0⟩ := S_l1New_tot hk hx
  obtain ⟨r, c1, e1, h1, ⟨m1, m2, m3⟩, n1, f1⟩ := S_l11Request_tot2 hk h0
  rw [e0, Option.bind_some, e1, Option.bind_some]
  exact ⟨r, rfl, req_small (by omega) (by omega) (by omega) n1 f1, m1, m2, m3, n1, f1⟩
theorem S_DrawFormatResponse_tot {k : Nat} (hk : 1073741824 ≤ k) {x : List Int} (hx : x.length ≤ 1048576) : ∃ r, S_DrawFormatResponse k x = some r ∧ r.Body.length ≤ 20 ∧ r.Fields.length ≤ 6 ∧ ∀ e ∈ r.Fields, e.Name.length ≤ 20 ∧ e.Value.length ≤ 60 := by
  unfold S_DrawFormatResponse S_l11Response
  obtain ⟨c0, e0, h0⟩ := S_l1New_tot hk hx
  obtain ⟨v1, c1, e1, _, h1⟩ := S_l1Int_tot (k := k) h0 (l := [(200 : Int), (200 : Int), (304 : Int), (404 : Int), (206 : Int), (199 : Int), (600 : Int)]) (by simp)
  obtain ⟨t, c2, e2, h2, n2, f2⟩ := S_l5Draw_tot2 hk h1
  obtain ⟨b, c3, e3, l3, h3⟩ := S_l1Str_len (k := k) h2 (l := [([] : List UInt8), ([104, 105] : List UInt8), ([97, 13, 10, 13, 10, 98] : List UInt8), ([84, 104, 101, 32, 113, 117, 105, 99, 107, 32, 98, 114, 111, 119, 110, 32, 102, 111, 120, 46] : List UInt8)]) (by decide) (n := 20) (by decide)
  obtain ⟨v4, c4, e4, h4⟩ := S_l1Once_tot (k := k) h3 (n := 9) (by omega)
  simp only [e0, e1, e2, e3, e4, Option.bind_some]
  cases v4 with
  | false => exact ⟨_, rfl, l3, by simp only; omega, f2⟩
  | true =>
    simp only [S_l11Response_c14, cond_true]
    rw [appn_ok (by simp only [List.length_cons, List.length_nil]; omega)]
    simp only [Option.bind_some]
    refine ⟨_, rfl, l3, by simp only [List.length_append, List.length_cons, List.length_nil]; omega, fun e he => ?_⟩
    rcases List.mem_append.1 he with he | he
    · exact f2 e he
    · rw [List.mem_singleton] at he
      subst he
      exact ⟨by decide, by decide⟩
theorem fmtF_up {N : Nat} : ∀ {l : List IField}, (∀ e ∈ l, e.Name.length + e.Value.length ≤ N) → (fmtF l).length ≤ l.length * (N + 4)
  | [], _ => by simp [fmtF]
  | e :: l, h => by
    have h1 := h e (.head _)
    have h2 := fmtF_up (l := l) fun x hx => h x (.tail _ hx)
    have h3 := congrArg List.length (fmtF_cons e l [])
    simp only [List.append_nil, List.length_append, List.length_cons] at h3
    rw [List.length_cons, Nat.add_mul]
    omega
theorem I_FormatRequest_eq2 {k : Nat} (hk : 1073741824 ≤ k) (r : IRequest) (h : ReqIn r) (f2 : (fmtF r.Fields).length ≤ 100000) : I_FormatRequest k r = some (fmtReq r) := by
  have hl : r.Fields.length < 268435456 := by have := h.f; unfold fsz at this; omega
  have hm := h.m
  have hh := h.h
  have ht := h.t
  have f1 := I_FormatFields_eq hk r.Fields (by omega) h.s
  rw [I_FormatRequest, I_IsRequest_eq hk r h, Option.bind_some]
  unfold fmtReq
  cases isReq r with
  | false => rfl
  | true =>
    rw [Bool.not_true, cond_false, cond_true, cat_ok (by simp; omega), Option.bind_some, cat_ok (by simp; omega), Option.bind_some, cat_ok (by simp; omega), Option.bind_some, cat_ok (by simp; omega), Option.bind_some, cat_ok (by simp; omega), Option.bind_some, cat_ok (by simp; omega), Option.bind_some, cat_ok (by simp; omega), Option.bind_some, f1, Option.bind_some, cat_ok (by simp; omega), Option.bind_some, cat_ok (by simp; omega), Option.bind_some]
    unfold fmtQ
    simp only [List.append_assoc, List.cons_append, List.nil_append]
theorem I_FormatResponse_eq2 {k : Nat} (hk : 1073741824 ≤ k) (x : IResponse) (h : fsz x.Fields < 268435456) (hs : shortF x.Fields) (hb : x.Body.length ≤ 1048576) (f2 : (fmtF x.Fields).length ≤ 100000) : I_FormatResponse k x = some (fmtResp x) := by
  have hl : x.Fields.length < 1073741824 := by unfold fsz at h; omega
  rw [I_FormatResponse, I_IsResponse_eq hk x h hs, Option.bind_some]
  unfold fmtResp
  cases hc : isResp x with
  | false => rfl
  | true =>
    obtain ⟨c1, c2⟩ := isResp_code hc
    have f1 := I_FormatFields_eq hk x.Fields hl hs
    have l1 := itoa_len (n := x.Code) (by omega) (by omega)
    have l2 := itoa_len (n := (x.Body.length : Int)) (by omega) (by omega)
    rw [Bool.not_true, cond_false, cond_true, I_FormatInt_eq _ (by omega) (by omega), Option.bind_some, cat_ok (by simp; omega), Option.bind_some, cat_ok (by simp; omega), Option.bind_some, f1, Option.bind_some, cat_ok (by simp; omega), Option.bind_some, cat_ok (by simp; omega), Option.bind_some,
      I_FormatInt_eq _ (by omega) (by omega), Option.bind_some, cat_ok (by simp; omega), Option.bind_some, cat_ok (by simp; omega), Option.bind_some, cat_ok (by simp; omega), Option.bind_some, cat_ok (by simp; omega), Option.bind_some]
    unfold fmtR
    simp only [List.append_assoc, List.cons_append, List.nil_append]
theorem FnMessages_pure {k : Nat} (hk : 1073741824 ≤ k) (a0 : List Int) (h0 : InL InB a0) : L_FnMessages k a0 = some true := by
  unfold L_FnMessages
  rw [L_big_eq, Option.bind_some, bif_dec]
  by_cases c1 : (a0.length : Int) > 1048576
  · rw [if_pos c1]
  rw [if_neg c1]
  have ha : a0.length ≤ 1048576 := by omega
  obtain ⟨r, e1, ri, m1, m2, m3, m4, m5⟩ := S_DrawFormatRequest_tot hk ha
  obtain ⟨x, e2, n1, n2, n3⟩ := S_DrawFormatResponse_tot hk ha
  have z := fsz_le (l := x.Fields) (n := 60) fun e he => (n3 e he).2
  have zf : fsz x.Fields < 268435456 := by omega
  have zs : shortF x.Fields := fun e he => by have := n3 e he; omega
  have u1 := fmtF_up (N := 80) (l := r.Fields) fun e he => by have := m5 e he; omega
  have u2 := fmtF_up (N := 80) (l := x.Fields) fun e he => by have := n3 e he; omega
  have b1 : (fmtReq r).length ≤ 1048576 := by
    unfold fmtReq
    cases isReq r with
    | false => simp
    | true => simp [fmtQ]; omega
  have b2 : (fmtResp x).length ≤ 1048576 := by
    unfold fmtResp
    cases hx : isResp x with
    | false => simp
    | true =>
      obtain ⟨c1, c2⟩ := isResp_code hx
      have l1 := itoa_len (n := x.Code) (by omega) (by omega)
      have l2 := itoa_len (n := (x.Body.length : Int)) (by omega) (by omega)
      simp [fmtR]; omega
  have hsr : I_SameResponse k x x = some true := by
    rw [I_SameResponse, beq_self_eq_true, cond_true, I_SameFields_eq hk _ _ (by omega), Option.bind_some, decide_eq_true rfl, cond_true, beq_self_eq_true]
  rw [e1, Option.bind_some, I_FormatRequest_eq2 hk r ri (by omega), Option.bind_some, I_ParseRequest_eq hk _ b1, Option.bind_some, e2, Option.bind_some, I_FormatResponse_eq2 hk x zf zs (by omega) (by omega), Option.bind_some, I_ParseResponse_eq hk _ b2, Option.bind_some,
    S_IsRequest_eq hk r ri, Option.bind_some, S_IsResponse_eq hk x zf zs, Option.bind_some, req_back, resp_back]
  cases hq : isReq r with
  | false =>
    cases hp : isResp x with
    | false => rfl
    | true => simp only [cond_true, cond_false, Bool.not_true, Bool.not_false, beq_self_eq_true, hsr, Option.bind_some]
  | true =>
    have hsf : I_SameFields k r.Fields r.Fields = some true := by rw [I_SameFields_eq hk _ _ (by omega), decide_eq_true rfl]
    cases hp : isResp x with
    | false => simp only [cond_true, cond_false, Bool.not_true, Bool.not_false, beq_self_eq_true, hsf, Option.bind_some]
    | true => simp only [cond_true, cond_false, Bool.not_true, Bool.not_false, beq_self_eq_true, hsf, hsr, Option.bind_some]
end
end Go.YtolmhhnhmbiofaaGreatDoor
