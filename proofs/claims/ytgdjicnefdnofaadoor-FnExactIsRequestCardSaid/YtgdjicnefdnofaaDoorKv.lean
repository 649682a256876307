/- What the functions come to. Nothing is claimed here. -/
import Derived.Test.YtgdjicnefdnofaaDoorKu
set_option linter.unusedVariables false
set_option linter.unusedSimpArgs false
set_option maxRecDepth 100000
namespace Go.YtgdjicnefdnofaaDoor
open Go Go.RowKit Go.Pv Go.Pu

/-! Text without blanks around it. -/
def blank (c : UInt8) : Bool := c == 32 || c == 9
def rtrim (x : List UInt8) : List UInt8 := (x.reverse.dropWhile blank).reverse
def trimT (x : List UInt8) : List UInt8 := rtrim (x.dropWhile blank)
theorem rtrim_cons (e : UInt8) (l : List UInt8) : rtrim (e :: l) = if rtrim l = [] then (if blank e then [] else [e]) else e :: rtrim l := by
  unfold rtrim
  rw [List.reverse_cons, List.dropWhile_append]
  cases h : l.reverse.dropWhile blank with
  | nil => cases hb : blank e <;> simp [List.dropWhile_cons, hb]
  | cons a m => simp
theorem rtrim_snoc (l : List UInt8) (c : UInt8) : rtrim (l ++ [c]) = if blank c then rtrim l else l ++ [c] := by
  unfold rtrim
  rw [List.reverse_append]
  cases hb : blank c <;> simp [List.dropWhile_cons, hb]
theorem trim_comm : ∀ x : List UInt8, rtrim (x.dropWhile blank) = (rtrim x).dropWhile blank
  | [] => rfl
  | e :: l => by
    have ih := trim_comm l
    rw [rtrim_cons, List.dropWhile_cons]
    cases hb : blank e with
    | true =>
      by_cases h : rtrim l = []
      · rw [h] at ih; simp [h, ih]
      · simp [h, List.dropWhile_cons, hb, ih]
    | false =>
      rw [if_neg (by simp), rtrim_cons]
      by_cases h : rtrim l = []
      · simp [h, List.dropWhile_cons, hb]
      · simp [h, List.dropWhile_cons, hb]
theorem trimS_eq (x : List UInt8) : Lib.trimS x [32, 9] = trimT x := by
  have hc : (fun b : UInt8 => ([32, 9] : List UInt8).contains b) = blank := by
    funext b; unfold blank
    simp only [List.contains, List.elem]
    cases h1 : (b == 32) <;> cases h2 : (b == 9) <;> rfl
  unfold Lib.trimS Lib.trimLeftS Lib.trimRightS trimT
  rw [hc, trim_comm]; rfl
theorem rtrim_len (x : List UInt8) : (rtrim x).length ≤ x.length := by
  unfold rtrim
  have := (List.dropWhile_sublist blank (l := x.reverse)).length_le
  simpa using this
theorem trimT_len (x : List UInt8) : (trimT x).length ≤ x.length := by
  have h1 := (List.dropWhile_sublist blank (l := x)).length_le
  have h2 := rtrim_len (x.dropWhile blank)
  unfold trimT; omega
theorem I_TrimText_eq {k : Nat} (x : List UInt8) (h : x.length < 1073741824) : I_TrimText k x = some (trimT x) := by
  have hd : (decide (x.length ≤ 9223372036854775807) && decide (([32, 9] : List UInt8).length < 4294967281) && ([32, 9] : List UInt8).all (fun b => decide (b.toNat < 128))) = true := by
    rw [Bool.and_eq_true, Bool.and_eq_true]; exact ⟨⟨decide_eq_true (by omega), by decide⟩, by decide⟩
  rw [I_TrimText, strings_Trim, trimO, hd, cond_true, trimS_eq]; rfl
theorem S_l4Blank_eq {k : Nat} (c : UInt8) : S_l4Blank k (UInt8.toNat c : Int) = some (blank c) := by
  have h1 := u8_eq c 32
  have h2 := u8_eq c 9
  rw [S_l4Blank, show (32 : Int) = ((32 : UInt8).toNat : Int) from rfl, h1, show (9 : Int) = ((9 : UInt8).toNat : Int) from rfl, h2]
  unfold blank
  cases (c == 32) <;> rfl
theorem S_Trim_1 {k : Nat} : ∀ (n : Nat) (x : List UInt8), x.length < n → x.length < 1073741824 → S_TrimText_b0 k n x = some (x.dropWhile blank) := by
  intro n
  induction n with
  | zero => intro x h; omega
  | succ n ih =>
    intro x h hx
    rw [S_TrimText_b0, bif_dec]
    cases x with
    | nil => rw [if_neg (by simp)]; rfl
    | cons c l =>
      have e : idx (c :: l) (0 : Int) = some c := rfl
      have hs : ssub (c :: l) (1 : Int) ((c :: l).length : Int) = some l := by
        have := ssub_drop (x := c :: l) (i := 1) (by simp)
        simpa using this
      rw [if_pos (by rw [List.length_cons]; omega), e, Option.bind_some, S_l4Blank_eq, Option.bind_some, List.dropWhile_cons]
      cases blank c with
      | true => rw [cond_true, hs, Option.bind_some, ih l (by simp at h; omega) (by simp at hx; omega), if_pos rfl]
      | false => rw [cond_false, if_neg (by simp)]
theorem S_Trim_2 {k : Nat} : ∀ (n : Nat) (x : List UInt8), x.length < n → x.length < 1073741824 → S_TrimText_b2 k n x = some (rtrim x) := by
  intro n
  induction n with
  | zero => intro x h; omega
  | succ n ih =>
    intro x h hx
    rw [S_TrimText_b2, bif_dec]
    rcases List.eq_nil_or_concat x with rfl | ⟨l, c, rfl⟩
    · rw [if_neg (by simp)]; rfl
    · rw [List.concat_eq_append] at *
      have hl : (l ++ [c]).length = l.length + 1 := by simp
      have e1 : IntKind.wrap .i64 (((l ++ [c]).length : Int) - 1) = (l.length : Int) := by rw [wrap_id (by omega) (by omega)]; omega
      have e2 : idx (l ++ [c]) (l.length : Int) = some c := by
        show (l ++ [c])[l.length]? = some c
        simp
      have e3 : ssub (l ++ [c]) (0 : Int) (l.length : Int) = some l := by
        rw [ssub_take (by omega)]; simp
      rw [if_pos (by omega), e1, e2, Option.bind_some, S_l4Blank_eq, Option.bind_some, rtrim_snoc]
      cases blank c with
      | true => rw [cond_true, e3, Option.bind_some, ih l (by omega) (by omega), if_pos rfl]
      | false => rw [cond_false, if_neg (by simp)]
theorem S_TrimText_eq {k : Nat} (hk : 1073741824 ≤ k) (x : List UInt8) (h : x.length < 1073741824) : S_TrimText k x = some (trimT x) := by
  have h1 := (List.dropWhile_sublist blank (l := x)).length_le
  rw [S_TrimText, S_Trim_1 k x (by omega) h, Option.bind_some, S_Trim_2 k _ (by omega) (by omega)]; rfl
/-! Text in small letters. -/
def lowB (c : UInt8) : UInt8 := bif decide (65 ≤ c.toNat) && decide (c.toNat ≤ 90) then c + 32 else c
def lowT (s : List UInt8) : List UInt8 := s.map lowB
theorem lowB_add : ∀ j : Fin 256, (65 ≤ j.val ∧ j.val ≤ 90) → IntKind.wrap .u8 ((j.val : Int) + 32) = (((UInt8.ofNat j.val) + 32).toNat : Int) := by decide +kernel
theorem low_wrap (c : UInt8) (h : 65 ≤ c.toNat ∧ c.toNat ≤ 90) : IntKind.wrap .u8 ((c.toNat : Int) + 32) = ((c + 32).toNat : Int) := by
  have := lowB_add ⟨c.toNat, UInt8.toNat_lt c⟩ h
  simpa using this
theorem bytes_ints (s : List UInt8) : bytesOf (intsOf s) = s := by
  unfold bytesOf intsOf
  rw [List.map_map]
  conv => rhs; rw [← List.map_id s]
  refine List.map_congr_left fun c _ => ?_
  simp
theorem ints_len (s : List UInt8) : (intsOf s).length = s.length := by unfold intsOf; simp
theorem ints_idx {s : List UInt8} {i : Nat} (h : i < s.length) : idx (intsOf s) (i : Int) = some (s[i].toNat : Int) := by
  rw [idx_nat (by rw [ints_len]; exact h)]; simp [intsOf]
theorem ints_set (s : List UInt8) (i : Nat) (c : UInt8) : (intsOf s).set i (c.toNat : Int) = intsOf (s.set i c) := by
  unfold intsOf; rw [List.map_set]
theorem low_loop {L : Nat} {F : Nat → Int → List Int → Option (List Int)} (T : ∀ n (i : Nat) (s : List UInt8) (h : i < s.length), s.length = L → F (n + 1) (i : Int) (intsOf s) = F n ((i + 1 : Nat) : Int) (intsOf (s.set i (lowB s[i]))))
    (E : ∀ n (i : Nat) (s : List UInt8), s.length ≤ i → s.length = L → F (n + 1) (i : Int) (intsOf s) = some (intsOf s)) : ∀ (n i : Nat) (s : List UInt8), i ≤ s.length → s.length - i < n → s.length = L → F n (i : Int) (intsOf s) = some (intsOf (s.take i ++ (s.drop i).map lowB)) := by
  intro n
  induction n with
  | zero => intro i s _ h; omega
  | succ n ih =>
    intro i s hi hn hs
    by_cases h : i < s.length
    · rw [T n i s h hs, ih (i + 1) _ (by simp; omega) (by simp; omega) (by simpa using hs)]
      congr 2
      rw [List.drop_eq_getElem_cons h, List.map_cons]
      have e1 : (s.set i (lowB s[i])).take (i + 1) = s.take i ++ [lowB s[i]] := by
        apply List.ext_getElem?
        intro j
        by_cases hj : j < i
        · rw [List.getElem?_take, if_pos (by omega), List.getElem?_set_ne (by omega), List.getElem?_append_left (by simp; omega), List.getElem?_take, if_pos hj]
        · by_cases hj2 : j = i
          · subst hj2
            rw [List.getElem?_take, if_pos (by omega), List.getElem?_set_self h, List.getElem?_append_right (by simp; omega)]
            simp [Nat.min_eq_left (Nat.le_of_lt h)]
          · rw [List.getElem?_take, if_neg (by omega), List.getElem?_eq_none (by simp; omega)]
      have e2 : (s.set i (lowB s[i])).drop (i + 1) = s.drop (i + 1) := by
        apply List.ext_getElem?
        intro j
        rw [List.getElem?_drop, List.getElem?_drop, List.getElem?_set_ne (by omega)]
      rw [e1, e2, List.append_assoc]; rfl
    · rw [E n i s (by omega) hs, List.drop_of_length_le (by omega), List.take_of_length_le (by omega)]; simp
theorem S_LowerText_eq {k : Nat} (hk : 1073741824 ≤ k) (s : List UInt8) (h : s.length < 1073741824) : S_LowerText k s = some (lowT s) := by
  have := low_loop (L := s.length) (F := fun n i r => S_LowerText_b0 k n i r) (fun n i s hi hs => by
    have hb := UInt8.toNat_lt s[i]
    have hlen : ((i : Int) < ((intsOf s).length : Int)) := by rw [ints_len]; omega
    simp only [S_LowerText_b0, bif_dec, hlen, if_true, S_LowerText_b1, ints_idx hi, Option.bind_some, wrap_succ (by omega : i < 9223372036854775807)]
    rw [wrap_id (by omega) (by omega), S_l1In]
    by_cases c1 : 65 ≤ s[i].toNat
    · by_cases c2 : s[i].toNat ≤ 90
      · have e1 : decide ((s[i].toNat : Int) ≥ 65) = true := decide_eq_true (by omega)
        have e2 : decide ((s[i].toNat : Int) ≤ 90) = true := decide_eq_true (by omega)
        have e3 : lowB s[i] = s[i] + 32 := by unfold lowB; rw [decide_eq_true c1, decide_eq_true c2]; rfl
        simp only [e1, e2, S_LowerText_c18, cond_true, Option.bind_some, ints_idx hi, low_wrap _ ⟨c1, c2⟩, Int.toNat_natCast, ints_set, e3]
      · have e1 : decide ((s[i].toNat : Int) ≥ 65) = true := decide_eq_true (by omega)
        have e2 : decide ((s[i].toNat : Int) ≤ 90) = false := decide_eq_false (by omega)
        have e3 : lowB s[i] = s[i] := by unfold lowB; rw [decide_eq_false c2]; simp
        simp only [e1, e2, cond_true, cond_false, Option.bind_some, S_LowerText_c18, e3, List.set_getElem_self]
    · have e1 : decide ((s[i].toNat : Int) ≥ 65) = false := decide_eq_false (by omega)
      have e3 : lowB s[i] = s[i] := by unfold lowB; rw [decide_eq_false c1]; simp
      simp only [e1, cond_false, Option.bind_some, S_LowerText_c18, e3, List.set_getElem_self]) (fun n i s hi _ => by
    have hlen : ¬ ((i : Int) < ((intsOf s).length : Int)) := by rw [ints_len]; omega
    simp only [S_LowerText_b0, bif_dec, hlen, if_false]) k 0 s (by omega) (by omega) rfl
  have h1 : S_LowerText_b0 k k 0 (intsOf s) = some (intsOf (s.take 0 ++ (s.drop 0).map lowB)) := this
  rw [S_LowerText, h1, Option.bind_some, bytes_ints]; simp [lowT]
theorem I_LowerText_eq {k : Nat} (hk : 1073741824 ≤ k) (s : List UInt8) (h : s.length < 1073741824) : I_LowerText k s = some (lowT s) := by
  have := low_loop (L := s.length) (F := fun n i r => I_LowerText_b0 k n (s.length : Int) i r) (fun n i t hi hs => by
    have hb := UInt8.toNat_lt t[i]
    have hlen : ((i : Int) < (s.length : Int)) := by omega
    simp only [I_LowerText_b0, bif_dec, hlen, if_true, I_LowerText_b1, ints_idx hi, Option.bind_some, wrap_succ (by omega : i < 9223372036854775807)]
    by_cases c1 : 65 ≤ t[i].toNat
    · by_cases c2 : t[i].toNat ≤ 90
      · have e1 : ((t[i].toNat : Int) ≥ 65) := by omega
        have e2 : decide ((t[i].toNat : Int) ≤ 90) = true := decide_eq_true (by omega)
        have e3 : lowB t[i] = t[i] + 32 := by unfold lowB; rw [decide_eq_true c1, decide_eq_true c2]; rfl
        simp only [e1, e2, if_true, I_LowerText_c20, cond_true, Option.bind_some, ints_idx hi, low_wrap _ ⟨c1, c2⟩, Int.toNat_natCast, ints_set, e3]
      · have e1 : ((t[i].toNat : Int) ≥ 65) := by omega
        have e2 : decide ((t[i].toNat : Int) ≤ 90) = false := decide_eq_false (by omega)
        have e3 : lowB t[i] = t[i] := by unfold lowB; rw [decide_eq_false c2]; simp
        simp only [e1, e2, if_true, I_LowerText_c20, cond_false, Option.bind_some, e3, List.set_getElem_self]
    · have e1 : ¬ ((t[i].toNat : Int) ≥ 65) := by omega
      have e3 : lowB t[i] = t[i] := by unfold lowB; rw [decide_eq_false c1]; simp
      simp only [e1, if_false, I_LowerText_c20, cond_false, Option.bind_some, e3, List.set_getElem_self]) (fun n i t hi ht => by
    have hlen : ¬ ((i : Int) < (s.length : Int)) := by omega
    simp only [I_LowerText_b0, bif_dec, hlen, if_false]) k 0 s (by omega) (by omega) rfl
  have h1 : I_LowerText_b0 k k (s.length : Int) 0 (intsOf s) = some (intsOf (s.take 0 ++ (s.drop 0).map lowB)) := this
  rw [I_LowerText, ints_len, h1, Option.bind_some, bytes_ints]; simp [lowT]
theorem lowT_len (s : List UInt8) : (lowT s).length = s.length := by unfold lowT; simp
theorem lowB_star : ∀ j : Fin 256, (lowB (UInt8.ofNat j.val) = 42) → UInt8.ofNat j.val = 42 := by decide +kernel
theorem lowT_star (s : List UInt8) : (lowT s == [42]) = (s == [42]) := by
  by_cases h : s = [42]
  · subst h; rfl
  · have h2 : ¬ lowT s = [42] := fun e => by
      cases s with
      | nil => cases e
      | cons c l =>
        cases l with
        | cons d l => simp [lowT] at e
        | nil =>
          simp [lowT] at e
          have := lowB_star ⟨c.toNat, UInt8.toNat_lt c⟩ (by simpa using e)
          simp at this
          exact h (by rw [this])
    rw [beq_eq_false_iff_ne.2 h2, beq_eq_false_iff_ne.2 h]
/-! Tokens. -/
def mk15 : List UInt8 := [33, 35, 36, 37, 38, 39, 42, 43, 45, 46, 94, 95, 124, 126, 96]
def mk14 : List UInt8 := [33, 35, 36, 37, 38, 39, 42, 43, 45, 46, 94, 95, 124, 126]
def letB (c : UInt8) : Bool := (decide (97 ≤ c.toNat) && decide (c.toNat ≤ 122)) || (decide (65 ≤ c.toNat) && decide (c.toNat ≤ 90)) || (decide (48 ≤ c.toNat) && decide (c.toNat ≤ 57))
def mkP (c : UInt8) (i : Nat) : Bool := match mk15[i]? with | some m => c == m | none => false
def tokB (c : UInt8) : Bool := (firstI (mkP c) 15 0).isSome || letB c
theorem S_l4Letter_eq {k : Nat} (c : UInt8) : S_l4Letter k (c.toNat : Int) = some (letB c) := by
  have hb := UInt8.toNat_lt c
  rw [S_l4Letter, wrap_id (by omega) (by omega)]
  simp only [S_l1In, bif_dec, letB]
  by_cases a1 : 97 ≤ c.toNat <;> by_cases a2 : c.toNat ≤ 122 <;> by_cases a3 : 65 ≤ c.toNat <;> by_cases a4 : c.toNat ≤ 90 <;> by_cases a5 : 48 ≤ c.toNat <;> by_cases a6 : c.toNat ≤ 57 <;>
    simp [a1, a2, a3, a4, a5, a6, show ((c.toNat : Int) ≥ 97) = (97 ≤ c.toNat) from by simp; omega, show ((c.toNat : Int) ≤ 122) = (c.toNat ≤ 122) from by simp; omega, show ((c.toNat : Int) ≥ 65) = (65 ≤ c.toNat) from by simp; omega, show ((c.toNat : Int) ≤ 90) = (c.toNat ≤ 90) from by simp; omega, show ((c.toNat : Int) ≥ 48) = (48 ≤ c.toNat) from by simp; omega, show ((c.toNat : Int) ≤ 57) = (c.toNat ≤ 57) from by simp; omega]
theorem S_l4Token_eq {k : Nat} (hk : 1073741824 ≤ k) (c : UInt8) : S_l4Token k (c.toNat : Int) = some (tokB c) := by
  have := find_all (len := 15) (c := fun i => bif mkP c i then some true else none) (F := fun n i => S_l4Token_b0 k n (c.toNat : Int) i) (fun n i hi => by
    have hl : i < mk15.length := hi
    have e : idx ([33, 35, 36, 37, 38, 39, 42, 43, 45, 46, 94, 95, 124, 126, 96] : List UInt8) (i : Int) = some mk15[i] := idx_nat hl
    have e2 : decide ((i : Int) < 15) = true := decide_eq_true (by omega)
    simp only [S_l4Token_b0, e2, cond_true, e, Option.bind_some, u8_eq, wrap_succ (by omega : i < 9223372036854775807), mkP, List.getElem?_eq_getElem hl]
    cases (c == mk15[i]) <;> rfl) (fun n i hi => by
    have e2 : decide ((i : Int) < 15) = false := decide_eq_false (by omega)
    simp only [S_l4Token_b0, e2, cond_false]) (k := k) (by omega)
  rw [S_l4Token, this, findI_first]
  unfold tokB
  cases firstI (mkP c) 15 0 with
  | none => simp [ocOf, oc, S_l4Letter_eq]
  | some j => simp [ocOf, oc]
theorem tok_tab : ∀ j : Fin 256, tokB (UInt8.ofNat j.val) = (letB (UInt8.ofNat j.val) || decide (Lib.indexByte mk14 (UInt8.ofNat j.val) ≥ 0) || (UInt8.ofNat j.val == 96)) := by decide +kernel
theorem tok_eq (c : UInt8) : tokB c = (letB c || decide (Lib.indexByte mk14 c ≥ 0) || (c == 96)) := by
  have := tok_tab ⟨c.toNat, UInt8.toNat_lt c⟩
  simpa using this
theorem I_isTokenByte_eq {k : Nat} (c : UInt8) : I_isTokenByte k (c.toNat : Int) = some (tokB c) := by
  have hb := UInt8.toNat_lt c
  have hi : strings_IndexByte k [33, 35, 36, 37, 38, 39, 42, 43, 45, 46, 94, 95, 124, 126] (c.toNat : Int) = some (Lib.indexByte mk14 c) := by
    rw [strings_IndexByte, indexByteO, Int.toNat_natCast]; simp [mk14]
  have h96 : ((c.toNat : Int) == 96) = (c == 96) := u8_eq c 96
  rw [I_isTokenByte, hi, h96, tok_eq]
  simp only [Option.bind_some, bif_dec, letB]
  by_cases a1 : 97 ≤ c.toNat <;> by_cases a2 : c.toNat ≤ 122 <;> by_cases a3 : 65 ≤ c.toNat <;> by_cases a4 : c.toNat ≤ 90 <;> by_cases a5 : 48 ≤ c.toNat <;> by_cases a6 : c.toNat ≤ 57 <;> by_cases a7 : Lib.indexByte mk14 c ≥ 0 <;>
    simp [a1, a2, a3, a4, a5, a6, a7, show ((c.toNat : Int) ≥ 97) = (97 ≤ c.toNat) from by simp; omega, show ((c.toNat : Int) ≤ 122) = (c.toNat ≤ 122) from by simp; omega, show ((c.toNat : Int) ≥ 65) = (65 ≤ c.toNat) from by simp; omega, show ((c.toNat : Int) ≤ 90) = (c.toNat ≤ 90) from by simp; omega, show ((c.toNat : Int) ≥ 48) = (48 ≤ c.toNat) from by simp; omega, show ((c.toNat : Int) ≤ 57) = (c.toNat ≤ 57) from by simp; omega]
def ntP (x : List UInt8) (i : Nat) : Bool := match x[i]? with | some c => !tokB c | none => false
def inR (n a b : Int) : Bool := decide (a ≤ n) && decide (n ≤ b)
theorem S_l1In_eq {k : Nat} (n a b : Int) : S_l1In k n a b = some (inR n a b) := by
  rw [S_l1In, bif_dec, inR]
  by_cases h : a ≤ n <;> simp [h]
theorem I_inRange_eq {k : Nat} (n a b : Int) : I_inRange k n a b = some (inR n a b) := by
  rw [I_inRange, bif_dec, inR]
  by_cases h : a ≤ n <;> simp [h]
def isTok (x : List UInt8) : Bool := (firstI (ntP x) x.length 0).isNone && inR (x.length : Int) 1 40
theorem S_IsToken_eq {k : Nat} (hk : 1073741824 ≤ k) (x : List UInt8) (h : x.length < 1073741824) : S_IsToken k x = some (isTok x) := by
  have := find_all (len := x.length) (c := fun i => bif ntP x i then some false else none) (F := fun n i => S_IsToken_b0 k n x i) (fun n i hi => by
    simp only [S_IsToken_b0, idx_nat hi, Option.bind_some, wrap_succ (by omega : i < 9223372036854775807), bif_dec, lt_cast, hi, if_true, ntP, List.getElem?_eq_getElem hi, S_l4Token_eq hk]
    cases tokB x[i] <;> rfl) (fun n i hi => by
    simp only [S_IsToken_b0, bif_dec, lt_cast]
    rw [if_neg (by omega)]) (k := k) (by omega)
  rw [S_IsToken, this, findI_first]
  unfold isTok
  cases firstI (ntP x) x.length 0 <;> simp [ocOf, oc, S_l1In_eq]
theorem I_IsToken_eq {k : Nat} (hk : 1073741824 ≤ k) (x : List UInt8) (h : x.length < 1073741824) : I_IsToken k x = some (isTok x) := by
  have := find_all (len := x.length) (c := fun i => bif ntP x i then some false else none) (F := fun n i => I_IsToken_b0 k n x (x.length : Int) i) (fun n i hi => by
    simp only [I_IsToken_b0, idx_nat hi, Option.bind_some, wrap_succ (by omega : i < 9223372036854775807), bif_dec, lt_cast, hi, if_true, ntP, List.getElem?_eq_getElem hi, I_isTokenByte_eq]
    cases tokB x[i] <;> rfl) (fun n i hi => by
    simp only [I_IsToken_b0, bif_dec, lt_cast]
    rw [if_neg (by omega)]) (k := k) (by omega)
  rw [I_IsToken, this, findI_first]
  unfold isTok
  cases firstI (ntP x) x.length 0 <;> simp [ocOf, oc, I_inRange_eq]
/-! Fields that are right. -/
def badV (c : UInt8) : Bool := !inR (c.toNat : Int) 32 126 && c != 9
def bvP (x : List UInt8) (i : Nat) : Bool := match x[i]? with | some c => badV c | none => false
def valOK (x : List UInt8) : Bool := (firstI (bvP x) x.length 0).isNone && decide ((x.length : Int) ≤ 200) && (trimT x == x)
def nameOK (x : List UInt8) : Bool := isTok x && (lowT x == x)
def bfP (l : List IField) (i : Nat) : Bool := match l[i]? with | some e => !nameOK e.Name || !valOK e.Value | none => false
def areF (l : List IField) : Bool := (firstI (bfP l) l.length 0).isNone && decide ((l.length : Int) ≤ 24)
theorem u8_ne9 (c : UInt8) : ((UInt8.toNat c : Int) != (9 : Int)) = (c != 9) := by
  have := u8_eq c 9
  unfold bne
  rw [← this]; rfl
theorem S_l5Value_eq {k : Nat} (hk : 1073741824 ≤ k) (x : List UInt8) (h : x.length < 1073741824) : S_l5Value k x = some (valOK x) := by
  have := find_all (len := x.length) (c := fun i => bif bvP x i then some false else none) (F := fun n i => S_l5Value_b0 k n x i) (fun n i hi => by
    have hb := UInt8.toNat_lt x[i]
    simp only [S_l5Value_b0, idx_nat hi, Option.bind_some, wrap_succ (by omega : i < 9223372036854775807), bif_dec, lt_cast, hi, if_true, bvP, List.getElem?_eq_getElem hi, badV, u8_ne9]
    rw [wrap_id (by omega) (by omega), S_l1In_eq, Option.bind_some]
    cases inR (x[i].toNat : Int) 32 126 <;> cases (x[i] != 9) <;> rfl) (fun n i hi => by
    simp only [S_l5Value_b0, bif_dec, lt_cast]
    rw [if_neg (by omega)]) (k := k) (by omega)
  rw [S_l5Value, this, findI_first, S_TrimText_eq hk x h]
  unfold valOK
  cases firstI (bvP x) x.length 0 with
  | none => cases decide ((x.length : Int) ≤ 200) <;> simp [ocOf, oc]
  | some j => simp [ocOf, oc]
theorem I_isFieldValue_eq {k : Nat} (hk : 1073741824 ≤ k) (x : List UInt8) (h : x.length < 1073741824) : I_isFieldValue k x = some (valOK x) := by
  have := find_all (len := x.length) (c := fun i => bif bvP x i then some false else none) (F := fun n i => I_isFieldValue_b0 k n x (x.length : Int) i) (fun n i hi => by
    have hb := UInt8.toNat_lt x[i]
    simp only [I_isFieldValue_b0, idx_nat hi, Option.bind_some, wrap_succ (by omega : i < 9223372036854775807), bif_dec, lt_cast, hi, if_true, bvP, List.getElem?_eq_getElem hi, badV, u8_ne9]
    rw [wrap_id (by omega) (by omega), I_inRange_eq, Option.bind_some]
    cases inR (x[i].toNat : Int) 32 126 <;> cases (x[i] != 9) <;> rfl) (fun n i hi => by
    simp only [I_isFieldValue_b0, bif_dec, lt_cast]
    rw [if_neg (by omega)]) (k := k) (by omega)
  rw [I_isFieldValue, this, findI_first, I_TrimText_eq x h]
  unfold valOK
  cases firstI (bvP x) x.length 0 with
  | none => cases decide ((x.length : Int) ≤ 200) <;> simp [ocOf, oc]
  | some j => simp [ocOf, oc]
theorem S_l5Name_eq {k : Nat} (hk : 1073741824 ≤ k) (x : List UInt8) (h : x.length < 1073741824) : S_l5Name k x = some (nameOK x) := by
  rw [S_l5Name, S_IsToken_eq hk x h, Option.bind_some, S_LowerText_eq hk x h]
  unfold nameOK
  cases isTok x <;> rfl
def shortF (l : List IField) : Prop := ∀ e ∈ l, e.Name.length < 1073741824 ∧ e.Value.length < 1073741824
theorem S_AreFields_eq {k : Nat} (hk : 1073741824 ≤ k) (l : List IField) (h : l.length < 1073741824) (hs : shortF l) : S_AreFields k l = some (areF l) := by
  have := find_all (len := l.length) (c := fun i => bif bfP l i then some false else none) (F := fun n i => S_AreFields_b0 k n l i) (fun n i hi => by
    obtain ⟨h1, h2⟩ := hs l[i] (List.getElem_mem hi)
    simp only [S_AreFields_b0, idx_nat hi, Option.bind_some, wrap_succ (by omega : i < 9223372036854775807), bif_dec, lt_cast, hi, if_true, bfP, List.getElem?_eq_getElem hi, S_l5Name_eq hk _ h1, S_l5Value_eq hk _ h2]
    cases nameOK l[i].Name <;> cases valOK l[i].Value <;> rfl) (fun n i hi => by
    simp only [S_AreFields_b0, bif_dec, lt_cast]
    rw [if_neg (by omega)]) (k := k) (by omega)
  rw [S_AreFields, this, findI_first]
  unfold areF
  cases firstI (bfP l) l.length 0 <;> simp [ocOf, oc]
theorem I_AreFields_eq {k : Nat} (hk : 1073741824 ≤ k) (l : List IField) (h : l.length < 1073741824) (hs : shortF l) : I_AreFields k l = some (areF l) := by
  have := find_all (len := l.length) (c := fun i => bif bfP l i then some false else none) (F := fun n i => I_AreFields_b0 k n l l (l.length : Int) i) (fun n i hi => by
    obtain ⟨h1, h2⟩ := hs l[i] (List.getElem_mem hi)
    simp only [I_AreFields_b0, idx_nat hi, Option.bind_some, wrap_succ (by omega : i < 9223372036854775807), bif_dec, lt_cast, hi, if_true, bfP, List.getElem?_eq_getElem hi, I_IsToken_eq hk _ h1, I_LowerText_eq hk _ h1, I_isFieldValue_eq hk _ h2, nameOK]
    cases isTok l[i].Name <;> cases (lowT l[i].Name == l[i].Name) <;> cases valOK l[i].Value <;> rfl) (fun n i hi => by
    simp only [I_AreFields_b0, bif_dec, lt_cast]
    rw [if_neg (by omega)]) (k := k) (by omega)
  rw [I_AreFields, this, findI_first]
  unfold areF
  cases firstI (bfP l) l.length 0 <;> simp [ocOf, oc]
/-! Lists joined. -/
def joinT (l : List (List UInt8)) : List UInt8 := Lib.join l [44, 32]
theorem joinT_len (l : List (List UInt8)) : (joinT l).length ≤ 2 * l.length + Lib.lens l := by
  cases l with
  | nil => simp [joinT, Lib.join_nil]
  | cons x r => unfold joinT; rw [Lib.join_length]; simp; omega
theorem S_JoinList_loop {k : Nat} {x : List UInt8} {r : List (List UInt8)} (h : 2 * r.length + Lib.lens (x :: r) < 1073741824) : ∀ (n j : Nat), j ≤ r.length → r.length - j < n →
    S_JoinList_b0 k n (x :: r) (x ++ Lib.joinTail [44, 32] (r.take j)) ((j + 1 : Nat) : Int) = some (x ++ Lib.joinTail [44, 32] r) := by
  have hx : Lib.lens (x :: r) = x.length + Lib.lens r := rfl
  intro n
  induction n with
  | zero => intro j _ h; omega
  | succ n ih =>
    intro j hj hn
    rw [S_JoinList_b0, bif_dec]
    by_cases c : j < r.length
    · have hlen : ((j + 1 : Nat) : Int) < ((x :: r).length : Int) := by simp; omega
      have e1 : decide (((j + 1 : Nat) : Int) > 0) = true := decide_eq_true (by omega)
      have e2 : idx (x :: r) ((j + 1 : Nat) : Int) = some r[j] := by
        rw [idx_nat (by simp; omega)]; simp
      have b1 := Lib.joinTail_take_le [44, 32] r j
      have b2 := Lib.joinTail_length [44, 32] r
      have b3 := Lib.joinTail_take_le [44, 32] r (j + 1)
      have b4 := Lib.joinTail_take_succ [44, 32] r j r[j] (List.getElem?_eq_getElem c)
      have b5 := congrArg List.length b4
      simp only [List.length_append, List.length_cons, List.length_nil] at b2 b5
      rw [if_pos hlen, S_JoinList_b1, S_JoinList_c12, e1, cond_true, cat_ok (by simp; omega), Option.bind_some, Option.bind_some, e2, Option.bind_some, cat_ok (by simp; omega), Option.bind_some, Option.bind_some, wrap_succ (by omega)]
      have := ih (j + 1) (by omega) (by omega)
      rw [b4] at this
      rw [← this]
      congr 1
      simp
    · have hlen : ¬ ((j + 1 : Nat) : Int) < ((x :: r).length : Int) := by simp; omega
      rw [if_neg hlen, List.take_of_length_le (by omega)]
theorem S_JoinList_eq {k : Nat} (hk : 1073741824 ≤ k) (l : List (List UInt8)) (h : 2 * l.length + Lib.lens l < 1073741824) : S_JoinList k l = some (joinT l) := by
  obtain ⟨n, rfl⟩ : ∃ n, k = n + 1 := ⟨k - 1, by omega⟩
  rw [S_JoinList, S_JoinList_b0, bif_dec]
  cases l with
  | nil => rfl
  | cons x r =>
    have hx : Lib.lens (x :: r) = x.length + Lib.lens r := rfl
    simp only [List.length_cons] at h
    have hlen : (0 : Int) < ((x :: r).length : Int) := by rw [List.length_cons]; omega
    have e2 : idx (x :: r) (0 : Int) = some x := rfl
    have := S_JoinList_loop (k := n + 1) (x := x) (r := r) (by omega) n 0 (by omega) (by omega)
    rw [List.take_zero] at this
    rw [if_pos hlen, S_JoinList_b1, S_JoinList_c12, e2]
    rw [show (decide ((0 : Int) > 0)) = false from rfl, cond_false, Option.bind_some, Option.bind_some, cat_ok (by simp; omega), Option.bind_some, Option.bind_some]
    rw [show IntKind.wrap .i64 ((0 : Int) + 1) = ((0 + 1 : Nat) : Int) from by rw [wrap_id (by omega) (by omega)]; rfl]
    have e3 : Lib.joinTail [44, 32] ([] : List (List UInt8)) = [] := rfl
    rw [e3, List.append_nil] at this
    rw [List.nil_append, this, Option.bind_some, joinT, Lib.join_cons]
/-! A field's values. -/
def valOfF (n : List UInt8) (e : IField) : List (List UInt8) := bif e.Name == n then [e.Value] else []
def valsF (l : List IField) (n : List UInt8) : List (List UInt8) := l.flatMap (valOfF n)
def fsz (l : List IField) : Nat := l.length + (l.map fun e => e.Value.length).sum
theorem valsF_len (n : List UInt8) : ∀ l : List IField, (valsF l n).length ≤ l.length
  | [] => by simp [valsF]
  | e :: l => by
    have := valsF_len n l
    unfold valsF at this ⊢
    rw [List.flatMap_cons, List.length_append]
    have h2 : (valOfF n e).length ≤ 1 := by unfold valOfF; cases (e.Name == n) <;> simp
    rw [List.length_cons]; omega
theorem valsF_lens (n : List UInt8) : ∀ l : List IField, Lib.lens (valsF l n) ≤ (l.map fun e => e.Value.length).sum
  | [] => by simp [valsF, Lib.lens]
  | e :: l => by
    have := valsF_lens n l
    unfold valsF at this ⊢
    rw [List.flatMap_cons]
    unfold valOfF at this ⊢
    cases (e.Name == n) with
    | true => simp only [cond_true, List.cons_append, List.nil_append, List.map_cons, List.sum_cons]; show e.Value.length + Lib.lens _ ≤ _; omega
    | false => simp only [cond_false, List.nil_append, List.map_cons, List.sum_cons]; omega
def getF (l : List IField) (n : List UInt8) : List UInt8 × Bool := (joinT (valsF l n), decide (((valsF l n).length : Int) > 0))
theorem getF_len (l : List IField) (n : List UInt8) : (getF l n).1.length ≤ 2 * fsz l := by
  have h1 := joinT_len (valsF l n)
  have h2 := valsF_len n l
  have h3 := valsF_lens n l
  unfold getF fsz; simp only; omega
theorem S_GetField_eq {k : Nat} (hk : 1073741824 ≤ k) (l : List IField) (n : List UInt8) (h : fsz l < 268435456) : S_GetField k l n = some (getF l n) := by
  have hl : l.length < 268435456 := by unfold fsz at h; omega
  have := fold_all (len := l.length) (g := fun j s => s ++ (l[j]?).elim [] (valOfF n)) (Inv := fun i s => s.length ≤ i) (F := fun m i s => S_GetField_b0 k m l n i s) (out := id) (fun m i s hi hI => by
    simp only [S_GetField_b0, bif_dec, lt_cast, hi, if_true, S_GetField_b1, idx_nat hi, Option.bind_some, S_GetField_c21, wrap_succ (by omega : i < 9223372036854775807), List.getElem?_eq_getElem hi, Option.elim_some, valOfF]
    cases (l[i].Name == n) with
    | true => rw [cond_true, cond_true, appn_ok (by simp; omega)]; exact ⟨rfl, by simp; omega⟩
    | false => rw [cond_false, cond_false, List.append_nil]; exact ⟨rfl, by omega⟩) (fun m i s hi => by
    simp only [S_GetField_b0, bif_dec, lt_cast]
    rw [if_neg (by omega)]; rfl) (k := k) (by omega) (s := []) (by simp)
  have h1 : S_GetField_b0 k k l n 0 [] = some (foldI (fun j s => s ++ (l[j]?).elim [] (valOfF n)) l.length 0 []) := this.1
  have h2 := valsF_len n l
  have h3 := valsF_lens n l
  have hv : foldI (fun j s => s ++ (l[j]?).elim [] (valOfF n)) l.length 0 [] = valsF l n := by
    rw [foldI_append (f := valOfF n) l.length 0 [] (by omega), List.drop_zero]; rfl
  rw [S_GetField, h1, hv, Option.bind_some, S_JoinList_eq hk _ (by unfold fsz at h; omega)]; rfl
def nmP (l : List IField) (n : List UInt8) (i : Nat) : Bool := match l[i]? with | some e => e.Name == n | none => false
def hasF (l : List IField) (n : List UInt8) : Bool := l.any fun e => e.Name == n
theorem firstI_any (l : List IField) (n : List UInt8) : (firstI (nmP l n) l.length 0).isSome = hasF l n := by
  unfold hasF
  cases hf : firstI (nmP l n) l.length 0 with
  | some j =>
    obtain ⟨_, h1, h2, _⟩ := firstI_some _ _ _ hf
    have hj : j < l.length := by omega
    simp only [nmP, List.getElem?_eq_getElem hj] at h2
    exact (List.any_eq_true.2 ⟨l[j], List.getElem_mem hj, h2⟩).symm
  | none =>
    have hn := firstI_none _ _ hf
    refine Eq.symm (List.any_eq_false.2 fun e he => ?_)
    obtain ⟨j, hj, rfl⟩ := List.mem_iff_getElem.1 he
    have := hn j (by omega) (by omega)
    simp only [nmP, List.getElem?_eq_getElem hj] at this
    rw [this]; simp
theorem getF_has (n : List UInt8) : ∀ l : List IField, decide (((valsF l n).length : Int) > 0) = hasF l n
  | [] => rfl
  | e :: l => by
    have ih := getF_has n l
    unfold valsF hasF at ih ⊢
    rw [List.flatMap_cons, List.any_cons, List.length_append]
    unfold valOfF at ih ⊢
    cases (e.Name == n) with
    | true => simp only [cond_true, Bool.true_or, List.length_cons, List.length_nil]; exact decide_eq_true (by omega)
    | false => simp only [cond_false, Bool.false_or, List.length_nil, Nat.zero_add]; exact ih
theorem I_hasField_eq {k : Nat} (hk : 1073741824 ≤ k) (l : List IField) (n : List UInt8) (h : l.length < 1073741824) : I_hasField k l n = some (hasF l n) := by
  have := find_all (len := l.length) (c := fun i => bif nmP l n i then some (i : Int) else none) (F := fun m i => slices_IndexFunc_IField_at_I_hasField_1_b0 k m l n (l.length : Int) i) (fun m i hi => by
    simp only [slices_IndexFunc_IField_at_I_hasField_1_b0, I_hasField_1, idx_nat hi, Option.bind_some, wrap_succ (by omega : i < 9223372036854775807), bif_dec, lt_cast, hi, if_true, nmP, List.getElem?_eq_getElem hi]
    cases (l[i].Name == n) <;> rfl) (fun m i hi => by
    simp only [slices_IndexFunc_IField_at_I_hasField_1_b0, bif_dec, lt_cast]
    rw [if_neg (by omega)]) (k := k) (by omega)
  rw [I_hasField, slices_ContainsFunc_IField_at_I_hasField_1, slices_IndexFunc_IField_at_I_hasField_1, this, findI_first, ← firstI_any]
  cases firstI (nmP l n) l.length 0 with
  | none => rfl
  | some j => simp [ocOf, oc]
theorem fsz_in : ∀ (x : List LField), fsz (x.map to_LField) ≤ szL sz_LField x
  | [] => by simp [fsz, szL]
  | e :: l => by
    have := fsz_in l
    unfold fsz szL at this ⊢
    simp only [List.map_cons, List.sum_cons, List.length_cons, List.length_map] at this ⊢
    have h1 : (to_LField e).Value.length ≤ sz_LField e := by unfold sz_LField; simp only [to_LField]; omega
    omega
/-! Answers that are right. -/
def clen : List UInt8 := [99, 111, 110, 116, 101, 110, 116, 45, 108, 101, 110, 103, 116, 104]
theorem short_in {x : List LField} (h : szL sz_LField x ≤ 1048576) : shortF (x.map to_LField) := by
  intro e he
  obtain ⟨y, hy, rfl⟩ := List.mem_map.1 he
  have := sz_mem (g := sz_LField) hy
  have h2 : sz_LField y ≤ 1048576 := by omega
  unfold sz_LField at h2
  simp only [to_LField]; omega
/-! Requests that are right. -/
def bP (p : UInt8 → Bool) (x : List UInt8) (i : Nat) : Bool := match x[i]? with | some c => p c | none => false
def noB (p : UInt8 → Bool) (x : List UInt8) : Bool := (firstI (bP p x) x.length 0).isNone
theorem bP_at {p : UInt8 → Bool} {x : List UInt8} {i : Nat} (h : i < x.length) : bP p x i = p x[i] := by simp only [bP, List.getElem?_eq_getElem h]
theorem noB_all (p : UInt8 → Bool) (x : List UInt8) : noB p x = x.all fun c => !p c := by
  unfold noB
  cases hf : firstI (bP p x) x.length 0 with
  | some j =>
    obtain ⟨_, h1, h2, _⟩ := firstI_some _ _ _ hf
    have hj : j < x.length := by omega
    rw [bP_at hj] at h2
    refine Eq.symm (List.all_eq_false.2 ⟨x[j], List.getElem_mem hj, by simp [h2]⟩)
  | none =>
    have hn := firstI_none _ _ hf
    refine Eq.symm (List.all_eq_true.2 fun c hc => ?_)
    obtain ⟨j, hj, rfl⟩ := List.mem_iff_getElem.1 hc
    have := hn j (by omega) (by omega)
    rw [bP_at hj] at this
    rw [this]; rfl
theorem u8_ne (c d : UInt8) : ((UInt8.toNat c : Int) != (UInt8.toNat d : Int)) = (c != d) := by
  have := u8_eq c d
  unfold bne
  rw [← this]
def isLow (c : UInt8) : Bool := inR (c.toNat : Int) 97 122
def badH (c : UInt8) : Bool := !inR (c.toNat : Int) 97 122 && (!inR (c.toNat : Int) 48 57 && (c != 45 && c != 46))
def badT (c : UInt8) : Bool := !inR (c.toNat : Int) 33 126
def hostT : List UInt8 := [104, 111, 115, 116]
def isReq (r : IRequest) : Bool :=
  noB isLow r.Method && noB badH r.Host && noB badT r.Target && isTok r.Method && inR (r.Host.length : Int) 1 40 && inR (r.Target.length : Int) 1 100 && (r.Target.head? == some 47) && areF r.Fields && decide ((r.Fields.length : Int) < 24) && !hasF r.Fields clen && !hasF r.Fields hostT
theorem idx0 {x : List UInt8} (h : inR (x.length : Int) 1 100 = true) : ∃ c, idx x (0 : Int) = some c ∧ x.head? = some c := by
  unfold inR at h
  simp only [Bool.and_eq_true, decide_eq_true_eq] at h
  cases x with
  | nil => simp at h
  | cons c r => exact ⟨c, rfl, rfl⟩
theorem req_b0 {k : Nat} (hk : 1073741824 ≤ k) (a b c : List UInt8) (d : List IField) (h : a.length < 1073741824) : S_IsRequest_b0 k k 0 a b c d = some (ocOf (bif noB isLow a then none else some false)) := by
  have := find_all (len := a.length) (c := fun i => bif bP isLow a i then some false else none) (F := fun n i => S_IsRequest_b0 k n i a b c d) (fun n i hi => by
    have hb := UInt8.toNat_lt a[i]
    simp only [S_IsRequest_b0, idx_nat hi, Option.bind_some, wrap_succ (by omega : i < 9223372036854775807), bif_dec, lt_cast, hi, if_true, bP_at hi, isLow]
    rw [wrap_id (by omega) (by omega), S_l1In_eq, Option.bind_some]
    cases inR (a[i].toNat : Int) 97 122 <;> rfl) (fun n i hi => by
    simp only [S_IsRequest_b0, bif_dec, lt_cast]
    rw [if_neg (by omega)]) (k := k) (by omega)
  rw [this, findI_first]
  unfold noB
  cases firstI (bP isLow a) a.length 0 <;> rfl
theorem req_b2 {k : Nat} (hk : 1073741824 ≤ k) (a b c : List UInt8) (d : List IField) (h : b.length < 1073741824) : S_IsRequest_b2 k k 0 a b c d = some (ocOf (bif noB badH b then none else some false)) := by
  have := find_all (len := b.length) (c := fun i => bif bP badH b i then some false else none) (F := fun n i => S_IsRequest_b2 k n i a b c d) (fun n i hi => by
    have hb := UInt8.toNat_lt b[i]
    have e45 : ((UInt8.toNat b[i] : Int) != (45 : Int)) = (b[i] != 45) := u8_ne b[i] 45
    have e46 : ((UInt8.toNat b[i] : Int) != (46 : Int)) = (b[i] != 46) := u8_ne b[i] 46
    simp only [S_IsRequest_b2, idx_nat hi, Option.bind_some, wrap_succ (by omega : i < 9223372036854775807), bif_dec, lt_cast, hi, if_true, bP_at hi, badH, e45, e46]
    rw [wrap_id (by omega) (by omega), S_l1In_eq, S_l1In_eq, Option.bind_some]
    cases inR (b[i].toNat : Int) 97 122 <;> cases inR (b[i].toNat : Int) 48 57 <;> cases (b[i] != 45) <;> cases (b[i] != 46) <;> rfl) (fun n i hi => by
    simp only [S_IsRequest_b2, bif_dec, lt_cast]
    rw [if_neg (by omega)]) (k := k) (by omega)
  rw [this, findI_first]
  unfold noB
  cases firstI (bP badH b) b.length 0 <;> rfl
theorem req_b4 {k : Nat} (hk : 1073741824 ≤ k) (a b c : List UInt8) (d : List IField) (h : c.length < 1073741824) : S_IsRequest_b4 k k 0 a b c d = some (ocOf (bif noB badT c then none else some false)) := by
  have := find_all (len := c.length) (c := fun i => bif bP badT c i then some false else none) (F := fun n i => S_IsRequest_b4 k n i a b c d) (fun n i hi => by
    have hb := UInt8.toNat_lt c[i]
    simp only [S_IsRequest_b4, idx_nat hi, Option.bind_some, wrap_succ (by omega : i < 9223372036854775807), bif_dec, lt_cast, hi, if_true, bP_at hi, badT]
    rw [wrap_id (by omega) (by omega), S_l1In_eq, Option.bind_some]
    cases inR (c[i].toNat : Int) 33 126 <;> rfl) (fun n i hi => by
    simp only [S_IsRequest_b4, bif_dec, lt_cast]
    rw [if_neg (by omega)]) (k := k) (by omega)
  rw [this, findI_first]
  unfold noB
  cases firstI (bP badT c) c.length 0 <;> rfl
structure ReqIn (r : IRequest) : Prop where
  m : r.Method.length < 1073741824
  h : r.Host.length < 1073741824
  t : r.Target.length < 1073741824
  f : fsz r.Fields < 268435456
  s : shortF r.Fields
theorem S_IsRequest_eq {k : Nat} (hk : 1073741824 ≤ k) (r : IRequest) (h : ReqIn r) : S_IsRequest k r = some (isReq r) := by
  have hl : r.Fields.length < 1073741824 := by have := h.f; unfold fsz at this; omega
  have hg : (getF r.Fields hostT).2 = hasF r.Fields hostT := getF_has hostT r.Fields
  have hg2 : (getF r.Fields clen).2 = hasF r.Fields clen := getF_has clen r.Fields
  have e11 : S_l11Fields k r.Fields = some (areF r.Fields && decide ((r.Fields.length : Int) < 24) && !hasF r.Fields clen) := by
    rw [S_l11Fields]
    show (S_GetField k r.Fields clen).bind _ = _
    rw [S_GetField_eq hk _ _ h.f, Option.bind_some, S_AreFields_eq hk _ hl h.s, Option.bind_some, hg2]
    cases areF r.Fields <;> cases decide ((r.Fields.length : Int) < 24) <;> rfl
  rw [S_IsRequest, req_b0 hk _ _ _ _ h.m, Option.bind_some]
  unfold isReq
  cases noB isLow r.Method with
  | false => rfl
  | true =>
    simp only [cond_true, ocOf, oc, req_b2 hk _ _ _ _ h.h, Option.bind_some]
    cases noB badH r.Host with
    | false => rfl
    | true =>
      simp only [cond_true, req_b4 hk _ _ _ _ h.t, Option.bind_some, ocOf, oc]
      cases noB badT r.Target with
      | false => rfl
      | true =>
        simp only [cond_true]
        show ((S_GetField k r.Fields hostT).bind _) = _
        rw [S_GetField_eq hk _ _ h.f, Option.bind_some, S_IsToken_eq hk _ h.m, Option.bind_some, hg]
        simp only [S_l1In_eq, Option.bind_some]
        cases isTok r.Method <;> cases inR (r.Host.length : Int) 1 40 <;> try rfl
        cases ht : inR (r.Target.length : Int) 1 100 with
        | false => simp
        | true =>
          obtain ⟨c, hc, hd⟩ := idx0 ht
          have e47 : ((UInt8.toNat c : Int) == (47 : Int)) = (c == 47) := u8_eq c 47
          have e47' : (some c == some (47 : UInt8)) = (c == 47) := by cases h : (c == 47) <;> simp_all
          simp only [cond_true, hc, hd, Option.bind_some, e47, e11, e47', Bool.true_and]
          cases (c == 47) <;> cases areF r.Fields <;> cases decide ((r.Fields.length : Int) < 24) <;> cases hasF r.Fields clen <;> simp
theorem I_isHost_eq {k : Nat} (hk : 1073741824 ≤ k) (x : List UInt8) (h : x.length < 1073741824) : I_isHost k x = some (noB badH x && inR (x.length : Int) 1 40) := by
  have := find_all (len := x.length) (c := fun i => bif bP badH x i then some false else none) (F := fun n i => I_isHost_b0 k n x (x.length : Int) i) (fun n i hi => by
    have hb := UInt8.toNat_lt x[i]
    have e45 : ((UInt8.toNat x[i] : Int) == (45 : Int)) = (x[i] == 45) := u8_eq x[i] 45
    have e46 : ((UInt8.toNat x[i] : Int) == (46 : Int)) = (x[i] == 46) := u8_eq x[i] 46
    simp only [I_isHost_b0, idx_nat hi, Option.bind_some, wrap_succ (by omega : i < 9223372036854775807), bif_dec, lt_cast, hi, if_true, bP_at hi, badH, e45, e46, inR, bne]
    by_cases a1 : 97 ≤ x[i].toNat <;> by_cases a2 : x[i].toNat ≤ 122 <;> by_cases a5 : 48 ≤ x[i].toNat <;> by_cases a6 : x[i].toNat ≤ 57 <;> cases (x[i] == 45) <;> cases (x[i] == 46) <;>
      simp [a1, a2, a5, a6, show ((x[i].toNat : Int) ≥ 97) = (97 ≤ x[i].toNat) from by simp; omega, show ((97 : Int) ≤ (x[i].toNat : Int)) = (97 ≤ x[i].toNat) from by simp; omega, show ((x[i].toNat : Int) ≤ 122) = (x[i].toNat ≤ 122) from by simp; omega, show ((x[i].toNat : Int) ≥ 48) = (48 ≤ x[i].toNat) from by simp; omega, show ((48 : Int) ≤ (x[i].toNat : Int)) = (48 ≤ x[i].toNat) from by simp; omega, show ((x[i].toNat : Int) ≤ 57) = (x[i].toNat ≤ 57) from by simp; omega]) (fun n i hi => by
    simp only [I_isHost_b0, bif_dec, lt_cast]
    rw [if_neg (by omega)]) (k := k) (by omega)
  rw [I_isHost, this, findI_first]
  unfold noB
  cases firstI (bP badH x) x.length 0 <;> simp [ocOf, oc, I_inRange_eq]
theorem tok_asc : ∀ j : Fin 256, (!tokB (UInt8.ofNat j.val) || decide ((UInt8.ofNat j.val).toNat < 128)) = true := by decide +kernel
theorem upp_tab : ∀ j : Fin 256, (Lib.upperB (UInt8.ofNat j.val) == UInt8.ofNat j.val) = !isLow (UInt8.ofNat j.val) := by decide +kernel
theorem upp_eq (c : UInt8) : (Lib.upperB c == c) = !isLow c := by
  have := upp_tab ⟨c.toNat, UInt8.toNat_lt c⟩
  simpa using this
theorem isTok_asc {x : List UInt8} (h : isTok x = true) : (x.all fun c => decide (c.toNat < 128)) = true := by
  unfold isTok at h
  simp only [Bool.and_eq_true] at h
  have hn : noB (fun c => !tokB c) x = true := h.1
  rw [noB_all] at hn
  refine List.all_eq_true.2 fun c hc => ?_
  have h1 := List.all_eq_true.1 hn c hc
  have h2 := tok_asc ⟨c.toNat, UInt8.toNat_lt c⟩
  simp at h1 h2
  simpa [h1] using h2
theorem upp_all : ∀ x : List UInt8, (Lib.toUpperA x == x) = noB isLow x
  | [] => rfl
  | c :: r => by
    have ih := upp_all r
    rw [noB_all] at ih ⊢
    have e : Lib.toUpperA (c :: r) = Lib.upperB c :: Lib.toUpperA r := rfl
    rw [e, List.cons_beq_cons, upp_eq, ih, List.all_cons]
theorem toUpper_ok {k : Nat} {x : List UInt8} (h : isTok x = true) (hl : x.length < 1073741824) : strings_ToUpper k x = some (Lib.toUpperA x) := by
  rw [strings_ToUpper, toUpperO, isTok_asc h, decide_eq_true (by omega)]; rfl
theorem I_IsRequest_eq {k : Nat} (hk : 1073741824 ≤ k) (r : IRequest) (h : ReqIn r) : I_IsRequest k r = some (isReq r) := by
  have hl : r.Fields.length < 1073741824 := by have := h.f; unfold fsz at this; omega
  have hb0 : I_IsRequest_b0 k k (r.Target.length : Int) 0 r.Method r.Host r.Target r.Fields = some (ocOf (bif noB badT r.Target then none else some false)) := by
    have := find_all (len := r.Target.length) (c := fun i => bif bP badT r.Target i then some false else none) (F := fun n i => I_IsRequest_b0 k n (r.Target.length : Int) i r.Method r.Host r.Target r.Fields) (fun n i hi => by
      have hb := UInt8.toNat_lt r.Target[i]
      have := h.t
      simp only [I_IsRequest_b0, idx_nat hi, Option.bind_some, wrap_succ (by omega : i < 9223372036854775807), bif_dec, lt_cast, hi, if_true, bP_at hi, badT]
      rw [wrap_id (by omega) (by omega), I_inRange_eq, Option.bind_some]
      cases inR (r.Target[i].toNat : Int) 33 126 <;> rfl) (fun n i hi => by
      simp only [I_IsRequest_b0, bif_dec, lt_cast]
      rw [if_neg (by omega)]) (k := k) (by have := h.t; omega)
    rw [this, findI_first]
    unfold noB
    cases firstI (bP badT r.Target) r.Target.length 0 <;> rfl
  have hh1 : I_hasField k r.Fields ([104, 111, 115, 116] : List UInt8) = some (hasF r.Fields hostT) := I_hasField_eq hk _ _ hl
  have hh2 : I_hasField k r.Fields ([99, 111, 110, 116, 101, 110, 116, 45, 108, 101, 110, 103, 116, 104] : List UInt8) = some (hasF r.Fields clen) := I_hasField_eq hk _ _ hl
  rw [I_IsRequest, I_IsToken_eq hk _ h.m, Option.bind_some]
  unfold isReq
  cases hm : isTok r.Method with
  | false => simp
  | true =>
    rw [Bool.not_true, cond_false, toUpper_ok hm h.m, Option.bind_some, upp_all, I_isHost_eq hk _ h.h, Option.bind_some]
    cases noB isLow r.Method with
    | false => rfl
    | true =>
      cases noB badH r.Host with
      | false => rfl
      | true =>
        cases inR (r.Host.length : Int) 1 40 with
        | false => simp
        | true =>
          rw [I_inRange_eq, Option.bind_some]
          cases ht : inR (r.Target.length : Int) 1 100 with
          | false => simp
          | true =>
            obtain ⟨c, hc, hd⟩ := idx0 ht
            have e47 : ((UInt8.toNat c : Int) != (47 : Int)) = (c != 47) := u8_ne c 47
            have e47' : (some c == some (47 : UInt8)) = (c == 47) := by cases h : (c == 47) <;> simp_all
            rw [hc, hd, Option.bind_some, e47, e47', hb0, I_AreFields_eq hk _ hl h.s, hh1, hh2]
            unfold bne
            cases (c == 47) <;> cases noB badT r.Target <;> cases areF r.Fields <;> cases decide ((r.Fields.length : Int) < 24) <;> cases hasF r.Fields hostT <;> cases hasF r.Fields clen <;> rfl
theorem reqIn_of {a : LRequest} (h : sz_LRequest a ≤ 1048576) : ReqIn (to_LRequest a) ∧ (to_LRequest a).Method.length ≤ 1048576 ∧ (to_LRequest a).Host.length ≤ 1048576 ∧ (to_LRequest a).Target.length ≤ 1048576 ∧ fsz (to_LRequest a).Fields ≤ 1048576 ∧ (to_LRequest a).Fields.length < 1073741824 := by
  have h1 := fsz_in a.Fields
  unfold sz_LRequest at h
  have h2 : (to_LRequest a).Fields = a.Fields.map to_LField := rfl
  have h3 : (to_LRequest a).Method = a.Method := rfl
  have h4 : (to_LRequest a).Host = a.Host := rfl
  have h5 : (to_LRequest a).Target = a.Target := rfl
  have h6 : (a.Fields.map to_LField).length ≤ fsz (a.Fields.map to_LField) := by unfold fsz; omega
  refine ⟨⟨by rw [h3]; omega, by rw [h4]; omega, by rw [h5]; omega, by rw [h2]; omega, by rw [h2]; exact short_in (by omega)⟩, ?_⟩
  rw [h2, h3, h4, h5]
  omega
theorem FnExactIsRequest_pure {k : Nat} (hk : 1073741824 ≤ k) (a0 : LRequest) (h0 : V_LRequest a0) : L_FnExactIsRequest k a0 = some true := by
  unfold L_FnExactIsRequest
  rw [L_szRequest_eq hk h0 _ (by omega) (by omega), Option.bind_some, bif_dec]
  by_cases c3 : (sz_LRequest a0 : Int) ≤ 1048576
  case neg => rw [if_neg c3, if_pos (by omega)]
  have c4 : sz_LRequest a0 ≤ 1048576 := by omega
  obtain ⟨r1, r2, r3, r4, r5, r6⟩ := reqIn_of c4
  rw [if_pos c3, if_neg (by omega)]
  simp only [L_toRequest_eq hk a0 c4, Option.bind_some, S_IsRequest_eq hk _ r1, I_IsRequest_eq hk _ r1, L_eqRequest_eq hk _ _ r6, decide_true, Bool.not_true, cond_false, BEq.rfl]

end Go.YtgdjicnefdnofaaDoor
