/- Plain lemmas and definitions. Nothing is claimed here. -/
import Derived.Test.YtolmhhnhmbiofaaGreatDoorKu
import Derived.Lib.AtoiTie
import Derived.Lib.IndexMore
set_option linter.unusedVariables false
set_option linter.unusedSimpArgs false
set_option maxRecDepth 100000
namespace Go.YtolmhhnhmbiofaaGreatDoor
open Go Go.RowKit Go.Pv Go.Pu
noncomputable section
def blank (c : UInt8) : Bool := c == 32 || c == 9
def rtrim (x : List UInt8) : List UInt8 := (x.reverse.dropWhile blank).reverse
def trimT (x : List UInt8) : List UInt8 := rtrim (x.dropWhile blank)
theorem rtrim_cons (e : UInt8) (l : List UInt8) : rtrim (e :: l) = if rtrim l = [] then (if blank e then [] else [e]) else e :: rtrim l := by
  unfold rtrim
  rw [List.reverse_cons, List.dropWhile_append]
  cases h : l.reverse.dropWhile blank with
  | nil => cases hb : blank e <;> simp [List.dropWhile_cons, hb]
  | cons a m => simp
theorem rtrim_snoc (l : List UInt8) (c : UInt8) : rtrim (l ++ [c]) = if blank c then rtrim l else l ++ [c] := by
  unfold rtrim
  rw [List.reverse_append]
  cases hb : blank c <;> simp [List.dropWhile_cons, hb]
theorem trim_comm : ∀ x : List UInt8, rtrim (x.dropWhile blank) = (rtrim x).dropWhile blank
  | [] => rfl
  | e :: l => by
    have ih := trim_comm l
    rw [rtrim_cons, List.dropWhile_cons]
    cases hb : blank e with
    | true =>
      by_cases h : rtrim l = []
      · rw [h] at ih; simp [h, ih]
      · simp [h, List.dropWhile_cons, hb, ih]
    | false =>
      rw [if_neg (by simp), rtrim_cons]
      by_cases h : rtrim l = []
      · simp [h, List.dropWhile_cons, hb]
      · simp [h, List.dropWhile_cons, hb]
theorem trimS_eq (x : List UInt8) : Lib.trimS x [32, 9] = trimT x := by
  have hc : (fun b : UInt8 => ([32, 9] : List UInt8).contains b) = blank := by
    funext b; unfold blank
    simp only [List.contains, List.elem]
    cases h1 : (b == 32) <;> cases h2 : (b == 9) <;> rfl
  unfold Lib.trimS Lib.trimLeftS Lib.trimRightS trimT
  rw [hc, trim_comm]; rfl
theorem rtrim_len (x : List UInt8) : (rtrim x).length ≤ x.length := by
  unfold rtrim
  have := (List.dropWhile_sublist blank (l := x.reverse)).length_le
  simpa using this
theorem trimT_len (x : List UInt8) : (trimT x).length ≤ x.length := by
  have h1 := (List.dropWhile_sublist blank (l := x)).length_le
  have h2 := rtrim_len (x.dropWhile blank)
  unfold trimT; omega
theorem I_TrimText_eq {k : Nat} (x : List UInt8) (h : x.length < 1073741824) : I_TrimText k x = some (trimT x) := by
  have hd : (decide (x.length ≤ 9223372036854775807) && decide (([32, 9] : List UInt8).length < 4294967281) && ([32, 9] : List UInt8).all (fun b => decide (b.toNat < 128))) = true := by
    rw [Bool.and_eq_true, Bool.and_eq_true]; exact ⟨⟨decide_eq_true (by omega), by decide⟩, by decide⟩
  rw [I_TrimText, strings_Trim, trimO, hd, cond_true, trimS_eq]; rfl
theorem S_l4Blank_eq {k : Nat} (c : UInt8) : S_l4Blank k (UInt8.toNat c : Int) = some (blank c) := by
  have h1 := u8_eq c 32
  have h2 := u8_eq c 9
  rw [S_l4Blank, show (32 : Int) = ((32 : UInt8).toNat : Int) from rfl, h1, show (9 : Int) = ((9 : UInt8).toNat : Int) from rfl, h2]
  unfold blank
  cases (c == 32) <;> rfl
theorem S_Trim_1 {k : Nat} : ∀ (n : Nat) (x : List UInt8), x.length < n → x.length < 1073741824 → S_TrimText_b0 k n x = some (x.dropWhile blank) := by
  intro n
  induction n with
  | zero => intro x h; omega
  | succ n ih =>
    intro x h hx
    rw [S_TrimText_b0, bif_dec]
    cases x with
    | nil => rw [if_neg (by simp)]; rfl
    | cons c l =>
      have e : idx (c :: l) (0 : Int) = some c := rfl
      have hs : ssub (c :: l) (1 : Int) ((c :: l).length : Int) = some l := by
        have := ssub_drop (x := c :: l) (i := 1) (by simp)
        simpa using this
      rw [if_pos (by rw [List.length_cons]; omega), e, Option.bind_some, S_l4Blank_eq, Option.bind_some, List.dropWhile_cons]
      cases blank c with
      | true => rw [cond_true, hs, Option.bind_some, ih l (by simp at h; omega) (by simp at hx; omega), if_pos rfl]
      | false => rw [cond_false, if_neg (by simp)]
theorem S_Trim_2 {k : Nat} : ∀ (n : Nat) (x : List UInt8), x.length < n → x.length < 1073741824 → S_TrimText_b2 k n x = some (rtrim x) := by
  intro n
  induction n with
  | zero => intro x h; omega
  | succ n ih =>
    intro x h hx
    rw [S_TrimText_b2, bif_dec]
    rcases List.eq_nil_or_concat x with rfl | ⟨l, c, rfl⟩
    · rw [if_neg (by simp)]; rfl
    · rw [List.concat_eq_append] at *
      have hl : (l ++ [c]).length = l.length + 1 := by simp
      have e1 : IntKind.wrap .i64 (((l ++ [c]).length : Int) - 1) = (l.length : Int) := by rw [wrap_id (by omega) (by omega)]; omega
      have e2 : idx (l ++ [c]) (l.length : Int) = some c := by
        show (l ++ [c])[l.length]? = some c
        simp
      have e3 : ssub (l ++ [c]) (0 : Int) (l.length : Int) = some l := by
        rw [ssub_take (by omega)]; simp
      rw [if_pos (by omega), e1, e2, Option.bind_some, S_l4Blank_eq, Option.bind_some, rtrim_snoc]
      cases blank c with
      | true => rw [cond_true, e3, Option.bind_some, ih l (by omega) (by omega), if_pos rfl]
      | false => rw [cond_false, if_neg (by simp)]
theorem S_TrimText_eq {k : Nat} (hk : 1073741824 ≤ k) (x : List UInt8) (h : x.length < 1073741824) : S_TrimText k x = some (trimT x) := by
  have h1 := (List.dropWhile_sublist blank (l := x)).length_le
  rw [S_TrimText, S_Trim_1 k x (by omega) h, Option.bind_some, S_Trim_2 k _ (by omega) (by omega)]; rfl
def lowB (c : UInt8) : UInt8 := bif decide (65 ≤ c.toNat) && decide (c.toNat ≤ 90) then c + 32 else c
def lowT (s : List UInt8) : List UInt8 := s.map lowB
theorem lowB_add : ∀ j : Fin 256, (65 ≤ j.val ∧ j.val ≤ 90) → IntKind.wrap .u8 ((j.val : Int) + 32) = (((UInt8.ofNat j.val) + 32).toNat : Int) := by decide +kernel
theorem low_wrap (c : UInt8) (h : 65 ≤ c.toNat ∧ c.toNat ≤ 90) : IntKind.wrap .u8 ((c.toNat : Int) + 32) = ((c + 32).toNat : Int) := by
  have := lowB_add ⟨c.toNat, UInt8.toNat_lt c⟩ h
  simpa using this
theorem bytes_ints (s : List UInt8) : bytesOf (intsOf s) = s := by
  unfold bytesOf intsOf
  rw [List.map_map]
  conv => rhs; rw [← List.map_id s]
  refine List.map_congr_left fun c _ => ?_
  simp
theorem ints_len (s : List UInt8) : (intsOf s).length = s.length := by unfold intsOf; simp
theorem ints_idx {s : List UInt8} {i : Nat} (h : i < s.length) : idx (intsOf s) (i : Int) = some (s[i].toNat : Int) := by
  rw [idx_nat (by rw [ints_len]; exact h)]; simp [intsOf]
theorem ints_set (s : List UInt8) (i : Nat) (c : UInt8) : (intsOf s).set i (c.toNat : Int) = intsOf (s.set i c) := by
  unfold intsOf; rw [List.map_set]
theorem low_loop {L : Nat} {F : Nat → Int → List Int → Option (List Int)} (T : ∀ n (i : Nat) (s : List UInt8) (h : i < s.length), s.length = L → F (n + 1) (i : Int) (intsOf s) = F n ((i + 1 : Nat) : Int) (intsOf (s.set i (lowB s[i]))))
    (E : ∀ n (i : Nat) (s : List UInt8), s.length ≤ i → s.length = L → F (n + 1) (i : Int) (intsOf s) = some (intsOf s)) : ∀ (n i : Nat) (s : List UInt8), i ≤ s.length → s.length - i < n → s.length = L → F n (i : Int) (intsOf s) = some (intsOf (s.take i ++ (s.drop i).map lowB)) := by
  intro n
  induction n with
  | zero => intro i s _ h; omega
  | succ n ih =>
    intro i s hi hn hs
    by_cases h : i < s.length
    · rw [T n i s h hs, ih (i + 1) _ (by simp; omega) (by simp; omega) (by simpa using hs)]
      congr 2
      rw [List.drop_eq_getElem_cons h, List.map_cons]
      have e1 : (s.set i (lowB s[i])).take (i + 1) = s.take i ++ [lowB s[i]] := by
        apply List.ext_getElem?
        intro j
        by_cases hj : j < i
        · rw [List.getElem?_take, if_pos (by omega), List.getElem?_set_ne (by omega), List.getElem?_append_left (by simp; omega), List.getElem?_take, if_pos hj]
        · by_cases hj2 : j = i
          · subst hj2
            rw [List.getElem?_take, if_pos (by omega), List.getElem?_set_self h, List.getElem?_append_right (by simp; omega)]
            simp [Nat.min_eq_left (Nat.le_of_lt h)]
          · rw [List.getElem?_take, if_neg (by omega), List.getElem?_eq_none (by simp; omega)]
      have e2 : (s.set i (lowB s[i])).drop (i + 1) = s.drop (i + 1) := by
        apply List.ext_getElem?
        intro j
        rw [List.getElem?_drop, List.getElem?_drop, List.getElem?_set_ne (by omega)]
      rw [e1, e2, List.append_assoc]; rfl
    · rw [E n i s (by omega) hs, List.drop_of_length_le (by omega), List.take_of_length_le (by omega)]; simp
theorem S_LowerText_eq {k : Nat} (hk : 1073741824 ≤ k) (s : List UInt8) (h : s.length < 1073741824) : S_LowerText k s = some (lowT s) := by
  have := low_loop (L := s.length) (F := fun n i r => S_LowerText_b0 k n i r) (fun n i s hi hs => by
    have hb := UInt8.toNat_lt s[i]
    have hlen : ((i : Int) < ((intsOf s).length : Int)) := by rw [ints_len]; omega
    simp only [S_LowerText_b0, bif_dec, hlen, if_true, S_LowerText_b1, ints_idx hi, Option.bind_some, wrap_succ (by omega : i < 9223372036854775807)]
    rw [wrap_id (by omega) (by omega), S_l1In]
    by_cases c1 : 65 ≤ s[i].toNat
    · by_cases c2 : s[i].toNat ≤ 90
      · have e1 : decide ((s[i].toNat : Int) ≥ 65) = true := decide_eq_true (by omega)
        have e2 : decide ((s[i].toNat : Int) ≤ 90) = true := decide_eq_true (by omega)
        have e3 : lowB s[i] = s[i] + 32 := by unfold lowB; rw [decide_eq_true c1, decide_eq_true c2]; rfl
        simp only [e1, e2, S_LowerText_c18, cond_true, Option.bind_some, ints_idx hi, low_wrap _ ⟨c1, c2⟩, Int.toNat_natCast, ints_set, e3]
      · have e1 : decide ((s[i].toNat : Int) ≥ 65) = true := decide_eq_true (by omega)
        have e2 : decide ((s[i].toNat : Int) ≤ 90) = false := decide_eq_false (by omega)
        have e3 : lowB s[i] = s[i] := by unfold lowB; rw [decide_eq_false c2]; simp
        simp only [e1, e2, cond_true, cond_false, Option.bind_some, S_LowerText_c18, e3, List.set_getElem_self]
    · have e1 : decide ((s[i].toNat : Int) ≥ 65) = false := decide_eq_false (by omega)
      have e3 : lowB s[i] = s[i] := by unfold lowB; rw [decide_eq_false c1]; simp
      simp only [e1, cond_false, Option.bind_some, S_LowerText_c18, e3, List.set_getElem_self]) (fun n i s hi _ => by
    have hlen : ¬ ((i : Int) < ((intsOf s).length : Int)) := by rw [ints_len]; omega
    simp only [S_LowerText_b0, bif_dec, hlen, if_false]) k 0 s (by omega) (by omega) rfl
  have h1 : S_LowerText_b0 k k 0 (intsOf s) = some (intsOf (s.take 0 ++ (s.drop 0).map lowB)) := this
  rw [S_LowerText, h1, Option.bind_some, bytes_ints]; simp [lowT]
theorem I_LowerText_eq {k : Nat} (hk : 1073741824 ≤ k) (s : List UInt8) (h : s.length < 1073741824) : I_LowerText k s = some (lowT s) := by
  have := low_loop (L := s.length) (F := fun n i r => I_LowerText_b0 k n (s.length : Int) i r) (fun n i t hi hs => by
    have hb := UInt8.toNat_lt t[i]
    have hlen : ((i : Int) < (s.length : Int)) := by omega
    simp only [I_LowerText_b0, bif_dec, hlen, if_true, I_LowerText_b1, ints_idx hi, Option.bind_some, wrap_succ (by omega : i < 9223372036854775807)]
    by_cases c1 : 65 ≤ t[i].toNat
    · by_cases c2 : t[i].toNat ≤ 90
      · have e1 : ((t[i].toNat : Int) ≥ 65) := by omega
        have e2 : decide ((t[i].toNat : Int) ≤ 90) = true := decide_eq_true (by omega)
        have e3 : lowB t[i] = t[i] + 32 := by unfold lowB; rw [decide_eq_true c1, decide_eq_true c2]; rfl
        simp only [e1, e2, if_true, I_LowerText_c20, cond_true, Option.bind_some, ints_idx hi, low_wrap _ ⟨c1, c2⟩, Int.toNat_natCast, ints_set, e3]
      · have e1 : ((t[i].toNat : Int) ≥ 65) := by omega
        have e2 : decide ((t[i].toNat : Int) ≤ 90) = false := decide_eq_false (by omega)
        have e3 : lowB t[i] = t[i] := by unfold lowB; rw [decide_eq_false c2]; simp
        simp only [e1, e2, if_true, I_LowerText_c20, cond_false, Option.bind_some, e3, List.set_getElem_self]
    · have e1 : ¬ ((t[i].toNat : Int) ≥ 65) := by omega
      have e3 : lowB t[i] = t[i] := by unfold lowB; rw [decide_eq_false c1]; simp
      simp only [e1, if_false, I_LowerText_c20, cond_false, Option.bind_some, e3, List.set_getElem_self]) (fun n i t hi ht => by
    have hlen : ¬ ((i : Int) < (s.length : Int)) := by omega
    simp only [I_LowerText_b0, bif_dec, hlen, if_false]) k 0 s (by omega) (by omega) rfl
  have h1 : I_LowerText_b0 k k (s.length : Int) 0 (intsOf s) = some (intsOf (s.take 0 ++ (s.drop 0).map lowB)) := this
  rw [I_LowerText, ints_len, h1, Option.bind_some, bytes_ints]; simp [lowT]
theorem lowT_len (s : List UInt8) : (lowT s).length = s.length := by unfold lowT; simp
def mk15 : List UInt8 := [33, 35, 36, 37, 38, 39, 42, 43, 45, 46, 94, 95, 124, 126, 96]
def mk14 : List UInt8 := [33, 35, 36, 37, 38, 39, 42, 43, 45, 46, 94, 95, 124, 126]
def letB (c : UInt8) : Bool := (decide (97 ≤ c.toNat) && decide (c.toNat ≤ 122)) || (decide (65 ≤ c.toNat) && decide (c.toNat ≤ 90)) || (decide (48 ≤ c.toNat) && decide (c.toNat ≤ 57))
def mkP (c : UInt8) (i : Nat) : Bool := match mk15[i]? with | some m => c == m | none => false
def tokB (c : UInt8) : Bool := (firstI (mkP c) 15 0).isSome || letB c
theorem S_l4Letter_eq {k : Nat} (c : UInt8) : S_l4Letter k (c.toNat : Int) = some (letB c) := by
  have hb := UInt8.toNat_lt c
  rw [S_l4Letter, wrap_id (by omega) (by omega)]
  simp only [S_l1In, bif_dec, letB]
  by_cases a1 : 97 ≤ c.toNat <;> by_cases a2 : c.toNat ≤ 122 <;> by_cases a3 : 65 ≤ c.toNat <;> by_cases a4 : c.toNat ≤ 90 <;> by_cases a5 : 48 ≤ c.toNat <;> by_cases a6 : c.toNat ≤ 57 <;>
    simp [a1, a2, a3, a4, a5, a6, show ((c.toNat : Int) ≥ 97) = (97 ≤ c.toNat) from by simp; omega, show ((c.toNat : Int) ≤ 122) = (c.toNat ≤ 122) from by simp; omega, show ((c.toNat : Int) ≥ 65) = (65 ≤ c.toNat) from by simp; omega, show ((c.toNat : Int) ≤ 90) = (c.toNat ≤ 90) from by simp; omega, show ((c.toNat : Int) ≥ 48) = (48 ≤ c.toNat) from by simp; omega, show ((c.toNat : Int) ≤ 57) = (c.toNat ≤ 57) from by simp; omega]
theorem S_l4Token_eq {k : Nat} (hk : 1073741824 ≤ k) (c : UInt8) : S_l4Token k (c.toNat : Int) = some (tokB c) := by
  have := find_all (len := 15) (c := fun i => bif mkP c i then some true else none) (F := fun n i => S_l4Token_b0 k n (c.toNat : Int) i) (fun n i hi => by
    have hl : i < mk15.length := hi
    have e : idx ([33, 35, 36, 37, 38, 39, 42, 43, 45, 46, 94, 95, 124, 126, 96] : List UInt8) (i : Int) = some mk15[i] := idx_nat hl
    have e2 : decide ((i : Int) < 15) = true := decide_eq_true (by omega)
    simp only [S_l4Token_b0, e2, cond_true, e, Option.bind_some, u8_eq, wrap_succ (by omega : i < 9223372036854775807), mkP, List.getElem?_eq_getElem hl]
    cases (c == mk15[i]) <;> rfl) (fun n i hi => by
    have e2 : decide ((i : Int) < 15) = false := decide_eq_false (by omega)
    simp only [S_l4Token_b0, e2, cond_false]) (k := k) (by omega)
  rw [S_l4Token, this, findI_first]
  unfold tokB
  cases firstI (mkP c) 15 0 with
  | none => simp [ocOf, oc, S_l4Letter_eq]
  | some j => simp [ocOf, oc]
theorem tok_tab : ∀ j : Fin 256, tokB (UInt8.ofNat j.val) = (letB (UInt8.ofNat j.val) || decide (Lib.indexByte mk14 (UInt8.ofNat j.val) ≥ 0) || (UInt8.ofNat j.val == 96)) := by decide +kernel
theorem tok_eq (c : UInt8) : tokB c = (letB c || decide (Lib.indexByte mk14 c ≥ 0) || (c == 96)) := by
  have := tok_tab ⟨c.toNat, UInt8.toNat_lt c⟩
  simpa using this
theorem I_isTokenByte_eq {k : Nat} (c : UInt8) : I_isTokenByte k (c.toNat : Int) = some (tokB c) := by
  have hb := UInt8.toNat_lt c
  have hi : strings_IndexByte k [33, 35, 36, 37, 38, 39, 42, 43, 45, 46, 94, 95, 124, 126] (c.toNat : Int) = some (Lib.indexByte mk14 c) := by
    rw [strings_IndexByte, indexByteO, Int.toNat_natCast]; simp [mk14]
  have h96 : ((c.toNat : Int) == 96) = (c == 96) := u8_eq c 96
  rw [I_isTokenByte, hi, h96, tok_eq]
  simp only [Option.bind_some, bif_dec, letB]
  by_cases a1 : 97 ≤ c.toNat <;> by_cases a2 : c.toNat ≤ 122 <;> by_cases a3 : 65 ≤ c.toNat <;> by_cases a4 : c.toNat ≤ 90 <;> by_cases a5 : 48 ≤ c.toNat <;> by_cases a6 : c.toNat ≤ 57 <;> by_cases a7 : Lib.indexByte mk14 c ≥ 0 <;>
    simp [a1, a2, a3, a4, a5, a6, a7, show ((c.toNat : Int) ≥ 97) = (97 ≤ c.toNat) from by simp; omega, show ((c.toNat : Int) ≤ 122) = (c.toNat ≤ 122) from by simp; omega, show ((c.toNat : Int) ≥ 65) = (65 ≤ c.toNat) from by simp; omega, show ((c.toNat : Int) ≤ 90) = (c.toNat ≤ 90) from by simp; omega, show ((c.toNat : Int) ≥ 48) = (48 ≤ c.toNat) from by simp; omega, show ((c.toNat : Int) ≤ 57) = (c.toNat ≤ 57) from by simp; omega]
def ntP (x : List UInt8) (i : Nat) : Bool := match x[i]? with | some c => !tokB c | none => false
def inR (n a b : Int) : Bool := decide (a ≤ n) && decide (n ≤ b)
theorem S_l1In_eq {k : Nat} (n a b : Int) : S_l1In k n a b = some (inR n a b) := by
  rw [S_l1In, bif_dec, inR]
  by_cases h : a ≤ n <;> simp [h]
theorem I_inRange_eq {k : Nat} (n a b : Int) : I_inRange k n a b = some (inR n a b) := by
  rw [I_inRange, bif_dec, inR]
  by_cases h : a ≤ n <;> simp [h]
def isTok (x : List UInt8) : Bool := (firstI (ntP x) x.length 0).isNone && inR (x.length : Int) 1 40
theorem S_IsToken_eq {k : Nat} (hk : 1073741824 ≤ k) (x : List UInt8) (h : x.length < 1073741824) : S_IsToken k x = some (isTok x) := by
  have := find_all (len := x.length) (c := fun i => bif ntP x i then some false else none) (F := fun n i => S_IsToken_b0 k n x i) (fun n i hi => by
    simp only [S_IsToken_b0, idx_nat hi, Option.bind_some, wrap_succ (by omega : i < 9223372036854775807), bif_dec, lt_cast, hi, if_true, ntP, List.getElem?_eq_getElem hi, S_l4Token_eq hk]
    cases tokB x[i] <;> rfl) (fun n i hi => by
    simp only [S_IsToken_b0, bif_dec, lt_cast]
    rw [if_neg (by omega)]) (k := k) (by omega)
  rw [S_IsToken, this, findI_first]
  unfold isTok
  cases firstI (ntP x) x.length 0 <;> simp [ocOf, oc, S_l1In_eq]
theorem I_IsToken_eq {k : Nat} (hk : 1073741824 ≤ k) (x : List UInt8) (h : x.length < 1073741824) : I_IsToken k x = some (isTok x) := by
  have := find_all (len := x.length) (c := fun i => bif ntP x i then some false else none) (F := fun n i => I_IsToken_b0 k n x (x.length : Int) i) (fun n i hi => by
    simp only [I_IsToken_b0, idx_nat hi, Option.bind_some, wrap_succ (by omega : i < 9223372036854775807), bif_dec, lt_cast, hi, if_true, ntP, List.getElem?_eq_getElem hi, I_isTokenByte_eq]
    cases tokB x[i] <;> rfl) (fun n i hi => by
    simp only [I_IsToken_b0, bif_dec, lt_cast]
    rw [if_neg (by omega)]) (k := k) (by omega)
  rw [I_IsToken, this, findI_first]
  unfold isTok
  cases firstI (ntP x) x.length 0 <;> simp [ocOf, oc, I_inRange_eq]
def badV (c : UInt8) : Bool := !inR (c.toNat : Int) 32 126 && c != 9
def bvP (x : List UInt8) (i : Nat) : Bool := match x[i]? with | some c => badV c | none => false
def valOK (x : List UInt8) : Bool := (firstI (bvP x) x.length 0).isNone && decide ((x.length : Int) ≤ 200) && (trimT x == x)
def nameOK (x : List UInt8) : Bool := isTok x && (lowT x == x)
def bfP (l : List IField) (i : Nat) : Bool := match l[i]? with | some e => !nameOK e.Name || !valOK e.Value | none => false
def areF (l : List IField) : Bool := (firstI (bfP l) l.length 0).isNone && decide ((l.length : Int) ≤ 24)
theorem u8_ne9 (c : UInt8) : ((UInt8.toNat c : Int) != (9 : Int)) = (c != 9) := by
  have := u8_eq c 9
  unfold bne
  rw [← this]; rfl
theorem S_l5Value_eq {k : Nat} (hk : 1073741824 ≤ k) (x : List UInt8) (h : x.length < 1073741824) : S_l5Value k x = some (valOK x) := by
  have := find_all (len := x.length) (c := fun i => bif bvP x i then some false else none) (F := fun n i => S_l5Value_b0 k n x i) (fun n i hi => by
    have hb := UInt8.toNat_lt x[i]
    simp only [S_l5Value_b0, idx_nat hi, Option.bind_some, wrap_succ (by omega : i < 9223372036854775807), bif_dec, lt_cast, hi, if_true, bvP, List.getElem?_eq_getElem hi, badV, u8_ne9]
    rw [wrap_id (by omega) (by omega), S_l1In_eq, Option.bind_some]
    cases inR (x[i].toNat : Int) 32 126 <;> cases (x[i] != 9) <;> rfl) (fun n i hi => by
    simp only [S_l5Value_b0, bif_dec, lt_cast]
    rw [if_neg (by omega)]) (k := k) (by omega)
  rw [S_l5Value, this, findI_first, S_TrimText_eq hk x h]
  unfold valOK
  cases firstI (bvP x) x.length 0 with
  | none => cases decide ((x.length : Int) ≤ 200) <;> simp [ocOf, oc]
  | some j => simp [ocOf, oc]
theorem I_isFieldValue_eq {k : Nat} (hk : 1073741824 ≤ k) (x : List UInt8) (h : x.length < 1073741824) : I_isFieldValue k x = some (valOK x) := by
  have := find_all (len := x.length) (c := fun i => bif bvP x i then some false else none) (F := fun n i => I_isFieldValue_b0 k n x (x.length : Int) i) (fun n i hi => by
    have hb := UInt8.toNat_lt x[i]
    simp only [I_isFieldValue_b0, idx_nat hi, Option.bind_some, wrap_succ (by omega : i < 9223372036854775807), bif_dec, lt_cast, hi, if_true, bvP, List.getElem?_eq_getElem hi, badV, u8_ne9]
    rw [wrap_id (by omega) (by omega), I_inRange_eq, Option.bind_some]
    cases inR (x[i].toNat : Int) 32 126 <;> cases (x[i] != 9) <;> rfl) (fun n i hi => by
    simp only [I_isFieldValue_b0, bif_dec, lt_cast]
    rw [if_neg (by omega)]) (k := k) (by omega)
  rw [I_isFieldValue, this, findI_first, I_TrimText_eq x h]
  unfold valOK
  cases firstI (bvP x) x.length 0 with
  | none => cases decide ((x.length : Int) ≤ 200) <;> simp [ocOf, oc]
  | some j => simp [ocOf, oc]
theorem S_l5Name_eq {k : Nat} (hk : 1073741824 ≤ k) (x : List UInt8) (h : x.length < 1073741824) : S_l5Name k x = some (nameOK x) := by
  rw [S_l5Name, S_IsToken_eq hk x h, Option.bind_some, S_LowerText_eq hk x h]
  unfold nameOK
  cases isTok x <;> rfl
def shortF (l : List IField) : Prop := ∀ e ∈ l, e.Name.length < 1073741824 ∧ e.Value.length < 1073741824
theorem S_AreFields_eq {k : Nat} (hk : 1073741824 ≤ k) (l : List IField) (h : l.length < 1073741824) (hs : shortF l) : S_AreFields k l = some (areF l) := by
  have := find_all (len := l.length) (c := fun i => bif bfP l i then some false else none) (F := fun n i => S_AreFields_b0 k n l i) (fun n i hi => by
    obtain ⟨h1, h2⟩ := hs l[i] (List.getElem_mem hi)
    simp only [S_AreFields_b0, idx_nat hi, Option.bind_some, wrap_succ (by omega : i < 9223372036854775807), bif_dec, lt_cast, hi, if_true, bfP, List.getElem?_eq_getElem hi, S_l5Name_eq hk _ h1, S_l5Value_eq hk _ h2]
    cases nameOK l[i].Name <;> cases valOK l[i].Value <;> rfl) (fun n i hi => by
    simp only [S_AreFields_b0, bif_dec, lt_cast]
    rw [if_neg (by omega)]) (k := k) (by omega)
  rw [S_AreFields, this, findI_first]
  unfold areF
  cases firstI (bfP l) l.length 0 <;> simp [ocOf, oc]
theorem I_AreFields_eq {k : Nat} (hk : 1073741824 ≤ k) (l : List IField) (h : l.length < 1073741824) (hs : shortF l) : I_AreFields k l = some (areF l) := by
  have := find_all (len := l.length) (c := fun i => bif bfP l i then some false else none) (F := fun n i => I_AreFields_b0 k n l l (l.length : Int) i) (fun n i hi => by
    obtain ⟨h1, h2⟩ := hs l[i] (List.getElem_mem hi)
    simp only [I_AreFields_b0, idx_nat hi, Option.bind_some, wrap_succ (by omega : i < 9223372036854775807), bif_dec, lt_cast, hi, if_true, bfP, List.getElem?_eq_getElem hi, I_IsToken_eq hk _ h1, I_LowerText_eq hk _ h1, I_isFieldValue_eq hk _ h2, nameOK]
    cases isTok l[i].Name <;> cases (lowT l[i].Name == l[i].Name) <;> cases valOK l[i].Value <;> rfl) (fun n i hi => by
    simp only [I_AreFields_b0, bif_dec, lt_cast]
    rw [if_neg (by omega)]) (k := k) (by omega)
  rw [I_AreFields, this, findI_first]
  unfold areF
  cases firstI (bfP l) l.length 0 <;> simp [ocOf, oc]
def sub (x : List UInt8) (f i : Nat) : List UInt8 := (x.take i).drop f
theorem sub_succ {x : List UInt8} {f i : Nat} (hf : f ≤ i) (hi : i < x.length) : sub x f (i + 1) = sub x f i ++ [x[i]] := by
  unfold sub
  have : x.take (i + 1) = x.take i ++ [x[i]] := by rw [List.take_add_one, List.getElem?_eq_getElem hi]; rfl
  rw [this, List.drop_append_of_le_length (by simp; omega)]
theorem sub_self (x : List UInt8) (i : Nat) : sub x i i = [] := by unfold sub; rw [List.drop_eq_nil_iff]; simp; omega
theorem ssub_sub {x : List UInt8} {f i : Nat} (h1 : f ≤ i) (h : i ≤ x.length) : ssub x (f : Int) (i : Int) = some (sub x f i) := ssub_mid h1 h
def lineL : List UInt8 → Option (List UInt8 × List UInt8)
  | [] => none
  | c :: r => bif c == 13 && (r.head? == some 10) then some ([], r.drop 1) else (lineL r).map fun p => (c :: p.1, p.2)
def h4L : List UInt8 → Option (List UInt8 × List UInt8)
  | [] => none
  | c :: r => bif c == 13 && (r.take 3 == [10, 13, 10]) then some ([], r.drop 3) else (h4L r).map fun p => (c :: p.1, p.2)
def colL : List UInt8 → Option (List UInt8 × List UInt8)
  | [] => none
  | c :: r => bif c == 58 then some ([], r) else (colL r).map fun p => (c :: p.1, p.2)
theorem cut_nil {sep : List UInt8} (h : sep ≠ []) : Lib.cut [] sep = ([], [], false) := by
  have : sep.isEmpty = false := by cases sep with | nil => exact absurd rfl h | cons _ _ => rfl
  unfold Lib.cut
  rw [Lib.index, this]; rfl
theorem cut_cons {a : UInt8} {l sep : List UInt8} : Lib.cut (a :: l) sep = bif sep.isPrefixOf (a :: l) then ([], (a :: l).drop sep.length, true) else bif (Lib.cut l sep).2.2 then (a :: (Lib.cut l sep).1, (Lib.cut l sep).2.1, true) else (a :: l, [], false) := by
  have hg := Lib.index_ge l sep
  cases hp : sep.isPrefixOf (a :: l) with
  | true =>
    have hi : Lib.index (a :: l) sep = 0 := by rw [Lib.index, hp]; rfl
    rw [cond_true]
    unfold Lib.cut
    rw [hi, if_pos (by omega)]
    simp
  | false =>
    have hi : Lib.index (a :: l) sep = if Lib.index l sep == -1 then -1 else Lib.index l sep + 1 := by rw [Lib.index, hp]; rfl
    rw [cond_false]
    unfold Lib.cut
    rw [hi]
    by_cases hm : Lib.index l sep = -1
    · rw [hm]; rfl
    · rw [beq_ne hm]
      simp only [Bool.false_eq_true, if_false]
      rw [if_pos (by omega), if_pos (by omega), show (Lib.index l sep + 1).toNat = (Lib.index l sep).toNat + 1 by omega]
      simp only [cond_true, List.take_succ_cons]
      rw [show (Lib.index l sep).toNat + 1 + sep.length = ((Lib.index l sep).toNat + sep.length) + 1 by omega, List.drop_succ_cons]
def cutOf (o : Option (List UInt8 × List UInt8)) (x : List UInt8) : List UInt8 × List UInt8 × Bool := match o with | some p => (p.1, p.2, true) | none => (x, [], false)
theorem cutOf_map {o : Option (List UInt8 × List UInt8)} {c : UInt8} {r : List UInt8} : (bif (cutOf o r).2.2 then (c :: (cutOf o r).1, (cutOf o r).2.1, true) else (c :: r, [], false)) = cutOf (o.map fun p => (c :: p.1, p.2)) (c :: r) := by cases o <;> rfl
theorem pre2 (c : UInt8) (r : List UInt8) : ([13, 10] : List UInt8).isPrefixOf (c :: r) = (c == 13 && (r.head? == some 10)) := by
  cases r with
  | nil => cases h : (c == 13) <;> simp [List.isPrefixOf]
  | cons d r =>
    simp only [List.isPrefixOf, List.head?_cons, Bool.and_true]
    rw [show ((13 : UInt8) == c) = (c == 13) from BEq.comm, show ((10 : UInt8) == d) = (d == 10) from BEq.comm]; rfl
theorem pre4 (c : UInt8) (r : List UInt8) : ([13, 10, 13, 10] : List UInt8).isPrefixOf (c :: r) = (c == 13 && (r.take 3 == [10, 13, 10])) := by
  have e1 : ((13 : UInt8) == c) = (c == 13) := BEq.comm
  match r with
  | [] => simp [List.isPrefixOf]
  | [a] => simp [List.isPrefixOf]
  | [a, b] => simp [List.isPrefixOf]
  | a :: b :: d :: r =>
    simp only [List.isPrefixOf, Bool.and_true, List.take_succ_cons, List.take_zero]
    rw [e1, show ((10 : UInt8) == a) = (a == 10) from BEq.comm, show ((13 : UInt8) == b) = (b == 13) from BEq.comm, show ((10 : UInt8) == d) = (d == 10) from BEq.comm]
    simp
theorem cut_line : ∀ x : List UInt8, Lib.cut x [13, 10] = cutOf (lineL x) x
  | [] => cut_nil (by simp)
  | c :: r => by
    rw [cut_cons, pre2, cut_line r, lineL, cutOf_map]
    cases hc : c == 13 && (r.head? == some 10) with
    | false => rfl
    | true => rfl
theorem cut_h4 : ∀ x : List UInt8, Lib.cut x [13, 10, 13, 10] = cutOf (h4L x) x
  | [] => cut_nil (by simp)
  | c :: r => by
    rw [cut_cons, pre4, cut_h4 r, h4L, cutOf_map]
    cases hc : c == 13 && (r.take 3 == [10, 13, 10]) with
    | false => rfl
    | true => rfl
theorem cut_col : ∀ x : List UInt8, Lib.cut x [58] = cutOf (colL x) x
  | [] => cut_nil (by simp)
  | c :: r => by
    have e : ([58] : List UInt8).isPrefixOf (c :: r) = (c == 58) := by
      simp only [List.isPrefixOf, Bool.and_true]; exact BEq.comm
    rw [cut_cons, e, cut_col r, colL, cutOf_map]
    cases hc : c == 58 with
    | false => rfl
    | true => rfl
theorem lineL_some : ∀ {x a b : List UInt8}, lineL x = some (a, b) → x = a ++ 13 :: 10 :: b
  | [], _, _, h => by cases h
  | c :: r, a, b, h => by
    rw [lineL] at h
    cases hc : c == 13 && (r.head? == some 10) with
    | true =>
      rw [hc, cond_true] at h
      rw [Bool.and_eq_true, beq_iff_eq, beq_iff_eq] at hc
      cases r with
      | nil => simp at hc
      | cons d r =>
        simp only [List.head?_cons, Option.some.injEq] at hc
        simp only [List.drop_succ_cons, List.drop_zero, Option.some.injEq, Prod.mk.injEq] at h
        rw [hc.1, hc.2, ← h.1, ← h.2]; rfl
    | false =>
      rw [hc, cond_false] at h
      cases hr : lineL r with
      | none => rw [hr] at h; cases h
      | some p =>
        rw [hr] at h
        simp only [Option.map_some, Option.some.injEq, Prod.mk.injEq] at h
        have := lineL_some (a := p.1) (b := p.2) (by rw [hr])
        rw [← h.1, ← h.2, List.cons_append, ← this]
theorem colL_some : ∀ {x a b : List UInt8}, colL x = some (a, b) → x = a ++ 58 :: b
  | [], _, _, h => by cases h
  | c :: r, a, b, h => by
    rw [colL] at h
    cases hc : c == 58 with
    | true =>
      rw [hc, cond_true] at h
      simp only [Option.some.injEq, Prod.mk.injEq] at h
      rw [beq_iff_eq] at hc
      rw [hc, ← h.1, ← h.2]; rfl
    | false =>
      rw [hc, cond_false] at h
      cases hr : colL r with
      | none => rw [hr] at h; cases h
      | some p =>
        rw [hr] at h
        simp only [Option.map_some, Option.some.injEq, Prod.mk.injEq] at h
        have := colL_some (a := p.1) (b := p.2) (by rw [hr])
        rw [← h.1, ← h.2, List.cons_append, ← this]
theorem u8_13 (c : UInt8) : ((c.toNat : Int) == 13) = (c == 13) := u8_eq c 13
theorem u8_10 (c : UInt8) : ((c.toNat : Int) == 10) = (c == 10) := u8_eq c 10
theorem u8_58 (c : UInt8) : ((c.toNat : Int) == 58) = (c == 58) := u8_eq c 58
theorem S_line_loop {k : Nat} {x : List UInt8} {f : Nat} (hx : x.length < 1073741824) : ∀ (n i : Nat), f ≤ i → i ≤ x.length → x.length - i < n →
    S_l5Line_b0 k n x (f : Int) (i : Int) = some (match lineL (x.drop i) with | some p => .oth (sub x f i ++ p.1, ((i + p.1.length + 2 : Nat) : Int)) | none => .nrm ()) := by
  intro n
  induction n with
  | zero => intro i _ _ h; omega
  | succ n ih =>
    intro i hf hi hn
    rw [S_l5Line_b0, bif_dec, if_pos (by omega), wrap_succ (by omega), bif_dec]
    by_cases c : i + 1 < x.length
    · have e2 : IntKind.wrap .i64 ((i : Int) + 2) = ((i + 2 : Nat) : Int) := by rw [wrap_id (by omega) (by omega)]; rfl
      have hi2 : i < x.length := by omega
      rw [if_pos (by omega), idx_nat hi2, Option.bind_some, u8_13, idx_nat c, Option.bind_some, u8_10, ssub_sub hf hi, Option.bind_some, e2, List.drop_eq_getElem_cons hi2, lineL, List.drop_eq_getElem_cons c, List.head?_cons, ih (i + 1) (by omega) (by omega) (by omega), List.drop_eq_getElem_cons c]
      have o1 : ∀ y : UInt8, (some y == some 10) = (y == 10) := fun y => rfl
      rw [o1]
      have rest : (some (match lineL (x[i + 1] :: x.drop (i + 1 + 1)) with | some p => .oth (sub x f (i + 1) ++ p.1, ((i + 1 + p.1.length + 2 : Nat) : Int)) | none => .nrm ()) : Option (Oc Unit (List UInt8 × Int))) = some (match (lineL (x[i + 1] :: x.drop (i + 1 + 1))).map (fun p => (x[i] :: p.1, p.2)) with | some p => .oth (sub x f i ++ p.1, ((i + p.1.length + 2 : Nat) : Int)) | none => .nrm ()) := by
        cases lineL (x[i + 1] :: x.drop (i + 1 + 1)) with
        | none => rfl
        | some p =>
          simp only [Option.map_some]
          rw [sub_succ hf hi2, List.append_assoc, List.length_cons]
          congr 4
          omega
      cases h1 : (x[i] == 13) with
      | false => rw [cond_false, Bool.false_and, cond_false]; exact rest
      | true =>
        cases h2 : (x[i + 1] == 10) with
        | false => rw [cond_true, cond_false, Bool.true_and, cond_false]; exact rest
        | true => simp
    · rw [if_neg (by omega)]
      have : lineL (x.drop i) = none := by
        by_cases c2 : i < x.length
        · rw [List.drop_eq_getElem_cons c2, List.drop_of_length_le (by omega), lineL]
          simp [lineL]
        · rw [List.drop_of_length_le (by omega)]; rfl
      rw [this]
theorem S_l5Line_eq {k : Nat} (hk : 1073741824 ≤ k) (x : List UInt8) (i : Nat) (h : x.length < 1073741824) (hi : i ≤ x.length) : S_l5Line k x (i : Int) = some (match lineL (x.drop i) with | some p => (p.1, ((i + p.1.length + 2 : Nat) : Int)) | none => ([], -1)) := by
  rw [S_l5Line, S_line_loop h k i (Nat.le_refl _) hi (by omega), Option.bind_some]
  cases lineL (x.drop i) with
  | none => rfl
  | some p => simp only [oc, sub_self, List.nil_append]
def pfL : Nat → List UInt8 → List IField → Option (List IField)
  | 0, _, _ => none
  | n + 1, x, r => bif x == [] then some r else match lineL x with
    | none => none
    | some p => match colL p.1 with
      | none => none
      | some q => pfL n p.2 (r ++ [⟨lowT q.1, trimT q.2⟩])
theorem lineL_len {x : List UInt8} {p : List UInt8 × List UInt8} (h : lineL x = some p) : x.length = p.1.length + p.2.length + 2 := by
  have := lineL_some (a := p.1) (b := p.2) h
  rw [this]; simp; omega
theorem colL_len {x : List UInt8} {p : List UInt8 × List UInt8} (h : colL x = some p) : x.length = p.1.length + p.2.length + 1 := by
  have := colL_some (a := p.1) (b := p.2) h
  rw [this]; simp; omega
theorem I_pf_loop {k : Nat} (hk : 1073741824 ≤ k) : ∀ (n m : Nat) (x : List UInt8) (r : List IField), x.length < n → x.length < m → x.length < 1073741824 → r.length + x.length < 1073741824 →
    I_ParseFields_b0 k n x r = some (match pfL m x r with | some l => .nrm l | none => .oth ([], false)) := by
  intro n
  induction n with
  | zero => intro m x r h; omega
  | succ n ih =>
    intro m x r h1 h2 h3 h4
    obtain ⟨m, rfl⟩ : ∃ m', m = m' + 1 := ⟨m - 1, by omega⟩
    have e1 : strings_Cut k x [13, 10] = some (Lib.cut x [13, 10]) := by
      show (bif decide (x.length < 4294967281) then some (Lib.cut x [13, 10]) else none) = _
      rw [decide_eq_true (by omega)]; rfl
    rw [I_ParseFields_b0, pfL, e1, Option.bind_some, cut_line]
    cases hx : (x == []) with
    | true => rfl
    | false =>
      rw [Bool.not_false, cond_true, cond_false]
      have e2 : ∀ y : List UInt8, y.length < 4294967281 → strings_Cut k y [58] = some (cutOf (colL y) y) := by
        intro y hy
        show (bif decide (y.length < 4294967281) then some (Lib.cut y [58]) else none) = _
        rw [decide_eq_true hy, cut_col]; rfl
      cases hl : lineL x with
      | none =>
        show ((strings_Cut k x [58]).bind _) = _
        rw [e2 x (by omega)]; rfl
      | some p =>
        have hp := lineL_len hl
        show ((strings_Cut k p.1 [58]).bind _) = _
        rw [e2 p.1 (by omega), Option.bind_some]
        simp only [cutOf, Bool.not_true, cond_false]
        cases hc : colL p.1 with
        | none => rfl
        | some q =>
          have hq := colL_len hc
          simp only [Bool.not_true, cond_false]
          rw [I_LowerText_eq hk _ (by omega), Option.bind_some, I_TrimText_eq _ (by omega), Option.bind_some, appn_ok (by simp; omega), Option.bind_some]
          exact ih m p.2 _ (by omega) (by omega) (by omega) (by simp; omega)
theorem S_col_loop {k : Nat} {x y : List UInt8} {z : Int} {r : List IField} (hy : y.length < 1073741824) : ∀ (n i : Nat), i ≤ y.length → y.length - i < n →
    S_ParseFields_b2 k n x y z (i : Int) r = some (match colL (y.drop i) with | some q => ((i + q.1.length : Nat) : Int) | none => (y.length : Int)) := by
  intro n
  induction n with
  | zero => intro i _ h; omega
  | succ n ih =>
    intro i hi hn
    rw [S_ParseFields_b2, bif_dec]
    by_cases c : i < y.length
    · rw [if_pos (by omega), idx_nat c, Option.bind_some, bne, u8_58, wrap_succ (by omega), ih (i + 1) (by omega) (by omega), List.drop_eq_getElem_cons c, colL]
      cases h : (y[i] == 58) with
      | true => rfl
      | false =>
        rw [cond_false]
        cases colL (y.drop (i + 1)) with
        | none => rfl
        | some q =>
          simp only [Option.map_some, List.length_cons, Bool.not_false, cond_true]
          congr 2; omega
    · rw [if_neg (by omega), List.drop_of_length_le (by omega)]
      simp only [colL]
      rw [show i = y.length by omega]
theorem S_pf_loop {k : Nat} (hk : 1073741824 ≤ k) {s : List UInt8} (hs : s.length < 536870912) : ∀ (n m i : Nat) (r : List IField), i ≤ s.length → s.length - i < n → s.length - i < m → r.length ≤ i →
    S_ParseFields_b0 k n s (i : Int) r = some (match pfL m (s.drop i) r with | some l => .nrm l | none => .oth ([], false)) := by
  intro n
  induction n with
  | zero => intro m i r _ h; omega
  | succ n ih =>
    intro m i r hi h1 h2 hr
    obtain ⟨m, rfl⟩ : ∃ m', m = m' + 1 := ⟨m - 1, by omega⟩
    rw [S_ParseFields_b0, bif_dec, pfL]
    by_cases c : i < s.length
    · have hne : (s.drop i == []) = false := beq_ne (by intro h; have := congrArg List.length h; simp at this; omega)
      rw [if_pos (by omega), hne, cond_false, S_l5Line_eq hk s i (by omega) hi, Option.bind_some]
      cases hl : lineL (s.drop i) with
      | none =>
        simp only
        have := S_col_loop (k := k) (x := s) (y := []) (z := -1) (r := r) (by simp) k 0 (by simp) (by simp; omega)
        have h0 : S_ParseFields_b2 k k s [] (-1) 0 r = _ := this
        rw [h0, Option.bind_some]; rfl
      | some p =>
        have hp := lineL_len hl
        rw [List.length_drop] at hp
        simp only
        have := S_col_loop (k := k) (x := s) (y := p.1) (z := ((i + p.1.length + 2 : Nat) : Int)) (r := r) (by omega) k 0 (by omega) (by omega)
        have h0 : S_ParseFields_b2 k k s p.1 ((i + p.1.length + 2 : Nat) : Int) 0 r = _ := this
        rw [h0, Option.bind_some, bif_dec, if_neg (by omega), List.drop_zero]
        cases hc : colL p.1 with
        | none => simp
        | some q =>
          have hq := colL_len hc
          have hq2 := colL_some (a := q.1) (b := q.2) hc
          have e1 : ssub p.1 (0 : Int) ((0 + q.1.length : Nat) : Int) = some q.1 := by
            rw [ssub_ok (by omega) (by omega) (by omega)]
            rw [hq2]; simp
          have e2 : IntKind.wrap .i64 (((0 + q.1.length : Nat) : Int) + 1) = ((q.1.length + 1 : Nat) : Int) := by rw [wrap_id (by omega) (by omega)]; push_cast; omega
          have e3 : ssub p.1 ((q.1.length + 1 : Nat) : Int) (p.1.length : Int) = some q.2 := by
            rw [ssub_drop (by omega)]
            rw [hq2]; simp
          simp only
          rw [beq_ne (by omega : ¬ ((0 + q.1.length : Nat) : Int) = (p.1.length : Int)), cond_false, e1, Option.bind_some, S_LowerText_eq hk _ (by omega), Option.bind_some, e2, e3, Option.bind_some, S_TrimText_eq hk _ (by omega), Option.bind_some, appn_ok (by simp; omega), Option.bind_some]
          have hb : p.2 = s.drop (i + p.1.length + 2) := by
            have := lineL_some (a := p.1) (b := p.2) hl
            have h5 : (s.drop i).drop (p.1.length + 2) = p.2 := by
              rw [this, show p.1.length + 2 = (p.1 ++ [13, 10]).length by simp, show p.1 ++ 13 :: 10 :: p.2 = (p.1 ++ [13, 10]) ++ p.2 by simp, List.drop_left]
            rw [← h5, List.drop_drop, Nat.add_assoc]
          rw [hb]
          exact ih m (i + p.1.length + 2) _ (by omega) (by omega) (by omega) (by simp; omega)
    · rw [if_neg (by omega), List.drop_of_length_le (by omega)]; rfl
theorem pfL_ok {N : Nat} : ∀ (m : Nat) (x : List UInt8) (r l : List IField), pfL m x r = some l → x.length ≤ N → (∀ e ∈ r, e.Name.length ≤ N ∧ e.Value.length ≤ N) → (∀ e ∈ l, e.Name.length ≤ N ∧ e.Value.length ≤ N) ∧ l.length ≤ r.length + x.length
  | 0, _, _, _, h, _, _ => by cases h
  | m + 1, x, r, l, h, hx, hr => by
    rw [pfL] at h
    cases hb : (x == []) with
    | true =>
      rw [hb, cond_true, Option.some.injEq] at h
      subst h
      exact ⟨hr, by omega⟩
    | false =>
      rw [hb, cond_false] at h
      cases hl : lineL x with
      | none => rw [hl] at h; cases h
      | some p =>
        have hp := lineL_len hl
        rw [hl] at h
        simp only at h
        cases hc : colL p.1 with
        | none => rw [hc] at h; cases h
        | some q =>
          have hq := colL_len hc
          have ht := trimT_len q.2
          have hlow := lowT_len q.1
          rw [hc] at h
          simp only at h
          obtain ⟨g1, g2⟩ := pfL_ok (N := N) m p.2 _ l h (by omega) (fun e he => by
            rw [List.mem_append, List.mem_singleton] at he
            rcases he with he | rfl
            · exact hr e he
            · exact ⟨by simp only; omega, by simp only; omega⟩)
          refine ⟨g1, ?_⟩
          rw [List.length_append] at g2
          simp only [List.length_cons, List.length_nil] at g2
          omega
def parseF (x : List UInt8) : List IField × Bool := match pfL (x.length + 1) x [] with | some l => bif areF l then (l, true) else ([], false) | none => ([], false)
theorem parseF_ok {N : Nat} (x : List UInt8) (h : x.length ≤ N) : (∀ e ∈ (parseF x).1, e.Name.length ≤ N ∧ e.Value.length ≤ N) ∧ (parseF x).1.length ≤ x.length := by
  unfold parseF
  cases hp : pfL (x.length + 1) x [] with
  | none => simp
  | some l =>
    have := pfL_ok (N := N) _ _ _ _ hp h (by simp)
    simp only
    cases areF l with
    | false => simp
    | true => simpa using this
theorem I_ParseFields_eq {k : Nat} (hk : 1073741824 ≤ k) (x : List UInt8) (h : x.length < 536870912) : I_ParseFields k x = some (parseF x) := by
  rw [I_ParseFields, I_pf_loop hk k (x.length + 1) x [] (by omega) (by omega) (by omega) (by simp; omega), Option.bind_some]
  unfold parseF
  cases hp : pfL (x.length + 1) x [] with
  | none => rfl
  | some l =>
    obtain ⟨g1, g2⟩ := pfL_ok (N := x.length) _ _ _ _ hp (Nat.le_refl _) (by simp)
    simp only [List.length_nil] at g2
    simp only [oc]
    rw [I_AreFields_eq hk l (by omega) (fun e he => by have := g1 e he; omega), Option.bind_some]
    cases areF l <;> rfl
theorem S_ParseFields_eq {k : Nat} (hk : 1073741824 ≤ k) (x : List UInt8) (h : x.length < 536870912) : S_ParseFields k x = some (parseF x) := by
  have := S_pf_loop hk h k (x.length + 1) 0 [] (by omega) (by omega) (by omega) (by simp)
  rw [List.drop_zero] at this
  have h0 : S_ParseFields_b0 k k x 0 [] = _ := this
  rw [S_ParseFields, h0, Option.bind_some]
  unfold parseF
  cases hp : pfL (x.length + 1) x [] with
  | none => rfl
  | some l =>
    obtain ⟨g1, g2⟩ := pfL_ok (N := x.length) _ _ _ _ hp (Nat.le_refl _) (by simp)
    simp only [List.length_nil] at g2
    simp only [oc]
    rw [S_AreFields_eq hk l (by omega) (fun e he => by have := g1 e he; omega), Option.bind_some]
    cases areF l <;> rfl
def chL : Nat → List UInt8 → Option (List UInt8 × List UInt8)
  | 0, _ => none
  | n + 1, x => match lineL x with
    | none => none
    | some p => bif p.1 == [] then some ([], p.2) else (chL n p.2).map fun q => (p.1 ++ 13 :: 10 :: q.1, q.2)
theorem chL_some : ∀ {n : Nat} {x : List UInt8} {q : List UInt8 × List UInt8}, chL n x = some q → x = q.1 ++ 13 :: 10 :: q.2
  | 0, _, _, h => by cases h
  | n + 1, x, q, h => by
    rw [chL] at h
    cases hl : lineL x with
    | none => rw [hl] at h; cases h
    | some p =>
      have hp := lineL_some (a := p.1) (b := p.2) hl
      rw [hl] at h
      simp only at h
      cases hb : (p.1 == []) with
      | true =>
        rw [hb, cond_true, Option.some.injEq] at h
        rw [beq_iff_eq] at hb
        rw [hp, hb, ← h, List.nil_append]
      | false =>
        rw [hb, cond_false] at h
        cases hc : chL n p.2 with
        | none => rw [hc] at h; cases h
        | some t =>
          rw [hc] at h
          simp only [Option.map_some, Option.some.injEq] at h
          have := chL_some hc
          rw [hp, ← h]
          simp only [List.append_assoc, List.cons_append]
          rw [← this]
def headL (s : List UInt8) : Option (List UInt8 × List UInt8 × List UInt8) := match lineL s with
  | none => none
  | some p => (chL (s.length + 1) p.2).map fun q => (p.1, q.1, q.2)
def hdT (s : List UInt8) : List UInt8 × List IField × Int := match headL s with
  | none => ([], [], -1)
  | some t => bif !(parseF t.2.1).2 then ([], [], -1) else (t.1, (parseF t.2.1).1, ((s.length - t.2.2.length : Nat) : Int))
theorem S_head_loop {k : Nat} (hk : 1073741824 ≤ k) {s first : List UInt8} (hs : s.length < 536870912) {f : Nat} : ∀ (n m i : Nat), f ≤ i → i ≤ s.length → s.length - i + 1 < n → s.length - i < m →
    S_l11Head_b0 k n s first (i : Int) (f : Int) = some (match chL m (s.drop i) with
      | none => .nrm ()
      | some q => bif !(parseF (sub s f i ++ q.1)).2 then .oth ([], [], -1) else .oth (first, (parseF (sub s f i ++ q.1)).1, ((s.length - q.2.length : Nat) : Int))) := by
  intro n
  induction n with
  | zero => intro m i _ _ h; omega
  | succ n ih =>
    intro m i hf hi h1 h2
    obtain ⟨m, rfl⟩ : ∃ m', m = m' + 1 := ⟨m - 1, by omega⟩
    rw [S_l11Head_b0, bif_dec, if_pos (by omega), S_l5Line_eq hk s i (by omega) hi, Option.bind_some, chL]
    cases hl : lineL (s.drop i) with
    | none =>
      simp only
      rw [show decide ((-1 : Int) ≥ 0) = false from rfl, cond_false]
      cases n with
      | zero => omega
      | succ n => rw [S_l11Head_b0, bif_dec, if_neg (by omega)]
    | some p =>
      have hp := lineL_len hl
      rw [List.length_drop] at hp
      have hb : p.2 = s.drop (i + p.1.length + 2) := by
        have := lineL_some (a := p.1) (b := p.2) hl
        have h5 : (s.drop i).drop (p.1.length + 2) = p.2 := by
          rw [this, show p.1.length + 2 = (p.1 ++ [13, 10]).length by simp, show p.1 ++ 13 :: 10 :: p.2 = (p.1 ++ [13, 10]) ++ p.2 by simp, List.drop_left]
        rw [← h5, List.drop_drop, Nat.add_assoc]
      simp only
      rw [decide_eq_true (by omega : ((i + p.1.length + 2 : Nat) : Int) ≥ 0), cond_true, ssub_sub hf hi, Option.bind_some, S_ParseFields_eq hk _ (by unfold sub; simp; omega), Option.bind_some, ih m (i + p.1.length + 2) (by omega) (by omega) (by omega) (by omega), ← hb]
      cases he : (p.1 == []) with
      | true =>
        rw [beq_iff_eq] at he
        simp only [cond_true, List.append_nil]
        have : s.length - p.2.length = i + p.1.length + 2 := by omega
        rw [this]
        cases (parseF (sub s f i)).2 <;> rfl
      | false =>
        simp only [cond_false]
        cases hc : chL m p.2 with
        | none => rfl
        | some q =>
          simp only [Option.map_some]
          have : sub s f (i + p.1.length + 2) ++ q.1 = sub s f i ++ (p.1 ++ 13 :: 10 :: q.1) := by
            have hl2 := lineL_some (a := p.1) (b := p.2) hl
            have e1 : sub s f (i + p.1.length + 2) = sub s f i ++ (p.1 ++ [13, 10]) := by
              unfold sub
              have e2 : s.take (i + p.1.length + 2) = s.take i ++ (p.1 ++ [13, 10]) := by
                rw [Nat.add_assoc, List.take_add, hl2, show p.1.length + 2 = (p.1 ++ [13, 10]).length by simp, show p.1 ++ 13 :: 10 :: p.2 = (p.1 ++ [13, 10]) ++ p.2 by simp, List.take_left]
              rw [e2, List.drop_append_of_le_length (by simp; omega)]
            rw [e1]; simp
          rw [this]
theorem S_l11Head_eq {k : Nat} (hk : 1073741824 ≤ k) (s : List UInt8) (hs : s.length < 536870912) : S_l11Head k s = some (hdT s) := by
  have hl0 := S_l5Line_eq hk s 0 (by omega) (by omega)
  have hl0' : S_l5Line k s 0 = _ := hl0
  rw [S_l11Head, hl0', Option.bind_some, List.drop_zero]
  unfold hdT headL
  cases hl : lineL s with
  | none =>
    simp only
    obtain ⟨k', e⟩ : ∃ k', k = k' + 1 := ⟨k - 1, by omega⟩
    have : S_l11Head_b0 k k s [] (-1) (-1) = some (.nrm ()) := by
      conv => lhs; arg 2; rw [e]
      rw [S_l11Head_b0, bif_dec, if_neg (by omega)]
    rw [this]; rfl
  | some p =>
    have hp := lineL_len hl
    have hb : p.2 = s.drop (0 + p.1.length + 2) := by
      have := lineL_some (a := p.1) (b := p.2) hl
      rw [Nat.zero_add]
      conv => rhs; rw [this]
      rw [show p.1.length + 2 = (p.1 ++ [13, 10]).length by simp, show p.1 ++ 13 :: 10 :: p.2 = (p.1 ++ [13, 10]) ++ p.2 by simp, List.drop_left]
    simp only
    rw [S_head_loop hk hs k (s.length + 1) (0 + p.1.length + 2) (Nat.le_refl _) (by omega) (by omega) (by omega), ← hb, Option.bind_some]
    cases hc : chL (s.length + 1) p.2 with
    | none => rfl
    | some q =>
      simp only [Option.map_some, sub_self, List.nil_append]
      cases (parseF q.1).2 <;> rfl
def crB (x : List UInt8) : Bool := x.take 2 == [13, 10]
theorem lineL_none_h4 : ∀ {x : List UInt8}, lineL x = none → h4L x = none ∧ crB x = false
  | [], _ => ⟨rfl, rfl⟩
  | c :: r, h => by
    rw [lineL] at h
    cases hc : c == 13 && (r.head? == some 10) with
    | true => rw [hc] at h; cases h
    | false =>
      rw [hc, cond_false, Option.map_eq_none_iff] at h
      obtain ⟨h1, h2⟩ := lineL_none_h4 h
      have e3 : (c == 13 && (r.take 3 == [10, 13, 10])) = false := by
        cases h13 : (c == 13) with
        | false => rfl
        | true =>
          rw [h13, Bool.true_and] at hc
          rw [Bool.true_and]
          cases r with
          | nil => rfl
          | cons d r =>
            simp only [List.head?_cons] at hc
            refine beq_ne fun e => ?_
            simp only [List.take_succ_cons, List.cons.injEq] at e
            rw [e.1] at hc
            simp at hc
      refine ⟨by rw [h4L, e3, cond_false, h1]; rfl, ?_⟩
      unfold crB
      cases r with
      | nil => exact beq_ne fun e => by simp at e
      | cons d r =>
        simp only [List.take_succ_cons, List.take_zero]
        refine beq_ne fun e => ?_
        simp only [List.cons.injEq, and_true] at e
        rw [e.1, e.2] at hc
        simp at hc
theorem h4_line : ∀ {a x y : List UInt8}, lineL (a ++ 13 :: 10 :: x) = some (a, x) → h4L (a ++ 13 :: 10 :: y) = bif crB y then some (a, y.drop 2) else (h4L y).map fun p => (a ++ 13 :: 10 :: p.1, p.2)
  | [], x, y, _ => by
    rw [List.nil_append, h4L]
    have e1 : (13 == (13 : UInt8) && ((10 :: y).take 3 == [10, 13, 10])) = crB y := by
      unfold crB
      rw [beq_self_eq_true, Bool.true_and, List.take_succ_cons]
      show ((10 :: y.take 2 : List UInt8) == 10 :: [13, 10]) = _
      rw [List.cons_beq_cons, beq_self_eq_true, Bool.true_and]
    rw [e1]
    cases crB y with
    | true => rfl
    | false =>
      rw [cond_false, cond_false, h4L]
      have : ((10 : UInt8) == 13 && (y.take 3 == [10, 13, 10])) = false := rfl
      rw [this, cond_false, Option.map_map]; rfl
  | c :: a, x, y, h => by
    have hh : ∀ z : List UInt8, (c == 13 && ((a ++ 13 :: 10 :: z).head? == some 10)) = (c == 13 && ((a ++ 13 :: 10 :: x).head? == some 10)) := by
      intro z
      cases a <;> rfl
    rw [List.cons_append, lineL] at h
    cases hc : (c == 13 && ((a ++ 13 :: 10 :: x).head? == some 10)) with
    | true => rw [hc, cond_true] at h; simp at h
    | false =>
      rw [hc, cond_false] at h
      cases hr : lineL (a ++ 13 :: 10 :: x) with
      | none => rw [hr] at h; cases h
      | some p =>
        rw [hr] at h
        simp only [Option.map_some, Option.some.injEq, Prod.mk.injEq, List.cons.injEq, true_and] at h
        have ih := h4_line (a := a) (x := x) (y := y) (by rw [hr, ← h.1, ← h.2])
        have hz := hh y
        rw [hc] at hz
        have e3 : (c == 13 && ((a ++ 13 :: 10 :: y).take 3 == [10, 13, 10])) = false := by
          cases h13 : (c == 13) with
          | false => rfl
          | true =>
            rw [h13, Bool.true_and] at hz
            rw [Bool.true_and]
            cases hq : (a ++ 13 :: 10 :: y) with
            | nil => rfl
            | cons d q =>
              rw [hq, List.head?_cons] at hz
              refine beq_ne fun e => ?_
              simp only [List.take_succ_cons, List.cons.injEq] at e
              rw [e.1] at hz
              simp at hz
        rw [List.cons_append, h4L, e3, cond_false, ih]
        cases crB y with
        | true => rfl
        | false =>
          rw [cond_false, cond_false, Option.map_map]; rfl
theorem line_swap : ∀ {a x y : List UInt8}, lineL (a ++ 13 :: 10 :: x) = some (a, x) → lineL (a ++ 13 :: 10 :: y) = some (a, y)
  | [], _, _, _ => rfl
  | c :: a, x, y, h => by
    have hh : (c == 13 && ((a ++ 13 :: 10 :: y).head? == some 10)) = (c == 13 && ((a ++ 13 :: 10 :: x).head? == some 10)) := by cases a <;> rfl
    rw [List.cons_append, lineL] at h
    cases hc : (c == 13 && ((a ++ 13 :: 10 :: x).head? == some 10)) with
    | true => rw [hc, cond_true] at h; simp at h
    | false =>
      rw [hc, cond_false] at h
      cases hr : lineL (a ++ 13 :: 10 :: x) with
      | none => rw [hr] at h; cases h
      | some p =>
        rw [hr] at h
        simp only [Option.map_some, Option.some.injEq, Prod.mk.injEq, List.cons.injEq, true_and] at h
        have ih := line_swap (a := a) (x := x) (y := y) (by rw [hr, ← h.1, ← h.2])
        rw [List.cons_append, lineL, hh, hc, cond_false, ih]; rfl
theorem chL_h4 : ∀ {n : Nat} {x : List UInt8}, x.length < n → match chL n x with
    | none => crB x = false ∧ h4L x = none
    | some q => (q.1 = [] ∧ crB x = true ∧ x.drop 2 = q.2) ∨ (∃ g, q.1 = g ++ [13, 10] ∧ crB x = false ∧ h4L x = some (g, q.2))
  | 0, x, h => by omega
  | n + 1, x, h => by
    rw [chL]
    cases hl : lineL x with
    | none =>
      obtain ⟨h1, h2⟩ := lineL_none_h4 hl
      exact ⟨h2, h1⟩
    | some p =>
      have hp := lineL_some (a := p.1) (b := p.2) hl
      have hlen := lineL_len hl
      simp only
      cases hb : (p.1 == []) with
      | true =>
        rw [beq_iff_eq] at hb
        rw [hb] at hp
        rw [cond_true]
        refine .inl ⟨rfl, ?_, ?_⟩
        · rw [hp]; rfl
        · rw [hp]; rfl
      | false =>
        rw [cond_false]
        have hne : p.1 ≠ [] := by simpa using hb
        have hcr : crB x = false := by
          have hl' := hl
          rw [hp] at hl'
          unfold crB
          rw [hp]
          cases hq : p.1 with
          | nil => exact absurd hq hne
          | cons c a =>
            rw [hq] at hl'
            rw [List.cons_append, lineL] at hl'
            cases hc : (c == 13 && ((a ++ 13 :: 10 :: p.2).head? == some 10)) with
            | true =>
              rw [hc, cond_true, Option.some.injEq] at hl'
              have h0 := congrArg Prod.fst hl'
              rw [hq] at h0
              cases h0
            | false =>
              refine beq_ne fun e => ?_
              rw [List.cons_append] at e
              cases hz : (a ++ 13 :: 10 :: p.2) with
              | nil => simp at hz
              | cons d r =>
                rw [hz] at e hc
                simp only [List.take_succ_cons, List.take_zero, List.cons.injEq, and_true] at e
                rw [e.1, e.2] at hc
                simp at hc
        have ih := chL_h4 (n := n) (x := p.2) (by omega)
        have h4 := h4_line (a := p.1) (x := p.2) (y := p.2) (by rw [← hp]; exact hl)
        rw [← hp] at h4
        cases hc : chL n p.2 with
        | none =>
          rw [hc] at ih
          simp only at ih
          rw [ih.1, cond_false, ih.2] at h4
          exact ⟨hcr, h4⟩
        | some q =>
          rw [hc] at ih
          simp only at ih
          simp only [Option.map_some]
          rcases ih with ⟨i1, i2, i3⟩ | ⟨g, i1, i2, i3⟩
          · rw [i2, cond_true, i3] at h4
            exact .inr ⟨p.1, by rw [i1], hcr, h4⟩
          · rw [i2, cond_false, i3] at h4
            exact .inr ⟨p.1 ++ 13 :: 10 :: g, by rw [i1]; simp, hcr, h4⟩
def dd (m : Nat) : List UInt8 := if m = 0 then [] else Lib.decDigits m
theorem dd_step {m : Nat} (h : m ≠ 0) : dd m = dd (m / 10) ++ [UInt8.ofNat (48 + m % 10)] := by
  unfold dd
  rw [if_neg h]
  by_cases c : m < 10
  · rw [Lib.decDigits, dif_pos c, if_pos (by omega), Nat.mod_eq_of_lt c]; rfl
  · rw [Lib.decDigits, dif_neg c, if_neg (by omega)]
theorem dd_len (d : Nat) : ∀ m : Nat, m < 10 ^ d → (dd m).length ≤ d := by
  induction d with
  | zero => intro m h; have : m = 0 := by simpa using h
            subst this; simp [dd]
  | succ d ih =>
    intro m h
    by_cases h0 : m = 0
    · subst h0; simp [dd]
    · rw [dd_step h0, List.length_append]
      have := ih (m / 10) (by rw [Nat.pow_succ] at h; omega)
      simp; omega
theorem wrap_digit : ∀ j : Fin 10, bytesOf [IntKind.wrap .u8 (IntKind.wrap .i64 (48 + ((j.val : Nat) : Int)))] = [UInt8.ofNat (48 + j.val)] := by decide +kernel
theorem digit_of (m : Nat) : bytesOf [IntKind.wrap .u8 (IntKind.wrap .i64 (48 + ((m % 10 : Nat) : Int)))] = [UInt8.ofNat (48 + m % 10)] := wrap_digit ⟨m % 10, by omega⟩
theorem S_FormatInt_loop {k : Nat} {a0 : Int} : ∀ (n d : Nat) (x : Int) (s : List UInt8), d < n → x.natAbs < 10 ^ d → -9223372036854775808 ≤ x → x ≤ 9223372036854775807 → s.length + d ≤ 100 →
    S_FormatInt_b0 k n a0 s x = some (dd x.natAbs ++ s) := by
  intro n
  induction n with
  | zero => intro d x s h; omega
  | succ n ih =>
    intro d x s hd hx h1 h2 hs
    rw [S_FormatInt_b0]
    by_cases h0 : x = 0
    · subst h0; simp [dd]
    · have hm : x.natAbs ≠ 0 := by omega
      have hne : (x != 0) = true := by simpa using h0
      obtain ⟨d, rfl⟩ : ∃ d', d = d' + 1 := by
        cases d with
        | zero => simp at hx; omega
        | succ d => exact ⟨d, rfl⟩
      have e1 : md x 10 = some (x.tmod 10) := by simp [md]
      have e2 : dv x 10 = some (x.tdiv 10) := by simp [dv]
      have e3 : S_FormatInt_c16 k a0 s x (x.tmod 10) (decide (x.tmod 10 < 0)) = some ((x.natAbs % 10 : Nat) : Int) := by
        rw [S_FormatInt_c16, bif_dec]
        have ht : x.tmod 10 = if 0 ≤ x then ((x.natAbs % 10 : Nat) : Int) else -((x.natAbs % 10 : Nat) : Int) := by
          split
          · rw [Int.tmod_eq_emod_of_nonneg (by omega)]; omega
          · have : x = -(x.natAbs : Int) := by omega
            rw [this, Int.neg_tmod, Int.tmod_eq_emod_of_nonneg (by omega)]
            simp
        rw [ht]
        split
        · rw [if_neg (by omega)]
        · by_cases hz : x.natAbs % 10 = 0
          · rw [hz]; simp
          · rw [if_pos (by omega), wrap_id (by omega) (by omega)]; simp
      have e4 : (x.tdiv 10).natAbs = x.natAbs / 10 := by rw [Int.natAbs_tdiv]; rfl
      have hb : -9223372036854775808 ≤ x.tdiv 10 ∧ x.tdiv 10 ≤ 9223372036854775807 := by omega
      rw [hne, cond_true, S_FormatInt_b1, e1, Option.bind_some, e3, Option.bind_some, digit_of, cat_ok (by simp; omega), Option.bind_some, Option.bind_some, e2, Option.bind_some, wrap_id (by omega) (by omega),
        ih d _ _ (by omega) (by rw [e4]; rw [Nat.pow_succ] at hx; omega) hb.1 hb.2 (by simp; omega), e4, dd_step hm]
      simp
theorem itoa_dd (n : Int) : Lib.itoa n = if n = 0 then [48] else if n < 0 then 45 :: dd n.natAbs else dd n.natAbs := by
  unfold Lib.itoa
  by_cases h0 : n = 0
  · subst h0; rw [if_neg (by omega), if_pos rfl, Lib.decDigits]; rfl
  · rw [if_neg h0]
    have hm : ¬ n.natAbs = 0 := by omega
    unfold dd
    rw [if_neg hm]
    by_cases h : n < 0
    · rw [if_pos h, if_pos h]
    · rw [if_neg h, if_neg h, show n.toNat = n.natAbs by omega]
theorem pow19 : (10 : Nat) ^ 19 = 10000000000000000000 := by decide
theorem S_FormatInt_eq {k : Nat} (hk : 1073741824 ≤ k) (n : Int) (h1 : -9223372036854775808 ≤ n) (h2 : n ≤ 9223372036854775807) : S_FormatInt k n = some (Lib.itoa n) := by
  have hp := pow19
  have hl := dd_len 19 n.natAbs (by omega)
  rw [S_FormatInt, itoa_dd]
  by_cases h0 : n = 0
  · subst h0; rfl
  · have hne : (n == 0) = false := by simpa using h0
    rw [hne, cond_false, S_FormatInt_loop k 19 n [] (by omega) (by omega) h1 h2 (by simp), Option.bind_some, List.append_nil, if_neg h0, bif_dec]
    by_cases h : n < 0
    · rw [if_pos h, if_pos h, cat_ok (by simp; omega)]; rfl
    · rw [if_neg h, if_neg h]
theorem I_FormatInt_eq {k : Nat} (n : Int) (h1 : -9223372036854775808 ≤ n) (h2 : n ≤ 9223372036854775807) : I_FormatInt k n = some (Lib.itoa n) := by
  have hd : (decide (-9223372036854775808 ≤ n) && decide (n ≤ 9223372036854775807)) = true := by rw [Bool.and_eq_true]; exact ⟨decide_eq_true h1, decide_eq_true h2⟩
  rw [I_FormatInt, strconv_Itoa, itoaO, hd]; rfl
def pInt (s : List UInt8) : Int × Bool :=
  match (if s.length ≤ 13 then Lib.decNat s else none) with
  | some m => bif decide ((m : Int) ≤ 1000000000000) && (Lib.itoa (m : Int) == s) then ((m : Int), true) else (0, false)
  | none => (0, false)
theorem decFrom_lt : ∀ (l : List UInt8) (acc n : Nat), Lib.decFrom acc l = some n → n < (acc + 1) * 10 ^ l.length
  | [], acc, n, h => by
    simp only [Lib.decFrom, Option.some.injEq] at h
    subst h; simp
  | b :: r, acc, n, h => by
    simp only [Lib.decFrom] at h
    split at h
    · rename_i d hd
      have hd9 : d ≤ 9 := by
        unfold Lib.digitVal at hd
        split at hd
        · cases hd; omega
        · cases hd
      have := decFrom_lt r _ _ h
      rw [List.length_cons, Nat.pow_succ]
      calc n < (acc * 10 + d + 1) * 10 ^ r.length := this
        _ ≤ ((acc + 1) * 10) * 10 ^ r.length := Nat.mul_le_mul_right _ (by omega)
        _ = (acc + 1) * (10 ^ r.length * 10) := by rw [Nat.mul_assoc, Nat.mul_comm 10]
    · cases h
theorem decNat_lt {s : List UInt8} {n : Nat} (h : Lib.decNat s = some n) : n < 10 ^ s.length := by
  unfold Lib.decNat at h
  split at h
  · cases h
  · have := decFrom_lt s 0 n h
    simpa using this
theorem itoa_head (m : Nat) : ∃ c r, Lib.itoa (m : Int) = c :: r ∧ 48 ≤ c.toNat ∧ c.toNat ≤ 57 := by
  rw [itoa_dd]
  have hd : ∀ (f m : Nat), m ≤ f → m ≠ 0 → ∃ c r, dd m = c :: r ∧ 48 ≤ c.toNat ∧ c.toNat ≤ 57 := by
    intro f
    induction f with
    | zero => intro m h1 h2; omega
    | succ f ih =>
      intro m h1 h2
      rw [dd_step h2]
      by_cases h0 : m / 10 = 0
      · rw [h0]
        refine ⟨UInt8.ofNat (48 + m % 10), [], by simp [dd], ?_⟩
        have : (UInt8.ofNat (48 + m % 10)).toNat = 48 + m % 10 := by simp [UInt8.toNat_ofNat]; omega
        rw [this]; omega
      · obtain ⟨c, r, e, b1, b2⟩ := ih (m / 10) (by omega) h0
        exact ⟨c, r ++ [UInt8.ofNat (48 + m % 10)], by rw [e]; rfl, b1, b2⟩
  split
  · exact ⟨48, [], rfl, by decide, by decide⟩
  · rename_i h0
    rw [if_neg (by omega)]
    exact hd m m (Nat.le_refl _) (by omega)
theorem itoa_ne_sign (m : Nat) {c : UInt8} (r : List UInt8) (h : c.toNat < 48) : Lib.itoa (m : Int) ≠ c :: r := by
  obtain ⟨c', r', e, h1, _⟩ := itoa_head m
  rw [e]
  intro he
  simp only [List.cons.injEq] at he
  rw [he.1] at h1; omega
theorem decNat_sign {c : UInt8} (r : List UInt8) (h : c.toNat < 48) : Lib.decNat (c :: r) = none := by
  simp [Lib.decNat, Lib.decFrom, Lib.digitVal, show ¬ 48 ≤ c.toNat by omega]
theorem I_ParseInt_eq {k : Nat} (s : List UInt8) : I_ParseInt k s = some (pInt s) := by
  rw [I_ParseInt, bif_dec]
  unfold pInt
  by_cases h13 : s.length ≤ 13
  case neg => rw [if_pos (by omega), if_neg h13]
  rw [if_neg (by omega), if_pos h13]
  have ha : Lib.atoiAll s = Lib.NumEnd.ofOption (Lib.atoi s) := Lib.atoiAll_short s (by omega)
  rw [strconv_Atoi, atoiO, decide_eq_true (by omega), cond_true, ha]
  have good : ∀ m : Nat, m < 10 ^ 13 → (((bif (false : Bool) then some ((0 : Int), false) else ((I_inRange k (m : Int) (0 : Int) (1000000000000 : Int)).bind fun w2 =>
    (bif (!w2) then some ((0 : Int), false) else ((I_FormatInt k (m : Int)).bind fun w3 =>
    (bif (!(w3 == s)) then some ((0 : Int), false) else some ((m : Int), true))))))) : Option (Int × Bool)) = some (bif decide ((m : Int) ≤ 1000000000000) && (Lib.itoa (m : Int) == s) then ((m : Int), true) else (0, false)) := by
    intro m hm
    have h10 : (10 : Nat) ^ 13 = 10000000000000 := by decide
    rw [h10] at hm
    rw [cond_false, I_inRange_eq, Option.bind_some, I_FormatInt_eq _ (by omega) (by omega), Option.bind_some]
    have : inR (m : Int) 0 1000000000000 = decide ((m : Int) ≤ 1000000000000) := by unfold inR; rw [decide_eq_true (by omega), Bool.true_and]
    rw [this]
    cases decide ((m : Int) ≤ 1000000000000) <;> cases (Lib.itoa (m : Int) == s) <;> rfl
  have p13 : ∀ {l : List UInt8} {m : Nat}, Lib.decNat l = some m → l.length ≤ 13 → m < 10 ^ 13 := fun h hl => Nat.lt_of_lt_of_le (decNat_lt h) (Nat.pow_le_pow_right (by decide) hl)
  cases s with
  | nil => rfl
  | cons b r =>
    simp only [Lib.atoi]
    by_cases h45 : (b == 45) = true
    · rw [if_pos h45]
      have hb : b = 45 := by simpa using h45
      subst hb
      rw [decNat_sign r (by decide)]
      cases hd : Lib.decNat r with
      | none => rfl
      | some m =>
        have hm := p13 hd (by simp at h13; omega)
        have h10 : (10 : Nat) ^ 13 = 10000000000000 := by decide
        rw [h10] at hm
        simp only [Option.map_some, Lib.NumEnd.ofOption, Option.bind_some, cond_false]
        rw [I_inRange_eq, Option.bind_some]
        by_cases h0 : m = 0
        · subst h0
          have : inR (-(0 : Nat) : Int) 0 1000000000000 = true := by decide
          rw [this, Bool.not_true, cond_false, I_FormatInt_eq _ (by omega) (by omega), Option.bind_some]
          have : (Lib.itoa (-((0 : Nat) : Int)) == (45 :: r)) = false := beq_ne (itoa_ne_sign 0 r (by decide))
          rw [this]; rfl
        · have : inR (-(m : Int)) 0 1000000000000 = false := by unfold inR; rw [decide_eq_false (by omega)]; rfl
          rw [this]; rfl
    · rw [if_neg h45]
      by_cases h43 : (b == 43) = true
      · rw [if_pos h43]
        have hb : b = 43 := by simpa using h43
        subst hb
        rw [decNat_sign r (by decide)]
        cases hd : Lib.decNat r with
        | none => rfl
        | some m =>
          have hm := p13 hd (by simp at h13; omega)
          have := good m hm
          simp only [Option.map_some, Lib.NumEnd.ofOption, Option.bind_some]
          rw [this]
          have : (Lib.itoa (m : Int) == (43 :: r)) = false := beq_ne (itoa_ne_sign m r (by decide))
          rw [this, Bool.and_false]; rfl
      · rw [if_neg h43]
        cases hd : Lib.decNat (b :: r) with
        | none => rfl
        | some m =>
          have := good m (p13 hd h13)
          simp only [Option.map_some, Lib.NumEnd.ofOption, Option.bind_some]
          exact this
theorem S_ParseInt_loop {k : Nat} (s : List UInt8) (h : s.length ≤ 13) : ∀ (n i acc : Nat), s.length - i < n → i ≤ s.length → acc < 10 ^ i → S_ParseInt_b0 k n s (acc : Int) (i : Int) = some (match Lib.decFrom acc (s.drop i) with | some m => .nrm (m : Int) | none => .oth (0, false)) := by
  intro n
  induction n with
  | zero => intro i acc h1; omega
  | succ n ih =>
    intro i acc h1 h2 h3
    rw [S_ParseInt_b0, bif_dec]
    by_cases hi : i < s.length
    · rw [if_pos (by omega), idx_nat hi, Option.bind_some]
      have hb := UInt8.toNat_lt s[i]
      rw [wrap_id (by omega) (by omega), S_l1In_eq, Option.bind_some, Option.bind_some, List.drop_eq_getElem_cons hi, Lib.decFrom]
      by_cases hd : 48 ≤ s[i].toNat ∧ s[i].toNat ≤ 57
      · have e1 : inR (s[i].toNat : Int) 48 57 = true := by unfold inR; rw [decide_eq_true (by omega), decide_eq_true (by omega)]; rfl
        have e2 : Lib.digitVal s[i] = some (s[i].toNat - 48) := by unfold Lib.digitVal; rw [if_pos hd]
        have hp : (10 : Nat) ^ i ≤ 10 ^ 12 := Nat.pow_le_pow_right (by decide) (by omega)
        have h10 : (10 : Nat) ^ 12 = 1000000000000 := by decide
        have e3 : IntKind.wrap .u8 ((s[i].toNat : Int) - 48) = ((s[i].toNat - 48 : Nat) : Int) := by
          have := IntWalk.u8_in ((s[i].toNat : Int) - 48) ⟨by omega, by omega⟩
          rw [this]; omega
        have e4 : IntKind.wrap .i64 ((IntKind.wrap .i64 ((10 : Int) * (acc : Int))) + (IntKind.wrap .i64 (IntKind.wrap .u8 ((s[i].toNat : Int) - 48)))) = ((acc * 10 + (s[i].toNat - 48) : Nat) : Int) := by
          rw [e3, wrap_id (n := (10 : Int) * (acc : Int)) (by omega) (by omega), wrap_id (n := ((s[i].toNat - 48 : Nat) : Int)) (by omega) (by omega), wrap_id (by omega) (by omega)]; omega
        rw [e1, Bool.not_true, cond_false, e2, e4, wrap_succ (by omega), ih (i + 1) _ (by omega) (by omega) (by rw [Nat.pow_succ]; omega)]
      · have e1 : inR (s[i].toNat : Int) 48 57 = false := by
          unfold inR
          by_cases h48 : 48 ≤ s[i].toNat
          · rw [decide_eq_false (p := (s[i].toNat : Int) ≤ 57) (by omega), Bool.and_false]
          · rw [decide_eq_false (p := 48 ≤ (s[i].toNat : Int)) (by omega), Bool.false_and]
        have e2 : Lib.digitVal s[i] = none := by unfold Lib.digitVal; rw [if_neg hd]
        rw [e1, e2]; rfl
    · rw [if_neg (by omega), List.drop_eq_nil_of_le (by omega)]; rfl
theorem S_ParseInt_eq {k : Nat} (hk : 1073741824 ≤ k) (s : List UInt8) : S_ParseInt k s = some (pInt s) := by
  rw [S_ParseInt, S_l1In_eq, Option.bind_some]
  unfold pInt
  by_cases h13 : s.length ≤ 13
  case neg =>
    have : inR (s.length : Int) 1 13 = false := by unfold inR; rw [decide_eq_false (p := (s.length : Int) ≤ 13) (by omega), Bool.and_false]
    rw [this, if_neg h13]; rfl
  rw [if_pos h13]
  cases s with
  | nil => rfl
  | cons b r =>
    have : inR ((b :: r).length : Int) 1 13 = true := by unfold inR; rw [decide_eq_true (by simp; omega), decide_eq_true (by omega)]; rfl
    have hl := S_ParseInt_loop (k := k) (b :: r) h13 k 0 0 (by simp; simp at h13; omega) (by simp) (by simp)
    have hl' : S_ParseInt_b0 k k (b :: r) 0 0 = some (match Lib.decFrom 0 (b :: r) with | some m => .nrm (m : Int) | none => .oth (0, false)) := hl
    have hn : Lib.decNat (b :: r) = Lib.decFrom 0 (b :: r) := rfl
    rw [this, Bool.not_true, cond_false, hl', Option.bind_some, hn]
    cases hd : Lib.decFrom 0 (b :: r) with
    | none => rfl
    | some m =>
      have hm : m < 10 ^ 13 := Nat.lt_of_lt_of_le (decNat_lt (hn.trans hd)) (Nat.pow_le_pow_right (by decide) h13)
      have h10 : (10 : Nat) ^ 13 = 10000000000000 := by decide
      rw [h10] at hm
      simp only [oc, bif_dec]
      by_cases hg : (m : Int) ≤ 1000000000000
      · rw [if_neg (by omega), S_FormatInt_eq hk _ (by omega) (by omega), Option.bind_some, decide_eq_true hg, Bool.true_and]
        cases (Lib.itoa (m : Int) == (b :: r)) <;> rfl
      · rw [if_pos (by omega), decide_eq_false hg, Bool.false_and]; rfl
def joinT (l : List (List UInt8)) : List UInt8 := Lib.join l [44, 32]
theorem S_JoinList_loop {k : Nat} {x : List UInt8} {r : List (List UInt8)} (h : 2 * r.length + Lib.lens (x :: r) < 1073741824) : ∀ (n j : Nat), j ≤ r.length → r.length - j < n →
    S_JoinList_b0 k n (x :: r) (x ++ Lib.joinTail [44, 32] (r.take j)) ((j + 1 : Nat) : Int) = some (x ++ Lib.joinTail [44, 32] r) := by
  have hx : Lib.lens (x :: r) = x.length + Lib.lens r := rfl
  intro n
  induction n with
  | zero => intro j _ h; omega
  | succ n ih =>
    intro j hj hn
    rw [S_JoinList_b0, bif_dec]
    by_cases c : j < r.length
    · have hlen : ((j + 1 : Nat) : Int) < ((x :: r).length : Int) := by simp; omega
      have e1 : decide (((j + 1 : Nat) : Int) > 0) = true := decide_eq_true (by omega)
      have e2 : idx (x :: r) ((j + 1 : Nat) : Int) = some r[j] := by
        rw [idx_nat (by simp; omega)]; simp
      have b1 := Lib.joinTail_take_le [44, 32] r j
      have b2 := Lib.joinTail_length [44, 32] r
      have b3 := Lib.joinTail_take_le [44, 32] r (j + 1)
      have b4 := Lib.joinTail_take_succ [44, 32] r j r[j] (List.getElem?_eq_getElem c)
      have b5 := congrArg List.length b4
      simp only [List.length_append, List.length_cons, List.length_nil] at b2 b5
      rw [if_pos hlen, S_JoinList_b1, S_JoinList_c12, e1, cond_true, cat_ok (by simp; omega), Option.bind_some, Option.bind_some, e2, Option.bind_some, cat_ok (by simp; omega), Option.bind_some, Option.bind_some, wrap_succ (by omega)]
      have := ih (j + 1) (by omega) (by omega)
      rw [b4] at this
      rw [← this]
      congr 1
      simp
    · have hlen : ¬ ((j + 1 : Nat) : Int) < ((x :: r).length : Int) := by simp; omega
      rw [if_neg hlen, List.take_of_length_le (by omega)]
theorem S_JoinList_eq {k : Nat} (hk : 1073741824 ≤ k) (l : List (List UInt8)) (h : 2 * l.length + Lib.lens l < 1073741824) : S_JoinList k l = some (joinT l) := by
  obtain ⟨n, rfl⟩ : ∃ n, k = n + 1 := ⟨k - 1, by omega⟩
  rw [S_JoinList, S_JoinList_b0, bif_dec]
  cases l with
  | nil => rfl
  | cons x r =>
    have hx : Lib.lens (x :: r) = x.length + Lib.lens r := rfl
    simp only [List.length_cons] at h
    have hlen : (0 : Int) < ((x :: r).length : Int) := by rw [List.length_cons]; omega
    have e2 : idx (x :: r) (0 : Int) = some x := rfl
    have := S_JoinList_loop (k := n + 1) (x := x) (r := r) (by omega) n 0 (by omega) (by omega)
    rw [List.take_zero] at this
    rw [if_pos hlen, S_JoinList_b1, S_JoinList_c12, e2]
    rw [show (decide ((0 : Int) > 0)) = false from rfl, cond_false, Option.bind_some, Option.bind_some, cat_ok (by simp; omega), Option.bind_some, Option.bind_some]
    rw [show IntKind.wrap .i64 ((0 : Int) + 1) = ((0 + 1 : Nat) : Int) from by rw [wrap_id (by omega) (by omega)]; rfl]
    have e3 : Lib.joinTail [44, 32] ([] : List (List UInt8)) = [] := rfl
    rw [e3, List.append_nil] at this
    rw [List.nil_append, this, Option.bind_some, joinT, Lib.join_cons]
def valOfF (n : List UInt8) (e : IField) : List (List UInt8) := bif e.Name == n then [e.Value] else []
def valsF (l : List IField) (n : List UInt8) : List (List UInt8) := l.flatMap (valOfF n)
def fsz (l : List IField) : Nat := l.length + (l.map fun e => e.Value.length).sum
theorem valsF_len (n : List UInt8) : ∀ l : List IField, (valsF l n).length ≤ l.length
  | [] => by simp [valsF]
  | e :: l => by
    have := valsF_len n l
    unfold valsF at this ⊢
    rw [List.flatMap_cons, List.length_append]
    have h2 : (valOfF n e).length ≤ 1 := by unfold valOfF; cases (e.Name == n) <;> simp
    rw [List.length_cons]; omega
theorem valsF_lens (n : List UInt8) : ∀ l : List IField, Lib.lens (valsF l n) ≤ (l.map fun e => e.Value.length).sum
  | [] => by simp [valsF, Lib.lens]
  | e :: l => by
    have := valsF_lens n l
    unfold valsF at this ⊢
    rw [List.flatMap_cons]
    unfold valOfF at this ⊢
    cases (e.Name == n) with
    | true => simp only [cond_true, List.cons_append, List.nil_append, List.map_cons, List.sum_cons]; show e.Value.length + Lib.lens _ ≤ _; omega
    | false => simp only [cond_false, List.nil_append, List.map_cons, List.sum_cons]; omega
def getF (l : List IField) (n : List UInt8) : List UInt8 × Bool := (joinT (valsF l n), decide (((valsF l n).length : Int) > 0))
theorem S_GetField_eq {k : Nat} (hk : 1073741824 ≤ k) (l : List IField) (n : List UInt8) (h : fsz l < 268435456) : S_GetField k l n = some (getF l n) := by
  have hl : l.length < 268435456 := by unfold fsz at h; omega
  have := fold_all (len := l.length) (g := fun j s => s ++ (l[j]?).elim [] (valOfF n)) (Inv := fun i s => s.length ≤ i) (F := fun m i s => S_GetField_b0 k m l n i s) (out := id) (fun m i s hi hI => by
    simp only [S_GetField_b0, bif_dec, lt_cast, hi, if_true, S_GetField_b1, idx_nat hi, Option.bind_some, S_GetField_c21, wrap_succ (by omega : i < 9223372036854775807), List.getElem?_eq_getElem hi, Option.elim_some, valOfF]
    cases (l[i].Name == n) with
    | true => rw [cond_true, cond_true, appn_ok (by simp; omega)]; exact ⟨rfl, by simp; omega⟩
    | false => rw [cond_false, cond_false, List.append_nil]; exact ⟨rfl, by omega⟩) (fun m i s hi => by
    simp only [S_GetField_b0, bif_dec, lt_cast]
    rw [if_neg (by omega)]; rfl) (k := k) (by omega) (s := []) (by simp)
  have h1 : S_GetField_b0 k k l n 0 [] = some (foldI (fun j s => s ++ (l[j]?).elim [] (valOfF n)) l.length 0 []) := this.1
  have h2 := valsF_len n l
  have h3 := valsF_lens n l
  have hv : foldI (fun j s => s ++ (l[j]?).elim [] (valOfF n)) l.length 0 [] = valsF l n := by
    rw [foldI_append (f := valOfF n) l.length 0 [] (by omega), List.drop_zero]; rfl
  rw [S_GetField, h1, hv, Option.bind_some, S_JoinList_eq hk _ (by unfold fsz at h; omega)]; rfl
def nmP (l : List IField) (n : List UInt8) (i : Nat) : Bool := match l[i]? with | some e => e.Name == n | none => false
def hasF (l : List IField) (n : List UInt8) : Bool := l.any fun e => e.Name == n
theorem firstI_any (l : List IField) (n : List UInt8) : (firstI (nmP l n) l.length 0).isSome = hasF l n := by
  unfold hasF
  cases hf : firstI (nmP l n) l.length 0 with
  | some j =>
    obtain ⟨_, h1, h2, _⟩ := firstI_some _ _ _ hf
    have hj : j < l.length := by omega
    simp only [nmP, List.getElem?_eq_getElem hj] at h2
    exact (List.any_eq_true.2 ⟨l[j], List.getElem_mem hj, h2⟩).symm
  | none =>
    have hn := firstI_none _ _ hf
    refine Eq.symm (List.any_eq_false.2 fun e he => ?_)
    obtain ⟨j, hj, rfl⟩ := List.mem_iff_getElem.1 he
    have := hn j (by omega) (by omega)
    simp only [nmP, List.getElem?_eq_getElem hj] at this
    rw [this]; simp
theorem getF_has (n : List UInt8) : ∀ l : List IField, decide (((valsF l n).length : Int) > 0) = hasF l n
  | [] => rfl
  | e :: l => by
    have ih := getF_has n l
    unfold valsF hasF at ih ⊢
    rw [List.flatMap_cons, List.any_cons, List.length_append]
    unfold valOfF at ih ⊢
    cases (e.Name == n) with
    | true => simp only [cond_true, Bool.true_or, List.length_cons, List.length_nil]; exact decide_eq_true (by omega)
    | false => simp only [cond_false, Bool.false_or, List.length_nil, Nat.zero_add]; exact ih
theorem I_hasField_eq {k : Nat} (hk : 1073741824 ≤ k) (l : List IField) (n : List UInt8) (h : l.length < 1073741824) : I_hasField k l n = some (hasF l n) := by
  have := find_all (len := l.length) (c := fun i => bif nmP l n i then some (i : Int) else none) (F := fun m i => slices_IndexFunc_IField_at_I_hasField_1_b0 k m l n (l.length : Int) i) (fun m i hi => by
    simp only [slices_IndexFunc_IField_at_I_hasField_1_b0, I_hasField_1, idx_nat hi, Option.bind_some, wrap_succ (by omega : i < 9223372036854775807), bif_dec, lt_cast, hi, if_true, nmP, List.getElem?_eq_getElem hi]
    cases (l[i].Name == n) <;> rfl) (fun m i hi => by
    simp only [slices_IndexFunc_IField_at_I_hasField_1_b0, bif_dec, lt_cast]
    rw [if_neg (by omega)]) (k := k) (by omega)
  rw [I_hasField, slices_ContainsFunc_IField_at_I_hasField_1, slices_IndexFunc_IField_at_I_hasField_1, this, findI_first, ← firstI_any]
  cases firstI (nmP l n) l.length 0 with
  | none => rfl
  | some j => simp [ocOf, oc]
def clen : List UInt8 := [99, 111, 110, 116, 101, 110, 116, 45, 108, 101, 110, 103, 116, 104]
def isResp (x : IResponse) : Bool := inR x.Code 200 599 && areF x.Fields && decide ((x.Fields.length : Int) < 24) && !hasF x.Fields clen && decide ((x.Body.length : Int) ≤ 600)
theorem S_IsResponse_eq {k : Nat} (hk : 1073741824 ≤ k) (x : IResponse) (h : fsz x.Fields < 268435456) (hs : shortF x.Fields) : S_IsResponse k x = some (isResp x) := by
  have hl : x.Fields.length < 1073741824 := by unfold fsz at h; omega
  rw [S_IsResponse, S_l1In_eq, Option.bind_some, S_l11Fields]
  show (bif inR x.Code 200 599 then (((S_GetField k x.Fields clen).bind _).bind _) else some false) = _
  rw [S_GetField_eq hk _ _ h, Option.bind_some, S_AreFields_eq hk _ hl hs, Option.bind_some]
  have hg : (getF x.Fields clen).2 = hasF x.Fields clen := getF_has clen x.Fields
  rw [hg]
  unfold isResp
  cases inR x.Code 200 599 <;> cases areF x.Fields <;> cases decide ((x.Fields.length : Int) < 24) <;> cases hasF x.Fields clen <;> rfl
theorem I_IsResponse_eq {k : Nat} (hk : 1073741824 ≤ k) (x : IResponse) (h : fsz x.Fields < 268435456) (hs : shortF x.Fields) : I_IsResponse k x = some (isResp x) := by
  have hl : x.Fields.length < 1073741824 := by unfold fsz at h; omega
  rw [I_IsResponse, I_inRange_eq, Option.bind_some, I_AreFields_eq hk _ hl hs, Option.bind_some]
  show (bif inR x.Code 200 599 then (bif areF x.Fields then (bif decide ((x.Fields.length : Int) < 24) then ((I_hasField k x.Fields clen).bind _) else some false) else some false) else some false) = _
  rw [I_hasField_eq hk _ _ hl, Option.bind_some]
  unfold isResp
  cases inR x.Code 200 599 <;> cases areF x.Fields <;> cases decide ((x.Fields.length : Int) < 24) <;> cases hasF x.Fields clen <;> rfl
theorem inR_iff {n a b : Int} : inR n a b = true ↔ a ≤ n ∧ n ≤ b := by unfold inR; simp
theorem decFrom_snoc : ∀ (l : List UInt8) (acc : Nat) (c : UInt8), Lib.decFrom acc (l ++ [c]) = (Lib.decFrom acc l).bind fun a => (Lib.digitVal c).map fun d => a * 10 + d
  | [], acc, c => by
    simp only [List.nil_append, Lib.decFrom, Option.bind_some]
    cases Lib.digitVal c <;> rfl
  | b :: r, acc, c => by
    simp only [List.cons_append, Lib.decFrom]
    cases Lib.digitVal b with
    | none => rfl
    | some d => exact decFrom_snoc r _ c
theorem digitVal_t : ∀ j : Fin 10, Lib.digitVal (UInt8.ofNat (48 + j.val)) = some j.val := by decide +kernel
theorem decFrom_dd : ∀ (f m : Nat), m ≤ f → Lib.decFrom 0 (dd m) = some m := by
  intro f
  induction f with
  | zero => intro m h; rw [show m = 0 by omega]; rfl
  | succ f ih =>
    intro m h
    by_cases h0 : m = 0
    · subst h0; rfl
    · have ht := digitVal_t ⟨m % 10, by omega⟩
      simp only at ht
      rw [dd_step h0, decFrom_snoc, ih (m / 10) (by omega), Option.bind_some, ht, Option.map_some]
      congr 1; omega
theorem decNat_itoa (m : Nat) : Lib.decNat (Lib.itoa (m : Int)) = some m := by
  rw [itoa_dd]
  by_cases h0 : m = 0
  · subst h0; rfl
  · rw [if_neg (by omega), if_neg (by omega), Int.natAbs_natCast]
    have hne : dd m ≠ [] := by rw [dd_step h0]; simp
    unfold Lib.decNat
    have : (dd m).isEmpty = false := by cases h : dd m with | nil => exact absurd h hne | cons _ _ => rfl
    rw [this]
    exact decFrom_dd m m (Nat.le_refl _)
theorem pow13 : (10 : Nat) ^ 13 = 10000000000000 := by decide
theorem itoa_short {m : Nat} (h : m ≤ 1000000000000) : (Lib.itoa (m : Int)).length ≤ 13 := by
  rw [itoa_dd]
  split
  · simp
  · split
    · omega
    · rw [Int.natAbs_natCast]
      exact dd_len 13 m (by rw [pow13]; omega)
theorem pInt_itoa {m : Nat} (h : m ≤ 1000000000000) : pInt (Lib.itoa (m : Int)) = ((m : Int), true) := by
  unfold pInt
  rw [if_pos (itoa_short h), decNat_itoa]
  simp only
  rw [decide_eq_true (by omega), beq_self_eq_true]; rfl
theorem pInt_inv {s : List UInt8} (h : (pInt s).2 = true) : ∃ m : Nat, m ≤ 1000000000000 ∧ s = Lib.itoa (m : Int) ∧ pInt s = ((m : Int), true) := by
  unfold pInt at h ⊢
  split at h
  · rename_i m hm
    by_cases hc2 : (decide ((m : Int) ≤ 1000000000000) && (Lib.itoa (m : Int) == s)) = true
    case neg =>
      rw [Bool.not_eq_true] at hc2
      rw [hc2] at h; cases h
    case pos =>
      have hc := hc2
      rw [Bool.and_eq_true, decide_eq_true_eq, beq_iff_eq] at hc
      exact ⟨m, by omega, hc.2.symm, by rw [hc2]; rfl⟩
  · cases h
theorem pInt_zero {s : List UInt8} (h : (pInt s).2 = false) : (pInt s).1 = 0 := by
  unfold pInt at h ⊢
  split at h
  · rename_i m hm
    cases hc : decide ((m : Int) ≤ 1000000000000) && (Lib.itoa (m : Int) == s) with
    | false => rfl
    | true => rw [hc] at h; cases h
  · rfl
def verH : List UInt8 := [72, 84, 84, 80, 47, 49, 46, 49, 32]
def noResp : IResponse := ⟨0, [], []⟩
def lastF (l : List IField) : IField := (l[l.length - 1]?).getD ⟨[], []⟩
def goodR (a : List UInt8) (l : List IField) (b : List UInt8) : Bool :=
  (a.take 9 == verH) && ((pInt (a.drop 9)).2 && (decide (l.length ≠ 0) && (((lastF l).Name == clen) && (((lastF l).Value == Lib.itoa (b.length : Int)) && isResp ⟨(pInt (a.drop 9)).1, l.take (l.length - 1), b⟩))))
def respP (s : List UInt8) : IResponse × Bool := match headL s with
  | none => (noResp, false)
  | some t => bif (parseF t.2.1).2 && goodR t.1 (parseF t.2.1).1 t.2.2 then (⟨(pInt (t.1.drop 9)).1, (parseF t.2.1).1.take ((parseF t.2.1).1.length - 1), t.2.2⟩, true) else (noResp, false)
theorem sum_le {N : Nat} : ∀ l : List IField, (∀ e ∈ l, e.Value.length ≤ N) → (l.map fun e => e.Value.length).sum ≤ l.length * N
  | [], _ => by simp
  | e :: l, h => by
    have h1 := h e (by simp)
    have h2 := sum_le l (fun x hx => h x (by simp [hx]))
    simp only [List.map_cons, List.sum_cons, List.length_cons]
    rw [Nat.succ_mul]; omega
theorem parseF_in {x : List UInt8} (h : x.length ≤ 2097152) : (parseF x).1.length ≤ 24 ∧ ∀ n, fsz ((parseF x).1.take n) < 268435456 ∧ shortF ((parseF x).1.take n) := by
  obtain ⟨g1, g2⟩ := parseF_ok (N := 2097152) x h
  have g3 : (parseF x).1.length ≤ 24 := by
    unfold parseF
    cases hp : pfL (x.length + 1) x [] with
    | none => simp
    | some l =>
      simp only
      cases ha : areF l with
      | false => simp
      | true =>
        unfold areF at ha
        rw [Bool.and_eq_true, decide_eq_true_eq] at ha
        rw [cond_true]; simp only; omega
  refine ⟨g3, fun n => ⟨?_, fun e he => ?_⟩⟩
  · have h1 := sum_le (N := 2097152) ((parseF x).1.take n) (fun e he => (g1 e (List.mem_of_mem_take he)).2)
    have h2 : ((parseF x).1.take n).length ≤ 24 := by simp; omega
    unfold fsz
    have h3 : ((parseF x).1.take n).length * 2097152 ≤ 24 * 2097152 := Nat.mul_le_mul_right _ h2
    omega
  · have := g1 e (List.mem_of_mem_take he)
    omega
theorem headL_some {s : List UInt8} {t : List UInt8 × List UInt8 × List UInt8} (h : headL s = some t) : s = t.1 ++ 13 :: 10 :: (t.2.1 ++ 13 :: 10 :: t.2.2) := by
  unfold headL at h
  cases hl : lineL s with
  | none => rw [hl] at h; cases h
  | some p =>
    rw [hl] at h
    simp only at h
    cases hc : chL (s.length + 1) p.2 with
    | none => rw [hc] at h; cases h
    | some q =>
      rw [hc] at h
      simp only [Option.map_some, Option.some.injEq] at h
      subst h
      simp only
      rw [← chL_some hc]
      exact lineL_some hl
theorem last_idx {l : List IField} (h : l.length ≠ 0) (h2 : l.length < 1073741824) : idx l (IntKind.wrap .i64 ((l.length : Int) - 1)) = some (lastF l) := by
  have e1 : IntKind.wrap .i64 ((l.length : Int) - 1) = ((l.length - 1 : Nat) : Int) := by rw [wrap_id (by omega) (by omega)]; omega
  rw [e1, idx_nat (by omega)]
  unfold lastF
  rw [List.getElem?_eq_getElem (by omega : l.length - 1 < l.length)]; rfl
theorem resp_len {a l : List UInt8} (h9 : (a.take 9 == verH) = true) : 9 ≤ a.length := by
  rw [beq_iff_eq] at h9
  have := congrArg List.length h9
  rw [List.length_take] at this
  have e : verH.length = 9 := rfl
  omega
theorem S_ParseResponse_eq {k : Nat} (hk : 1073741824 ≤ k) (s : List UInt8) (hs : s.length ≤ 1048576) : S_ParseResponse k s = some (respP s) := by
  rw [S_ParseResponse, S_l11Head_eq hk s (by omega), Option.bind_some]
  cases hh : headL s with
  | none =>
    have e : hdT s = ([], [], -1) := by unfold hdT; rw [hh]
    rw [e]
    unfold respP
    rw [hh]; rfl
  | some t =>
    obtain ⟨a, f, b⟩ := t
    have hsx := headL_some hh
    simp only at hsx
    have hlen := congrArg List.length hsx
    simp only [List.length_append, List.length_cons] at hlen
    obtain ⟨p1, p2⟩ := parseF_in (x := f) (by omega)
    cases hok : (parseF f).2 with
    | false =>
      have e : hdT s = ([], [], -1) := by unfold hdT; rw [hh]; simp only; rw [hok]; rfl
      rw [e]
      unfold respP
      rw [hh]
      simp only
      rw [hok]; rfl
    | true =>
      have e : hdT s = (a, (parseF f).1, ((s.length - b.length : Nat) : Int)) := by unfold hdT; rw [hh]; simp only; rw [hok]; rfl
      rw [e]
      unfold respP
      rw [hh]
      simp only
      rw [hok, Bool.true_and]
      generalize hl : (parseF f).1 = l at *
      have hb : ssub s ((s.length - b.length : Nat) : Int) (s.length : Int) = some b := by
        rw [ssub_drop (by omega)]
        have e2 : s = (a ++ 13 :: 10 :: (f ++ [13, 10])) ++ b := by rw [hsx]; simp
        have e3 : s.length - b.length = (a ++ 13 :: 10 :: (f ++ [13, 10])).length := by simp only [List.length_append, List.length_cons, List.length_nil]; omega
        rw [e3, e2, List.drop_left]
      rw [decide_eq_false (by omega : ¬ ((s.length - b.length : Nat) : Int) < 0), cond_false]
      unfold goodR
      by_cases ha : a.length = 12
      case neg =>
        have : ((a.length : Int) != 12) = true := bne_ne (by omega)
        rw [this, cond_true]
        cases h9 : (a.take 9 == verH) with
        | false => rfl
        | true =>
          have h9l := resp_len (l := a) h9
          cases hp : (pInt (a.drop 9)).2 with
          | false => rfl
          | true =>
            obtain ⟨m, m1, m2, m3⟩ := pInt_inv hp
            cases hr : isResp ⟨(pInt (a.drop 9)).1, l.take (l.length - 1), b⟩ with
            | false => simp only [Bool.and_false, cond_false]; rfl
            | true =>
              exfalso
              unfold isResp at hr
              simp only [Bool.and_eq_true] at hr
              have h200 := inR_iff.1 hr.1.1.1.1
              rw [m3] at h200
              simp only at h200
              have h3 : (Lib.itoa (m : Int)).length = 3 := by
                rw [itoa_dd, if_neg (by omega), if_neg (by omega), Int.natAbs_natCast, dd_step (by omega), dd_step (by omega), dd_step (by omega), show m / 10 / 10 / 10 = 0 by omega]; rfl
              have := congrArg List.length m2
              rw [List.length_drop, h3] at this
              omega
      have hne : ((a.length : Int) != 12) = false := by rw [show (a.length : Int) = 12 by omega]; rfl
      have e9 : ssub a (0 : Int) (9 : Int) = some (a.take 9) := by rw [ssub_ok (by omega) (by omega) (by omega)]; rfl
      have e9' : ssub a (9 : Int) (a.length : Int) = some (a.drop 9) := ssub_drop (i := 9) (by omega)
      rw [hne, cond_false, e9, Option.bind_some]
      show (bif !(a.take 9 == verH) then _ else _) = _
      cases h9 : (a.take 9 == verH) with
      | false => rfl
      | true =>
        rw [Bool.not_true, cond_false, Bool.true_and]
        by_cases h0 : l.length = 0
        · rw [beq_iff_eq.2 (by omega : (l.length : Int) = 0), cond_true, decide_eq_false (by omega)]
          simp only [Bool.false_and, Bool.and_false, cond_false]; rfl
        · have hi := last_idx h0 (by omega)
          have ht : ssub l (0 : Int) (IntKind.wrap .i64 ((l.length : Int) - 1)) = some (l.take (l.length - 1)) := by
            have e1 : IntKind.wrap .i64 ((l.length : Int) - 1) = ((l.length - 1 : Nat) : Int) := by rw [wrap_id (by omega) (by omega)]; omega
            rw [e1, ssub_ok (by omega) (by omega) (by omega)]; rfl
          obtain ⟨q1, q2⟩ := p2 (l.length - 1)
          have hcopy : S_l5Copy k (l.take (l.length - 1)) = some (l.take (l.length - 1)) := by rw [S_l5Copy, appn_ok (by simp; omega)]; rfl
          rw [beq_ne (by omega : ¬ (l.length : Int) = 0), cond_false, decide_eq_true h0, Bool.true_and, hi, Option.bind_some, Option.bind_some]
          show (bif !((lastF l).Name == clen) then _ else _) = _
          cases hn : ((lastF l).Name == clen) with
          | false => simp only [Bool.false_and, Bool.and_false, cond_false]; rfl
          | true =>
            rw [Bool.not_true, cond_false, Bool.true_and, e9', Option.bind_some, S_ParseInt_eq hk, Option.bind_some, Option.bind_some, Option.bind_some, S_ParseInt_eq hk, Option.bind_some, ht, Option.bind_some, hcopy, Option.bind_some, hb, Option.bind_some, S_IsResponse_eq hk _ q1 q2, Option.bind_some]
            cases hv : (pInt (lastF l).Value).2 with
            | false =>
              have : ((lastF l).Value == Lib.itoa (b.length : Int)) = false := beq_ne fun e => by
                rw [e, pInt_itoa (by omega)] at hv; cases hv
              rw [this]
              simp only [Bool.false_and, Bool.and_false, cond_false]; rfl
            | true =>
              obtain ⟨m, m1, m2, m3⟩ := pInt_inv hv
              rw [Bool.not_true, cond_false, m3]
              simp only
              have hvv : ((lastF l).Value == Lib.itoa (b.length : Int)) = ((m : Int) == (b.length : Int)) := by
                rw [m2]
                by_cases e : m = b.length
                · rw [e]; simp
                · rw [beq_ne (by omega : ¬ (m : Int) = (b.length : Int))]
                  refine beq_ne fun e2 => e ?_
                  have := congrArg Lib.decNat e2
                  rw [decNat_itoa, decNat_itoa, Option.some.injEq] at this
                  exact this
              rw [hvv, bne]
              cases ((m : Int) == (b.length : Int)) with
              | false => simp only [Bool.false_and, Bool.and_false, cond_false, Bool.not_false, cond_true]; rfl
              | true =>
                rw [Bool.not_true, cond_false, Bool.true_and]
                cases hp : (pInt (a.drop 9)).2 with
                | true =>
                  rw [Bool.true_and]
                  cases isResp ⟨(pInt (a.drop 9)).1, l.take (l.length - 1), b⟩ <;> rfl
                | false =>
                  have hz := pInt_zero hp
                  have : isResp ⟨(pInt (a.drop 9)).1, l.take (l.length - 1), b⟩ = false := by
                    unfold isResp
                    rw [hz]; rfl
                  rw [this, Bool.false_and]; rfl
theorem cutPre_H {k : Nat} (s : List UInt8) : strings_CutPrefix k s verH = some (bif s.take 9 == verH then (s.drop 9, true) else (s, false)) := by
  have l9 : (verH.length : Int) = 9 := rfl
  rw [strings_CutPrefix, internal_stringslite_CutPrefix, internal_stringslite_HasPrefix, l9, bif_dec]
  by_cases c : 9 ≤ s.length
  · have e1 : ssub s (0 : Int) (9 : Int) = some (s.take 9) := by rw [ssub_ok (by omega) (by omega) (by omega)]; rfl
    have e2 : ssub s (9 : Int) (s.length : Int) = some (s.drop 9) := ssub_drop (i := 9) (by omega)
    rw [if_pos (by omega), e1, Option.bind_some, Option.bind_some, e2]
    cases (s.take 9 == verH) <;> rfl
  · have : (s.take 9 == verH) = false := beq_ne fun e => by
      have := congrArg List.length e
      rw [List.length_take] at this
      have e9 : verH.length = 9 := rfl
      omega
    rw [if_neg (by omega), this]; rfl
theorem I_ParseResponse_eq {k : Nat} (hk : 1073741824 ≤ k) (s : List UInt8) (hs : s.length ≤ 1048576) : I_ParseResponse k s = some (respP s) := by
  have e1 : strings_Cut k s [13, 10, 13, 10] = some (cutOf (h4L s) s) := by
    show (bif decide (s.length < 4294967281) then some (Lib.cut s [13, 10, 13, 10]) else none) = _
    rw [decide_eq_true (by omega), cut_h4]; rfl
  have e2 : ∀ y : List UInt8, y.length < 4294967281 → strings_Cut k y [13, 10] = some (cutOf (lineL y) y) := by
    intro y hy
    show (bif decide (y.length < 4294967281) then some (Lib.cut y [13, 10]) else none) = _
    rw [decide_eq_true hy, cut_line]; rfl
  have hv : ∀ y, strings_CutPrefix k y ([72, 84, 84, 80, 47, 49, 46, 49, 32] : List UInt8) = some (bif y.take 9 == verH then (y.drop 9, true) else (y, false)) := fun y => cutPre_H y
  rw [I_ParseResponse, e1, Option.bind_some]
  unfold respP headL
  have bad : ∀ (h b : List UInt8), h.length ≤ 1048576 → lineL h = none → ∀ (x : Bool), ((strings_Cut k h [13, 10]).bind fun w2 =>
    ((strings_CutPrefix k w2.1 ([72, 84, 84, 80, 47, 49, 46, 49, 32] : List UInt8)).bind fun w3 =>
    ((I_ParseInt k w3.1).bind fun w4 =>
    ((cat w2.2.1 ([13, 10] : List UInt8)).bind fun t5 =>
    ((I_ParseFields k t5).bind fun w6 =>
    (bif (!x) then some ((⟨(0 : Int), [], ([] : List UInt8)⟩ : IResponse), false) else (bif (!w2.2.2) then some ((⟨(0 : Int), [], ([] : List UInt8)⟩ : IResponse), false) else none))))))) = some (noResp, false) := by
    intro h b hh hl x
    rw [e2 h (by omega), Option.bind_some, hl]
    simp only [cutOf]
    rw [hv, Option.bind_some, I_ParseInt_eq, Option.bind_some, cat_ok (by simp), Option.bind_some, I_ParseFields_eq hk _ (by simp), Option.bind_some]
    cases x <;> rfl
  cases hl : lineL s with
  | none =>
    obtain ⟨h1, _⟩ := lineL_none_h4 hl
    rw [h1]
    simp only [cutOf]
    rw [e2 s (by omega), Option.bind_some, hl]
    simp only [cutOf]
    rw [hv, Option.bind_some, I_ParseInt_eq, Option.bind_some, cat_ok (by simp), Option.bind_some, I_ParseFields_eq hk _ (by simp), Option.bind_some]
    rfl
  | some p =>
    have hp := lineL_some (a := p.1) (b := p.2) hl
    have hlen := lineL_len hl
    have ch := chL_h4 (n := s.length + 1) (x := p.2) (by omega)
    have h4 := h4_line (a := p.1) (x := p.2) (y := p.2) (by rw [← hp]; exact hl)
    rw [← hp] at h4
    simp only
    cases hc : chL (s.length + 1) p.2 with
    | none =>
      rw [hc] at ch
      simp only at ch
      rw [ch.1, cond_false, ch.2] at h4
      have h4' : h4L s = none := h4
      rw [h4']
      simp only [cutOf]
      rw [e2 s (by omega), Option.bind_some, hl]
      simp only [cutOf]
      rw [hv, Option.bind_some, I_ParseInt_eq, Option.bind_some, cat_ok (by simp; omega), Option.bind_some, I_ParseFields_eq hk _ (by simp; omega), Option.bind_some]
      rfl
    | some q =>
      have hq := chL_some hc
      have hql := congrArg List.length hq
      simp only [List.length_append, List.length_cons] at hql
      rw [hc] at ch
      simp only at ch
      simp only [Option.map_some]
      rcases ch with ⟨i1, i2, i3⟩ | ⟨g, i1, i2, i3⟩
      · rw [i2, cond_true, i3] at h4
        have hno : lineL p.1 = none := by
          cases hx : lineL p.1 with
          | none => rfl
          | some z =>
            exfalso
            have hz := lineL_some (a := z.1) (b := z.2) hx
            have hl2 := hl
            rw [hp, hz, List.append_assoc] at hl2
            have hsw := line_swap (a := z.1) (x := z.2) (y := z.2 ++ 13 :: 10 :: p.2) (by rw [← hz]; exact hx)
            have e : z.1 ++ (13 :: 10 :: z.2 ++ 13 :: 10 :: p.2) = z.1 ++ 13 :: 10 :: (z.2 ++ 13 :: 10 :: p.2) := by simp
            rw [e, hsw] at hl2
            rw [Option.some.injEq] at hl2
            have h1 := congrArg (fun y : List UInt8 × List UInt8 => y.1.length) hl2
            have h2 := congrArg List.length hz
            simp only [List.length_append, List.length_cons] at h1 h2
            omega
        have hpf : parseF ([] : List UInt8) = ([], true) := by decide +kernel
        rw [h4]
        simp only [cutOf]
        rw [e2 p.1 (by omega), Option.bind_some, hno]
        simp only [cutOf]
        rw [hv, Option.bind_some, I_ParseInt_eq, Option.bind_some, cat_ok (by simp), Option.bind_some, I_ParseFields_eq hk _ (by simp), Option.bind_some, i1, hpf]
        have hg : goodR p.1 [] q.2 = false := by
          unfold goodR
          simp
        simp only
        rw [hg]; rfl
      · rw [i2, cond_false, i3, Option.map_some] at h4
        have hg : lineL (p.1 ++ 13 :: 10 :: g) = some (p.1, g) := line_swap (x := p.2) (by rw [← hp]; exact hl)
        have hgl : g.length + 2 = q.1.length := by rw [i1]; simp
        obtain ⟨p1, p2⟩ := parseF_in (x := q.1) (by omega)
        rw [h4]
        simp only [cutOf]
        rw [e2 _ (by simp; omega), Option.bind_some, hg]
        simp only [cutOf]
        rw [hv, Option.bind_some, I_ParseInt_eq, Option.bind_some, cat_ok (by simp; omega), Option.bind_some, ← i1, I_ParseFields_eq hk _ (by omega), Option.bind_some]
        simp only [Bool.not_true, cond_false]
        generalize hlx : (parseF q.1).1 = l at *
        unfold goodR
        cases h9 : (p.1.take 9 == verH) with
        | false => cases (parseF q.1).2 <;> rfl
        | true =>
          simp only [cond_true, Bool.not_true, cond_false, Bool.true_and]
          cases hpi : (pInt (p.1.drop 9)).2 with
          | false => cases (parseF q.1).2 <;> rfl
          | true =>
            rw [Bool.not_true, cond_false, Bool.true_and]
            cases hok : (parseF q.1).2 with
            | false => rfl
            | true =>
              rw [Bool.not_true, cond_false, Bool.true_and]
              by_cases h0 : l.length = 0
              · have e1 : IntKind.wrap .i64 ((l.length : Int) - 1) = -1 := by rw [h0]; decide
                rw [e1, show decide ((-1 : Int) < 0) = true from rfl, cond_true, decide_eq_false (by omega)]; rfl
              · have hi := last_idx h0 (by omega)
                have ew : IntKind.wrap .i64 ((l.length : Int) - 1) = ((l.length - 1 : Nat) : Int) := by rw [wrap_id (by omega) (by omega)]; omega
                have ht : ssub l (0 : Int) (IntKind.wrap .i64 ((l.length : Int) - 1)) = some (l.take (l.length - 1)) := by
                  rw [ew, ssub_ok (by omega) (by omega) (by omega)]; rfl
                obtain ⟨q1, q2⟩ := p2 (l.length - 1)
                have hd : decide (IntKind.wrap .i64 ((l.length : Int) - 1) < 0) = false := by rw [ew]; exact decide_eq_false (by omega)
                rw [hd, cond_false, decide_eq_true h0, Bool.true_and, hi, Option.bind_some, Option.bind_some, Option.bind_some, Option.bind_some]
                show (bif !((lastF l).Name == clen) then _ else _) = _
                cases hn : ((lastF l).Name == clen) with
                | false => rfl
                | true =>
                  rw [Bool.not_true, cond_false, Bool.true_and, I_FormatInt_eq _ (by omega) (by omega), Option.bind_some]
                  cases ((lastF l).Value == Lib.itoa (q.2.length : Int)) with
                  | false => rfl
                  | true =>
                    rw [Bool.not_true, cond_false, Bool.true_and, ht, Option.bind_some, guardT_self, I_IsResponse_eq hk _ q1 q2, Option.bind_some]
                    cases isResp ⟨(pInt (p.1.drop 9)).1, l.take (l.length - 1), q.2⟩ <;> rfl
theorem respP_len (s : List UInt8) (hs : s.length ≤ 1048576) : (respP s).1.Fields.length < 1073741824 := by
  unfold respP
  cases hh : headL s with
  | none => simp [noResp]
  | some t =>
    obtain ⟨a, f, b⟩ := t
    have hsx := headL_some hh
    have hlen := congrArg List.length hsx
    simp only [List.length_append, List.length_cons] at hlen
    obtain ⟨p1, p2⟩ := parseF_in (x := f) (by omega)
    simp only
    cases (parseF f).2 && goodR a (parseF f).1 b with
    | false => simp [noResp]
    | true => simp only [cond_true, List.length_take]; omega
theorem FnExactParseResponse_pure {k : Nat} (hk : 1073741824 ≤ k) (a0 : List UInt8) (h0 : InS a0) : L_FnExactParseResponse k a0 = some true := by
  unfold L_FnExactParseResponse
  rw [bif_dec]
  by_cases c3 : (a0.length : Int) > 1048576
  · rw [if_pos c3]
  have hs : a0.length ≤ 1048576 := by omega
  have hf := respP_len a0 hs
  rw [if_neg c3]
  simp only [S_ParseResponse_eq hk a0 hs, I_ParseResponse_eq hk a0 hs, Option.bind_some, L_eqResponse_eq hk _ _ hf, L_markResponse_eq hk _ hf, L_heldResponse_eq hk _ hf, decide_true, Bool.not_true, cond_false, bif_dec, bne_self_eq_false, BEq.rfl]
  repeat rw [if_neg (by omega)]
end
end Go.YtolmhhnhmbiofaaGreatDoor
