/- Plain lemmas and definitions. Nothing is claimed here. -/
import Derived.Test.YtolmhhnhmbiofaaDoorKu
import Derived.Lib.IndexMore
set_option linter.unusedVariables false
set_option linter.unusedSimpArgs false
set_option maxRecDepth 100000
namespace Go.YtolmhhnhmbiofaaDoor
open Go Go.RowKit Go.Pv Go.Pu
noncomputable section
def blank (c : UInt8) : Bool := c == 32 || c == 9
def rtrim (x : List UInt8) : List UInt8 := (x.reverse.dropWhile blank).reverse
def trimT (x : List UInt8) : List UInt8 := rtrim (x.dropWhile blank)
theorem rtrim_cons (e : UInt8) (l : List UInt8) : rtrim (e :: l) = if rtrim l = [] then (if blank e then [] else [e]) else e :: rtrim l := by
  unfold rtrim
  rw [List.reverse_cons, List.dropWhile_append]
  cases h : l.reverse.dropWhile blank with
  | nil => cases hb : blank e <;> simp [List.dropWhile_cons, hb]
  | cons a m => simp
theorem rtrim_snoc (l : List UInt8) (c : UInt8) : rtrim (l ++ [c]) = if blank c then rtrim l else l ++ [c] := by
  unfold rtrim
  rw [List.reverse_append]
  cases hb : blank c <;> simp [List.dropWhile_cons, hb]
theorem trim_comm : ∀ x : List UInt8, rtrim (x.dropWhile blank) = (rtrim x).dropWhile blank
  | [] => rfl
  | e :: l => by
    have ih := trim_comm l
    rw [rtrim_cons, List.dropWhile_cons]
    cases hb : blank e with
    | true =>
      by_cases h : rtrim l = []
      · rw [h] at ih; simp [h, ih]
      · simp [h, List.dropWhile_cons, hb, ih]
    | false =>
      rw [if_neg (by simp), rtrim_cons]
      by_cases h : rtrim l = []
      · simp [h, List.dropWhile_cons, hb]
      · simp [h, List.dropWhile_cons, hb]
theorem trimS_eq (x : List UInt8) : Lib.trimS x [32, 9] = trimT x := by
  have hc : (fun b : UInt8 => ([32, 9] : List UInt8).contains b) = blank := by
    funext b; unfold blank
    simp only [List.contains, List.elem]
    cases h1 : (b == 32) <;> cases h2 : (b == 9) <;> rfl
  unfold Lib.trimS Lib.trimLeftS Lib.trimRightS trimT
  rw [hc, trim_comm]; rfl
theorem rtrim_len (x : List UInt8) : (rtrim x).length ≤ x.length := by
  unfold rtrim
  have := (List.dropWhile_sublist blank (l := x.reverse)).length_le
  simpa using this
theorem trimT_len (x : List UInt8) : (trimT x).length ≤ x.length := by
  have h1 := (List.dropWhile_sublist blank (l := x)).length_le
  have h2 := rtrim_len (x.dropWhile blank)
  unfold trimT; omega
theorem I_TrimText_eq {k : Nat} (x : List UInt8) (h : x.length < 1073741824) : I_TrimText k x = some (trimT x) := by
  have hd : (decide (x.length ≤ 9223372036854775807) && decide (([32, 9] : List UInt8).length < 4294967281) && ([32, 9] : List UInt8).all (fun b => decide (b.toNat < 128))) = true := by
    rw [Bool.and_eq_true, Bool.and_eq_true]; exact ⟨⟨decide_eq_true (by omega), by decide⟩, by decide⟩
  rw [I_TrimText, strings_Trim, trimO, hd, cond_true, trimS_eq]; rfl
theorem S_l4Blank_eq {k : Nat} (c : UInt8) : S_l4Blank k (UInt8.toNat c : Int) = some (blank c) := by
  have h1 := u8_eq c 32
  have h2 := u8_eq c 9
  rw [S_l4Blank, show (32 : Int) = ((32 : UInt8).toNat : Int) from rfl, h1, show (9 : Int) = ((9 : UInt8).toNat : Int) from rfl, h2]
  unfold blank
  cases (c == 32) <;> rfl
theorem S_Trim_1 {k : Nat} : ∀ (n : Nat) (x : List UInt8), x.length < n → x.length < 1073741824 → S_TrimText_b0 k n x = some (x.dropWhile blank) := by
  intro n
  induction n with
  | zero => intro x h; omega
  | succ n ih =>
    intro x h hx
    rw [S_TrimText_b0, bif_dec]
    cases x with
    | nil => rw [if_neg (by simp)]; rfl
    | cons c l =>
      have e : idx (c :: l) (0 : Int) = some c := rfl
      have hs : ssub (c :: l) (1 : Int) ((c :: l).length : Int) = some l := by
        have := ssub_drop (x := c :: l) (i := 1) (by simp)
        simpa using this
      rw [if_pos (by rw [List.length_cons]; omega), e, Option.bind_some, S_l4Blank_eq, Option.bind_some, List.dropWhile_cons]
      cases blank c with
      | true => rw [cond_true, hs, Option.bind_some, ih l (by simp at h; omega) (by simp at hx; omega), if_pos rfl]
      | false => rw [cond_false, if_neg (by simp)]
theorem S_Trim_2 {k : Nat} : ∀ (n : Nat) (x : List UInt8), x.length < n → x.length < 1073741824 → S_TrimText_b2 k n x = some (rtrim x) := by
  intro n
  induction n with
  | zero => intro x h; omega
  | succ n ih =>
    intro x h hx
    rw [S_TrimText_b2, bif_dec]
    rcases List.eq_nil_or_concat x with rfl | ⟨l, c, rfl⟩
    · rw [if_neg (by simp)]; rfl
    · rw [List.concat_eq_append] at *
      have hl : (l ++ [c]).length = l.length + 1 := by simp
      have e1 : IntKind.wrap .i64 (((l ++ [c]).length : Int) - 1) = (l.length : Int) := by rw [wrap_id (by omega) (by omega)]; omega
      have e2 : idx (l ++ [c]) (l.length : Int) = some c := by
        show (l ++ [c])[l.length]? = some c
        simp
      have e3 : ssub (l ++ [c]) (0 : Int) (l.length : Int) = some l := by
        rw [ssub_take (by omega)]; simp
      rw [if_pos (by omega), e1, e2, Option.bind_some, S_l4Blank_eq, Option.bind_some, rtrim_snoc]
      cases blank c with
      | true => rw [cond_true, e3, Option.bind_some, ih l (by omega) (by omega), if_pos rfl]
      | false => rw [cond_false, if_neg (by simp)]
theorem S_TrimText_eq {k : Nat} (hk : 1073741824 ≤ k) (x : List UInt8) (h : x.length < 1073741824) : S_TrimText k x = some (trimT x) := by
  have h1 := (List.dropWhile_sublist blank (l := x)).length_le
  rw [S_TrimText, S_Trim_1 k x (by omega) h, Option.bind_some, S_Trim_2 k _ (by omega) (by omega)]; rfl
def lowB (c : UInt8) : UInt8 := bif decide (65 ≤ c.toNat) && decide (c.toNat ≤ 90) then c + 32 else c
def lowT (s : List UInt8) : List UInt8 := s.map lowB
theorem lowB_add : ∀ j : Fin 256, (65 ≤ j.val ∧ j.val ≤ 90) → IntKind.wrap .u8 ((j.val : Int) + 32) = (((UInt8.ofNat j.val) + 32).toNat : Int) := by decide +kernel
theorem low_wrap (c : UInt8) (h : 65 ≤ c.toNat ∧ c.toNat ≤ 90) : IntKind.wrap .u8 ((c.toNat : Int) + 32) = ((c + 32).toNat : Int) := by
  have := lowB_add ⟨c.toNat, UInt8.toNat_lt c⟩ h
  simpa using this
theorem bytes_ints (s : List UInt8) : bytesOf (intsOf s) = s := by
  unfold bytesOf intsOf
  rw [List.map_map]
  conv => rhs; rw [← List.map_id s]
  refine List.map_congr_left fun c _ => ?_
  simp
theorem ints_len (s : List UInt8) : (intsOf s).length = s.length := by unfold intsOf; simp
theorem ints_idx {s : List UInt8} {i : Nat} (h : i < s.length) : idx (intsOf s) (i : Int) = some (s[i].toNat : Int) := by
  rw [idx_nat (by rw [ints_len]; exact h)]; simp [intsOf]
theorem ints_set (s : List UInt8) (i : Nat) (c : UInt8) : (intsOf s).set i (c.toNat : Int) = intsOf (s.set i c) := by
  unfold intsOf; rw [List.map_set]
theorem low_loop {L : Nat} {F : Nat → Int → List Int → Option (List Int)} (T : ∀ n (i : Nat) (s : List UInt8) (h : i < s.length), s.length = L → F (n + 1) (i : Int) (intsOf s) = F n ((i + 1 : Nat) : Int) (intsOf (s.set i (lowB s[i]))))
    (E : ∀ n (i : Nat) (s : List UInt8), s.length ≤ i → s.length = L → F (n + 1) (i : Int) (intsOf s) = some (intsOf s)) : ∀ (n i : Nat) (s : List UInt8), i ≤ s.length → s.length - i < n → s.length = L → F n (i : Int) (intsOf s) = some (intsOf (s.take i ++ (s.drop i).map lowB)) := by
  intro n
  induction n with
  | zero => intro i s _ h; omega
  | succ n ih =>
    intro i s hi hn hs
    by_cases h : i < s.length
    · rw [T n i s h hs, ih (i + 1) _ (by simp; omega) (by simp; omega) (by simpa using hs)]
      congr 2
      rw [List.drop_eq_getElem_cons h, List.map_cons]
      have e1 : (s.set i (lowB s[i])).take (i + 1) = s.take i ++ [lowB s[i]] := by
        apply List.ext_getElem?
        intro j
        by_cases hj : j < i
        · rw [List.getElem?_take, if_pos (by omega), List.getElem?_set_ne (by omega), List.getElem?_append_left (by simp; omega), List.getElem?_take, if_pos hj]
        · by_cases hj2 : j = i
          · subst hj2
            rw [List.getElem?_take, if_pos (by omega), List.getElem?_set_self h, List.getElem?_append_right (by simp; omega)]
            simp [Nat.min_eq_left (Nat.le_of_lt h)]
          · rw [List.getElem?_take, if_neg (by omega), List.getElem?_eq_none (by simp; omega)]
      have e2 : (s.set i (lowB s[i])).drop (i + 1) = s.drop (i + 1) := by
        apply List.ext_getElem?
        intro j
        rw [List.getElem?_drop, List.getElem?_drop, List.getElem?_set_ne (by omega)]
      rw [e1, e2, List.append_assoc]; rfl
    · rw [E n i s (by omega) hs, List.drop_of_length_le (by omega), List.take_of_length_le (by omega)]; simp
theorem S_LowerText_eq {k : Nat} (hk : 1073741824 ≤ k) (s : List UInt8) (h : s.length < 1073741824) : S_LowerText k s = some (lowT s) := by
  have := low_loop (L := s.length) (F := fun n i r => S_LowerText_b0 k n i r) (fun n i s hi hs => by
    have hb := UInt8.toNat_lt s[i]
    have hlen : ((i : Int) < ((intsOf s).length : Int)) := by rw [ints_len]; omega
    simp only [S_LowerText_b0, bif_dec, hlen, if_true, S_LowerText_b1, ints_idx hi, Option.bind_some, wrap_succ (by omega : i < 9223372036854775807)]
    rw [wrap_id (by omega) (by omega), S_l1In]
    by_cases c1 : 65 ≤ s[i].toNat
    · by_cases c2 : s[i].toNat ≤ 90
      · have e1 : decide ((s[i].toNat : Int) ≥ 65) = true := decide_eq_true (by omega)
        have e2 : decide ((s[i].toNat : Int) ≤ 90) = true := decide_eq_true (by omega)
        have e3 : lowB s[i] = s[i] + 32 := by unfold lowB; rw [decide_eq_true c1, decide_eq_true c2]; rfl
        simp only [e1, e2, S_LowerText_c18, cond_true, Option.bind_some, ints_idx hi, low_wrap _ ⟨c1, c2⟩, Int.toNat_natCast, ints_set, e3]
      · have e1 : decide ((s[i].toNat : Int) ≥ 65) = true := decide_eq_true (by omega)
        have e2 : decide ((s[i].toNat : Int) ≤ 90) = false := decide_eq_false (by omega)
        have e3 : lowB s[i] = s[i] := by unfold lowB; rw [decide_eq_false c2]; simp
        simp only [e1, e2, cond_true, cond_false, Option.bind_some, S_LowerText_c18, e3, List.set_getElem_self]
    · have e1 : decide ((s[i].toNat : Int) ≥ 65) = false := decide_eq_false (by omega)
      have e3 : lowB s[i] = s[i] := by unfold lowB; rw [decide_eq_false c1]; simp
      simp only [e1, cond_false, Option.bind_some, S_LowerText_c18, e3, List.set_getElem_self]) (fun n i s hi _ => by
    have hlen : ¬ ((i : Int) < ((intsOf s).length : Int)) := by rw [ints_len]; omega
    simp only [S_LowerText_b0, bif_dec, hlen, if_false]) k 0 s (by omega) (by omega) rfl
  have h1 : S_LowerText_b0 k k 0 (intsOf s) = some (intsOf (s.take 0 ++ (s.drop 0).map lowB)) := this
  rw [S_LowerText, h1, Option.bind_some, bytes_ints]; simp [lowT]
theorem I_LowerText_eq {k : Nat} (hk : 1073741824 ≤ k) (s : List UInt8) (h : s.length < 1073741824) : I_LowerText k s = some (lowT s) := by
  have := low_loop (L := s.length) (F := fun n i r => I_LowerText_b0 k n (s.length : Int) i r) (fun n i t hi hs => by
    have hb := UInt8.toNat_lt t[i]
    have hlen : ((i : Int) < (s.length : Int)) := by omega
    simp only [I_LowerText_b0, bif_dec, hlen, if_true, I_LowerText_b1, ints_idx hi, Option.bind_some, wrap_succ (by omega : i < 9223372036854775807)]
    by_cases c1 : 65 ≤ t[i].toNat
    · by_cases c2 : t[i].toNat ≤ 90
      · have e1 : ((t[i].toNat : Int) ≥ 65) := by omega
        have e2 : decide ((t[i].toNat : Int) ≤ 90) = true := decide_eq_true (by omega)
        have e3 : lowB t[i] = t[i] + 32 := by unfold lowB; rw [decide_eq_true c1, decide_eq_true c2]; rfl
        simp only [e1, e2, if_true, I_LowerText_c20, cond_true, Option.bind_some, ints_idx hi, low_wrap _ ⟨c1, c2⟩, Int.toNat_natCast, ints_set, e3]
      · have e1 : ((t[i].toNat : Int) ≥ 65) := by omega
        have e2 : decide ((t[i].toNat : Int) ≤ 90) = false := decide_eq_false (by omega)
        have e3 : lowB t[i] = t[i] := by unfold lowB; rw [decide_eq_false c2]; simp
        simp only [e1, e2, if_true, I_LowerText_c20, cond_false, Option.bind_some, e3, List.set_getElem_self]
    · have e1 : ¬ ((t[i].toNat : Int) ≥ 65) := by omega
      have e3 : lowB t[i] = t[i] := by unfold lowB; rw [decide_eq_false c1]; simp
      simp only [e1, if_false, I_LowerText_c20, cond_false, Option.bind_some, e3, List.set_getElem_self]) (fun n i t hi ht => by
    have hlen : ¬ ((i : Int) < (s.length : Int)) := by omega
    simp only [I_LowerText_b0, bif_dec, hlen, if_false]) k 0 s (by omega) (by omega) rfl
  have h1 : I_LowerText_b0 k k (s.length : Int) 0 (intsOf s) = some (intsOf (s.take 0 ++ (s.drop 0).map lowB)) := this
  rw [I_LowerText, ints_len, h1, Option.bind_some, bytes_ints]; simp [lowT]
theorem lowT_len (s : List UInt8) : (lowT s).length = s.length := by unfold lowT; simp
def mk15 : List UInt8 := [33, 35, 36, 37, 38, 39, 42, 43, 45, 46, 94, 95, 124, 126, 96]
def mk14 : List UInt8 := [33, 35, 36, 37, 38, 39, 42, 43, 45, 46, 94, 95, 124, 126]
def letB (c : UInt8) : Bool := (decide (97 ≤ c.toNat) && decide (c.toNat ≤ 122)) || (decide (65 ≤ c.toNat) && decide (c.toNat ≤ 90)) || (decide (48 ≤ c.toNat) && decide (c.toNat ≤ 57))
def mkP (c : UInt8) (i : Nat) : Bool := match mk15[i]? with | some m => c == m | none => false
def tokB (c : UInt8) : Bool := (firstI (mkP c) 15 0).isSome || letB c
theorem S_l4Letter_eq {k : Nat} (c : UInt8) : S_l4Letter k (c.toNat : Int) = some (letB c) := by
  have hb := UInt8.toNat_lt c
  rw [S_l4Letter, wrap_id (by omega) (by omega)]
  simp only [S_l1In, bif_dec, letB]
  by_cases a1 : 97 ≤ c.toNat <;> by_cases a2 : c.toNat ≤ 122 <;> by_cases a3 : 65 ≤ c.toNat <;> by_cases a4 : c.toNat ≤ 90 <;> by_cases a5 : 48 ≤ c.toNat <;> by_cases a6 : c.toNat ≤ 57 <;>
    simp [a1, a2, a3, a4, a5, a6, show ((c.toNat : Int) ≥ 97) = (97 ≤ c.toNat) from by simp; omega, show ((c.toNat : Int) ≤ 122) = (c.toNat ≤ 122) from by simp; omega, show ((c.toNat : Int) ≥ 65) = (65 ≤ c.toNat) from by simp; omega, show ((c.toNat : Int) ≤ 90) = (c.toNat ≤ 90) from by simp; omega, show ((c.toNat : Int) ≥ 48) = (48 ≤ c.toNat) from by simp; omega, show ((c.toNat : Int) ≤ 57) = (c.toNat ≤ 57) from by simp; omega]
theorem S_l4Token_eq {k : Nat} (hk : 1073741824 ≤ k) (c : UInt8) : S_l4Token k (c.toNat : Int) = some (tokB c) := by
  have := find_all (len := 15) (c := fun i => bif mkP c i then some true else none) (F := fun n i => S_l4Token_b0 k n (c.toNat : Int) i) (fun n i hi => by
    have hl : i < mk15.length := hi
    have e : idx ([33, 35, 36, 37, 38, 39, 42, 43, 45, 46, 94, 95, 124, 126, 96] : List UInt8) (i : Int) = some mk15[i] := idx_nat hl
    have e2 : decide ((i : Int) < 15) = true := decide_eq_true (by omega)
    simp only [S_l4Token_b0, e2, cond_true, e, Option.bind_some, u8_eq, wrap_succ (by omega : i < 9223372036854775807), mkP, List.getElem?_eq_getElem hl]
    cases (c == mk15[i]) <;> rfl) (fun n i hi => by
    have e2 : decide ((i : Int) < 15) = false := decide_eq_false (by omega)
    simp only [S_l4Token_b0, e2, cond_false]) (k := k) (by omega)
  rw [S_l4Token, this, findI_first]
  unfold tokB
  cases firstI (mkP c) 15 0 with
  | none => simp [ocOf, oc, S_l4Letter_eq]
  | some j => simp [ocOf, oc]
theorem tok_tab : ∀ j : Fin 256, tokB (UInt8.ofNat j.val) = (letB (UInt8.ofNat j.val) || decide (Lib.indexByte mk14 (UInt8.ofNat j.val) ≥ 0) || (UInt8.ofNat j.val == 96)) := by decide +kernel
theorem tok_eq (c : UInt8) : tokB c = (letB c || decide (Lib.indexByte mk14 c ≥ 0) || (c == 96)) := by
  have := tok_tab ⟨c.toNat, UInt8.toNat_lt c⟩
  simpa using this
theorem I_isTokenByte_eq {k : Nat} (c : UInt8) : I_isTokenByte k (c.toNat : Int) = some (tokB c) := by
  have hb := UInt8.toNat_lt c
  have hi : strings_IndexByte k [33, 35, 36, 37, 38, 39, 42, 43, 45, 46, 94, 95, 124, 126] (c.toNat : Int) = some (Lib.indexByte mk14 c) := by
    rw [strings_IndexByte, indexByteO, Int.toNat_natCast]; simp [mk14]
  have h96 : ((c.toNat : Int) == 96) = (c == 96) := u8_eq c 96
  rw [I_isTokenByte, hi, h96, tok_eq]
  simp only [Option.bind_some, bif_dec, letB]
  by_cases a1 : 97 ≤ c.toNat <;> by_cases a2 : c.toNat ≤ 122 <;> by_cases a3 : 65 ≤ c.toNat <;> by_cases a4 : c.toNat ≤ 90 <;> by_cases a5 : 48 ≤ c.toNat <;> by_cases a6 : c.toNat ≤ 57 <;> by_cases a7 : Lib.indexByte mk14 c ≥ 0 <;>
    simp [a1, a2, a3, a4, a5, a6, a7, show ((c.toNat : Int) ≥ 97) = (97 ≤ c.toNat) from by simp; omega, show ((c.toNat : Int) ≤ 122) = (c.toNat ≤ 122) from by simp; omega, show ((c.toNat : Int) ≥ 65) = (65 ≤ c.toNat) from by simp; omega, show ((c.toNat : Int) ≤ 90) = (c.toNat ≤ 90) from by simp; omega, show ((c.toNat : Int) ≥ 48) = (48 ≤ c.toNat) from by simp; omega, show ((c.toNat : Int) ≤ 57) = (c.toNat ≤ 57) from by simp; omega]
def ntP (x : List UInt8) (i : Nat) : Bool := match x[i]? with | some c => !tokB c | none => false
def inR (n a b : Int) : Bool := decide (a ≤ n) && decide (n ≤ b)
theorem S_l1In_eq {k : Nat} (n a b : Int) : S_l1In k n a b = some (inR n a b) := by
  rw [S_l1In, bif_dec, inR]
  by_cases h : a ≤ n <;> simp [h]
theorem I_inRange_eq {k : Nat} (n a b : Int) : I_inRange k n a b = some (inR n a b) := by
  rw [I_inRange, bif_dec, inR]
  by_cases h : a ≤ n <;> simp [h]
def isTok (x : List UInt8) : Bool := (firstI (ntP x) x.length 0).isNone && inR (x.length : Int) 1 40
theorem S_IsToken_eq {k : Nat} (hk : 1073741824 ≤ k) (x : List UInt8) (h : x.length < 1073741824) : S_IsToken k x = some (isTok x) := by
  have := find_all (len := x.length) (c := fun i => bif ntP x i then some false else none) (F := fun n i => S_IsToken_b0 k n x i) (fun n i hi => by
    simp only [S_IsToken_b0, idx_nat hi, Option.bind_some, wrap_succ (by omega : i < 9223372036854775807), bif_dec, lt_cast, hi, if_true, ntP, List.getElem?_eq_getElem hi, S_l4Token_eq hk]
    cases tokB x[i] <;> rfl) (fun n i hi => by
    simp only [S_IsToken_b0, bif_dec, lt_cast]
    rw [if_neg (by omega)]) (k := k) (by omega)
  rw [S_IsToken, this, findI_first]
  unfold isTok
  cases firstI (ntP x) x.length 0 <;> simp [ocOf, oc, S_l1In_eq]
theorem I_IsToken_eq {k : Nat} (hk : 1073741824 ≤ k) (x : List UInt8) (h : x.length < 1073741824) : I_IsToken k x = some (isTok x) := by
  have := find_all (len := x.length) (c := fun i => bif ntP x i then some false else none) (F := fun n i => I_IsToken_b0 k n x (x.length : Int) i) (fun n i hi => by
    simp only [I_IsToken_b0, idx_nat hi, Option.bind_some, wrap_succ (by omega : i < 9223372036854775807), bif_dec, lt_cast, hi, if_true, ntP, List.getElem?_eq_getElem hi, I_isTokenByte_eq]
    cases tokB x[i] <;> rfl) (fun n i hi => by
    simp only [I_IsToken_b0, bif_dec, lt_cast]
    rw [if_neg (by omega)]) (k := k) (by omega)
  rw [I_IsToken, this, findI_first]
  unfold isTok
  cases firstI (ntP x) x.length 0 <;> simp [ocOf, oc, I_inRange_eq]
def badV (c : UInt8) : Bool := !inR (c.toNat : Int) 32 126 && c != 9
def bvP (x : List UInt8) (i : Nat) : Bool := match x[i]? with | some c => badV c | none => false
def valOK (x : List UInt8) : Bool := (firstI (bvP x) x.length 0).isNone && decide ((x.length : Int) ≤ 200) && (trimT x == x)
def nameOK (x : List UInt8) : Bool := isTok x && (lowT x == x)
def bfP (l : List IField) (i : Nat) : Bool := match l[i]? with | some e => !nameOK e.Name || !valOK e.Value | none => false
def areF (l : List IField) : Bool := (firstI (bfP l) l.length 0).isNone && decide ((l.length : Int) ≤ 24)
theorem u8_ne9 (c : UInt8) : ((UInt8.toNat c : Int) != (9 : Int)) = (c != 9) := by
  have := u8_eq c 9
  unfold bne
  rw [← this]; rfl
theorem S_l5Value_eq {k : Nat} (hk : 1073741824 ≤ k) (x : List UInt8) (h : x.length < 1073741824) : S_l5Value k x = some (valOK x) := by
  have := find_all (len := x.length) (c := fun i => bif bvP x i then some false else none) (F := fun n i => S_l5Value_b0 k n x i) (fun n i hi => by
    have hb := UInt8.toNat_lt x[i]
    simp only [S_l5Value_b0, idx_nat hi, Option.bind_some, wrap_succ (by omega : i < 9223372036854775807), bif_dec, lt_cast, hi, if_true, bvP, List.getElem?_eq_getElem hi, badV, u8_ne9]
    rw [wrap_id (by omega) (by omega), S_l1In_eq, Option.bind_some]
    cases inR (x[i].toNat : Int) 32 126 <;> cases (x[i] != 9) <;> rfl) (fun n i hi => by
    simp only [S_l5Value_b0, bif_dec, lt_cast]
    rw [if_neg (by omega)]) (k := k) (by omega)
  rw [S_l5Value, this, findI_first, S_TrimText_eq hk x h]
  unfold valOK
  cases firstI (bvP x) x.length 0 with
  | none => cases decide ((x.length : Int) ≤ 200) <;> simp [ocOf, oc]
  | some j => simp [ocOf, oc]
theorem I_isFieldValue_eq {k : Nat} (hk : 1073741824 ≤ k) (x : List UInt8) (h : x.length < 1073741824) : I_isFieldValue k x = some (valOK x) := by
  have := find_all (len := x.length) (c := fun i => bif bvP x i then some false else none) (F := fun n i => I_isFieldValue_b0 k n x (x.length : Int) i) (fun n i hi => by
    have hb := UInt8.toNat_lt x[i]
    simp only [I_isFieldValue_b0, idx_nat hi, Option.bind_some, wrap_succ (by omega : i < 9223372036854775807), bif_dec, lt_cast, hi, if_true, bvP, List.getElem?_eq_getElem hi, badV, u8_ne9]
    rw [wrap_id (by omega) (by omega), I_inRange_eq, Option.bind_some]
    cases inR (x[i].toNat : Int) 32 126 <;> cases (x[i] != 9) <;> rfl) (fun n i hi => by
    simp only [I_isFieldValue_b0, bif_dec, lt_cast]
    rw [if_neg (by omega)]) (k := k) (by omega)
  rw [I_isFieldValue, this, findI_first, I_TrimText_eq x h]
  unfold valOK
  cases firstI (bvP x) x.length 0 with
  | none => cases decide ((x.length : Int) ≤ 200) <;> simp [ocOf, oc]
  | some j => simp [ocOf, oc]
theorem S_l5Name_eq {k : Nat} (hk : 1073741824 ≤ k) (x : List UInt8) (h : x.length < 1073741824) : S_l5Name k x = some (nameOK x) := by
  rw [S_l5Name, S_IsToken_eq hk x h, Option.bind_some, S_LowerText_eq hk x h]
  unfold nameOK
  cases isTok x <;> rfl
def shortF (l : List IField) : Prop := ∀ e ∈ l, e.Name.length < 1073741824 ∧ e.Value.length < 1073741824
theorem S_AreFields_eq {k : Nat} (hk : 1073741824 ≤ k) (l : List IField) (h : l.length < 1073741824) (hs : shortF l) : S_AreFields k l = some (areF l) := by
  have := find_all (len := l.length) (c := fun i => bif bfP l i then some false else none) (F := fun n i => S_AreFields_b0 k n l i) (fun n i hi => by
    obtain ⟨h1, h2⟩ := hs l[i] (List.getElem_mem hi)
    simp only [S_AreFields_b0, idx_nat hi, Option.bind_some, wrap_succ (by omega : i < 9223372036854775807), bif_dec, lt_cast, hi, if_true, bfP, List.getElem?_eq_getElem hi, S_l5Name_eq hk _ h1, S_l5Value_eq hk _ h2]
    cases nameOK l[i].Name <;> cases valOK l[i].Value <;> rfl) (fun n i hi => by
    simp only [S_AreFields_b0, bif_dec, lt_cast]
    rw [if_neg (by omega)]) (k := k) (by omega)
  rw [S_AreFields, this, findI_first]
  unfold areF
  cases firstI (bfP l) l.length 0 <;> simp [ocOf, oc]
theorem I_AreFields_eq {k : Nat} (hk : 1073741824 ≤ k) (l : List IField) (h : l.length < 1073741824) (hs : shortF l) : I_AreFields k l = some (areF l) := by
  have := find_all (len := l.length) (c := fun i => bif bfP l i then some false else none) (F := fun n i => I_AreFields_b0 k n l l (l.length : Int) i) (fun n i hi => by
    obtain ⟨h1, h2⟩ := hs l[i] (List.getElem_mem hi)
    simp only [I_AreFields_b0, idx_nat hi, Option.bind_some, wrap_succ (by omega : i < 9223372036854775807), bif_dec, lt_cast, hi, if_true, bfP, List.getElem?_eq_getElem hi, I_IsToken_eq hk _ h1, I_LowerText_eq hk _ h1, I_isFieldValue_eq hk _ h2, nameOK]
    cases isTok l[i].Name <;> cases (lowT l[i].Name == l[i].Name) <;> cases valOK l[i].Value <;> rfl) (fun n i hi => by
    simp only [I_AreFields_b0, bif_dec, lt_cast]
    rw [if_neg (by omega)]) (k := k) (by omega)
  rw [I_AreFields, this, findI_first]
  unfold areF
  cases firstI (bfP l) l.length 0 <;> simp [ocOf, oc]
def sub (x : List UInt8) (f i : Nat) : List UInt8 := (x.take i).drop f
theorem sub_succ {x : List UInt8} {f i : Nat} (hf : f ≤ i) (hi : i < x.length) : sub x f (i + 1) = sub x f i ++ [x[i]] := by
  unfold sub
  have : x.take (i + 1) = x.take i ++ [x[i]] := by rw [List.take_add_one, List.getElem?_eq_getElem hi]; rfl
  rw [this, List.drop_append_of_le_length (by simp; omega)]
theorem sub_self (x : List UInt8) (i : Nat) : sub x i i = [] := by unfold sub; rw [List.drop_eq_nil_iff]; simp; omega
theorem ssub_sub {x : List UInt8} {f i : Nat} (h1 : f ≤ i) (h : i ≤ x.length) : ssub x (f : Int) (i : Int) = some (sub x f i) := ssub_mid h1 h
def lineL : List UInt8 → Option (List UInt8 × List UInt8)
  | [] => none
  | c :: r => bif c == 13 && (r.head? == some 10) then some ([], r.drop 1) else (lineL r).map fun p => (c :: p.1, p.2)
def colL : List UInt8 → Option (List UInt8 × List UInt8)
  | [] => none
  | c :: r => bif c == 58 then some ([], r) else (colL r).map fun p => (c :: p.1, p.2)
theorem cut_nil {sep : List UInt8} (h : sep ≠ []) : Lib.cut [] sep = ([], [], false) := by
  have : sep.isEmpty = false := by cases sep with | nil => exact absurd rfl h | cons _ _ => rfl
  unfold Lib.cut
  rw [Lib.index, this]; rfl
theorem cut_cons {a : UInt8} {l sep : List UInt8} : Lib.cut (a :: l) sep = bif sep.isPrefixOf (a :: l) then ([], (a :: l).drop sep.length, true) else bif (Lib.cut l sep).2.2 then (a :: (Lib.cut l sep).1, (Lib.cut l sep).2.1, true) else (a :: l, [], false) := by
  have hg := Lib.index_ge l sep
  cases hp : sep.isPrefixOf (a :: l) with
  | true =>
    have hi : Lib.index (a :: l) sep = 0 := by rw [Lib.index, hp]; rfl
    rw [cond_true]
    unfold Lib.cut
    rw [hi, if_pos (by omega)]
    simp
  | false =>
    have hi : Lib.index (a :: l) sep = if Lib.index l sep == -1 then -1 else Lib.index l sep + 1 := by rw [Lib.index, hp]; rfl
    rw [cond_false]
    unfold Lib.cut
    rw [hi]
    by_cases hm : Lib.index l sep = -1
    · rw [hm]; rfl
    · rw [beq_ne hm]
      simp only [Bool.false_eq_true, if_false]
      rw [if_pos (by omega), if_pos (by omega), show (Lib.index l sep + 1).toNat = (Lib.index l sep).toNat + 1 by omega]
      simp only [cond_true, List.take_succ_cons]
      rw [show (Lib.index l sep).toNat + 1 + sep.length = ((Lib.index l sep).toNat + sep.length) + 1 by omega, List.drop_succ_cons]
def cutOf (o : Option (List UInt8 × List UInt8)) (x : List UInt8) : List UInt8 × List UInt8 × Bool := match o with | some p => (p.1, p.2, true) | none => (x, [], false)
theorem cutOf_map {o : Option (List UInt8 × List UInt8)} {c : UInt8} {r : List UInt8} : (bif (cutOf o r).2.2 then (c :: (cutOf o r).1, (cutOf o r).2.1, true) else (c :: r, [], false)) = cutOf (o.map fun p => (c :: p.1, p.2)) (c :: r) := by cases o <;> rfl
theorem pre2 (c : UInt8) (r : List UInt8) : ([13, 10] : List UInt8).isPrefixOf (c :: r) = (c == 13 && (r.head? == some 10)) := by
  cases r with
  | nil => cases h : (c == 13) <;> simp [List.isPrefixOf]
  | cons d r =>
    simp only [List.isPrefixOf, List.head?_cons, Bool.and_true]
    rw [show ((13 : UInt8) == c) = (c == 13) from BEq.comm, show ((10 : UInt8) == d) = (d == 10) from BEq.comm]; rfl
theorem cut_line : ∀ x : List UInt8, Lib.cut x [13, 10] = cutOf (lineL x) x
  | [] => cut_nil (by simp)
  | c :: r => by
    rw [cut_cons, pre2, cut_line r, lineL, cutOf_map]
    cases hc : c == 13 && (r.head? == some 10) with
    | false => rfl
    | true => rfl
theorem cut_col : ∀ x : List UInt8, Lib.cut x [58] = cutOf (colL x) x
  | [] => cut_nil (by simp)
  | c :: r => by
    have e : ([58] : List UInt8).isPrefixOf (c :: r) = (c == 58) := by
      simp only [List.isPrefixOf, Bool.and_true]; exact BEq.comm
    rw [cut_cons, e, cut_col r, colL, cutOf_map]
    cases hc : c == 58 with
    | false => rfl
    | true => rfl
theorem lineL_some : ∀ {x a b : List UInt8}, lineL x = some (a, b) → x = a ++ 13 :: 10 :: b
  | [], _, _, h => by cases h
  | c :: r, a, b, h => by
    rw [lineL] at h
    cases hc : c == 13 && (r.head? == some 10) with
    | true =>
      rw [hc, cond_true] at h
      rw [Bool.and_eq_true, beq_iff_eq, beq_iff_eq] at hc
      cases r with
      | nil => simp at hc
      | cons d r =>
        simp only [List.head?_cons, Option.some.injEq] at hc
        simp only [List.drop_succ_cons, List.drop_zero, Option.some.injEq, Prod.mk.injEq] at h
        rw [hc.1, hc.2, ← h.1, ← h.2]; rfl
    | false =>
      rw [hc, cond_false] at h
      cases hr : lineL r with
      | none => rw [hr] at h; cases h
      | some p =>
        rw [hr] at h
        simp only [Option.map_some, Option.some.injEq, Prod.mk.injEq] at h
        have := lineL_some (a := p.1) (b := p.2) (by rw [hr])
        rw [← h.1, ← h.2, List.cons_append, ← this]
theorem colL_some : ∀ {x a b : List UInt8}, colL x = some (a, b) → x = a ++ 58 :: b
  | [], _, _, h => by cases h
  | c :: r, a, b, h => by
    rw [colL] at h
    cases hc : c == 58 with
    | true =>
      rw [hc, cond_true] at h
      simp only [Option.some.injEq, Prod.mk.injEq] at h
      rw [beq_iff_eq] at hc
      rw [hc, ← h.1, ← h.2]; rfl
    | false =>
      rw [hc, cond_false] at h
      cases hr : colL r with
      | none => rw [hr] at h; cases h
      | some p =>
        rw [hr] at h
        simp only [Option.map_some, Option.some.injEq, Prod.mk.injEq] at h
        have := colL_some (a := p.1) (b := p.2) (by rw [hr])
        rw [← h.1, ← h.2, List.cons_append, ← this]
theorem u8_13 (c : UInt8) : ((c.toNat : Int) == 13) = (c == 13) := u8_eq c 13
theorem u8_10 (c : UInt8) : ((c.toNat : Int) == 10) = (c == 10) := u8_eq c 10
theorem u8_58 (c : UInt8) : ((c.toNat : Int) == 58) = (c == 58) := u8_eq c 58
theorem S_line_loop {k : Nat} {x : List UInt8} {f : Nat} (hx : x.length < 1073741824) : ∀ (n i : Nat), f ≤ i → i ≤ x.length → x.length - i < n →
    S_l5Line_b0 k n x (f : Int) (i : Int) = some (match lineL (x.drop i) with | some p => .oth (sub x f i ++ p.1, ((i + p.1.length + 2 : Nat) : Int)) | none => .nrm ()) := by
  intro n
  induction n with
  | zero => intro i _ _ h; omega
  | succ n ih =>
    intro i hf hi hn
    rw [S_l5Line_b0, bif_dec, if_pos (by omega), wrap_succ (by omega), bif_dec]
    by_cases c : i + 1 < x.length
    · have e2 : IntKind.wrap .i64 ((i : Int) + 2) = ((i + 2 : Nat) : Int) := by rw [wrap_id (by omega) (by omega)]; rfl
      have hi2 : i < x.length := by omega
      rw [if_pos (by omega), idx_nat hi2, Option.bind_some, u8_13, idx_nat c, Option.bind_some, u8_10, ssub_sub hf hi, Option.bind_some, e2, List.drop_eq_getElem_cons hi2, lineL, List.drop_eq_getElem_cons c, List.head?_cons, ih (i + 1) (by omega) (by omega) (by omega), List.drop_eq_getElem_cons c]
      have o1 : ∀ y : UInt8, (some y == some 10) = (y == 10) := fun y => rfl
      rw [o1]
      have rest : (some (match lineL (x[i + 1] :: x.drop (i + 1 + 1)) with | some p => .oth (sub x f (i + 1) ++ p.1, ((i + 1 + p.1.length + 2 : Nat) : Int)) | none => .nrm ()) : Option (Oc Unit (List UInt8 × Int))) = some (match (lineL (x[i + 1] :: x.drop (i + 1 + 1))).map (fun p => (x[i] :: p.1, p.2)) with | some p => .oth (sub x f i ++ p.1, ((i + p.1.length + 2 : Nat) : Int)) | none => .nrm ()) := by
        cases lineL (x[i + 1] :: x.drop (i + 1 + 1)) with
        | none => rfl
        | some p =>
          simp only [Option.map_some]
          rw [sub_succ hf hi2, List.append_assoc, List.length_cons]
          congr 4
          omega
      cases h1 : (x[i] == 13) with
      | false => rw [cond_false, Bool.false_and, cond_false]; exact rest
      | true =>
        cases h2 : (x[i + 1] == 10) with
        | false => rw [cond_true, cond_false, Bool.true_and, cond_false]; exact rest
        | true => simp
    · rw [if_neg (by omega)]
      have : lineL (x.drop i) = none := by
        by_cases c2 : i < x.length
        · rw [List.drop_eq_getElem_cons c2, List.drop_of_length_le (by omega), lineL]
          simp [lineL]
        · rw [List.drop_of_length_le (by omega)]; rfl
      rw [this]
theorem S_l5Line_eq {k : Nat} (hk : 1073741824 ≤ k) (x : List UInt8) (i : Nat) (h : x.length < 1073741824) (hi : i ≤ x.length) : S_l5Line k x (i : Int) = some (match lineL (x.drop i) with | some p => (p.1, ((i + p.1.length + 2 : Nat) : Int)) | none => ([], -1)) := by
  rw [S_l5Line, S_line_loop h k i (Nat.le_refl _) hi (by omega), Option.bind_some]
  cases lineL (x.drop i) with
  | none => rfl
  | some p => simp only [oc, sub_self, List.nil_append]
def pfL : Nat → List UInt8 → List IField → Option (List IField)
  | 0, _, _ => none
  | n + 1, x, r => bif x == [] then some r else match lineL x with
    | none => none
    | some p => match colL p.1 with
      | none => none
      | some q => pfL n p.2 (r ++ [⟨lowT q.1, trimT q.2⟩])
theorem lineL_len {x : List UInt8} {p : List UInt8 × List UInt8} (h : lineL x = some p) : x.length = p.1.length + p.2.length + 2 := by
  have := lineL_some (a := p.1) (b := p.2) h
  rw [this]; simp; omega
theorem colL_len {x : List UInt8} {p : List UInt8 × List UInt8} (h : colL x = some p) : x.length = p.1.length + p.2.length + 1 := by
  have := colL_some (a := p.1) (b := p.2) h
  rw [this]; simp; omega
theorem I_pf_loop {k : Nat} (hk : 1073741824 ≤ k) : ∀ (n m : Nat) (x : List UInt8) (r : List IField), x.length < n → x.length < m → x.length < 1073741824 → r.length + x.length < 1073741824 →
    I_ParseFields_b0 k n x r = some (match pfL m x r with | some l => .nrm l | none => .oth ([], false)) := by
  intro n
  induction n with
  | zero => intro m x r h; omega
  | succ n ih =>
    intro m x r h1 h2 h3 h4
    obtain ⟨m, rfl⟩ : ∃ m', m = m' + 1 := ⟨m - 1, by omega⟩
    have e1 : strings_Cut k x [13, 10] = some (Lib.cut x [13, 10]) := by
      show (bif decide (x.length < 4294967281) then some (Lib.cut x [13, 10]) else none) = _
      rw [decide_eq_true (by omega)]; rfl
    rw [I_ParseFields_b0, pfL, e1, Option.bind_some, cut_line]
    cases hx : (x == []) with
    | true => rfl
    | false =>
      rw [Bool.not_false, cond_true, cond_false]
      have e2 : ∀ y : List UInt8, y.length < 4294967281 → strings_Cut k y [58] = some (cutOf (colL y) y) := by
        intro y hy
        show (bif decide (y.length < 4294967281) then some (Lib.cut y [58]) else none) = _
        rw [decide_eq_true hy, cut_col]; rfl
      cases hl : lineL x with
      | none =>
        show ((strings_Cut k x [58]).bind _) = _
        rw [e2 x (by omega)]; rfl
      | some p =>
        have hp := lineL_len hl
        show ((strings_Cut k p.1 [58]).bind _) = _
        rw [e2 p.1 (by omega), Option.bind_some]
        simp only [cutOf, Bool.not_true, cond_false]
        cases hc : colL p.1 with
        | none => rfl
        | some q =>
          have hq := colL_len hc
          simp only [Bool.not_true, cond_false]
          rw [I_LowerText_eq hk _ (by omega), Option.bind_some, I_TrimText_eq _ (by omega), Option.bind_some, appn_ok (by simp; omega), Option.bind_some]
          exact ih m p.2 _ (by omega) (by omega) (by omega) (by simp; omega)
theorem S_col_loop {k : Nat} {x y : List UInt8} {z : Int} {r : List IField} (hy : y.length < 1073741824) : ∀ (n i : Nat), i ≤ y.length → y.length - i < n →
    S_ParseFields_b2 k n x y z (i : Int) r = some (match colL (y.drop i) with | some q => ((i + q.1.length : Nat) : Int) | none => (y.length : Int)) := by
  intro n
  induction n with
  | zero => intro i _ h; omega
  | succ n ih =>
    intro i hi hn
    rw [S_ParseFields_b2, bif_dec]
    by_cases c : i < y.length
    · rw [if_pos (by omega), idx_nat c, Option.bind_some, bne, u8_58, wrap_succ (by omega), ih (i + 1) (by omega) (by omega), List.drop_eq_getElem_cons c, colL]
      cases h : (y[i] == 58) with
      | true => rfl
      | false =>
        rw [cond_false]
        cases colL (y.drop (i + 1)) with
        | none => rfl
        | some q =>
          simp only [Option.map_some, List.length_cons, Bool.not_false, cond_true]
          congr 2; omega
    · rw [if_neg (by omega), List.drop_of_length_le (by omega)]
      simp only [colL]
      rw [show i = y.length by omega]
theorem S_pf_loop {k : Nat} (hk : 1073741824 ≤ k) {s : List UInt8} (hs : s.length < 536870912) : ∀ (n m i : Nat) (r : List IField), i ≤ s.length → s.length - i < n → s.length - i < m → r.length ≤ i →
    S_ParseFields_b0 k n s (i : Int) r = some (match pfL m (s.drop i) r with | some l => .nrm l | none => .oth ([], false)) := by
  intro n
  induction n with
  | zero => intro m i r _ h; omega
  | succ n ih =>
    intro m i r hi h1 h2 hr
    obtain ⟨m, rfl⟩ : ∃ m', m = m' + 1 := ⟨m - 1, by omega⟩
    rw [S_ParseFields_b0, bif_dec, pfL]
    by_cases c : i < s.length
    · have hne : (s.drop i == []) = false := beq_ne (by intro h; have := congrArg List.length h; simp at this; omega)
      rw [if_pos (by omega), hne, cond_false, S_l5Line_eq hk s i (by omega) hi, Option.bind_some]
      cases hl : lineL (s.drop i) with
      | none =>
        simp only
        have := S_col_loop (k := k) (x := s) (y := []) (z := -1) (r := r) (by simp) k 0 (by simp) (by simp; omega)
        have h0 : S_ParseFields_b2 k k s [] (-1) 0 r = _ := this
        rw [h0, Option.bind_some]; rfl
      | some p =>
        have hp := lineL_len hl
        rw [List.length_drop] at hp
        simp only
        have := S_col_loop (k := k) (x := s) (y := p.1) (z := ((i + p.1.length + 2 : Nat) : Int)) (r := r) (by omega) k 0 (by omega) (by omega)
        have h0 : S_ParseFields_b2 k k s p.1 ((i + p.1.length + 2 : Nat) : Int) 0 r = _ := this
        rw [h0, Option.bind_some, bif_dec, if_neg (by omega), List.drop_zero]
        cases hc : colL p.1 with
        | none => simp
        | some q =>
          have hq := colL_len hc
          have hq2 := colL_some (a := q.1) (b := q.2) hc
          have e1 : ssub p.1 (0 : Int) ((0 + q.1.length : Nat) : Int) = some q.1 := by
            rw [ssub_ok (by omega) (by omega) (by omega)]
            rw [hq2]; simp
          have e2 : IntKind.wrap .i64 (((0 + q.1.length : Nat) : Int) + 1) = ((q.1.length + 1 : Nat) : Int) := by rw [wrap_id (by omega) (by omega)]; push_cast; omega
          have e3 : ssub p.1 ((q.1.length + 1 : Nat) : Int) (p.1.length : Int) = some q.2 := by
            rw [ssub_drop (by omega)]
            rw [hq2]; simp
          simp only
          rw [beq_ne (by omega : ¬ ((0 + q.1.length : Nat) : Int) = (p.1.length : Int)), cond_false, e1, Option.bind_some, S_LowerText_eq hk _ (by omega), Option.bind_some, e2, e3, Option.bind_some, S_TrimText_eq hk _ (by omega), Option.bind_some, appn_ok (by simp; omega), Option.bind_some]
          have hb : p.2 = s.drop (i + p.1.length + 2) := by
            have := lineL_some (a := p.1) (b := p.2) hl
            have h5 : (s.drop i).drop (p.1.length + 2) = p.2 := by
              rw [this, show p.1.length + 2 = (p.1 ++ [13, 10]).length by simp, show p.1 ++ 13 :: 10 :: p.2 = (p.1 ++ [13, 10]) ++ p.2 by simp, List.drop_left]
            rw [← h5, List.drop_drop, Nat.add_assoc]
          rw [hb]
          exact ih m (i + p.1.length + 2) _ (by omega) (by omega) (by omega) (by simp; omega)
    · rw [if_neg (by omega), List.drop_of_length_le (by omega)]; rfl
theorem pfL_ok {N : Nat} : ∀ (m : Nat) (x : List UInt8) (r l : List IField), pfL m x r = some l → x.length ≤ N → (∀ e ∈ r, e.Name.length ≤ N ∧ e.Value.length ≤ N) → (∀ e ∈ l, e.Name.length ≤ N ∧ e.Value.length ≤ N) ∧ l.length ≤ r.length + x.length
  | 0, _, _, _, h, _, _ => by cases h
  | m + 1, x, r, l, h, hx, hr => by
    rw [pfL] at h
    cases hb : (x == []) with
    | true =>
      rw [hb, cond_true, Option.some.injEq] at h
      subst h
      exact ⟨hr, by omega⟩
    | false =>
      rw [hb, cond_false] at h
      cases hl : lineL x with
      | none => rw [hl] at h; cases h
      | some p =>
        have hp := lineL_len hl
        rw [hl] at h
        simp only at h
        cases hc : colL p.1 with
        | none => rw [hc] at h; cases h
        | some q =>
          have hq := colL_len hc
          have ht := trimT_len q.2
          have hlow := lowT_len q.1
          rw [hc] at h
          simp only at h
          obtain ⟨g1, g2⟩ := pfL_ok (N := N) m p.2 _ l h (by omega) (fun e he => by
            rw [List.mem_append, List.mem_singleton] at he
            rcases he with he | rfl
            · exact hr e he
            · exact ⟨by simp only; omega, by simp only; omega⟩)
          refine ⟨g1, ?_⟩
          rw [List.length_append] at g2
          simp only [List.length_cons, List.length_nil] at g2
          omega
def parseF (x : List UInt8) : List IField × Bool := match pfL (x.length + 1) x [] with | some l => bif areF l then (l, true) else ([], false) | none => ([], false)
theorem parseF_ok {N : Nat} (x : List UInt8) (h : x.length ≤ N) : (∀ e ∈ (parseF x).1, e.Name.length ≤ N ∧ e.Value.length ≤ N) ∧ (parseF x).1.length ≤ x.length := by
  unfold parseF
  cases hp : pfL (x.length + 1) x [] with
  | none => simp
  | some l =>
    have := pfL_ok (N := N) _ _ _ _ hp h (by simp)
    simp only
    cases areF l with
    | false => simp
    | true => simpa using this
theorem I_ParseFields_eq {k : Nat} (hk : 1073741824 ≤ k) (x : List UInt8) (h : x.length < 536870912) : I_ParseFields k x = some (parseF x) := by
  rw [I_ParseFields, I_pf_loop hk k (x.length + 1) x [] (by omega) (by omega) (by omega) (by simp; omega), Option.bind_some]
  unfold parseF
  cases hp : pfL (x.length + 1) x [] with
  | none => rfl
  | some l =>
    obtain ⟨g1, g2⟩ := pfL_ok (N := x.length) _ _ _ _ hp (Nat.le_refl _) (by simp)
    simp only [List.length_nil] at g2
    simp only [oc]
    rw [I_AreFields_eq hk l (by omega) (fun e he => by have := g1 e he; omega), Option.bind_some]
    cases areF l <;> rfl
theorem S_ParseFields_eq {k : Nat} (hk : 1073741824 ≤ k) (x : List UInt8) (h : x.length < 536870912) : S_ParseFields k x = some (parseF x) := by
  have := S_pf_loop hk h k (x.length + 1) 0 [] (by omega) (by omega) (by omega) (by simp)
  rw [List.drop_zero] at this
  have h0 : S_ParseFields_b0 k k x 0 [] = _ := this
  rw [S_ParseFields, h0, Option.bind_some]
  unfold parseF
  cases hp : pfL (x.length + 1) x [] with
  | none => rfl
  | some l =>
    obtain ⟨g1, g2⟩ := pfL_ok (N := x.length) _ _ _ _ hp (Nat.le_refl _) (by simp)
    simp only [List.length_nil] at g2
    simp only [oc]
    rw [S_AreFields_eq hk l (by omega) (fun e he => by have := g1 e he; omega), Option.bind_some]
    cases areF l <;> rfl
def chL : Nat → List UInt8 → Option (List UInt8 × List UInt8)
  | 0, _ => none
  | n + 1, x => match lineL x with
    | none => none
    | some p => bif p.1 == [] then some ([], p.2) else (chL n p.2).map fun q => (p.1 ++ 13 :: 10 :: q.1, q.2)
theorem chL_some : ∀ {n : Nat} {x : List UInt8} {q : List UInt8 × List UInt8}, chL n x = some q → x = q.1 ++ 13 :: 10 :: q.2
  | 0, _, _, h => by cases h
  | n + 1, x, q, h => by
    rw [chL] at h
    cases hl : lineL x with
    | none => rw [hl] at h; cases h
    | some p =>
      have hp := lineL_some (a := p.1) (b := p.2) hl
      rw [hl] at h
      simp only at h
      cases hb : (p.1 == []) with
      | true =>
        rw [hb, cond_true, Option.some.injEq] at h
        rw [beq_iff_eq] at hb
        rw [hp, hb, ← h, List.nil_append]
      | false =>
        rw [hb, cond_false] at h
        cases hc : chL n p.2 with
        | none => rw [hc] at h; cases h
        | some t =>
          rw [hc] at h
          simp only [Option.map_some, Option.some.injEq] at h
          have := chL_some hc
          rw [hp, ← h]
          simp only [List.append_assoc, List.cons_append]
          rw [← this]
def headL (s : List UInt8) : Option (List UInt8 × List UInt8 × List UInt8) := match lineL s with
  | none => none
  | some p => (chL (s.length + 1) p.2).map fun q => (p.1, q.1, q.2)
def hdT (s : List UInt8) : List UInt8 × List IField × Int := match headL s with
  | none => ([], [], -1)
  | some t => bif !(parseF t.2.1).2 then ([], [], -1) else (t.1, (parseF t.2.1).1, ((s.length - t.2.2.length : Nat) : Int))
theorem S_head_loop {k : Nat} (hk : 1073741824 ≤ k) {s first : List UInt8} (hs : s.length < 536870912) {f : Nat} : ∀ (n m i : Nat), f ≤ i → i ≤ s.length → s.length - i + 1 < n → s.length - i < m →
    S_l11Head_b0 k n s first (i : Int) (f : Int) = some (match chL m (s.drop i) with
      | none => .nrm ()
      | some q => bif !(parseF (sub s f i ++ q.1)).2 then .oth ([], [], -1) else .oth (first, (parseF (sub s f i ++ q.1)).1, ((s.length - q.2.length : Nat) : Int))) := by
  intro n
  induction n with
  | zero => intro m i _ _ h; omega
  | succ n ih =>
    intro m i hf hi h1 h2
    obtain ⟨m, rfl⟩ : ∃ m', m = m' + 1 := ⟨m - 1, by omega⟩
    rw [S_l11Head_b0, bif_dec, if_pos (by omega), S_l5Line_eq hk s i (by omega) hi, Option.bind_some, chL]
    cases hl : lineL (s.drop i) with
    | none =>
      simp only
      rw [show decide ((-1 : Int) ≥ 0) = false from rfl, cond_false]
      cases n with
      | zero => omega
      | succ n => rw [S_l11Head_b0, bif_dec, if_neg (by omega)]
    | some p =>
      have hp := lineL_len hl
      rw [List.length_drop] at hp
      have hb : p.2 = s.drop (i + p.1.length + 2) := by
        have := lineL_some (a := p.1) (b := p.2) hl
        have h5 : (s.drop i).drop (p.1.length + 2) = p.2 := by
          rw [this, show p.1.length + 2 = (p.1 ++ [13, 10]).length by simp, show p.1 ++ 13 :: 10 :: p.2 = (p.1 ++ [13, 10]) ++ p.2 by simp, List.drop_left]
        rw [← h5, List.drop_drop, Nat.add_assoc]
      simp only
      rw [decide_eq_true (by omega : ((i + p.1.length + 2 : Nat) : Int) ≥ 0), cond_true, ssub_sub hf hi, Option.bind_some, S_ParseFields_eq hk _ (by unfold sub; simp; omega), Option.bind_some, ih m (i + p.1.length + 2) (by omega) (by omega) (by omega) (by omega), ← hb]
      cases he : (p.1 == []) with
      | true =>
        rw [beq_iff_eq] at he
        simp only [cond_true, List.append_nil]
        have : s.length - p.2.length = i + p.1.length + 2 := by omega
        rw [this]
        cases (parseF (sub s f i)).2 <;> rfl
      | false =>
        simp only [cond_false]
        cases hc : chL m p.2 with
        | none => rfl
        | some q =>
          simp only [Option.map_some]
          have : sub s f (i + p.1.length + 2) ++ q.1 = sub s f i ++ (p.1 ++ 13 :: 10 :: q.1) := by
            have hl2 := lineL_some (a := p.1) (b := p.2) hl
            have e1 : sub s f (i + p.1.length + 2) = sub s f i ++ (p.1 ++ [13, 10]) := by
              unfold sub
              have e2 : s.take (i + p.1.length + 2) = s.take i ++ (p.1 ++ [13, 10]) := by
                rw [Nat.add_assoc, List.take_add, hl2, show p.1.length + 2 = (p.1 ++ [13, 10]).length by simp, show p.1 ++ 13 :: 10 :: p.2 = (p.1 ++ [13, 10]) ++ p.2 by simp, List.take_left]
              rw [e2, List.drop_append_of_le_length (by simp; omega)]
            rw [e1]; simp
          rw [this]
theorem S_l11Head_eq {k : Nat} (hk : 1073741824 ≤ k) (s : List UInt8) (hs : s.length < 536870912) : S_l11Head k s = some (hdT s) := by
  have hl0 := S_l5Line_eq hk s 0 (by omega) (by omega)
  have hl0' : S_l5Line k s 0 = _ := hl0
  rw [S_l11Head, hl0', Option.bind_some, List.drop_zero]
  unfold hdT headL
  cases hl : lineL s with
  | none =>
    simp only
    obtain ⟨k', e⟩ : ∃ k', k = k' + 1 := ⟨k - 1, by omega⟩
    have : S_l11Head_b0 k k s [] (-1) (-1) = some (.nrm ()) := by
      conv => lhs; arg 2; rw [e]
      rw [S_l11Head_b0, bif_dec, if_neg (by omega)]
    rw [this]; rfl
  | some p =>
    have hp := lineL_len hl
    have hb : p.2 = s.drop (0 + p.1.length + 2) := by
      have := lineL_some (a := p.1) (b := p.2) hl
      rw [Nat.zero_add]
      conv => rhs; rw [this]
      rw [show p.1.length + 2 = (p.1 ++ [13, 10]).length by simp, show p.1 ++ 13 :: 10 :: p.2 = (p.1 ++ [13, 10]) ++ p.2 by simp, List.drop_left]
    simp only
    rw [S_head_loop hk hs k (s.length + 1) (0 + p.1.length + 2) (Nat.le_refl _) (by omega) (by omega) (by omega), ← hb, Option.bind_some]
    cases hc : chL (s.length + 1) p.2 with
    | none => rfl
    | some q =>
      simp only [Option.map_some, sub_self, List.nil_append]
      cases (parseF q.1).2 <;> rfl
theorem line_swap : ∀ {a x y : List UInt8}, lineL (a ++ 13 :: 10 :: x) = some (a, x) → lineL (a ++ 13 :: 10 :: y) = some (a, y)
  | [], _, _, _ => rfl
  | c :: a, x, y, h => by
    have hh : (c == 13 && ((a ++ 13 :: 10 :: y).head? == some 10)) = (c == 13 && ((a ++ 13 :: 10 :: x).head? == some 10)) := by cases a <;> rfl
    rw [List.cons_append, lineL] at h
    cases hc : (c == 13 && ((a ++ 13 :: 10 :: x).head? == some 10)) with
    | true => rw [hc, cond_true] at h; simp at h
    | false =>
      rw [hc, cond_false] at h
      cases hr : lineL (a ++ 13 :: 10 :: x) with
      | none => rw [hr] at h; cases h
      | some p =>
        rw [hr] at h
        simp only [Option.map_some, Option.some.injEq, Prod.mk.injEq, List.cons.injEq, true_and] at h
        have ih := line_swap (a := a) (x := x) (y := y) (by rw [hr, ← h.1, ← h.2])
        rw [List.cons_append, lineL, hh, hc, cond_false, ih]; rfl
def joinT (l : List (List UInt8)) : List UInt8 := Lib.join l [44, 32]
theorem S_JoinList_loop {k : Nat} {x : List UInt8} {r : List (List UInt8)} (h : 2 * r.length + Lib.lens (x :: r) < 1073741824) : ∀ (n j : Nat), j ≤ r.length → r.length - j < n →
    S_JoinList_b0 k n (x :: r) (x ++ Lib.joinTail [44, 32] (r.take j)) ((j + 1 : Nat) : Int) = some (x ++ Lib.joinTail [44, 32] r) := by
  have hx : Lib.lens (x :: r) = x.length + Lib.lens r := rfl
  intro n
  induction n with
  | zero => intro j _ h; omega
  | succ n ih =>
    intro j hj hn
    rw [S_JoinList_b0, bif_dec]
    by_cases c : j < r.length
    · have hlen : ((j + 1 : Nat) : Int) < ((x :: r).length : Int) := by simp; omega
      have e1 : decide (((j + 1 : Nat) : Int) > 0) = true := decide_eq_true (by omega)
      have e2 : idx (x :: r) ((j + 1 : Nat) : Int) = some r[j] := by
        rw [idx_nat (by simp; omega)]; simp
      have b1 := Lib.joinTail_take_le [44, 32] r j
      have b2 := Lib.joinTail_length [44, 32] r
      have b3 := Lib.joinTail_take_le [44, 32] r (j + 1)
      have b4 := Lib.joinTail_take_succ [44, 32] r j r[j] (List.getElem?_eq_getElem c)
      have b5 := congrArg List.length b4
      simp only [List.length_append, List.length_cons, List.length_nil] at b2 b5
      rw [if_pos hlen, S_JoinList_b1, S_JoinList_c12, e1, cond_true, cat_ok (by simp; omega), Option.bind_some, Option.bind_some, e2, Option.bind_some, cat_ok (by simp; omega), Option.bind_some, Option.bind_some, wrap_succ (by omega)]
      have := ih (j + 1) (by omega) (by omega)
      rw [b4] at this
      rw [← this]
      congr 1
      simp
    · have hlen : ¬ ((j + 1 : Nat) : Int) < ((x :: r).length : Int) := by simp; omega
      rw [if_neg hlen, List.take_of_length_le (by omega)]
theorem S_JoinList_eq {k : Nat} (hk : 1073741824 ≤ k) (l : List (List UInt8)) (h : 2 * l.length + Lib.lens l < 1073741824) : S_JoinList k l = some (joinT l) := by
  obtain ⟨n, rfl⟩ : ∃ n, k = n + 1 := ⟨k - 1, by omega⟩
  rw [S_JoinList, S_JoinList_b0, bif_dec]
  cases l with
  | nil => rfl
  | cons x r =>
    have hx : Lib.lens (x :: r) = x.length + Lib.lens r := rfl
    simp only [List.length_cons] at h
    have hlen : (0 : Int) < ((x :: r).length : Int) := by rw [List.length_cons]; omega
    have e2 : idx (x :: r) (0 : Int) = some x := rfl
    have := S_JoinList_loop (k := n + 1) (x := x) (r := r) (by omega) n 0 (by omega) (by omega)
    rw [List.take_zero] at this
    rw [if_pos hlen, S_JoinList_b1, S_JoinList_c12, e2]
    rw [show (decide ((0 : Int) > 0)) = false from rfl, cond_false, Option.bind_some, Option.bind_some, cat_ok (by simp; omega), Option.bind_some, Option.bind_some]
    rw [show IntKind.wrap .i64 ((0 : Int) + 1) = ((0 + 1 : Nat) : Int) from by rw [wrap_id (by omega) (by omega)]; rfl]
    have e3 : Lib.joinTail [44, 32] ([] : List (List UInt8)) = [] := rfl
    rw [e3, List.append_nil] at this
    rw [List.nil_append, this, Option.bind_some, joinT, Lib.join_cons]
def valOfF (n : List UInt8) (e : IField) : List (List UInt8) := bif e.Name == n then [e.Value] else []
def valsF (l : List IField) (n : List UInt8) : List (List UInt8) := l.flatMap (valOfF n)
def fsz (l : List IField) : Nat := l.length + (l.map fun e => e.Value.length).sum
theorem valsF_len (n : List UInt8) : ∀ l : List IField, (valsF l n).length ≤ l.length
  | [] => by simp [valsF]
  | e :: l => by
    have := valsF_len n l
    unfold valsF at this ⊢
    rw [List.flatMap_cons, List.length_append]
    have h2 : (valOfF n e).length ≤ 1 := by unfold valOfF; cases (e.Name == n) <;> simp
    rw [List.length_cons]; omega
theorem valsF_lens (n : List UInt8) : ∀ l : List IField, Lib.lens (valsF l n) ≤ (l.map fun e => e.Value.length).sum
  | [] => by simp [valsF, Lib.lens]
  | e :: l => by
    have := valsF_lens n l
    unfold valsF at this ⊢
    rw [List.flatMap_cons]
    unfold valOfF at this ⊢
    cases (e.Name == n) with
    | true => simp only [cond_true, List.cons_append, List.nil_append, List.map_cons, List.sum_cons]; show e.Value.length + Lib.lens _ ≤ _; omega
    | false => simp only [cond_false, List.nil_append, List.map_cons, List.sum_cons]; omega
def getF (l : List IField) (n : List UInt8) : List UInt8 × Bool := (joinT (valsF l n), decide (((valsF l n).length : Int) > 0))
theorem S_GetField_eq {k : Nat} (hk : 1073741824 ≤ k) (l : List IField) (n : List UInt8) (h : fsz l < 268435456) : S_GetField k l n = some (getF l n) := by
  have hl : l.length < 268435456 := by unfold fsz at h; omega
  have := fold_all (len := l.length) (g := fun j s => s ++ (l[j]?).elim [] (valOfF n)) (Inv := fun i s => s.length ≤ i) (F := fun m i s => S_GetField_b0 k m l n i s) (out := id) (fun m i s hi hI => by
    simp only [S_GetField_b0, bif_dec, lt_cast, hi, if_true, S_GetField_b1, idx_nat hi, Option.bind_some, S_GetField_c21, wrap_succ (by omega : i < 9223372036854775807), List.getElem?_eq_getElem hi, Option.elim_some, valOfF]
    cases (l[i].Name == n) with
    | true => rw [cond_true, cond_true, appn_ok (by simp; omega)]; exact ⟨rfl, by simp; omega⟩
    | false => rw [cond_false, cond_false, List.append_nil]; exact ⟨rfl, by omega⟩) (fun m i s hi => by
    simp only [S_GetField_b0, bif_dec, lt_cast]
    rw [if_neg (by omega)]; rfl) (k := k) (by omega) (s := []) (by simp)
  have h1 : S_GetField_b0 k k l n 0 [] = some (foldI (fun j s => s ++ (l[j]?).elim [] (valOfF n)) l.length 0 []) := this.1
  have h2 := valsF_len n l
  have h3 := valsF_lens n l
  have hv : foldI (fun j s => s ++ (l[j]?).elim [] (valOfF n)) l.length 0 [] = valsF l n := by
    rw [foldI_append (f := valOfF n) l.length 0 [] (by omega), List.drop_zero]; rfl
  rw [S_GetField, h1, hv, Option.bind_some, S_JoinList_eq hk _ (by unfold fsz at h; omega)]; rfl
def nmP (l : List IField) (n : List UInt8) (i : Nat) : Bool := match l[i]? with | some e => e.Name == n | none => false
def hasF (l : List IField) (n : List UInt8) : Bool := l.any fun e => e.Name == n
theorem firstI_any (l : List IField) (n : List UInt8) : (firstI (nmP l n) l.length 0).isSome = hasF l n := by
  unfold hasF
  cases hf : firstI (nmP l n) l.length 0 with
  | some j =>
    obtain ⟨_, h1, h2, _⟩ := firstI_some _ _ _ hf
    have hj : j < l.length := by omega
    simp only [nmP, List.getElem?_eq_getElem hj] at h2
    exact (List.any_eq_true.2 ⟨l[j], List.getElem_mem hj, h2⟩).symm
  | none =>
    have hn := firstI_none _ _ hf
    refine Eq.symm (List.any_eq_false.2 fun e he => ?_)
    obtain ⟨j, hj, rfl⟩ := List.mem_iff_getElem.1 he
    have := hn j (by omega) (by omega)
    simp only [nmP, List.getElem?_eq_getElem hj] at this
    rw [this]; simp
theorem getF_has (n : List UInt8) : ∀ l : List IField, decide (((valsF l n).length : Int) > 0) = hasF l n
  | [] => rfl
  | e :: l => by
    have ih := getF_has n l
    unfold valsF hasF at ih ⊢
    rw [List.flatMap_cons, List.any_cons, List.length_append]
    unfold valOfF at ih ⊢
    cases (e.Name == n) with
    | true => simp only [cond_true, Bool.true_or, List.length_cons, List.length_nil]; exact decide_eq_true (by omega)
    | false => simp only [cond_false, Bool.false_or, List.length_nil, Nat.zero_add]; exact ih
theorem I_hasField_eq {k : Nat} (hk : 1073741824 ≤ k) (l : List IField) (n : List UInt8) (h : l.length < 1073741824) : I_hasField k l n = some (hasF l n) := by
  have := find_all (len := l.length) (c := fun i => bif nmP l n i then some (i : Int) else none) (F := fun m i => slices_IndexFunc_IField_at_I_hasField_1_b0 k m l n (l.length : Int) i) (fun m i hi => by
    simp only [slices_IndexFunc_IField_at_I_hasField_1_b0, I_hasField_1, idx_nat hi, Option.bind_some, wrap_succ (by omega : i < 9223372036854775807), bif_dec, lt_cast, hi, if_true, nmP, List.getElem?_eq_getElem hi]
    cases (l[i].Name == n) <;> rfl) (fun m i hi => by
    simp only [slices_IndexFunc_IField_at_I_hasField_1_b0, bif_dec, lt_cast]
    rw [if_neg (by omega)]) (k := k) (by omega)
  rw [I_hasField, slices_ContainsFunc_IField_at_I_hasField_1, slices_IndexFunc_IField_at_I_hasField_1, this, findI_first, ← firstI_any]
  cases firstI (nmP l n) l.length 0 with
  | none => rfl
  | some j => simp [ocOf, oc]
def clen : List UInt8 := [99, 111, 110, 116, 101, 110, 116, 45, 108, 101, 110, 103, 116, 104]
def bP (p : UInt8 → Bool) (x : List UInt8) (i : Nat) : Bool := match x[i]? with | some c => p c | none => false
def noB (p : UInt8 → Bool) (x : List UInt8) : Bool := (firstI (bP p x) x.length 0).isNone
theorem bP_at {p : UInt8 → Bool} {x : List UInt8} {i : Nat} (h : i < x.length) : bP p x i = p x[i] := by simp only [bP, List.getElem?_eq_getElem h]
structure ReqIn (r : IRequest) : Prop where
  m : r.Method.length < 1073741824
  h : r.Host.length < 1073741824
  t : r.Target.length < 1073741824
  f : fsz r.Fields < 268435456
  s : shortF r.Fields
theorem noB_all (p : UInt8 → Bool) (x : List UInt8) : noB p x = x.all fun c => !p c := by
  unfold noB
  cases hf : firstI (bP p x) x.length 0 with
  | some j =>
    obtain ⟨_, h1, h2, _⟩ := firstI_some _ _ _ hf
    have hj : j < x.length := by omega
    rw [bP_at hj] at h2
    refine Eq.symm (List.all_eq_false.2 ⟨x[j], List.getElem_mem hj, by simp [h2]⟩)
  | none =>
    have hn := firstI_none _ _ hf
    refine Eq.symm (List.all_eq_true.2 fun c hc => ?_)
    obtain ⟨j, hj, rfl⟩ := List.mem_iff_getElem.1 hc
    have := hn j (by omega) (by omega)
    rw [bP_at hj] at this
    rw [this]; rfl
theorem u8_ne (c d : UInt8) : ((UInt8.toNat c : Int) != (UInt8.toNat d : Int)) = (c != d) := by
  have := u8_eq c d
  unfold bne
  rw [← this]
def isLow (c : UInt8) : Bool := inR (c.toNat : Int) 97 122
def badH (c : UInt8) : Bool := !inR (c.toNat : Int) 97 122 && (!inR (c.toNat : Int) 48 57 && (c != 45 && c != 46))
def badT (c : UInt8) : Bool := !inR (c.toNat : Int) 33 126
def hostT : List UInt8 := [104, 111, 115, 116]
def isReq (r : IRequest) : Bool :=
  noB isLow r.Method && noB badH r.Host && noB badT r.Target && isTok r.Method && inR (r.Host.length : Int) 1 40 && inR (r.Target.length : Int) 1 100 && (r.Target.head? == some 47) && areF r.Fields && decide ((r.Fields.length : Int) < 24) && !hasF r.Fields clen && !hasF r.Fields hostT
theorem idx0 {x : List UInt8} (h : inR (x.length : Int) 1 100 = true) : ∃ c, idx x (0 : Int) = some c ∧ x.head? = some c := by
  unfold inR at h
  simp only [Bool.and_eq_true, decide_eq_true_eq] at h
  cases x with
  | nil => simp at h
  | cons c r => exact ⟨c, rfl, rfl⟩
theorem req_b0 {k : Nat} (hk : 1073741824 ≤ k) (a b c : List UInt8) (d : List IField) (h : a.length < 1073741824) : S_IsRequest_b0 k k 0 a b c d = some (ocOf (bif noB isLow a then none else some false)) := by
  have := find_all (len := a.length) (c := fun i => bif bP isLow a i then some false else none) (F := fun n i => S_IsRequest_b0 k n i a b c d) (fun n i hi => by
    have hb := UInt8.toNat_lt a[i]
    simp only [S_IsRequest_b0, idx_nat hi, Option.bind_some, wrap_succ (by omega : i < 9223372036854775807), bif_dec, lt_cast, hi, if_true, bP_at hi, isLow]
    rw [wrap_id (by omega) (by omega), S_l1In_eq, Option.bind_some]
    cases inR (a[i].toNat : Int) 97 122 <;> rfl) (fun n i hi => by
    simp only [S_IsRequest_b0, bif_dec, lt_cast]
    rw [if_neg (by omega)]) (k := k) (by omega)
  rw [this, findI_first]
  unfold noB
  cases firstI (bP isLow a) a.length 0 <;> rfl
theorem req_b2 {k : Nat} (hk : 1073741824 ≤ k) (a b c : List UInt8) (d : List IField) (h : b.length < 1073741824) : S_IsRequest_b2 k k 0 a b c d = some (ocOf (bif noB badH b then none else some false)) := by
  have := find_all (len := b.length) (c := fun i => bif bP badH b i then some false else none) (F := fun n i => S_IsRequest_b2 k n i a b c d) (fun n i hi => by
    have hb := UInt8.toNat_lt b[i]
    have e45 : ((UInt8.toNat b[i] : Int) != (45 : Int)) = (b[i] != 45) := u8_ne b[i] 45
    have e46 : ((UInt8.toNat b[i] : Int) != (46 : Int)) = (b[i] != 46) := u8_ne b[i] 46
    simp only [S_IsRequest_b2, idx_nat hi, Option.bind_some, wrap_succ (by omega : i < 9223372036854775807), bif_dec, lt_cast, hi, if_true, bP_at hi, badH, e45, e46]
    rw [wrap_id (by omega) (by omega), S_l1In_eq, S_l1In_eq, Option.bind_some]
    cases inR (b[i].toNat : Int) 97 122 <;> cases inR (b[i].toNat : Int) 48 57 <;> cases (b[i] != 45) <;> cases (b[i] != 46) <;> rfl) (fun n i hi => by
    simp only [S_IsRequest_b2, bif_dec, lt_cast]
    rw [if_neg (by omega)]) (k := k) (by omega)
  rw [this, findI_first]
  unfold noB
  cases firstI (bP badH b) b.length 0 <;> rfl
theorem req_b4 {k : Nat} (hk : 1073741824 ≤ k) (a b c : List UInt8) (d : List IField) (h : c.length < 1073741824) : S_IsRequest_b4 k k 0 a b c d = some (ocOf (bif noB badT c then none else some false)) := by
  have := find_all (len := c.length) (c := fun i => bif bP badT c i then some false else none) (F := fun n i => S_IsRequest_b4 k n i a b c d) (fun n i hi => by
    have hb := UInt8.toNat_lt c[i]
    simp only [S_IsRequest_b4, idx_nat hi, Option.bind_some, wrap_succ (by omega : i < 9223372036854775807), bif_dec, lt_cast, hi, if_true, bP_at hi, badT]
    rw [wrap_id (by omega) (by omega), S_l1In_eq, Option.bind_some]
    cases inR (c[i].toNat : Int) 33 126 <;> rfl) (fun n i hi => by
    simp only [S_IsRequest_b4, bif_dec, lt_cast]
    rw [if_neg (by omega)]) (k := k) (by omega)
  rw [this, findI_first]
  unfold noB
  cases firstI (bP badT c) c.length 0 <;> rfl
theorem S_IsRequest_eq {k : Nat} (hk : 1073741824 ≤ k) (r : IRequest) (h : ReqIn r) : S_IsRequest k r = some (isReq r) := by
  have hl : r.Fields.length < 1073741824 := by have := h.f; unfold fsz at this; omega
  have hg : (getF r.Fields hostT).2 = hasF r.Fields hostT := getF_has hostT r.Fields
  have hg2 : (getF r.Fields clen).2 = hasF r.Fields clen := getF_has clen r.Fields
  have e11 : S_l11Fields k r.Fields = some (areF r.Fields && decide ((r.Fields.length : Int) < 24) && !hasF r.Fields clen) := by
    rw [S_l11Fields]
    show (S_GetField k r.Fields clen).bind _ = _
    rw [S_GetField_eq hk _ _ h.f, Option.bind_some, S_AreFields_eq hk _ hl h.s, Option.bind_some, hg2]
    cases areF r.Fields <;> cases decide ((r.Fields.length : Int) < 24) <;> rfl
  rw [S_IsRequest, req_b0 hk _ _ _ _ h.m, Option.bind_some]
  unfold isReq
  cases noB isLow r.Method with
  | false => rfl
  | true =>
    simp only [cond_true, ocOf, oc, req_b2 hk _ _ _ _ h.h, Option.bind_some]
    cases noB badH r.Host with
    | false => rfl
    | true =>
      simp only [cond_true, req_b4 hk _ _ _ _ h.t, Option.bind_some, ocOf, oc]
      cases noB badT r.Target with
      | false => rfl
      | true =>
        simp only [cond_true]
        show ((S_GetField k r.Fields hostT).bind _) = _
        rw [S_GetField_eq hk _ _ h.f, Option.bind_some, S_IsToken_eq hk _ h.m, Option.bind_some, hg]
        simp only [S_l1In_eq, Option.bind_some]
        cases isTok r.Method <;> cases inR (r.Host.length : Int) 1 40 <;> try rfl
        cases ht : inR (r.Target.length : Int) 1 100 with
        | false => simp
        | true =>
          obtain ⟨c, hc, hd⟩ := idx0 ht
          have e47 : ((UInt8.toNat c : Int) == (47 : Int)) = (c == 47) := u8_eq c 47
          have e47' : (some c == some (47 : UInt8)) = (c == 47) := by cases h : (c == 47) <;> simp_all
          simp only [cond_true, hc, hd, Option.bind_some, e47, e11, e47', Bool.true_and]
          cases (c == 47) <;> cases areF r.Fields <;> cases decide ((r.Fields.length : Int) < 24) <;> cases hasF r.Fields clen <;> simp
theorem I_isHost_eq {k : Nat} (hk : 1073741824 ≤ k) (x : List UInt8) (h : x.length < 1073741824) : I_isHost k x = some (noB badH x && inR (x.length : Int) 1 40) := by
  have := find_all (len := x.length) (c := fun i => bif bP badH x i then some false else none) (F := fun n i => I_isHost_b0 k n x (x.length : Int) i) (fun n i hi => by
    have hb := UInt8.toNat_lt x[i]
    have e45 : ((UInt8.toNat x[i] : Int) == (45 : Int)) = (x[i] == 45) := u8_eq x[i] 45
    have e46 : ((UInt8.toNat x[i] : Int) == (46 : Int)) = (x[i] == 46) := u8_eq x[i] 46
    simp only [I_isHost_b0, idx_nat hi, Option.bind_some, wrap_succ (by omega : i < 9223372036854775807), bif_dec, lt_cast, hi, if_true, bP_at hi, badH, e45, e46, inR, bne]
    by_cases a1 : 97 ≤ x[i].toNat <;> by_cases a2 : x[i].toNat ≤ 122 <;> by_cases a5 : 48 ≤ x[i].toNat <;> by_cases a6 : x[i].toNat ≤ 57 <;> cases (x[i] == 45) <;> cases (x[i] == 46) <;>
      simp [a1, a2, a5, a6, show ((x[i].toNat : Int) ≥ 97) = (97 ≤ x[i].toNat) from by simp; omega, show ((97 : Int) ≤ (x[i].toNat : Int)) = (97 ≤ x[i].toNat) from by simp; omega, show ((x[i].toNat : Int) ≤ 122) = (x[i].toNat ≤ 122) from by simp; omega, show ((x[i].toNat : Int) ≥ 48) = (48 ≤ x[i].toNat) from by simp; omega, show ((48 : Int) ≤ (x[i].toNat : Int)) = (48 ≤ x[i].toNat) from by simp; omega, show ((x[i].toNat : Int) ≤ 57) = (x[i].toNat ≤ 57) from by simp; omega]) (fun n i hi => by
    simp only [I_isHost_b0, bif_dec, lt_cast]
    rw [if_neg (by omega)]) (k := k) (by omega)
  rw [I_isHost, this, findI_first]
  unfold noB
  cases firstI (bP badH x) x.length 0 <;> simp [ocOf, oc, I_inRange_eq]
theorem tok_asc : ∀ j : Fin 256, (!tokB (UInt8.ofNat j.val) || decide ((UInt8.ofNat j.val).toNat < 128)) = true := by decide +kernel
theorem upp_tab : ∀ j : Fin 256, (Lib.upperB (UInt8.ofNat j.val) == UInt8.ofNat j.val) = !isLow (UInt8.ofNat j.val) := by decide +kernel
theorem upp_eq (c : UInt8) : (Lib.upperB c == c) = !isLow c := by
  have := upp_tab ⟨c.toNat, UInt8.toNat_lt c⟩
  simpa using this
theorem isTok_asc {x : List UInt8} (h : isTok x = true) : (x.all fun c => decide (c.toNat < 128)) = true := by
  unfold isTok at h
  simp only [Bool.and_eq_true] at h
  have hn : noB (fun c => !tokB c) x = true := h.1
  rw [noB_all] at hn
  refine List.all_eq_true.2 fun c hc => ?_
  have h1 := List.all_eq_true.1 hn c hc
  have h2 := tok_asc ⟨c.toNat, UInt8.toNat_lt c⟩
  simp at h1 h2
  simpa [h1] using h2
theorem upp_all : ∀ x : List UInt8, (Lib.toUpperA x == x) = noB isLow x
  | [] => rfl
  | c :: r => by
    have ih := upp_all r
    rw [noB_all] at ih ⊢
    have e : Lib.toUpperA (c :: r) = Lib.upperB c :: Lib.toUpperA r := rfl
    rw [e, List.cons_beq_cons, upp_eq, ih, List.all_cons]
theorem toUpper_ok {k : Nat} {x : List UInt8} (h : isTok x = true) (hl : x.length < 1073741824) : strings_ToUpper k x = some (Lib.toUpperA x) := by
  rw [strings_ToUpper, toUpperO, isTok_asc h, decide_eq_true (by omega)]; rfl
theorem I_IsRequest_eq {k : Nat} (hk : 1073741824 ≤ k) (r : IRequest) (h : ReqIn r) : I_IsRequest k r = some (isReq r) := by
  have hl : r.Fields.length < 1073741824 := by have := h.f; unfold fsz at this; omega
  have hb0 : I_IsRequest_b0 k k (r.Target.length : Int) 0 r.Method r.Host r.Target r.Fields = some (ocOf (bif noB badT r.Target then none else some false)) := by
    have := find_all (len := r.Target.length) (c := fun i => bif bP badT r.Target i then some false else none) (F := fun n i => I_IsRequest_b0 k n (r.Target.length : Int) i r.Method r.Host r.Target r.Fields) (fun n i hi => by
      have hb := UInt8.toNat_lt r.Target[i]
      have := h.t
      simp only [I_IsRequest_b0, idx_nat hi, Option.bind_some, wrap_succ (by omega : i < 9223372036854775807), bif_dec, lt_cast, hi, if_true, bP_at hi, badT]
      rw [wrap_id (by omega) (by omega), I_inRange_eq, Option.bind_some]
      cases inR (r.Target[i].toNat : Int) 33 126 <;> rfl) (fun n i hi => by
      simp only [I_IsRequest_b0, bif_dec, lt_cast]
      rw [if_neg (by omega)]) (k := k) (by have := h.t; omega)
    rw [this, findI_first]
    unfold noB
    cases firstI (bP badT r.Target) r.Target.length 0 <;> rfl
  have hh1 : I_hasField k r.Fields ([104, 111, 115, 116] : List UInt8) = some (hasF r.Fields hostT) := I_hasField_eq hk _ _ hl
  have hh2 : I_hasField k r.Fields ([99, 111, 110, 116, 101, 110, 116, 45, 108, 101, 110, 103, 116, 104] : List UInt8) = some (hasF r.Fields clen) := I_hasField_eq hk _ _ hl
  rw [I_IsRequest, I_IsToken_eq hk _ h.m, Option.bind_some]
  unfold isReq
  cases hm : isTok r.Method with
  | false => simp
  | true =>
    rw [Bool.not_true, cond_false, toUpper_ok hm h.m, Option.bind_some, upp_all, I_isHost_eq hk _ h.h, Option.bind_some]
    cases noB isLow r.Method with
    | false => rfl
    | true =>
      cases noB badH r.Host with
      | false => rfl
      | true =>
        cases inR (r.Host.length : Int) 1 40 with
        | false => simp
        | true =>
          rw [I_inRange_eq, Option.bind_some]
          cases ht : inR (r.Target.length : Int) 1 100 with
          | false => simp
          | true =>
            obtain ⟨c, hc, hd⟩ := idx0 ht
            have e47 : ((UInt8.toNat c : Int) != (47 : Int)) = (c != 47) := u8_ne c 47
            have e47' : (some c == some (47 : UInt8)) = (c == 47) := by cases h : (c == 47) <;> simp_all
            rw [hc, hd, Option.bind_some, e47, e47', hb0, I_AreFields_eq hk _ hl h.s, hh1, hh2]
            unfold bne
            cases (c == 47) <;> cases noB badT r.Target <;> cases areF r.Fields <;> cases decide ((r.Fields.length : Int) < 24) <;> cases hasF r.Fields hostT <;> cases hasF r.Fields clen <;> rfl
theorem sum_le {N : Nat} : ∀ l : List IField, (∀ e ∈ l, e.Value.length ≤ N) → (l.map fun e => e.Value.length).sum ≤ l.length * N
  | [], _ => by simp
  | e :: l, h => by
    have h1 := h e (by simp)
    have h2 := sum_le l (fun x hx => h x (by simp [hx]))
    simp only [List.map_cons, List.sum_cons, List.length_cons]
    rw [Nat.succ_mul]; omega
theorem parseF_in {x : List UInt8} (h : x.length ≤ 2097152) : (parseF x).1.length ≤ 24 ∧ ∀ n, fsz ((parseF x).1.take n) < 268435456 ∧ shortF ((parseF x).1.take n) := by
  obtain ⟨g1, g2⟩ := parseF_ok (N := 2097152) x h
  have g3 : (parseF x).1.length ≤ 24 := by
    unfold parseF
    cases hp : pfL (x.length + 1) x [] with
    | none => simp
    | some l =>
      simp only
      cases ha : areF l with
      | false => simp
      | true =>
        unfold areF at ha
        rw [Bool.and_eq_true, decide_eq_true_eq] at ha
        rw [cond_true]; simp only; omega
  refine ⟨g3, fun n => ⟨?_, fun e he => ?_⟩⟩
  · have h1 := sum_le (N := 2097152) ((parseF x).1.take n) (fun e he => (g1 e (List.mem_of_mem_take he)).2)
    have h2 : ((parseF x).1.take n).length ≤ 24 := by simp; omega
    unfold fsz
    have h3 : ((parseF x).1.take n).length * 2097152 ≤ 24 * 2097152 := Nat.mul_le_mul_right _ h2
    omega
  · have := g1 e (List.mem_of_mem_take he)
    omega
theorem ssub_n {s : List UInt8} (a b : Nat) (h1 : a ≤ b) (h2 : b ≤ s.length) : ssub s (a : Int) (b : Int) = some ((s.take b).drop a) := by rw [ssub_ok (by omega) (by omega) (by omega)]; rfl
def spL : List UInt8 → Option (List UInt8 × List UInt8)
  | [] => none
  | c :: r => bif c == 32 then some ([], r) else (spL r).map fun p => (c :: p.1, p.2)
theorem cut_sp : ∀ x : List UInt8, Lib.cut x [32] = cutOf (spL x) x
  | [] => cut_nil (by simp)
  | c :: r => by
    have e : ([32] : List UInt8).isPrefixOf (c :: r) = (c == 32) := by
      simp only [List.isPrefixOf, Bool.and_true]; exact BEq.comm
    rw [cut_cons, e, cut_sp r, spL, cutOf_map]
    cases hc : c == 32 with
    | false => rfl
    | true => rfl
theorem spL_some : ∀ {x a b : List UInt8}, spL x = some (a, b) → x = a ++ 32 :: b
  | [], _, _, h => by cases h
  | c :: r, a, b, h => by
    rw [spL] at h
    cases hc : c == 32 with
    | true =>
      rw [hc, cond_true] at h
      simp only [Option.some.injEq, Prod.mk.injEq] at h
      rw [beq_iff_eq] at hc
      rw [hc, ← h.1, ← h.2]; rfl
    | false =>
      rw [hc, cond_false] at h
      cases hr : spL r with
      | none => rw [hr] at h; cases h
      | some p =>
        rw [hr] at h
        simp only [Option.map_some, Option.some.injEq, Prod.mk.injEq] at h
        have := spL_some (a := p.1) (b := p.2) (by rw [hr])
        rw [← h.1, ← h.2, List.cons_append, ← this]
theorem spL_len {x : List UInt8} {p : List UInt8 × List UInt8} (h : spL x = some p) : x.length = p.1.length + p.2.length + 1 := by
  have := spL_some (a := p.1) (b := p.2) h
  rw [this]; simp; omega
theorem u8_32 (c : UInt8) : ((c.toNat : Int) == 32) = (c == 32) := u8_eq c 32
def ver9 : List UInt8 := [32, 72, 84, 84, 80, 47, 49, 46, 49]
def sufT (x suf : List UInt8) : Bool := decide (suf.length ≤ x.length) && (x.drop (x.length - suf.length) == suf)
theorem cutSuf_eq {k : Nat} (x suf : List UInt8) (hx : x.length < 1073741824) (hs : suf.length ≤ 1000) : strings_CutSuffix k x suf = some (bif sufT x suf then (x.take (x.length - suf.length), true) else (x, false)) := by
  rw [strings_CutSuffix, internal_stringslite_CutSuffix, internal_stringslite_HasSuffix, bif_dec]
  unfold sufT
  by_cases c : suf.length ≤ x.length
  · have e1 : IntKind.wrap .i64 ((x.length : Int) - (suf.length : Int)) = ((x.length - suf.length : Nat) : Int) := by rw [wrap_id (by omega) (by omega)]; omega
    have e2 : ssub x ((x.length - suf.length : Nat) : Int) (x.length : Int) = some (x.drop (x.length - suf.length)) := ssub_drop (by omega)
    have e3 : ssub x (0 : Int) ((x.length - suf.length : Nat) : Int) = some (x.take (x.length - suf.length)) := by rw [ssub_ok (by omega) (by omega) (by omega)]; simp
    rw [if_pos (by omega), e1, e2, Option.bind_some, Option.bind_some, e3, decide_eq_true c, Bool.true_and]
    cases (x.drop (x.length - suf.length) == suf) <;> rfl
  · rw [if_neg (by omega), decide_eq_false c]; rfl
theorem parseF_in3 {x : List UInt8} (h : x.length ≤ 2097152) (n : Nat) : fsz ((parseF x).1.drop n) < 268435456 ∧ shortF ((parseF x).1.drop n) ∧ ∀ e ∈ (parseF x).1, e.Value.length ≤ 2097152 := by
  obtain ⟨g1, g2⟩ := parseF_ok (N := 2097152) x h
  obtain ⟨g3, _⟩ := parseF_in h
  refine ⟨?_, fun e he => ?_, fun e he => (g1 e he).2⟩
  · have h1 := sum_le (N := 2097152) ((parseF x).1.drop n) (fun e he => (g1 e (List.mem_of_mem_drop he)).2)
    have h2 : ((parseF x).1.drop n).length ≤ 24 := by simp; omega
    unfold fsz
    have h3 : ((parseF x).1.drop n).length * 2097152 ≤ 24 * 2097152 := Nat.mul_le_mul_right _ h2
    omega
  · have := g1 e (List.mem_of_mem_drop he)
    omega
def noReq : IRequest := ⟨[], [], [], []⟩
def fstF (l : List IField) : IField := (l[0]?).getD ⟨[], []⟩
def goodQ (l : List IField) (m t : List UInt8) : Bool := decide (l.length ≠ 0) && (((fstF l).Name == hostT) && isReq ⟨m, (fstF l).Value, t.take (t.length - 9), l.drop 1⟩)
def crl : List UInt8 := [13, 10]
def reqP (s : List UInt8) : IRequest × Bool := match lineL s with
  | none => (noReq, false)
  | some p => match spL p.1 with
    | none => (noReq, false)
    | some q => bif sufT q.2 ver9 && (sufT p.2 crl && ((parseF (p.2.take (p.2.length - 2))).2 && goodQ (parseF (p.2.take (p.2.length - 2))).1 q.1 q.2)) then
        (⟨q.1, (fstF (parseF (p.2.take (p.2.length - 2))).1).Value, q.2.take (q.2.length - 9), (parseF (p.2.take (p.2.length - 2))).1.drop 1⟩, true) else (noReq, false)
theorem fst_idx {l : List IField} (h : l.length ≠ 0) : idx l (0 : Int) = some (fstF l) := by
  have : idx l (0 : Int) = some (l[0]'(by omega)) := idx_nat (i := 0) (by omega)
  rw [this]
  unfold fstF
  rw [List.getElem?_eq_getElem (by omega : 0 < l.length)]; rfl
theorem pf_ch : ∀ (m n : Nat) (x : List UInt8) (r l : List IField), pfL m x r = some l → x.length < n → chL (n + 1) (x ++ [13, 10]) = some (x, [])
  | 0, _, _, _, _, h, _ => by cases h
  | m + 1, n, x, r, l, h, hn => by
    rw [pfL] at h
    cases hb : (x == []) with
    | true =>
      rw [beq_iff_eq] at hb
      subst hb
      rfl
    | false =>
      rw [hb, cond_false] at h
      cases hl : lineL x with
      | none => rw [hl] at h; cases h
      | some p =>
        have hp := lineL_some (a := p.1) (b := p.2) hl
        have hlen := lineL_len hl
        rw [hl] at h
        simp only at h
        cases hc : colL p.1 with
        | none => rw [hc] at h; cases h
        | some q =>
          rw [hc] at h
          simp only at h
          have hq := colL_some (a := q.1) (b := q.2) hc
          have hne : (p.1 == []) = false := beq_ne (by rw [hq]; simp)
          obtain ⟨n, rfl⟩ : ∃ n', n = n' + 1 := ⟨n - 1, by omega⟩
          have ih := pf_ch m n p.2 _ l h (by omega)
          have hsw : lineL (x ++ [13, 10]) = some (p.1, p.2 ++ [13, 10]) := by
            have e : x ++ [13, 10] = p.1 ++ 13 :: 10 :: (p.2 ++ [13, 10]) := by
              conv => lhs; rw [hp]
              simp
            rw [e]
            exact line_swap (x := p.2) (by rw [← hp]; exact hl)
          rw [chL, hsw]
          simp only
          rw [hne, cond_false, ih, Option.map_some]
          simp only
          rw [← hp]
theorem I_ParseRequest_eq {k : Nat} (hk : 1073741824 ≤ k) (s : List UInt8) (hs : s.length ≤ 1048576) : I_ParseRequest k s = some (reqP s) := by
  have e2 : ∀ y : List UInt8, y.length < 4294967281 → strings_Cut k y [13, 10] = some (cutOf (lineL y) y) := by
    intro y hy
    show (bif decide (y.length < 4294967281) then some (Lib.cut y [13, 10]) else none) = _
    rw [decide_eq_true hy, cut_line]; rfl
  have e3 : ∀ y : List UInt8, y.length < 4294967281 → strings_Cut k y [32] = some (cutOf (spL y) y) := by
    intro y hy
    show (bif decide (y.length < 4294967281) then some (Lib.cut y [32]) else none) = _
    rw [decide_eq_true hy, cut_sp]; rfl
  have hv : ∀ y : List UInt8, y.length < 1073741824 → strings_CutSuffix k y ([32, 72, 84, 84, 80, 47, 49, 46, 49] : List UInt8) = some (bif sufT y ver9 then (y.take (y.length - 9), true) else (y, false)) := fun y hy => cutSuf_eq y ver9 hy (by decide)
  have hc : ∀ y : List UInt8, y.length < 1073741824 → strings_CutSuffix k y ([13, 10] : List UInt8) = some (bif sufT y crl then (y.take (y.length - 2), true) else (y, false)) := fun y hy => cutSuf_eq y crl hy (by decide)
  rw [I_ParseRequest, e2 s (by omega), Option.bind_some]
  unfold reqP
  cases hl : lineL s with
  | none =>
    simp only [cutOf]
    rw [e3 s (by omega), Option.bind_some]
    have hsl : (cutOf (spL s) s).2.1.length < 1073741824 := by
      cases hsp : spL s with
      | none => simp [cutOf]
      | some q => have := spL_len hsp; simp only [cutOf]; omega
    rw [hv _ hsl, Option.bind_some, hc _ (by simp), Option.bind_some]
    have e : (bif sufT ([] : List UInt8) crl then (([] : List UInt8).take (([] : List UInt8).length - 2), true) else ([], false)) = (([] : List UInt8), false) := rfl
    rw [e, I_ParseFields_eq hk _ (by simp), Option.bind_some]; rfl
  | some p =>
    have hlen := lineL_len hl
    simp only [cutOf]
    rw [e3 p.1 (by omega), Option.bind_some]
    cases hsp : spL p.1 with
    | none =>
      simp only [cutOf]
      rw [hv _ (by simp), Option.bind_some, hc _ (by omega), Option.bind_some]
      have hx : (bif sufT p.2 crl then (p.2.take (p.2.length - 2), true) else (p.2, false)).1.length < 536870912 := by cases sufT p.2 crl <;> simp <;> omega
      rw [I_ParseFields_eq hk _ hx, Option.bind_some]; rfl
    | some q =>
      have hql := spL_len hsp
      simp only [cutOf]
      rw [hv _ (by omega), Option.bind_some, hc _ (by omega), Option.bind_some]
      have hx : (bif sufT p.2 crl then (p.2.take (p.2.length - 2), true) else (p.2, false)).1.length < 536870912 := by cases sufT p.2 crl <;> simp <;> omega
      rw [I_ParseFields_eq hk _ hx, Option.bind_some]
      simp only [Bool.not_true, cond_false]
      cases h9 : sufT q.2 ver9 with
      | false => rfl
      | true =>
        cases h2 : sufT p.2 crl with
        | false => rfl
        | true =>
          simp only [cond_true, Bool.not_true, cond_false, Bool.true_and]
          have hfl : (p.2.take (p.2.length - 2)).length ≤ 2097152 := by simp; omega
          obtain ⟨g1, g2, g3⟩ := parseF_in3 hfl 1
          obtain ⟨g4, _⟩ := parseF_in hfl
          generalize hlx : (parseF (p.2.take (p.2.length - 2))).1 = l at *
          cases (parseF (p.2.take (p.2.length - 2))).2 with
          | false => rfl
          | true =>
            rw [Bool.not_true, cond_false, Bool.true_and]
            unfold goodQ
            by_cases h0 : l.length = 0
            · rw [beq_iff_eq.2 (by omega : (l.length : Int) = 0), cond_true, decide_eq_false (by omega)]; rfl
            · have hi := fst_idx h0
              have hm : (fstF l).Value.length ≤ 2097152 := by
                have : fstF l ∈ l := by
                  unfold fstF
                  rw [List.getElem?_eq_getElem (by omega : 0 < l.length)]
                  exact List.getElem_mem _
                exact g3 _ this
              have hd : ssub l (1 : Int) (l.length : Int) = some (l.drop 1) := ssub_drop (i := 1) (by omega)
              rw [beq_ne (by omega : ¬ (l.length : Int) = 0), cond_false, decide_eq_true h0, Bool.true_and, hi, Option.bind_some, Option.bind_some, Option.bind_some, Option.bind_some]
              show (bif !((fstF l).Name == hostT) then _ else _) = _
              cases hn : ((fstF l).Name == hostT) with
              | false => rfl
              | true =>
                rw [Bool.not_true, cond_false, Bool.true_and, hd, Option.bind_some, guardT_self, guardT_self, show Int.toNat (1 : Int) = 1 from rfl, I_IsRequest_eq hk _ ⟨by simp only; omega, by simp only; omega, by simp; omega, g1, g2⟩, Option.bind_some]
                cases isReq ⟨q.1, (fstF l).Value, q.2.take (q.2.length - 9), l.drop 1⟩ <;> rfl
theorem S_sp_loop {k : Nat} {y y0 y1 y2 y3 y4 y5 : List UInt8} {r : List IField} (hy : y.length < 1073741824) : ∀ (n i : Nat), i ≤ y.length → y.length - i < n →
    S_ParseRequest_b0 k n y (y.length : Int) (i : Int) y0 y1 y2 y3 y4 y5 r = some (match spL (y.drop i) with | some q => ((i + q.1.length : Nat) : Int) | none => (y.length : Int)) := by
  intro n
  induction n with
  | zero => intro i _ h; omega
  | succ n ih =>
    intro i hi hn
    rw [S_ParseRequest_b0, bif_dec]
    by_cases c : i < y.length
    · rw [if_pos (by omega), idx_nat c, Option.bind_some, bne, u8_32, wrap_succ (by omega), ih (i + 1) (by omega) (by omega), List.drop_eq_getElem_cons c, spL]
      cases h : (y[i] == 32) with
      | true => rfl
      | false =>
        rw [cond_false]
        cases spL (y.drop (i + 1)) with
        | none => rfl
        | some q =>
          simp only [Option.map_some, List.length_cons, Bool.not_false, cond_true]
          congr 2; omega
    · rw [if_neg (by omega), List.drop_of_length_le (by omega)]
      simp only [spL]
      rw [show i = y.length by omega]
theorem S_ParseRequest_eq {k : Nat} (hk : 1073741824 ≤ k) (s : List UInt8) (hs : s.length ≤ 1048576) : S_ParseRequest k s = some (reqP s) := by
  rw [S_ParseRequest, S_l11Head_eq hk s (by omega), Option.bind_some]
  unfold reqP
  have rej : (((-1 : Int) != (s.length : Int)) = true) := bne_ne (by omega)
  cases hl : lineL s with
  | none =>
    have e : hdT s = ([], [], -1) := by unfold hdT headL; rw [hl]
    rw [e]
    simp only
    rw [rej]; rfl
  | some p =>
    have hp := lineL_some (a := p.1) (b := p.2) hl
    have hlen := lineL_len hl
    simp only
    -- what the head is
    by_cases hgo : sufT p.2 crl = true ∧ (parseF (p.2.take (p.2.length - 2))).2 = true
    case neg =>
      -- nothing is read
      have hrej : (hdT s).2.2 ≠ (s.length : Int) := by
        unfold hdT headL
        rw [hl]
        simp only
        cases hc : chL (s.length + 1) p.2 with
        | none => simp only [Option.map_none]; omega
        | some q =>
          have hq := chL_some hc
          have hqlen := congrArg List.length hq
          simp only [List.length_append, List.length_cons] at hqlen
          simp only [Option.map_some]
          cases hok : (parseF q.1).2 with
          | false => simp only [Bool.not_false, cond_true]; omega
          | true =>
            simp only [Bool.not_true, cond_false]
            intro he
            have hb : q.2.length = 0 := by omega
            have hb0 : q.2 = [] := List.length_eq_zero_iff.1 hb
            rw [hb0] at hq
            apply hgo
            have e1 : p.2.take (p.2.length - 2) = q.1 := by
              rw [hq]; simp
            refine ⟨?_, by rw [e1]; exact hok⟩
            unfold sufT
            rw [hq]
            simp [crl]
      have : ((hdT s).2.2 != (s.length : Int)) = true := bne_ne hrej
      rw [this, cond_true]
      cases hsp : spL p.1 with
      | none => rfl
      | some q =>
        simp only
        have : (sufT q.2 ver9 && (sufT p.2 crl && ((parseF (p.2.take (p.2.length - 2))).2 && goodQ (parseF (p.2.take (p.2.length - 2))).1 q.1 q.2))) = false := by
          cases h1 : sufT p.2 crl with
          | false => simp
          | true =>
            cases h2 : (parseF (p.2.take (p.2.length - 2))).2 with
            | false => simp
            | true => exact absurd ⟨h1, h2⟩ hgo
        rw [this]; rfl
    case pos =>
      obtain ⟨h1, h2⟩ := hgo
      have hx : p.2 = p.2.take (p.2.length - 2) ++ [13, 10] := by
        unfold sufT at h1
        rw [Bool.and_eq_true, beq_iff_eq] at h1
        have e : p.2.drop (p.2.length - 2) = [13, 10] := h1.2
        conv => lhs; rw [← List.take_append_drop (p.2.length - 2) p.2, e]
      have hxl : (p.2.take (p.2.length - 2)).length + 2 = p.2.length := by
        have := congrArg List.length hx
        simp only [List.length_append, List.length_cons, List.length_nil] at this
        omega
      generalize hF : p.2.take (p.2.length - 2) = F at *
      have hch : chL (s.length + 1) p.2 = some (F, []) := by
        rw [hx]
        have h3 := h2
        unfold parseF at h3
        cases hpf : pfL (F.length + 1) F [] with
        | none => rw [hpf] at h3; cases h3
        | some l => exact pf_ch _ _ _ _ _ hpf (by omega)
      have e : hdT s = (p.1, (parseF F).1, (s.length : Int)) := by
        unfold hdT headL
        rw [hl]
        simp only
        rw [hch]
        simp only [Option.map_some]
        rw [h2]; rfl
      have hfl : F.length ≤ 2097152 := by omega
      obtain ⟨g1, g2, g3⟩ := parseF_in3 hfl 1
      obtain ⟨g4, _⟩ := parseF_in hfl
      rw [e]
      simp only
      rw [bne_self_eq_false, cond_false, h1, h2]
      simp only [Bool.true_and]
      generalize hlx : (parseF F).1 = l at *
      by_cases ha : p.1.length < 9
      · rw [decide_eq_true (by omega), cond_true]
        cases hsp : spL p.1 with
        | none => rfl
        | some q =>
          have hql := spL_len hsp
          simp only
          have : sufT q.2 ver9 = false := by
            unfold sufT
            have e9 : ver9.length = 9 := rfl
            rw [decide_eq_false (by rw [e9]; omega)]; rfl
          rw [this]; rfl
      · have w9 : IntKind.wrap .i64 ((p.1.length : Int) - 9) = ((p.1.length - 9 : Nat) : Int) := by rw [wrap_id (by omega) (by omega)]; omega
        have d9 : ssub p.1 ((p.1.length - 9 : Nat) : Int) (p.1.length : Int) = some (p.1.drop (p.1.length - 9)) := ssub_drop (by omega)
        have b0 := S_sp_loop (k := k) (y := p.1) (y0 := []) (y1 := []) (y2 := []) (y3 := []) (y4 := []) (y5 := []) (r := l) (by omega) k 0 (by omega) (by omega)
        have b0' : S_ParseRequest_b0 k k p.1 (p.1.length : Int) 0 [] [] [] [] [] [] l = _ := b0
        rw [decide_eq_false (by omega : ¬ (p.1.length : Int) < 9), cond_false, w9, d9, Option.bind_some]
        cases hsp : spL p.1 with
        | none =>
          rw [List.drop_zero, hsp] at b0'
          simp only at b0'
          rw [b0', Option.bind_some]
          have wl : IntKind.wrap .i64 ((p.1.length : Int) + 1) = ((p.1.length + 1 : Nat) : Int) := wrap_succ (by omega)
          rw [wl, decide_eq_true (by omega : ((p.1.length + 1 : Nat) : Int) > ((p.1.length - 9 : Nat) : Int)), cond_true]
          by_cases h0 : l.length = 0
          · rw [beq_iff_eq.2 (by omega : (l.length : Int) = 0), cond_true]
            cases (p.1.drop (p.1.length - 9) == [32, 72, 84, 84, 80, 47, 49, 46, 49]) <;> rfl
          · rw [fst_idx h0, Option.bind_some, Option.bind_some]
            cases (p.1.drop (p.1.length - 9) == [32, 72, 84, 84, 80, 47, 49, 46, 49]) <;> cases ((l.length : Int) == 0) <;> cases ((fstF l).Name == [104, 111, 115, 116]) <;> rfl
        | some q =>
          have hql := spL_len hsp
          have hqs := spL_some (a := q.1) (b := q.2) hsp
          rw [List.drop_zero, hsp] at b0'
          simp only at b0'
          rw [Nat.zero_add] at b0'
          have wq : IntKind.wrap .i64 ((q.1.length : Int) + 1) = ((q.1.length + 1 : Nat) : Int) := wrap_succ (by omega)
          simp only
          rw [b0', Option.bind_some, wq]
          by_cases ht : 9 ≤ q.2.length
          case neg =>
            have : sufT q.2 ver9 = false := by
              unfold sufT
              have e9 : ver9.length = 9 := rfl
              rw [decide_eq_false (by rw [e9]; omega)]; rfl
            rw [this, decide_eq_true (by omega : ((q.1.length + 1 : Nat) : Int) > ((p.1.length - 9 : Nat) : Int)), cond_true]
            by_cases h0 : l.length = 0
            · rw [beq_iff_eq.2 (by omega : (l.length : Int) = 0), cond_true]
              cases (p.1.drop (p.1.length - 9) == [32, 72, 84, 84, 80, 47, 49, 46, 49]) <;> rfl
            · rw [fst_idx h0, Option.bind_some, Option.bind_some]
              cases (p.1.drop (p.1.length - 9) == [32, 72, 84, 84, 80, 47, 49, 46, 49]) <;> cases ((l.length : Int) == 0) <;> cases ((fstF l).Name == [104, 111, 115, 116]) <;> rfl
          case pos =>
            have hdrop : (p.1.drop (p.1.length - 9) == [32, 72, 84, 84, 80, 47, 49, 46, 49]) = sufT q.2 ver9 := by
              unfold sufT
              have e9 : ver9.length = 9 := rfl
              rw [e9, decide_eq_true ht, Bool.true_and]
              have : p.1.drop (p.1.length - 9) = q.2.drop (q.2.length - 9) := by
                have ep : p.1 = (q.1 ++ [32]) ++ q.2 := by rw [hqs]; simp
                have el : p.1.length - 9 = (q.1 ++ [32]).length + (q.2.length - 9) := by simp; omega
                rw [el, ep, List.drop_append]
                simp
              rw [this]; rfl
            rw [hdrop]
            cases sufT q.2 ver9 with
            | false => rfl
            | true =>
              rw [Bool.not_true, cond_false]
              unfold goodQ
              by_cases h0 : l.length = 0
              · rw [beq_iff_eq.2 (by omega : (l.length : Int) = 0), cond_true, decide_eq_false (by omega)]; rfl
              · have hi := fst_idx h0
                have hm : (fstF l).Value.length ≤ 2097152 := by
                  have : fstF l ∈ l := by
                    unfold fstF
                    rw [List.getElem?_eq_getElem (by omega : 0 < l.length)]
                    exact List.getElem_mem _
                  exact g3 _ this
                have hd : ssub l (1 : Int) (l.length : Int) = some (l.drop 1) := ssub_drop (i := 1) (by omega)
                have hcopy : S_l5Copy k (l.drop 1) = some (l.drop 1) := by rw [S_l5Copy, appn_ok (by simp; omega)]; rfl
                have t1 : ssub p.1 (0 : Int) (q.1.length : Int) = some q.1 := by
                  rw [ssub_ok (by omega) (by omega) (by omega), hqs]; simp
                have t2 : ssub p.1 ((q.1.length + 1 : Nat) : Int) ((p.1.length - 9 : Nat) : Int) = some (q.2.take (q.2.length - 9)) := by
                  rw [ssub_n _ _ (by omega) (by omega)]
                  have ep : p.1 = (q.1 ++ [32]) ++ q.2 := by rw [hqs]; simp
                  have el : p.1.length - 9 = (q.1 ++ [32]).length + (q.2.length - 9) := by simp; omega
                  rw [el, ep, List.take_append]
                  have e5 : (q.1 ++ [32]).length + (q.2.length - 9) - (q.1 ++ [32]).length = q.2.length - 9 := by omega
                  rw [e5, List.take_of_length_le (by omega), show q.1.length + 1 = (q.1 ++ [32]).length by simp, List.drop_left]
                rw [beq_ne (by omega : ¬ (l.length : Int) = 0), cond_false, decide_eq_true h0, Bool.true_and, hi, Option.bind_some, Option.bind_some, t1, Option.bind_some, Option.bind_some, t2, Option.bind_some, hd, Option.bind_some, hcopy, Option.bind_some, decide_eq_false (by omega : ¬ ((q.1.length + 1 : Nat) : Int) > ((p.1.length - 9 : Nat) : Int)), cond_false]
                show (bif !((fstF l).Name == hostT) then _ else _) = _
                cases hn : ((fstF l).Name == hostT) with
                | false => rfl
                | true =>
                  rw [Bool.not_true, cond_false, Bool.true_and, S_IsRequest_eq hk _ ⟨by simp only; omega, by simp only; omega, by simp; omega, g1, g2⟩, Option.bind_some]
                  cases isReq ⟨q.1, (fstF l).Value, q.2.take (q.2.length - 9), l.drop 1⟩ <;> rfl
theorem reqP_len (s : List UInt8) (hs : s.length ≤ 1048576) : (reqP s).1.Fields.length < 1073741824 := by
  unfold reqP
  cases hl : lineL s with
  | none => simp [noReq]
  | some p =>
    have hlen := lineL_len hl
    obtain ⟨g4, _⟩ := parseF_in (x := p.2.take (p.2.length - 2)) (by simp; omega)
    simp only
    cases hsp : spL p.1 with
    | none => simp [noReq]
    | some q =>
      simp only
      cases sufT q.2 ver9 && (sufT p.2 crl && ((parseF (p.2.take (p.2.length - 2))).2 && goodQ (parseF (p.2.take (p.2.length - 2))).1 q.1 q.2)) with
      | false => simp [noReq]
      | true => simp only [cond_true, List.length_drop]; omega
theorem FnExactParseRequest_pure {k : Nat} (hk : 1073741824 ≤ k) (a0 : List UInt8) (h0 : InS a0) : L_FnExactParseRequest k a0 = some true := by
  unfold L_FnExactParseRequest
  rw [bif_dec]
  by_cases c3 : (a0.length : Int) > 1048576
  · rw [if_pos c3]
  have hs : a0.length ≤ 1048576 := by omega
  have hf := reqP_len a0 hs
  rw [if_neg c3]
  simp only [S_ParseRequest_eq hk a0 hs, I_ParseRequest_eq hk a0 hs, Option.bind_some, L_eqRequest_eq hk _ _ hf, L_markRequest_eq hk _ hf, L_heldRequest_eq hk _ hf, decide_true, Bool.not_true, cond_false, bif_dec, bne_self_eq_false, BEq.rfl]
  repeat rw [if_neg (by omega)]
end
end Go.YtolmhhnhmbiofaaDoor
