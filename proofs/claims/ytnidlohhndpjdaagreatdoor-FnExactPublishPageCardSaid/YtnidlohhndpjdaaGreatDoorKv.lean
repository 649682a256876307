/- Plain lemmas and definitions. Nothing is claimed here. -/
import Derived.Test.YtnidlohhndpjdaaGreatDoorKu
import Derived.Sort.Walk0
set_option linter.unusedVariables false
set_option linter.unusedSimpArgs false
set_option maxRecDepth 100000
namespace Go.YtnidlohhndpjdaaGreatDoor
open Go Go.RowKit Go.Pv Go.Pu
noncomputable section
def mk15 : List UInt8 := [33, 35, 36, 37, 38, 39, 42, 43, 45, 46, 94, 95, 124, 126, 96]
def mk14 : List UInt8 := [33, 35, 36, 37, 38, 39, 42, 43, 45, 46, 94, 95, 124, 126]
def letB (c : UInt8) : Bool := (decide (97 ≤ c.toNat) && decide (c.toNat ≤ 122)) || (decide (65 ≤ c.toNat) && decide (c.toNat ≤ 90)) || (decide (48 ≤ c.toNat) && decide (c.toNat ≤ 57))
def mkP (c : UInt8) (i : Nat) : Bool := match mk15[i]? with | some m => c == m | none => false
def tokB (c : UInt8) : Bool := (firstI (mkP c) 15 0).isSome || letB c
theorem S_l4Letter_eq {k : Nat} (c : UInt8) : S_l4Letter k (c.toNat : Int) = some (letB c) := by
 have hb := UInt8.toNat_lt c
 rw [S_l4Letter, wrap_id (by omega) (by omega)]
 simp only [S_l1In, bif_dec, letB]
 by_cases a1 : 97 ≤ c.toNat <;> by_cases a2 : c.toNat ≤ 122 <;> by_cases a3 : 65 ≤ c.toNat <;> by_cases a4 : c.toNat ≤ 90 <;> by_cases a5 : 48 ≤ c.toNat <;> by_cases a6 : c.toNat ≤ 57 <;>
  simp [a1, a2, a3, a4, a5, a6, show ((c.toNat : Int) ≥ 97) = (97 ≤ c.toNat) from by simp; omega, show ((c.toNat : Int) ≤ 122) = (c.toNat ≤ 122) from by simp; omega, show ((c.toNat : Int) ≥ 65) = (65 ≤ c.toNat) from by simp; omega, show ((c.toNat : Int) ≤ 90) = (c.toNat ≤ 90) from by simp; omega, show ((c.toNat : Int) ≥ 48) = (48 ≤ c.toNat) from by simp; omega, show ((c.toNat : Int) ≤ 57) = (c.toNat ≤ 57) from by simp; omega]
theorem S_l4Token_eq {k : Nat} (hk : 1073741824 ≤ k) (c : UInt8) : S_l4Token k (c.toNat : Int) = some (tokB c) := by
 have := find_all (len := 15) (c := fun i => bif mkP c i then some true else none) (F := fun n i => S_l4Token_b0 k n (c.toNat : Int) i) (fun n i hi => by
  have hl : i < mk15.length := hi
  have e : idx ([33, 35, 36, 37, 38, 39, 42, 43, 45, 46, 94, 95, 124, 126, 96] : List UInt8) (i : Int) = some mk15[i] := idx_nat hl
  have e2 : decide ((i : Int) < 15) = true := decide_eq_true (by omega)
  simp only [S_l4Token_b0, e2, cond_true, e, Option.bind_some, u8_eq, wrap_succ (by omega : i < 9223372036854775807), mkP, List.getElem?_eq_getElem hl]
  cases (c == mk15[i]) <;> rfl) (fun n i hi => by
  have e2 : decide ((i : Int) < 15) = false := decide_eq_false (by omega)
  simp only [S_l4Token_b0, e2, cond_false]) (k := k) (by omega)
 rw [S_l4Token, this, findI_first]
 unfold tokB
 cases firstI (mkP c) 15 0 with
 | none => simp [ocOf, oc, S_l4Letter_eq]
 | some j => simp [ocOf, oc]
theorem tok_tab : ∀ j : Fin 256, tokB (UInt8.ofNat j.val) = (letB (UInt8.ofNat j.val) || decide (Lib.indexByte mk14 (UInt8.ofNat j.val) ≥ 0) || (UInt8.ofNat j.val == 96)) := by decide +kernel
theorem tok_eq (c : UInt8) : tokB c = (letB c || decide (Lib.indexByte mk14 c ≥ 0) || (c == 96)) := by
 have := tok_tab ⟨c.toNat, UInt8.toNat_lt c⟩
 simpa using this
theorem I_isTokenByte_eq {k : Nat} (c : UInt8) : I_isTokenByte k (c.toNat : Int) = some (tokB c) := by
 have hb := UInt8.toNat_lt c
 have hi : strings_IndexByte k [33, 35, 36, 37, 38, 39, 42, 43, 45, 46, 94, 95, 124, 126] (c.toNat : Int) = some (Lib.indexByte mk14 c) := by
  rw [strings_IndexByte, indexByteO, Int.toNat_natCast]; simp [mk14]
 have h96 : ((c.toNat : Int) == 96) = (c == 96) := u8_eq c 96
 rw [I_isTokenByte, hi, h96, tok_eq]
 simp only [Option.bind_some, bif_dec, letB]
 by_cases a1 : 97 ≤ c.toNat <;> by_cases a2 : c.toNat ≤ 122 <;> by_cases a3 : 65 ≤ c.toNat <;> by_cases a4 : c.toNat ≤ 90 <;> by_cases a5 : 48 ≤ c.toNat <;> by_cases a6 : c.toNat ≤ 57 <;> by_cases a7 : Lib.indexByte mk14 c ≥ 0 <;>
  simp [a1, a2, a3, a4, a5, a6, a7, show ((c.toNat : Int) ≥ 97) = (97 ≤ c.toNat) from by simp; omega, show ((c.toNat : Int) ≤ 122) = (c.toNat ≤ 122) from by simp; omega, show ((c.toNat : Int) ≥ 65) = (65 ≤ c.toNat) from by simp; omega, show ((c.toNat : Int) ≤ 90) = (c.toNat ≤ 90) from by simp; omega, show ((c.toNat : Int) ≥ 48) = (48 ≤ c.toNat) from by simp; omega, show ((c.toNat : Int) ≤ 57) = (c.toNat ≤ 57) from by simp; omega]
def ntP (x : List UInt8) (i : Nat) : Bool := match x[i]? with | some c => !tokB c | none => false
def inR (n a b : Int) : Bool := decide (a ≤ n) && decide (n ≤ b)
theorem S_l1In_eq {k : Nat} (n a b : Int) : S_l1In k n a b = some (inR n a b) := by
 rw [S_l1In, bif_dec, inR]
 by_cases h : a ≤ n <;> simp [h]
theorem I_inRange_eq {k : Nat} (n a b : Int) : I_inRange k n a b = some (inR n a b) := by
 rw [I_inRange, bif_dec, inR]
 by_cases h : a ≤ n <;> simp [h]
def isTok (x : List UInt8) : Bool := (firstI (ntP x) x.length 0).isNone && inR (x.length : Int) 1 40
theorem S_IsToken_eq {k : Nat} (hk : 1073741824 ≤ k) (x : List UInt8) (h : x.length < 1073741824) : S_IsToken k x = some (isTok x) := by
 have := find_all (len := x.length) (c := fun i => bif ntP x i then some false else none) (F := fun n i => S_IsToken_b0 k n x i) (fun n i hi => by
  simp only [S_IsToken_b0, idx_nat hi, Option.bind_some, wrap_succ (by omega : i < 9223372036854775807), bif_dec, lt_cast, hi, if_true, ntP, List.getElem?_eq_getElem hi, S_l4Token_eq hk]
  cases tokB x[i] <;> rfl) (fun n i hi => by
  simp only [S_IsToken_b0, bif_dec, lt_cast]
  rw [if_neg (by omega)]) (k := k) (by omega)
 rw [S_IsToken, this, findI_first]
 unfold isTok
 cases firstI (ntP x) x.length 0 <;> simp [ocOf, oc, S_l1In_eq]
theorem I_IsToken_eq {k : Nat} (hk : 1073741824 ≤ k) (x : List UInt8) (h : x.length < 1073741824) : I_IsToken k x = some (isTok x) := by
 have := find_all (len := x.length) (c := fun i => bif ntP x i then some false else none) (F := fun n i => I_IsToken_b0 k n x (x.length : Int) i) (fun n i hi => by
  simp only [I_IsToken_b0, idx_nat hi, Option.bind_some, wrap_succ (by omega : i < 9223372036854775807), bif_dec, lt_cast, hi, if_true, ntP, List.getElem?_eq_getElem hi, I_isTokenByte_eq]
  cases tokB x[i] <;> rfl) (fun n i hi => by
  simp only [I_IsToken_b0, bif_dec, lt_cast]
  rw [if_neg (by omega)]) (k := k) (by omega)
 rw [I_IsToken, this, findI_first]
 unfold isTok
 cases firstI (ntP x) x.length 0 <;> simp [ocOf, oc, I_inRange_eq]
def lowB (c : UInt8) : UInt8 := bif decide (65 ≤ c.toNat) && decide (c.toNat ≤ 90) then c + 32 else c
def lowT (s : List UInt8) : List UInt8 := s.map lowB
theorem lowB_add : ∀ j : Fin 256, (65 ≤ j.val ∧ j.val ≤ 90) → IntKind.wrap .u8 ((j.val : Int) + 32) = (((UInt8.ofNat j.val) + 32).toNat : Int) := by decide +kernel
theorem low_wrap (c : UInt8) (h : 65 ≤ c.toNat ∧ c.toNat ≤ 90) : IntKind.wrap .u8 ((c.toNat : Int) + 32) = ((c + 32).toNat : Int) := by
 have := lowB_add ⟨c.toNat, UInt8.toNat_lt c⟩ h
 simpa using this
theorem bytes_ints (s : List UInt8) : bytesOf (intsOf s) = s := by
 unfold bytesOf intsOf
 rw [List.map_map]
 conv => rhs; rw [← List.map_id s]
 refine List.map_congr_left fun c _ => ?_
 simp
theorem ints_len (s : List UInt8) : (intsOf s).length = s.length := by unfold intsOf; simp
theorem ints_idx {s : List UInt8} {i : Nat} (h : i < s.length) : idx (intsOf s) (i : Int) = some (s[i].toNat : Int) := by
 rw [idx_nat (by rw [ints_len]; exact h)]; simp [intsOf]
theorem ints_set (s : List UInt8) (i : Nat) (c : UInt8) : (intsOf s).set i (c.toNat : Int) = intsOf (s.set i c) := by
 unfold intsOf; rw [List.map_set]
theorem low_loop {L : Nat} {F : Nat → Int → List Int → Option (List Int)} (T : ∀ n (i : Nat) (s : List UInt8) (h : i < s.length), s.length = L → F (n + 1) (i : Int) (intsOf s) = F n ((i + 1 : Nat) : Int) (intsOf (s.set i (lowB s[i]))))
    (E : ∀ n (i : Nat) (s : List UInt8), s.length ≤ i → s.length = L → F (n + 1) (i : Int) (intsOf s) = some (intsOf s)) : ∀ (n i : Nat) (s : List UInt8), i ≤ s.length → s.length - i < n → s.length = L → F n (i : Int) (intsOf s) = some (intsOf (s.take i ++ (s.drop i).map lowB)) := by
 intro n
 induction n with
 | zero => intro i s _ h; omega
 | succ n ih =>
  intro i s hi hn hs
  by_cases h : i < s.length
  ·rw [T n i s h hs, ih (i + 1) _ (by simp; omega) (by simp; omega) (by simpa using hs)]
   congr 2
   rw [List.drop_eq_getElem_cons h, List.map_cons]
   have e1 : (s.set i (lowB s[i])).take (i + 1) = s.take i ++ [lowB s[i]] := by
    apply List.ext_getElem?
    intro j
    by_cases hj : j < i
    ·rw [List.getElem?_take, if_pos (by omega), List.getElem?_set_ne (by omega), List.getElem?_append_left (by simp; omega), List.getElem?_take, if_pos hj]
    ·by_cases hj2 : j = i
     ·subst hj2
      rw [List.getElem?_take, if_pos (by omega), List.getElem?_set_self h, List.getElem?_append_right (by simp; omega)]
      simp [Nat.min_eq_left (Nat.le_of_lt h)]
     ·rw [List.getElem?_take, if_neg (by omega), List.getElem?_eq_none (by simp; omega)]
   have e2 : (s.set i (lowB s[i])).drop (i + 1) = s.drop (i + 1) := by
    apply List.ext_getElem?
    intro j
    rw [List.getElem?_drop, List.getElem?_drop, List.getElem?_set_ne (by omega)]
   rw [e1, e2, List.append_assoc]; rfl
  ·rw [E n i s (by omega) hs, List.drop_of_length_le (by omega), List.take_of_length_le (by omega)]; simp
theorem S_LowerText_eq {k : Nat} (hk : 1073741824 ≤ k) (s : List UInt8) (h : s.length < 1073741824) : S_LowerText k s = some (lowT s) := by
 have := low_loop (L := s.length) (F := fun n i r => S_LowerText_b0 k n i r) (fun n i s hi hs => by
  have hb := UInt8.toNat_lt s[i]
  have hlen : ((i : Int) < ((intsOf s).length : Int)) := by rw [ints_len]; omega
  simp only [S_LowerText_b0, bif_dec, hlen, if_true, S_LowerText_b1, ints_idx hi, Option.bind_some, wrap_succ (by omega : i < 9223372036854775807)]
  rw [wrap_id (by omega) (by omega), S_l1In]
  by_cases c1 : 65 ≤ s[i].toNat
  ·by_cases c2 : s[i].toNat ≤ 90
   ·have e1 : decide ((s[i].toNat : Int) ≥ 65) = true := decide_eq_true (by omega)
    have e2 : decide ((s[i].toNat : Int) ≤ 90) = true := decide_eq_true (by omega)
    have e3 : lowB s[i] = s[i] + 32 := by unfold lowB; rw [decide_eq_true c1, decide_eq_true c2]; rfl
    simp only [e1, e2, S_LowerText_c18, cond_true, Option.bind_some, ints_idx hi, low_wrap _ ⟨c1, c2⟩, Int.toNat_natCast, ints_set, e3]
   ·have e1 : decide ((s[i].toNat : Int) ≥ 65) = true := decide_eq_true (by omega)
    have e2 : decide ((s[i].toNat : Int) ≤ 90) = false := decide_eq_false (by omega)
    have e3 : lowB s[i] = s[i] := by unfold lowB; rw [decide_eq_false c2]; simp
    simp only [e1, e2, cond_true, cond_false, Option.bind_some, S_LowerText_c18, e3, List.set_getElem_self]
  ·have e1 : decide ((s[i].toNat : Int) ≥ 65) = false := decide_eq_false (by omega)
   have e3 : lowB s[i] = s[i] := by unfold lowB; rw [decide_eq_false c1]; simp
   simp only [e1, cond_false, Option.bind_some, S_LowerText_c18, e3, List.set_getElem_self]) (fun n i s hi _ => by
  have hlen : ¬ ((i : Int) < ((intsOf s).length : Int)) := by rw [ints_len]; omega
  simp only [S_LowerText_b0, bif_dec, hlen, if_false]) k 0 s (by omega) (by omega) rfl
 have h1 : S_LowerText_b0 k k 0 (intsOf s) = some (intsOf (s.take 0 ++ (s.drop 0).map lowB)) := this
 rw [S_LowerText, h1, Option.bind_some, bytes_ints]; simp [lowT]
theorem I_LowerText_eq {k : Nat} (hk : 1073741824 ≤ k) (s : List UInt8) (h : s.length < 1073741824) : I_LowerText k s = some (lowT s) := by
 have := low_loop (L := s.length) (F := fun n i r => I_LowerText_b0 k n (s.length : Int) i r) (fun n i t hi hs => by
  have hb := UInt8.toNat_lt t[i]
  have hlen : ((i : Int) < (s.length : Int)) := by omega
  simp only [I_LowerText_b0, bif_dec, hlen, if_true, I_LowerText_b1, ints_idx hi, Option.bind_some, wrap_succ (by omega : i < 9223372036854775807)]
  by_cases c1 : 65 ≤ t[i].toNat
  ·by_cases c2 : t[i].toNat ≤ 90
   ·have e1 : ((t[i].toNat : Int) ≥ 65) := by omega
    have e2 : decide ((t[i].toNat : Int) ≤ 90) = true := decide_eq_true (by omega)
    have e3 : lowB t[i] = t[i] + 32 := by unfold lowB; rw [decide_eq_true c1, decide_eq_true c2]; rfl
    simp only [e1, e2, if_true, I_LowerText_c20, cond_true, Option.bind_some, ints_idx hi, low_wrap _ ⟨c1, c2⟩, Int.toNat_natCast, ints_set, e3]
   ·have e1 : ((t[i].toNat : Int) ≥ 65) := by omega
    have e2 : decide ((t[i].toNat : Int) ≤ 90) = false := decide_eq_false (by omega)
    have e3 : lowB t[i] = t[i] := by unfold lowB; rw [decide_eq_false c2]; simp
    simp only [e1, e2, if_true, I_LowerText_c20, cond_false, Option.bind_some, e3, List.set_getElem_self]
  ·have e1 : ¬ ((t[i].toNat : Int) ≥ 65) := by omega
   have e3 : lowB t[i] = t[i] := by unfold lowB; rw [decide_eq_false c1]; simp
   simp only [e1, if_false, I_LowerText_c20, cond_false, Option.bind_some, e3, List.set_getElem_self]) (fun n i t hi ht => by
  have hlen : ¬ ((i : Int) < (s.length : Int)) := by omega
  simp only [I_LowerText_b0, bif_dec, hlen, if_false]) k 0 s (by omega) (by omega) rfl
 have h1 : I_LowerText_b0 k k (s.length : Int) 0 (intsOf s) = some (intsOf (s.take 0 ++ (s.drop 0).map lowB)) := this
 rw [I_LowerText, ints_len, h1, Option.bind_some, bytes_ints]; simp [lowT]
def hexV (c : UInt8) : Int := if 48 ≤ c.toNat ∧ c.toNat ≤ 57 then (c.toNat : Int) - 48 else if 97 ≤ c.toNat ∧ c.toNat ≤ 102 then (c.toNat : Int) - 87 else if 65 ≤ c.toNat ∧ c.toNat ≤ 70 then (c.toNat : Int) - 55 else -1
def hexC : List UInt8 := [48, 49, 50, 51, 52, 53, 54, 55, 56, 57, 65, 66, 67, 68, 69, 70]
theorem S_hex0 : ∀ j : Fin 256, S_l12Hex 0 (j.val : Int) = some (hexV (UInt8.ofNat j.val)) := by decide +kernel
theorem S_l12Hex_eq {k : Nat} (c : UInt8) : S_l12Hex k (c.toNat : Int) = some (hexV c) := by
 have := S_hex0 ⟨c.toNat, UInt8.toNat_lt c⟩
 simp only [UInt8.ofNat_toNat] at this
 exact this
theorem I_hex0 : ∀ j : Fin 256, I_hexDigit 0 (j.val : Int) = some (hexV (UInt8.ofNat j.val)) := by decide +kernel
theorem I_hexDigit_eq {k : Nat} (c : UInt8) : I_hexDigit k (c.toNat : Int) = some (hexV c) := by
 have := I_hex0 ⟨c.toNat, UInt8.toNat_lt c⟩
 simp only [UInt8.ofNat_toNat] at this
 exact this
theorem hexV_lt (c : UInt8) : hexV c < 16 := by
 unfold hexV
 split
 ·omega
 ·split
  ·omega
  ·split <;> omega
def vAB (a b : Nat) : UInt8 := UInt8.ofNat (16 * a + b)
def unres (v : UInt8) : Bool := letB v || v == 45 || v == 46 || v == 95 || v == 126
def outAB (a b : Nat) : List UInt8 := bif unres (vAB a b) then [vAB a b] else [37, hexC.getD a 0, hexC.getD b 0]
theorem outAB_len (a b : Nat) : (outAB a b).length ≤ 3 := by unfold outAB; cases unres (vAB a b) <;> simp
theorem ab_tab : ∀ a b : Fin 16, IntKind.wrap .u8 (IntKind.wrap .i64 (IntKind.wrap .i64 ((16 : Int) * (a.val : Int)) + (b.val : Int))) = ((vAB a.val b.val).toNat : Int) ∧ shrI .u8 ((vAB a.val b.val).toNat : Int) 4 = some (a.val : Int) ∧ andI .u8 ((vAB a.val b.val).toNat : Int) 15 = (b.val : Int) := by decide +kernel
theorem idx_hexC {a : Nat} (h : a < 16) : idx ([48, 49, 50, 51, 52, 53, 54, 55, 56, 57, 65, 66, 67, 68, 69, 70] : List UInt8) (a : Int) = some (hexC.getD a 0) := by
 have hl : a < hexC.length := h
 have : idx hexC (a : Int) = some hexC[a] := idx_nat hl
 rw [show hexC.getD a 0 = hexC[a] by simp [List.getD, hl]]
 exact this
def dec : List UInt8 → List UInt8 → Option (List UInt8)
 | [], acc => some acc
 | [c], acc => bif c == 37 then none else some (acc ++ [c])
 | [c, d], acc => bif c == 37 then none else dec [d] (acc ++ [c])
 | c :: h :: l :: r, acc => bif c == 37 then (bif decide (0 ≤ hexV h) && decide (0 ≤ hexV l) then dec r (acc ++ outAB (hexV h).toNat (hexV l).toNat) else none) else dec (h :: l :: r) (acc ++ [c])
theorem decA1 (c : UInt8) (acc : List UInt8) : dec [c] acc = bif c == 37 then none else some (acc ++ [c]) := rfl
theorem decA2 (c d : UInt8) (acc : List UInt8) : dec [c, d] acc = bif c == 37 then none else dec [d] (acc ++ [c]) := rfl
theorem decA3 (c h l : UInt8) (r acc : List UInt8) : dec (c :: h :: l :: r) acc = bif c == 37 then (bif decide (0 ≤ hexV h) && decide (0 ≤ hexV l) then dec r (acc ++ outAB (hexV h).toNat (hexV l).toNat) else none) else dec (h :: l :: r) (acc ++ [c]) := rfl
theorem dec_p (r acc : List UInt8) {c : UInt8} (h : (c == 37) = false) : dec (c :: r) acc = dec r (acc ++ [c]) := by
 match r with
 | [] => rw [decA1, h]; rfl
 | [d] => rw [decA2, h]; rfl
 | d :: e :: r => rw [decA3, h]; rfl
theorem dec_s (r acc : List UInt8) {c : UInt8} (h : (c == 37) = true) (hr : r.length < 2) : dec (c :: r) acc = none := by
 match r, hr with
 | [], _ => rw [decA1, h]; rfl
 | [d], _ => rw [decA2, h]; rfl
theorem dec_h (r acc : List UInt8) {c u l : UInt8} (h : (c == 37) = true) : dec (c :: u :: l :: r) acc = bif decide (0 ≤ hexV u) && decide (0 ≤ hexV l) then dec r (acc ++ outAB (hexV u).toNat (hexV l).toNat) else none := by rw [decA3, h]; rfl
theorem intsOf_app (a b : List UInt8) : intsOf a ++ intsOf b = intsOf (a ++ b) := by unfold intsOf; simp
theorem S_emit {k : Nat} {x : List UInt8} {x5 : Int} {acc : List UInt8} {a b : Nat} (ha : a < 16) (hb : b < 16) (hl : acc.length < 1073741824) {f : Bool} (hf : f = unres (vAB a b)) :
    S_l12Plain_c75 k x x5 ((vAB a b).toNat : Int) f (intsOf acc) = some (intsOf (acc ++ outAB a b)) := by
 obtain ⟨_, h2, h3⟩ := ab_tab ⟨a, ha⟩ ⟨b, hb⟩
 simp only at h2 h3
 subst hf
 unfold S_l12Plain_c75 outAB
 cases unres (vAB a b) with
 | true => rw [cond_true, cond_true, appn_ok (by simp [intsOf]; omega), ← intsOf_app]; rfl
 | false => rw [cond_false, cond_false, h2, Option.bind_some, idx_hexC ha, Option.bind_some, h3, idx_hexC hb, Option.bind_some, appn_ok (by simp [intsOf]; omega), ← intsOf_app]; rfl
theorem S_plain_loop {k : Nat} {x : List UInt8} (hx : x.length < 1073741000) : ∀ (n i : Nat) (acc : List UInt8), x.length - i < n → i ≤ x.length → acc.length ≤ i →
    S_l12Plain_b0 k n x (i : Int) (intsOf acc) = some (match dec (x.drop i) acc with | some t => .nrm (intsOf t) | none => .oth ([], false)) := by
 intro n
 induction n with
 | zero => intro i acc h; omega
 | succ n ih =>
  intro i acc hn hi ha
  rw [S_l12Plain_b0, bif_dec]
  by_cases c : i < x.length
  ·have u37 : ((UInt8.toNat x[i] : Int) != 37) = !(x[i] == 37) := by unfold bne; rw [← u8_eq x[i] 37]; rfl
   rw [if_pos (by omega), S_l12Plain_b1, idx_nat c, Option.bind_some, u37, List.drop_eq_getElem_cons c]
   cases h37 : (x[i] == 37) with
   | false =>
    rw [Bool.not_false, cond_true, Option.bind_some, appn_ok (by simp [intsOf]; omega), Option.bind_some, dec_p _ _ h37]
    simp only [Option.bind_some, oc]
    rw [wrap_succ (by omega), show intsOf acc ++ [(x[i].toNat : Int)] = intsOf (acc ++ [x[i]]) from intsOf_app acc [x[i]]]
    exact ih (i + 1) (acc ++ [x[i]]) (by omega) (by omega) (by simp; omega)
   | true =>
    have w2 : IntKind.wrap .i64 ((i : Int) + 2) = ((i + 2 : Nat) : Int) := by rw [wrap_id (by omega) (by omega)]; omega
    rw [Bool.not_true, cond_false, w2, wrap_succ (by omega), bif_dec]
    by_cases c2 : i + 2 < x.length
    ·have c1 : i + 1 < x.length := by omega
     rw [if_neg (by omega), idx_nat c1, Option.bind_some, S_l12Hex_eq, Option.bind_some, bif_dec, List.drop_eq_getElem_cons c1, List.drop_eq_getElem_cons c2, dec_h _ _ h37]
     by_cases hu : hexV x[i + 1] < 0
     ·rw [if_pos hu, decide_eq_false (by omega), Bool.false_and]; rfl
     ·rw [if_neg hu, idx_nat c2, Option.bind_some, S_l12Hex_eq, Option.bind_some, bif_dec, decide_eq_true (by omega), Bool.true_and]
      by_cases hv : hexV x[i + 2] < 0
      ·rw [if_pos hv, decide_eq_false (by omega)]; rfl
      ·rw [if_neg hv, decide_eq_true (by omega), cond_true]
       have g1 := hexV_lt x[i + 1]
       have g2 := hexV_lt x[i + 2]
       obtain ⟨a, hav⟩ := Int.eq_ofNat_of_zero_le (show 0 ≤ hexV x[i + 1] by omega)
       obtain ⟨b, hbv⟩ := Int.eq_ofNat_of_zero_le (show 0 ≤ hexV x[i + 2] by omega)
       have ga : a < 16 := by omega
       have gb : b < 16 := by omega
       have tb := (ab_tab ⟨a, ga⟩ ⟨b, gb⟩).1
       simp only at tb
       simp only [S_l12Hex_eq, Option.bind_some, hav, hbv]
       rw [tb, S_l4Letter_eq, Option.bind_some, Int.toNat_natCast, Int.toNat_natCast]
       have e45 : (((vAB a b).toNat : Int) == 45) = (vAB a b == 45) := u8_eq _ 45
       have e46 : (((vAB a b).toNat : Int) == 46) = (vAB a b == 46) := u8_eq _ 46
       have e95 : (((vAB a b).toNat : Int) == 95) = (vAB a b == 95) := u8_eq _ 95
       have e126 : (((vAB a b).toNat : Int) == 126) = (vAB a b == 126) := u8_eq _ 126
       have ol := outAB_len a b
       have fin := ih (i + 3) (acc ++ outAB a b) (by omega) (by omega) (by simp; omega)
       have w3 : IntKind.wrap .i64 (((i + 2 : Nat) : Int) + 1) = ((i + 3 : Nat) : Int) := wrap_succ (by omega)
       rw [e45, e46, e95, e126]
       have em : ∀ {f : Bool}, f = unres (vAB a b) → S_l12Plain_c75 k x (i : Int) ((vAB a b).toNat : Int) f (intsOf acc) = some (intsOf (acc ++ outAB a b)) := fun hf => S_emit ga gb (by omega) hf
       have e1 : ∀ o : Option (Oc (Int × List Int) (List UInt8 × Bool)), o = some (.nrm (((i + 2 : Nat) : Int), intsOf (acc ++ outAB a b))) → (o.bind fun o1 => oc o1 (fun o2 => S_l12Plain_b0 k n x (IntKind.wrap .i64 (o2.1 + 1)) o2.2) fun o3 => some (.oth o3)) = some (match dec (x.drop (i + 2 + 1)) (acc ++ outAB a b) with | some t => .nrm (intsOf t) | none => .oth ([], false)) := fun o ho => by
        rw [ho, Option.bind_some]
        show S_l12Plain_b0 k n x (IntKind.wrap .i64 (((i + 2 : Nat) : Int) + 1)) (intsOf (acc ++ outAB a b)) = _
        rw [w3]; exact fin
       refine e1 _ ?_
       cases hL : letB (vAB a b) with
       | true => rw [cond_true, em (by unfold unres; rw [hL]; rfl)]; rfl
       | false =>
        cases h1 : (vAB a b == 45) with
        | true => rw [cond_false, cond_true, em (by unfold unres; rw [hL, h1]; rfl)]; rfl
        | false =>
         cases h2 : (vAB a b == 46) with
         | true => rw [cond_false, cond_false, cond_true, em (by unfold unres; rw [hL, h1, h2]; rfl)]; rfl
         | false =>
          cases h3 : (vAB a b == 95) with
          | true => rw [cond_false, cond_false, cond_false, cond_true, em (by unfold unres; rw [hL, h1, h2, h3]; rfl)]; rfl
          | false => rw [cond_false, cond_false, cond_false, cond_false, em (by unfold unres; rw [hL, h1, h2, h3]; rfl)]; rfl
    ·rw [if_pos (by omega), dec_s _ _ h37 (by simp; omega)]; rfl
  ·rw [if_neg (by omega), List.drop_of_length_le (by omega)]; rfl
def decT (x : List UInt8) : List UInt8 × Bool := match dec x [] with | some t => (t, true) | none => ([], false)
theorem S_l12Plain_eq {k : Nat} (hk : 1073741824 ≤ k) (x : List UInt8) (h : x.length < 1073741000) : S_l12Plain k x = some (decT x) := by
 have := S_plain_loop (k := k) h k 0 [] (by omega) (by omega) (by simp)
 rw [show (((0 : Nat)) : Int) = 0 from rfl, show intsOf [] = [] from rfl, List.drop_zero] at this
 rw [S_l12Plain, this, Option.bind_some]
 unfold decT
 cases dec x [] with
 | none => rfl
 | some t => simp only [oc, bytes_ints]
theorem tl_tab : ∀ j : Fin 256, decide (Lib.indexByte [45, 46, 95, 126] (UInt8.ofNat j.val) ≥ 0) = (UInt8.ofNat j.val == 45 || UInt8.ofNat j.val == 46 || UInt8.ofNat j.val == 95 || UInt8.ofNat j.val == 126) := by decide +kernel
theorem tl_eq (c : UInt8) : decide (Lib.indexByte [45, 46, 95, 126] c ≥ 0) = (c == 45 || c == 46 || c == 95 || c == 126) := by
 have := tl_tab ⟨c.toNat, UInt8.toNat_lt c⟩
 simpa using this
theorem bind_of {α β : Type} {o : Option α} {x : α} {g : α → Option β} (h : o = some x) : o.bind g = g x := by rw [h]; rfl
theorem unres_int (v : UInt8) : unres v = ((decide ((v.toNat : Int) ≥ 97) && decide ((v.toNat : Int) ≤ 122)) || (decide ((v.toNat : Int) ≥ 65) && decide ((v.toNat : Int) ≤ 90)) || (decide ((v.toNat : Int) ≥ 48) && decide ((v.toNat : Int) ≤ 57)) || decide (Lib.indexByte [45, 46, 95, 126] v ≥ 0)) := by
 rw [tl_eq]
 unfold unres letB
 have e1 : decide ((v.toNat : Int) ≥ 97) = decide (97 ≤ v.toNat) := decide_eq_decide.2 (by omega)
 have e2 : decide ((v.toNat : Int) ≤ 122) = decide (v.toNat ≤ 122) := decide_eq_decide.2 (by omega)
 have e3 : decide ((v.toNat : Int) ≥ 65) = decide (65 ≤ v.toNat) := decide_eq_decide.2 (by omega)
 have e4 : decide ((v.toNat : Int) ≤ 90) = decide (v.toNat ≤ 90) := decide_eq_decide.2 (by omega)
 have e5 : decide ((v.toNat : Int) ≥ 48) = decide (48 ≤ v.toNat) := decide_eq_decide.2 (by omega)
 have e6 : decide ((v.toNat : Int) ≤ 57) = decide (v.toNat ≤ 57) := decide_eq_decide.2 (by omega)
 rw [e1, e2, e3, e4, e5, e6]
 simp only [Bool.or_assoc]
theorem I_emit {k : Nat} {x : List UInt8} {x5 : Int} {acc : List UInt8} {a b : Nat} (ha : a < 16) (hb : b < 16) (hl : acc.length < 1073741824) {f : Bool} (hf : f = unres (vAB a b)) :
    I_decodedTarget_c88 k x x5 (a : Int) (b : Int) ((vAB a b).toNat : Int) f (intsOf acc) = some (intsOf (acc ++ outAB a b)) := by
 subst hf
 unfold I_decodedTarget_c88 outAB
 cases unres (vAB a b) with
 | true => rw [cond_true, cond_true, appn_ok (by simp [intsOf]; omega), ← intsOf_app]; rfl
 | false => rw [cond_false, cond_false, idx_hexC ha, Option.bind_some, idx_hexC hb, Option.bind_some, appn_ok (by simp [intsOf]; omega), ← intsOf_app]; rfl
theorem I_dec_loop {k : Nat} {x : List UInt8} (hx : x.length < 1073741000) : ∀ (n i : Nat) (acc : List UInt8), x.length - i < n → i ≤ x.length → acc.length ≤ i →
    I_decodedTarget_b0 k n x (i : Int) (intsOf acc) = some (match dec (x.drop i) acc with | some t => .nrm (intsOf t) | none => .oth ([], false)) := by
 intro n
 induction n with
 | zero => intro i acc h; omega
 | succ n ih =>
  intro i acc hn hi ha
  rw [I_decodedTarget_b0, bif_dec]
  by_cases c : i < x.length
  ·have u37 : ((UInt8.toNat x[i] : Int) != 37) = !(x[i] == 37) := by unfold bne; rw [← u8_eq x[i] 37]; rfl
   rw [if_pos (by omega), I_decodedTarget_b1, idx_nat c, Option.bind_some, u37, List.drop_eq_getElem_cons c]
   cases h37 : (x[i] == 37) with
   | false =>
    rw [Bool.not_false, cond_true, Option.bind_some, appn_ok (by simp [intsOf]; omega), Option.bind_some, dec_p _ _ h37]
    simp only [Option.bind_some, oc]
    rw [wrap_succ (by omega), show intsOf acc ++ [(x[i].toNat : Int)] = intsOf (acc ++ [x[i]]) from intsOf_app acc [x[i]]]
    exact ih (i + 1) (acc ++ [x[i]]) (by omega) (by omega) (by simp; omega)
   | true =>
    have w2 : IntKind.wrap .i64 ((i : Int) + 2) = ((i + 2 : Nat) : Int) := by rw [wrap_id (by omega) (by omega)]; omega
    rw [Bool.not_true, cond_false, w2, wrap_succ (by omega), bif_dec]
    by_cases c2 : i + 2 < x.length
    ·have c1 : i + 1 < x.length := by omega
     rw [if_neg (by omega), idx_nat c1, Option.bind_some, I_hexDigit_eq, Option.bind_some, bif_dec, List.drop_eq_getElem_cons c1, List.drop_eq_getElem_cons c2, dec_h _ _ h37]
     by_cases hu : hexV x[i + 1] < 0
     ·rw [if_pos hu, decide_eq_false (by omega), Bool.false_and]; rfl
     ·rw [if_neg hu, idx_nat c2, Option.bind_some, I_hexDigit_eq, Option.bind_some, bif_dec, decide_eq_true (by omega), Bool.true_and]
      by_cases hv : hexV x[i + 2] < 0
      ·rw [if_pos hv, decide_eq_false (by omega)]; rfl
      ·rw [if_neg hv, decide_eq_true (by omega), cond_true]
       have g1 := hexV_lt x[i + 1]
       have g2 := hexV_lt x[i + 2]
       obtain ⟨a, hav⟩ := Int.eq_ofNat_of_zero_le (show 0 ≤ hexV x[i + 1] by omega)
       obtain ⟨b, hbv⟩ := Int.eq_ofNat_of_zero_le (show 0 ≤ hexV x[i + 2] by omega)
       have ga : a < 16 := by omega
       have gb : b < 16 := by omega
       have tb := (ab_tab ⟨a, ga⟩ ⟨b, gb⟩).1
       simp only at tb
       have hI : strings_IndexByte k ([45, 46, 95, 126] : List UInt8) ((vAB a b).toNat : Int) = some (Lib.indexByte [45, 46, 95, 126] (vAB a b)) := by
        rw [strings_IndexByte, indexByteO, Int.toNat_natCast]; simp
       simp only [I_hexDigit_eq, Option.bind_some, hav, hbv]
       rw [tb, Int.toNat_natCast, Int.toNat_natCast]
       simp only [hI, Option.bind_some]
       have ol := outAB_len a b
       have fin := ih (i + 3) (acc ++ outAB a b) (by omega) (by omega) (by simp; omega)
       have w3 : IntKind.wrap .i64 (((i + 2 : Nat) : Int) + 1) = ((i + 3 : Nat) : Int) := wrap_succ (by omega)
       have em := I_emit (k := k) (x := x) (x5 := (i : Int)) (acc := acc) ga gb (by omega) (unres_int (vAB a b)).symm
       have e1 : ∀ o : Option (Oc (Int × List Int) (List UInt8 × Bool)), o = some (.nrm (((i + 2 : Nat) : Int), intsOf (acc ++ outAB a b))) → (o.bind fun o1 => oc o1 (fun o2 => I_decodedTarget_b0 k n x (IntKind.wrap .i64 (o2.1 + 1)) o2.2) fun o3 => some (.oth o3)) = some (match dec (x.drop (i + 2 + 1)) (acc ++ outAB a b) with | some t => .nrm (intsOf t) | none => .oth ([], false)) := fun o ho => by
        rw [ho, Option.bind_some]
        show I_decodedTarget_b0 k n x (IntKind.wrap .i64 (((i + 2 : Nat) : Int) + 1)) (intsOf (acc ++ outAB a b)) = _
        rw [w3]; exact fin
       refine e1 _ ?_
       revert em
       generalize decide (((vAB a b).toNat : Int) ≥ 97) = d1
       generalize decide (((vAB a b).toNat : Int) ≤ 122) = d2
       generalize decide (((vAB a b).toNat : Int) ≥ 65) = d3
       generalize decide (((vAB a b).toNat : Int) ≤ 90) = d4
       generalize decide (((vAB a b).toNat : Int) ≥ 48) = d5
       generalize decide (((vAB a b).toNat : Int) ≤ 57) = d6
       generalize decide (Lib.indexByte [45, 46, 95, 126] (vAB a b) ≥ 0) = d7
       intro em
       cases d1 <;> cases d2 <;> cases d3 <;> cases d4 <;> cases d5 <;> cases d6 <;> exact bind_of em
    ·rw [if_pos (by omega), dec_s _ _ h37 (by simp; omega)]; rfl
  ·rw [if_neg (by omega), List.drop_of_length_le (by omega)]; rfl
theorem I_decodedTarget_eq {k : Nat} (hk : 1073741824 ≤ k) (x : List UInt8) (h : x.length < 1073741000) : I_decodedTarget k x = some (decT x) := by
 have := I_dec_loop (k := k) h k 0 [] (by omega) (by omega) (by simp)
 rw [show (((0 : Nat)) : Int) = 0 from rfl, show intsOf [] = [] from rfl, List.drop_zero] at this
 rw [I_decodedTarget, this, Option.bind_some]
 unfold decT
 cases dec x [] with
 | none => rfl
 | some t => simp only [oc, bytes_ints]
def blank (c : UInt8) : Bool := c == 32 || c == 9
def rtrim (x : List UInt8) : List UInt8 := (x.reverse.dropWhile blank).reverse
def trimT (x : List UInt8) : List UInt8 := rtrim (x.dropWhile blank)
theorem rtrim_cons (e : UInt8) (l : List UInt8) : rtrim (e :: l) = if rtrim l = [] then (if blank e then [] else [e]) else e :: rtrim l := by
 unfold rtrim
 rw [List.reverse_cons, List.dropWhile_append]
 cases h : l.reverse.dropWhile blank with
 | nil => cases hb : blank e <;> simp [List.dropWhile_cons, hb]
 | cons a m => simp
theorem rtrim_snoc (l : List UInt8) (c : UInt8) : rtrim (l ++ [c]) = if blank c then rtrim l else l ++ [c] := by
 unfold rtrim
 rw [List.reverse_append]
 cases hb : blank c <;> simp [List.dropWhile_cons, hb]
theorem trim_comm : ∀ x : List UInt8, rtrim (x.dropWhile blank) = (rtrim x).dropWhile blank
 | [] => rfl
 | e :: l => by
  have ih := trim_comm l
  rw [rtrim_cons, List.dropWhile_cons]
  cases hb : blank e with
  | true =>
   by_cases h : rtrim l = []
   ·rw [h] at ih; simp [h, ih]
   ·simp [h, List.dropWhile_cons, hb, ih]
  | false =>
   rw [if_neg (by simp), rtrim_cons]
   by_cases h : rtrim l = []
   ·simp [h, List.dropWhile_cons, hb]
   ·simp [h, List.dropWhile_cons, hb]
theorem trimS_eq (x : List UInt8) : Lib.trimS x [32, 9] = trimT x := by
 have hc : (fun b : UInt8 => ([32, 9] : List UInt8).contains b) = blank := by
  funext b; unfold blank
  simp only [List.contains, List.elem]
  cases h1 : (b == 32) <;> cases h2 : (b == 9) <;> rfl
 unfold Lib.trimS Lib.trimLeftS Lib.trimRightS trimT
 rw [hc, trim_comm]; rfl
theorem I_TrimText_eq {k : Nat} (x : List UInt8) (h : x.length < 1073741824) : I_TrimText k x = some (trimT x) := by
 have hd : (decide (x.length ≤ 9223372036854775807) && decide (([32, 9] : List UInt8).length < 4294967281) && ([32, 9] : List UInt8).all (fun b => decide (b.toNat < 128))) = true := by
  rw [Bool.and_eq_true, Bool.and_eq_true]; exact ⟨⟨decide_eq_true (by omega), by decide⟩, by decide⟩
 rw [I_TrimText, strings_Trim, trimO, hd, cond_true, trimS_eq]; rfl
theorem S_l4Blank_eq {k : Nat} (c : UInt8) : S_l4Blank k (UInt8.toNat c : Int) = some (blank c) := by
 have h1 := u8_eq c 32
 have h2 := u8_eq c 9
 rw [S_l4Blank, show (32 : Int) = ((32 : UInt8).toNat : Int) from rfl, h1, show (9 : Int) = ((9 : UInt8).toNat : Int) from rfl, h2]
 unfold blank
 cases (c == 32) <;> rfl
theorem S_Trim_1 {k : Nat} : ∀ (n : Nat) (x : List UInt8), x.length < n → x.length < 1073741824 → S_TrimText_b0 k n x = some (x.dropWhile blank) := by
 intro n
 induction n with
 | zero => intro x h; omega
 | succ n ih =>
  intro x h hx
  rw [S_TrimText_b0, bif_dec]
  cases x with
  | nil => rw [if_neg (by simp)]; rfl
  | cons c l =>
   have e : idx (c :: l) (0 : Int) = some c := rfl
   have hs : ssub (c :: l) (1 : Int) ((c :: l).length : Int) = some l := by
    have := ssub_drop (x := c :: l) (i := 1) (by simp)
    simpa using this
   rw [if_pos (by rw [List.length_cons]; omega), e, Option.bind_some, S_l4Blank_eq, Option.bind_some, List.dropWhile_cons]
   cases blank c with
   | true => rw [cond_true, hs, Option.bind_some, ih l (by simp at h; omega) (by simp at hx; omega), if_pos rfl]
   | false => rw [cond_false, if_neg (by simp)]
theorem S_Trim_2 {k : Nat} : ∀ (n : Nat) (x : List UInt8), x.length < n → x.length < 1073741824 → S_TrimText_b2 k n x = some (rtrim x) := by
 intro n
 induction n with
 | zero => intro x h; omega
 | succ n ih =>
  intro x h hx
  rw [S_TrimText_b2, bif_dec]
  rcases List.eq_nil_or_concat x with rfl | ⟨l, c, rfl⟩
  ·rw [if_neg (by simp)]; rfl
  ·rw [List.concat_eq_append] at *
   have hl : (l ++ [c]).length = l.length + 1 := by simp
   have e1 : IntKind.wrap .i64 (((l ++ [c]).length : Int) - 1) = (l.length : Int) := by rw [wrap_id (by omega) (by omega)]; omega
   have e2 : idx (l ++ [c]) (l.length : Int) = some c := by
    show (l ++ [c])[l.length]? = some c
    simp
   have e3 : ssub (l ++ [c]) (0 : Int) (l.length : Int) = some l := by
    rw [ssub_take (by omega)]; simp
   rw [if_pos (by omega), e1, e2, Option.bind_some, S_l4Blank_eq, Option.bind_some, rtrim_snoc]
   cases blank c with
   | true => rw [cond_true, e3, Option.bind_some, ih l (by omega) (by omega), if_pos rfl]
   | false => rw [cond_false, if_neg (by simp)]
theorem S_TrimText_eq {k : Nat} (hk : 1073741824 ≤ k) (x : List UInt8) (h : x.length < 1073741824) : S_TrimText k x = some (trimT x) := by
 have h1 := (List.dropWhile_sublist blank (l := x)).length_le
 rw [S_TrimText, S_Trim_1 k x (by omega) h, Option.bind_some, S_Trim_2 k _ (by omega) (by omega)]; rfl
def sub (x : List UInt8) (f i : Nat) : List UInt8 := (x.take i).drop f
theorem sub_succ {x : List UInt8} {f i : Nat} (hf : f ≤ i) (hi : i < x.length) : sub x f (i + 1) = sub x f i ++ [x[i]] := by
 unfold sub
 have : x.take (i + 1) = x.take i ++ [x[i]] := by rw [List.take_add_one, List.getElem?_eq_getElem hi]; rfl
 rw [this, List.drop_append_of_le_length (by simp; omega)]
theorem sub_self (x : List UInt8) (i : Nat) : sub x i i = [] := by unfold sub; rw [List.drop_eq_nil_iff]; simp; omega
theorem sub_end {x : List UInt8} {f i : Nat} (h : x.length ≤ i) : sub x f i = x.drop f := by unfold sub; rw [List.take_of_length_le h]
theorem ssub_sub {x : List UInt8} {f i : Nat} (h1 : f ≤ i) (h : i ≤ x.length) : ssub x (f : Int) (i : Int) = some (sub x f i) := ssub_mid h1 h
def cutP (b : UInt8) : List UInt8 → List UInt8 → List (List UInt8)
 | [], cur => [cur]
 | c :: r, cur => bif c == b then cur :: cutP b r [] else cutP b r (cur ++ [c])
theorem cutP_mem (b : UInt8) : ∀ (l cur p : List UInt8), p ∈ cutP b l cur → p.length ≤ cur.length + l.length
 | [], cur, p, h => by
  have : p = cur := by simpa [cutP] using h
  rw [this]; omega
 | c :: r, cur, p, h => by
  rw [cutP] at h
  cases h3 : (c == b) with
  | true =>
   rw [h3, cond_true] at h
   rcases List.mem_cons.1 h with rfl | h
   ·omega
   ·have := cutP_mem b r [] p h
    simp at this ⊢; omega
  | false =>
   rw [h3, cond_false] at h
   have := cutP_mem b r (cur ++ [c]) p h
   simp at this ⊢; omega
theorem cutP_len (b : UInt8) : ∀ (l cur : List UInt8), (cutP b l cur).length ≤ l.length + 1
 | [], cur => by simp [cutP]
 | c :: r, cur => by
  rw [cutP]
  have h1 := cutP_len b r []
  have h2 := cutP_len b r (cur ++ [c])
  cases (c == b) with
  | true => rw [cond_true]; simp; omega
  | false => rw [cond_false]; simp; omega
theorem cutP_pos (b : UInt8) : ∀ (l cur : List UInt8), 0 < (cutP b l cur).length
 | [], cur => by simp [cutP]
 | c :: r, cur => by
  rw [cutP]
  have h2 := cutP_pos b r (cur ++ [c])
  cases (c == b) with
  | true => rw [cond_true]; simp
  | false => rw [cond_false]; exact h2
theorem S_l12Split_loop {k : Nat} {x : List UInt8} {b : UInt8} (hx : x.length < 1073741824) : ∀ (n i f : Nat) (r : List (List UInt8)), f ≤ i → i ≤ x.length → x.length < i + n → r.length ≤ i →
    ∃ (f' : Nat) (r' : List (List UInt8)), S_l12Split_b0 k n x (b.toNat : Int) (f : Int) (i : Int) r = some ((f' : Int), r') ∧ f' ≤ x.length ∧ r'.length ≤ x.length ∧ r' ++ [x.drop f'] = r ++ cutP b (x.drop i) (sub x f i) := by
 intro n
 induction n with
 | zero => intro i f r _ h h2; omega
 | succ n ih =>
  intro i f r hf hi hn hr
  rw [S_l12Split_b0, bif_dec]
  by_cases c : i < x.length
  ·have ub := u8_eq x[i] b
   rw [if_pos (by omega), List.drop_eq_getElem_cons c, cutP]
   simp only [S_l12Split_b1, idx_nat c, Option.bind_some, S_l12Split_c19, ub]
   cases h3 : (x[i] == b) with
   | true =>
    simp only [cond_true]
    rw [ssub_sub hf (by omega), Option.bind_some, appn_ok (by simp; omega)]
    simp only [Option.bind_some]
    rw [wrap_succ (by omega)]
    obtain ⟨f', r', e1, e2, e3, e4⟩ := ih (i + 1) (i + 1) (r ++ [sub x f i]) (by omega) (by omega) (by omega) (by simp; omega)
    rw [sub_self] at e4
    exact ⟨f', r', e1, e2, e3, by rw [e4]; simp⟩
   | false =>
    simp only [cond_false, Option.bind_some]
    rw [wrap_succ (by omega), ← sub_succ hf c]
    exact ih (i + 1) f r (by omega) (by omega) (by omega) (by omega)
  ·rw [if_neg (by omega), List.drop_of_length_le (by omega), cutP, sub_end (by omega)]
   exact ⟨f, r, rfl, by omega, by omega, rfl⟩
theorem S_l12Split_eq {k : Nat} (hk : 1073741824 ≤ k) (x : List UInt8) (b : UInt8) (h : x.length < 1073741000) : S_l12Split k x (b.toNat : Int) = some (cutP b x []) := by
 obtain ⟨f', r', e1, e2, e3, e4⟩ := S_l12Split_loop (k := k) (b := b) (show x.length < 1073741824 by omega) k 0 0 [] (by omega) (by omega) (by omega) (by simp)
 rw [show ((0 : Nat) : Int) = 0 from rfl] at e1
 rw [S_l12Split, e1, Option.bind_some]
 simp only
 rw [ssub_drop e2, Option.bind_some, appn_ok (by simp; omega), e4]
 simp [sub]
theorem index_cons (b c : UInt8) (r : List UInt8) : Lib.index (c :: r) [b] = if c == b then 0 else if Lib.index r [b] == -1 then -1 else Lib.index r [b] + 1 := by
 rw [Lib.index_one, Lib.index_one, Lib.indexByte]
theorem count_first (b c : UInt8) (r : List UInt8) (h : (c == b) = true) : Lib.count (c :: r) [b] = 1 + Lib.count r [b] := by
 have := Lib.count_hit (s := c :: r) (sub := [b]) (i := 0) (by simp) (by rw [index_cons, if_pos h]; rfl)
 simpa using this
theorem split_cons (b c : UInt8) (r : List UInt8) : Lib.split (c :: r) [b] = bif c == b then [] :: Lib.split r [b] else match Lib.split r [b] with | [] => [[c]] | p :: ps => (c :: p) :: ps := by
 cases h : (c == b) with
 | true =>
  unfold Lib.split
  rw [count_first b c r h, Nat.add_comm, Lib.splitK, index_cons, if_pos h]
  simp
 | false =>
  rw [cond_false]
  have hn : ¬ (c == b) = true := by rw [h]; exact Bool.false_ne_true
  have hi := index_cons b c r
  rw [if_neg hn] at hi
  rcases Lib.index_spec r [b] with ⟨h1, _⟩ | ⟨i, h1, _, _, _⟩
  ·rw [h1] at hi
   unfold Lib.split
   rw [Lib.count_miss h1, Lib.count_miss (s := c :: r) (by rw [hi]; rfl), Lib.splitK, Lib.splitK]
  ·have hm : ¬ ((i : Int) == -1) = true := fun e => by have := beq_iff_eq.1 e; omega
   rw [h1, if_neg hm] at hi
   have c1 := Lib.count_hit (s := r) (sub := [b]) (i := i) (by simp) h1
   have c2 := Lib.count_hit (s := c :: r) (sub := [b]) (i := i + 1) (by simp) (by rw [hi]; rfl)
   have hm2 : ¬ ((i : Int) + 1 == -1) = true := fun e => by have := beq_iff_eq.1 e; omega
   unfold Lib.split
   rw [c1, c2, Nat.add_comm 1, Nat.add_comm 1, Lib.splitK, Lib.splitK, h1, hi, if_neg hm, if_neg hm2]
   rw [show ((i : Int) + 1).toNat = i + 1 by omega, show ((i : Int)).toNat = i by omega]
   simp [List.take_succ_cons, Nat.add_right_comm]
theorem split_ne (b : UInt8) (s : List UInt8) : Lib.split s [b] ≠ [] := by
 unfold Lib.split
 cases Lib.count s [b] with
 | zero => simp [Lib.splitK]
 | succ n => rw [Lib.splitK]; split <;> simp
theorem cutP_split (b : UInt8) : ∀ (s cur : List UInt8), cutP b s cur = match Lib.split s [b] with | [] => [] | p :: ps => (cur ++ p) :: ps
 | [], cur => by
  have : Lib.split [] [b] = [[]] := by
   unfold Lib.split
   rw [Lib.count_miss (by rw [Lib.index_one]; rfl)]; rfl
  rw [this]; simp [cutP]
 | c :: r, cur => by
  have h1 := cutP_split b r []
  have h2 := cutP_split b r (cur ++ [c])
  have hne := split_ne b r
  rw [cutP, split_cons, h1, h2]
  cases hs : Lib.split r [b] with
  | nil => exact absurd hs hne
  | cons p ps =>
   cases (c == b) with
   | true => simp
   | false => simp
theorem split_cutP (b : UInt8) (s : List UInt8) : Lib.split s [b] = cutP b s [] := by
 rw [cutP_split]
 cases hs : Lib.split s [b] with
 | nil => exact absurd hs (split_ne b s)
 | cons p ps => simp
theorem strings_Split_eq {k : Nat} (x : List UInt8) (b : UInt8) (h : x.length < 1073741824) : strings_Split k x [b] = some (cutP b x []) := by
 have hd : (decide (x.length < 4294967281) && decide (1 ≤ [b].length)) = true := by rw [Bool.and_eq_true]; exact ⟨decide_eq_true (by omega), by simp⟩
 rw [strings_Split, splitO, hd, cond_true, ← split_cutP]; rfl
def joinT (l : List (List UInt8)) : List UInt8 := Lib.join l [44, 32]
theorem S_JoinList_loop {k : Nat} {x : List UInt8} {r : List (List UInt8)} (h : 2 * r.length + Lib.lens (x :: r) < 1073741824) : ∀ (n j : Nat), j ≤ r.length → r.length - j < n →
    S_JoinList_b0 k n (x :: r) (x ++ Lib.joinTail [44, 32] (r.take j)) ((j + 1 : Nat) : Int) = some (x ++ Lib.joinTail [44, 32] r) := by
 have hx : Lib.lens (x :: r) = x.length + Lib.lens r := rfl
 intro n
 induction n with
 | zero => intro j _ h; omega
 | succ n ih =>
  intro j hj hn
  rw [S_JoinList_b0, bif_dec]
  by_cases c : j < r.length
  ·have hlen : ((j + 1 : Nat) : Int) < ((x :: r).length : Int) := by simp; omega
   have e1 : decide (((j + 1 : Nat) : Int) > 0) = true := decide_eq_true (by omega)
   have e2 : idx (x :: r) ((j + 1 : Nat) : Int) = some r[j] := by
    rw [idx_nat (by simp; omega)]; simp
   have b1 := Lib.joinTail_take_le [44, 32] r j
   have b2 := Lib.joinTail_length [44, 32] r
   have b3 := Lib.joinTail_take_le [44, 32] r (j + 1)
   have b4 := Lib.joinTail_take_succ [44, 32] r j r[j] (List.getElem?_eq_getElem c)
   have b5 := congrArg List.length b4
   simp only [List.length_append, List.length_cons, List.length_nil] at b2 b5
   rw [if_pos hlen, S_JoinList_b1, S_JoinList_c12, e1, cond_true, cat_ok (by simp; omega), Option.bind_some, Option.bind_some, e2, Option.bind_some, cat_ok (by simp; omega), Option.bind_some, Option.bind_some, wrap_succ (by omega)]
   have := ih (j + 1) (by omega) (by omega)
   rw [b4] at this
   rw [← this]
   congr 1
   simp
  ·have hlen : ¬ ((j + 1 : Nat) : Int) < ((x :: r).length : Int) := by simp; omega
   rw [if_neg hlen, List.take_of_length_le (by omega)]
theorem S_JoinList_eq {k : Nat} (hk : 1073741824 ≤ k) (l : List (List UInt8)) (h : 2 * l.length + Lib.lens l < 1073741824) : S_JoinList k l = some (joinT l) := by
 obtain ⟨n, rfl⟩ : ∃ n, k = n + 1 := ⟨k - 1, by omega⟩
 rw [S_JoinList, S_JoinList_b0, bif_dec]
 cases l with
 | nil => rfl
 | cons x r =>
  have hx : Lib.lens (x :: r) = x.length + Lib.lens r := rfl
  simp only [List.length_cons] at h
  have hlen : (0 : Int) < ((x :: r).length : Int) := by rw [List.length_cons]; omega
  have e2 : idx (x :: r) (0 : Int) = some x := rfl
  have := S_JoinList_loop (k := n + 1) (x := x) (r := r) (by omega) n 0 (by omega) (by omega)
  rw [List.take_zero] at this
  rw [if_pos hlen, S_JoinList_b1, S_JoinList_c12, e2]
  rw [show (decide ((0 : Int) > 0)) = false from rfl, cond_false, Option.bind_some, Option.bind_some, cat_ok (by simp; omega), Option.bind_some, Option.bind_some]
  rw [show IntKind.wrap .i64 ((0 : Int) + 1) = ((0 + 1 : Nat) : Int) from by rw [wrap_id (by omega) (by omega)]; rfl]
  have e3 : Lib.joinTail [44, 32] ([] : List (List UInt8)) = [] := rfl
  rw [e3, List.append_nil] at this
  rw [List.nil_append, this, Option.bind_some, joinT, Lib.join_cons]
def cleanE (last : Bool) (e : List UInt8) (out : List (List UInt8)) : List (List UInt8) :=
 bif !(e == [46]) && !(e == [46, 46]) then out ++ [e] else
 bif last then (bif e == [46, 46] then out.take (out.length - 1) else out) ++ [[]] else (bif e == [46, 46] then out.take (out.length - 1) else out)
def cleanL : List (List UInt8) → List (List UInt8) → List (List UInt8)
 | [], out => out
 | e :: r, out => cleanL r (cleanE r.isEmpty e out)
theorem lensC (p : List UInt8) (l : List (List UInt8)) : Lib.lens (p :: l) = p.length + Lib.lens l := rfl
theorem lens_app : ∀ a b : List (List UInt8), Lib.lens (a ++ b) = Lib.lens a + Lib.lens b
 | [], b => by simp [Lib.lens]
 | p :: a, b => by rw [List.cons_append, lensC, lensC, lens_app a b]; omega
theorem lens_take (l : List (List UInt8)) (n : Nat) : Lib.lens (l.take n) ≤ Lib.lens l := by
 have := lens_app (l.take n) (l.drop n)
 rw [List.take_append_drop] at this
 omega
theorem lens_one (p : List UInt8) : Lib.lens [p] = p.length := by rw [lensC]; simp [Lib.lens]
theorem lens_mem : ∀ {l : List (List UInt8)} {p : List UInt8}, p ∈ l → p.length ≤ Lib.lens l
 | q :: l, p, h => by
  rw [lensC]
  rcases List.mem_cons.1 h with rfl | h
  ·omega
  ·have := lens_mem h; omega
theorem cutP_sum (b : UInt8) : ∀ (l cur : List UInt8), Lib.lens (cutP b l cur) ≤ cur.length + l.length
 | [], cur => by rw [cutP, lens_one]; omega
 | c :: r, cur => by
  rw [cutP]
  have h1 := cutP_sum b r []
  have h2 := cutP_sum b r (cur ++ [c])
  cases (c == b) with
  | true => rw [cond_true, lensC]; simp at h1 ⊢; omega
  | false => rw [cond_false]; simp at h2 ⊢; omega
theorem cleanE_len (last : Bool) (e : List UInt8) (out : List (List UInt8)) : (cleanE last e out).length ≤ out.length + 1 := by
 unfold cleanE
 cases (!(e == [46]) && !(e == [46, 46])) <;> cases last <;> cases (e == ([46, 46] : List UInt8)) <;> simp <;> omega
theorem cleanE_lens (last : Bool) (e : List UInt8) (out : List (List UInt8)) : Lib.lens (cleanE last e out) ≤ Lib.lens out + e.length := by
 have h1 := lens_take out (out.length - 1)
 have h2 := lens_app out [e]
 have h3 := lens_app (out.take (out.length - 1)) [[]]
 have h4 := lens_app out [[]]
 rw [lens_one] at h2 h3 h4
 simp only [List.length_nil] at h3 h4
 unfold cleanE
 cases (!(e == [46]) && !(e == [46, 46])) <;> cases last <;> cases (e == ([46, 46] : List UInt8)) <;> simp only [cond_true, cond_false] <;> omega
theorem cleanE_ne (e : List UInt8) (out : List (List UInt8)) : cleanE true e out ≠ [] := by
 unfold cleanE
 cases (!(e == [46]) && !(e == [46, 46])) <;> simp
theorem cleanL_ne : ∀ (l out : List (List UInt8)), l ≠ [] → cleanL l out ≠ []
 | [], _, h => (h rfl).elim
 | [e], out, _ => cleanE_ne e out
 | e :: f :: r, out, _ => by rw [cleanL]; exact cleanL_ne (f :: r) _ (by simp)
theorem cleanL_len : ∀ (l out : List (List UInt8)), (cleanL l out).length ≤ out.length + l.length
 | [], out => by simp [cleanL]
 | e :: r, out => by
  have h1 := cleanL_len r (cleanE r.isEmpty e out)
  have h2 := cleanE_len r.isEmpty e out
  rw [cleanL, List.length_cons]; omega
theorem cleanL_lens : ∀ (l out : List (List UInt8)), Lib.lens (cleanL l out) ≤ Lib.lens out + Lib.lens l
 | [], out => by simp [cleanL]
 | e :: r, out => by
  have h1 := cleanL_lens r (cleanE r.isEmpty e out)
  have h2 := cleanE_lens r.isEmpty e out
  rw [cleanL, lensC]; omega
theorem last_eq {w : List (List UInt8)} {i : Nat} (h : i < w.length) : ((i : Int) == (w.length : Int) - 1) = (w.drop (i + 1)).isEmpty := by
 by_cases c : i + 1 = w.length
 ·rw [beq_iff_eq.2 (by omega : (i : Int) = (w.length : Int) - 1), List.drop_of_length_le (by omega)]; rfl
 ·rw [beq_eq_false_iff_ne.2 (by omega : (i : Int) ≠ (w.length : Int) - 1), List.drop_eq_getElem_cons (by omega)]; rfl
theorem take_pred {out : List (List UInt8)} (h : out.length < 1073741824) (h0 : 0 < out.length) : ssub out (0 : Int) (IntKind.wrap .i64 ((out.length : Int) - 1)) = some (out.take (out.length - 1)) := by
 rw [wrap_id (by omega) (by omega), show (out.length : Int) - 1 = ((out.length - 1 : Nat) : Int) by omega]
 exact ssub_take (by omega)
theorem S_clean1 {k : Nat} {w out : List (List UInt8)} {i : Nat} (hw : w.length < 1073741824) (hi : i < w.length) (ho : out.length < 1073741824) :
    S_l12Path_b1 k (i : Int) w out = some (cleanE (w.drop (i + 1)).isEmpty w[i] out) := by
 rw [S_l12Path_b1, wrap_id (n := (w.length : Int) - 1) (by omega) (by omega), last_eq hi, S_l12Path_b2, idx_nat hi, Option.bind_some, Option.bind_some]
 generalize (w.drop (i + 1)).isEmpty = last
 have ap : ∀ (o : List (List UInt8)) (e : List UInt8), o.length < 1073741824 → app 16 o [e] = some (o ++ [e]) := fun o e h => appn_ok (by simp; omega)
 have tl : (out.take (out.length - 1)).length < 1073741824 := by simp; omega
 unfold cleanE
 cases h2 : (w[i] == ([46, 46] : List UInt8)) with
 | true =>
  have h2' : w[i] = [46, 46] := by simpa using h2
  rw [cond_true]
  by_cases c : 0 < out.length
  ·rw [decide_eq_true (by omega), S_l12Path_c24, cond_true, take_pred ho c]
   simp only [Option.bind_some, S_l12Path_c60, ap _ _ tl, Bool.not_true, Bool.and_false, cond_false, cond_true]
   cases last <;> rfl
  ·have : out = [] := List.length_eq_zero_iff.1 (by omega)
   subst this
   rw [decide_eq_false (by simp), S_l12Path_c24, cond_false, idx_nat hi, Option.bind_some, Option.bind_some, h2']
   cases last <;> rfl
 | false =>
  rw [cond_false, S_l12Path_c24, cond_false, idx_nat hi, Option.bind_some, Option.bind_some]
  cases h1 : (w[i] == ([46] : List UInt8)) with
  | true =>
   simp only [Bool.not_true, cond_false, S_l12Path_c40, Option.bind_some, S_l12Path_c60, ap _ _ ho, Bool.false_and]
   cases last <;> rfl
  | false =>
   simp only [Bool.not_false, cond_true, idx_nat hi, Option.bind_some, h2, S_l12Path_c40, ap _ _ ho, S_l12Path_c60, cond_false, Bool.and_self]
theorem I_clean1 {k : Nat} {w out : List (List UInt8)} {i : Nat} (hw : w.length < 1073741824) (hi : i < w.length) (ho : out.length < 1073741824) :
    I_cleanComponents_b1 k w w (w.length : Int) (i : Int) out = some (cleanE (w.drop (i + 1)).isEmpty w[i] out) := by
 rw [I_cleanComponents_b1, idx_nat hi, Option.bind_some]
 have ap : ∀ (o : List (List UInt8)) (e : List UInt8), o.length < 1073741824 → app 16 o [e] = some (o ++ [e]) := fun o e h => appn_ok (by simp; omega)
 have tl : (out.take (out.length - 1)).length < 1073741824 := by simp; omega
 have lw : IntKind.wrap .i64 ((w.length : Int) - 1) = (w.length : Int) - 1 := wrap_id (by omega) (by omega)
 unfold cleanE
 cases h2 : (w[i] == ([46, 46] : List UInt8)) with
 | true =>
  have h2' : w[i] = [46, 46] := by simpa using h2
  rw [cond_true]
  have key : I_cleanComponents_c20 k w (i : Int) w[i] w (w.length : Int) (i : Int) (decide ((out.length : Int) > 0)) out = some (out.take (out.length - 1)) := by
   unfold I_cleanComponents_c20
   by_cases c : 0 < out.length
   ·rw [decide_eq_true (by omega), cond_true, take_pred ho c]; rfl
   ·have : out = [] := List.length_eq_zero_iff.1 (by omega)
    subst this; rfl
  rw [key, Option.bind_some, I_cleanComponents_b2, h2']
  simp only [show (([46, 46] : List UInt8) == [46]) = false from rfl, Bool.not_false, cond_true, BEq.rfl, Bool.not_true, I_cleanComponents_c26, cond_false, I_cleanComponents_c37, lw, last_eq hi, ap _ _ tl, Option.bind_some, Bool.and_false]
  cases (w.drop (i + 1)).isEmpty <;> rfl
 | false =>
  rw [cond_false, I_cleanComponents_c20, cond_false, Option.bind_some, I_cleanComponents_b2]
  cases h1 : (w[i] == ([46] : List UInt8)) with
  | true =>
   simp only [Bool.not_true, cond_false, I_cleanComponents_c26, I_cleanComponents_c37, lw, last_eq hi, ap _ _ ho, Option.bind_some, Bool.false_and]
   cases (w.drop (i + 1)).isEmpty <;> rfl
  | false =>
   simp only [Bool.not_false, cond_true, h2, I_cleanComponents_c26, ap _ _ ho, Option.bind_some, Bool.and_self]
theorem S_clean_loop {k : Nat} {w : List (List UInt8)} (hw : w.length < 1073741824) : ∀ (n i : Nat) (out : List (List UInt8)), w.length - i < n → i ≤ w.length → out.length ≤ i → S_l12Path_b0 k n (i : Int) w out = some (cleanL (w.drop i) out) := by
 intro n
 induction n with
 | zero => intro i out h; omega
 | succ n ih =>
  intro i out hn hi ho
  rw [S_l12Path_b0, bif_dec]
  by_cases c : i < w.length
  ·have := cleanE_len (w.drop (i + 1)).isEmpty w[i] out
   rw [if_pos (by omega), S_clean1 hw c (by omega), Option.bind_some, wrap_succ (by omega), ih (i + 1) _ (by omega) (by omega) (by omega)]
   conv => rhs; rw [List.drop_eq_getElem_cons c, cleanL]
  ·rw [if_neg (by omega), List.drop_of_length_le (by omega), cleanL]
theorem I_clean_loop {k : Nat} {w : List (List UInt8)} (hw : w.length < 1073741824) : ∀ (n i : Nat) (out : List (List UInt8)), w.length - i < n → i ≤ w.length → out.length ≤ i → I_cleanComponents_b0 k n w w (w.length : Int) (i : Int) out = some (cleanL (w.drop i) out) := by
 intro n
 induction n with
 | zero => intro i out h; omega
 | succ n ih =>
  intro i out hn hi ho
  rw [I_cleanComponents_b0, bif_dec]
  by_cases c : i < w.length
  ·have := cleanE_len (w.drop (i + 1)).isEmpty w[i] out
   rw [if_pos (by omega), I_clean1 hw c (by omega), Option.bind_some, wrap_succ (by omega), ih (i + 1) _ (by omega) (by omega) (by omega)]
   conv => rhs; rw [List.drop_eq_getElem_cons c, cleanL]
  ·rw [if_neg (by omega), List.drop_of_length_le (by omega), cleanL]
theorem I_cleanComponents_eq {k : Nat} (hk : 1073741824 ≤ k) (w : List (List UInt8)) (hw : w.length < 1073741824) : I_cleanComponents k w = some (cleanL w []) := by
 have := I_clean_loop (k := k) hw k 0 [] (by omega) (by omega) (by simp)
 rw [show (((0 : Nat)) : Int) = 0 from rfl, List.drop_zero] at this
 rw [I_cleanComponents, this]; rfl
def pathT (p : List UInt8) : List UInt8 := Lib.joinTail [47] (cleanL (cutP 47 (p.drop 1) []) [])
theorem S_path_text {k : Nat} {o : List (List UInt8)} (hl : o.length < 1073741824) (hs : Lib.lens o < 1073741824) : ∀ (n i : Nat) (t : List UInt8), o.length - i < n → i ≤ o.length → t.length ≤ i + 1073741824 →
    t = Lib.joinTail [47] (o.take i) → S_l12Path_b3 k n t (i : Int) o = some (Lib.joinTail [47] o) := by
 intro n
 induction n with
 | zero => intro i t h; omega
 | succ n ih =>
  intro i t hn hi ht he
  rw [S_l12Path_b3, bif_dec]
  by_cases c : i < o.length
  ·have hm := lens_mem (List.getElem_mem c)
   have b4 := Lib.joinTail_take_succ [47] o i o[i] (List.getElem?_eq_getElem c)
   have b2 : (Lib.joinTail [47] (o.take (i + 1))).length ≤ (i + 1) + 1073741824 := by
    have b5 := Lib.joinTail_length [47] (o.take (i + 1))
    have b6 := lens_take o (i + 1)
    have b7 : (o.take (i + 1)).length ≤ i + 1 := by simp; omega
    simp at b5 b7
    omega
   rw [if_pos (by omega), cat_ok (by simp; omega), Option.bind_some, idx_nat c, Option.bind_some, Option.bind_some, cat_ok (by simp; omega), Option.bind_some, wrap_succ (by omega)]
   have e : t ++ [47] ++ o[i] = Lib.joinTail [47] (o.take (i + 1)) := by rw [b4, he]
   rw [e]
   exact ih (i + 1) _ (by omega) (by omega) b2 rfl
  ·rw [if_neg (by omega), he, List.take_of_length_le (by omega)]
theorem cutL {x : List UInt8} : (cleanL (cutP 47 x []) []).length ≤ x.length + 1 ∧ Lib.lens (cleanL (cutP 47 x []) []) ≤ x.length := by
 have h1 := cleanL_len (cutP 47 x []) []
 have h2 := cleanL_lens (cutP 47 x []) []
 have h3 := cutP_len 47 x []
 have h4 := cutP_sum 47 x []
 rw [show Lib.lens [] = 0 from rfl] at h2
 simp only [List.length_nil] at h1 h4
 omega
theorem S_l12Path_eq {k : Nat} (hk : 1073741824 ≤ k) (p : List UInt8) (h : p.length < 1073740000) (h0 : 0 < p.length) : S_l12Path k p = some (pathT p) := by
 have hd : (p.drop 1).length < 1073740000 := by simp; omega
 have hc := cutP_len 47 (p.drop 1) []
 have c1 := S_clean_loop (k := k) (w := cutP 47 (p.drop 1) []) (by omega) k 0 [] (by omega) (by omega) (by simp)
 rw [show (((0 : Nat)) : Int) = 0 from rfl, List.drop_zero] at c1
 obtain ⟨l1, l2⟩ := cutL (x := p.drop 1)
 have c2 := S_path_text (k := k) (o := cleanL (cutP 47 (p.drop 1) []) []) (by omega) (by omega) k 0 [] (by omega) (by omega) (by simp) (by simp [Lib.joinTail])
 rw [show (((0 : Nat)) : Int) = 0 from rfl] at c2
 have hs := S_l12Split_eq hk (p.drop 1) 47 (by omega)
 rw [show (((47 : UInt8).toNat : Nat) : Int) = 47 from rfl] at hs
 have hsub : ssub p (1 : Int) (p.length : Int) = some (p.drop 1) := ssub_drop (i := 1) (by omega)
 rw [S_l12Path, hsub, Option.bind_some, hs, Option.bind_some, c1, Option.bind_some, c2]; rfl
theorem I_path {k : Nat} (hk : 1073741824 ≤ k) (p : List UInt8) (h : p.length < 1073740000) (h0 : 0 < p.length) {β : Type} (g : List UInt8 → Option β) :
    ((ssub p (1 : Int) (p.length : Int)).bind fun t5 => ((strings_Split k t5 ([47] : List UInt8)).bind fun w6 => ((I_cleanComponents k w6).bind fun w7 => ((strings_Join k w7 ([47] : List UInt8)).bind fun w8 => ((cat ([47] : List UInt8) w8).bind g))))) = g (pathT p) := by
 have hd : (p.drop 1).length < 1073740000 := by simp; omega
 have hc := cutP_len 47 (p.drop 1) []
 obtain ⟨l1, l2⟩ := cutL (x := p.drop 1)
 have hsub : ssub p (1 : Int) (p.length : Int) = some (p.drop 1) := ssub_drop (i := 1) (by omega)
 rw [hsub, Option.bind_some, strings_Split_eq _ _ (by omega), Option.bind_some, I_cleanComponents_eq hk _ (by omega), Option.bind_some]
 unfold pathT
 have hne := cleanL_ne (cutP 47 (p.drop 1) []) [] (by have := cutP_pos 47 (p.drop 1) []; intro e; rw [e] at this; simp at this)
 generalize cleanL (cutP 47 (p.drop 1) []) [] = o at *
 cases o with
 | nil => exact absurd rfl hne
 | cons e r =>
  have hj := Lib.join_length e r [47]
  rw [lensC] at l2 hj
  simp only [List.length_cons, List.length_nil] at hj l1
  have hd : (decide ((e :: r).length ≤ 140737488355328) && decide ((Lib.join (e :: r) [47]).length ≤ 140737488355328)) = true := by
   rw [Bool.and_eq_true]; exact ⟨decide_eq_true (by simp; omega), decide_eq_true (by omega)⟩
  rw [strings_Join, joinO, hd, cond_true, Option.bind_some, cat_ok (by simp; omega), Option.bind_some]
  congr 1
  rw [Lib.join_cons]; simp [Lib.joinTail]
def splitT (s : List UInt8) : List UInt8 × List UInt8 × Bool := match firstI (byteP s 63) s.length 0 with | some i => (s.take i, s.drop (i + 1), true) | none => (s, [], false)
theorem S_SplitTarget_eq {k : Nat} (hk : 1073741824 ≤ k) (s : List UInt8) (h : s.length < 1073741824) : S_SplitTarget k s = some (splitT s) := by
 have := find_all (len := s.length) (c := fun i => bif byteP s 63 i then some (s.take i, s.drop (i + 1), true) else none) (F := fun n i => S_SplitTarget_b0 k n s i) (fun n i hi => by
  have e : ((UInt8.toNat s[i] : Int) == 63) = (s[i] == 63) := u8_eq s[i] 63
  simp only [S_SplitTarget_b0, idx_nat hi, Option.bind_some, wrap_succ (by omega : i < 9223372036854775807), bif_dec, lt_cast, hi, if_true, byteP_at hi, e]
  cases (s[i] == 63) with
  | true => rw [cond_true, cond_true, ssub_take (by omega), Option.bind_some, ssub_drop (by omega)]; rfl
  | false => rfl) (fun n i hi => by
  simp only [S_SplitTarget_b0, bif_dec, lt_cast]
  rw [if_neg (by omega)]) (k := k) (by omega)
 rw [S_SplitTarget, this, findI_first]
 unfold splitT
 cases firstI (byteP s 63) s.length 0 <;> rfl
theorem I_SplitTarget_eq {k : Nat} (s : List UInt8) (h : s.length < 1073741824) : I_SplitTarget k s = some (splitT s) := by
 have hd : decide (s.length < 4294967281) = true := by simp; omega
 rw [I_SplitTarget, strings_Cut, cutO, hd, cond_true, Option.bind_some, cut_byte]
 rfl
def neP (s : List UInt8) : Bool := !(s == [])
def emP (w : List (List UInt8)) (i : Nat) : Bool := match w[i]? with | some s => s == [] | none => false
theorem idxF_eq {k : Nat} (hk : 1073741824 ≤ k) (w : List (List UInt8)) (h : w.length < 1073741824) : slices_IndexFunc_string_at_I_NormalTarget_1 k w = some (oInt (firstI (emP w) w.length 0)) := by
 have := find_all (len := w.length) (c := fun i => bif emP w i then some (i : Int) else none) (F := fun n i => slices_IndexFunc_string_at_I_NormalTarget_1_b0 k n w (w.length : Int) i) (fun n i hi => by
  simp only [slices_IndexFunc_string_at_I_NormalTarget_1_b0, idx_nat hi, Option.bind_some, wrap_succ (by omega : i < 9223372036854775807), bif_dec, lt_cast, hi, if_true, I_NormalTarget_1, emP, List.getElem?_eq_getElem hi]
  cases (w[i] == ([] : List UInt8)) <;> rfl) (fun n i hi => by
  simp only [slices_IndexFunc_string_at_I_NormalTarget_1_b0, bif_dec, lt_cast]
  rw [if_neg (by omega)]) (k := k) (by omega)
 rw [slices_IndexFunc_string_at_I_NormalTarget_1, this, findI_first]
 cases firstI (emP w) w.length 0 <;> rfl
theorem take_set_succ {r : List (List UInt8)} {i : Nat} {e : List UInt8} (h : i < r.length) : (r.set i e).take (i + 1) = r.take i ++ [e] := by
 rw [List.take_add_one, List.take_set, List.set_eq_of_length_le (by rw [List.length_take]; omega), List.getElem?_set_self h]; rfl
theorem filter_take_succ {w : List (List UInt8)} {j : Nat} (h : j < w.length) : (w.take (j + 1)).filter neP = (w.take j).filter neP ++ (bif neP w[j] then [w[j]] else []) := by
 rw [List.take_add_one, List.filter_append, List.getElem?_eq_getElem h]
 cases hn : neP w[j] <;> simp [hn]
theorem del_loop {k : Nat} {w : List (List UInt8)} (hw : w.length < 1073741824) : ∀ (n j i : Nat) (r : List (List UInt8)), w.length - j < n → j ≤ w.length → i ≤ j → r.length = w.length → r.take i = (w.take j).filter neP → r.drop j = w.drop j →
    ∃ (i' : Nat) (r' : List (List UInt8)), slices_DeleteFunc_string_at_I_NormalTarget_1_b0 k n (i : Int) (j : Int) r = some ((i' : Int), r') ∧ i' ≤ w.length ∧ r'.length = w.length ∧ r'.take i' = w.filter neP := by
 intro n
 induction n with
 | zero => intro j i r h; omega
 | succ n ih =>
  intro j i r hn hj hi hl ht hd
  rw [slices_DeleteFunc_string_at_I_NormalTarget_1_b0, bif_dec]
  by_cases c : j < w.length
  ·have cr : j < r.length := by omega
   have ci : i < r.length := by omega
   have e : r[j] = w[j] := by
    have := congrArg (fun l => l[0]?) hd
    simp only [List.getElem?_drop, Nat.add_zero, List.getElem?_eq_getElem cr, List.getElem?_eq_getElem c] at this
    exact Option.some.inj this
   have hd' : r.drop (j + 1) = w.drop (j + 1) := by
    have := congrArg (List.drop 1) hd
    rw [List.drop_drop, List.drop_drop] at this
    exact this
   have ft := filter_take_succ c
   rw [if_pos (by omega), slices_DeleteFunc_string_at_I_NormalTarget_1_b1, idx_nat cr, Option.bind_some, Option.bind_some, I_NormalTarget_1, Option.bind_some, slices_DeleteFunc_string_at_I_NormalTarget_1_c29, e]
   have hne : (!(w[j] == ([] : List UInt8))) = neP w[j] := rfl
   rw [hne]
   cases hp : neP w[j] with
   | true =>
    rw [hp, cond_true] at ft
    rw [cond_true, idx_nat ci, Option.bind_some, Option.bind_some, Option.bind_some, Option.bind_some, Int.toNat_natCast]
    simp only
    rw [wrap_succ (by omega), wrap_succ (by omega)]
    exact ih (j + 1) (i + 1) (r.set i w[j]) (by omega) (by omega) (by omega) (by simpa using hl) (by rw [take_set_succ ci, ft, ht]) (by rw [List.drop_set_of_lt (by omega)]; exact hd')
   | false =>
    rw [hp, cond_false, List.append_nil] at ft
    rw [cond_false, Option.bind_some, Option.bind_some]
    simp only
    rw [wrap_succ (by omega)]
    exact ih (j + 1) i r (by omega) (by omega) (by omega) hl (by rw [ft, ht]) hd'
  ·rw [if_neg (by omega)]
   exact ⟨i, r, rfl, by omega, hl, by rw [ht, List.take_of_length_le (by omega)]⟩
theorem del_eq {k : Nat} (hk : 1073741824 ≤ k) (w : List (List UInt8)) (h : w.length < 1073741824) : slices_DeleteFunc_string_at_I_NormalTarget_1 k w = some (w.filter neP) := by
 rw [slices_DeleteFunc_string_at_I_NormalTarget_1, idxF_eq hk w h, Option.bind_some]
 cases hf : firstI (emP w) w.length 0 with
 | none =>
  have hno := firstI_none _ _ hf
  have : w.filter neP = w := List.filter_eq_self.2 fun s hs => by
   obtain ⟨i, hi, rfl⟩ := List.mem_iff_getElem.1 hs
   have := hno i (by omega) (by omega)
   unfold emP at this
   rw [List.getElem?_eq_getElem hi] at this
   unfold neP
   simp only at this
   rw [this]; rfl
  rw [this]; rfl
 | some i =>
  obtain ⟨_, g1, g2, g3⟩ := firstI_some _ _ _ hf
  have hi : i < w.length := by omega
  have ei : w[i] = [] := by
   unfold emP at g2
   rw [List.getElem?_eq_getElem hi] at g2
   simpa using g2
  have hlt : w.take i = (w.take i).filter neP := (List.filter_eq_self.2 fun s hs => by
   obtain ⟨q, hq, rfl⟩ := List.mem_iff_getElem.1 hs
   have hq' : q < i := by simp at hq; omega
   have := g3 q (by omega) hq'
   unfold emP at this
   rw [List.getElem?_eq_getElem (by omega : q < w.length)] at this
   unfold neP
   simp only at this
   rw [List.getElem_take, this]; rfl).symm
  have ft := filter_take_succ hi
  have hn : neP w[i] = false := by rw [ei]; rfl
  rw [hn, cond_false, List.append_nil] at ft
  obtain ⟨i', r', e, hi', hl', ht'⟩ := del_loop (k := k) h k (i + 1) i w (by omega) (by omega) (by omega) rfl (by rw [ft]; exact hlt) rfl
  show (bif ((i : Int) == -1) then some w else ((slices_DeleteFunc_string_at_I_NormalTarget_1_b0 k k (i : Int) (IntKind.wrap .i64 ((i : Int) + 1)) w).bind _)) = _
  rw [beq_eq_false_iff_ne.2 (by omega : (i : Int) ≠ -1), cond_false, wrap_succ (by omega), e, Option.bind_some]
  simp only
  rw [ssub_drop (by omega), Option.bind_some, Int.toNat_natCast, ssub_take (by simp; omega), Option.bind_some]
  rw [List.take_append_of_le_length (by simp; omega), List.take_take, Nat.min_self, ht']
def insK (e : List UInt8) (out : List (List UInt8)) : Nat → Nat
 | 0 => 0
 | k + 1 => bif decide (e < out.getD k []) then insK e out k else k + 1
def insE (e : List UInt8) (out : List (List UInt8)) : List (List UInt8) := out.take (insK e out out.length) ++ [e] ++ out.drop (insK e out out.length)
def insAll : List (List UInt8) → List (List UInt8) → List (List UInt8)
 | [], out => out
 | e :: r, out => insAll r (bif neP e then insE e out else out)
theorem insK_le (e : List UInt8) (out : List (List UInt8)) : ∀ m, insK e out m ≤ m
 | 0 => by rw [insK]; omega
 | m + 1 => by
  have := insK_le e out m
  rw [insK]
  cases decide (e < out.getD m []) with
  | true => rw [cond_true]; omega
  | false => rw [cond_false]; omega
theorem insK_hi (e : List UInt8) (out : List (List UInt8)) : ∀ m q, insK e out m ≤ q → q < m → e < out.getD q []
 | 0, q, _, h => by omega
 | m + 1, q, h1, h2 => by
  rw [insK] at h1
  by_cases hc : e < out.getD m []
  ·rw [decide_eq_true hc, cond_true] at h1
   by_cases hq : q = m
   ·rw [hq]; exact hc
   ·exact insK_hi e out m q h1 (by omega)
  ·rw [decide_eq_false hc, cond_false] at h1; omega
theorem insK_lo (e : List UInt8) (out : List (List UInt8)) : ∀ m, 0 < insK e out m → ¬ e < out.getD (insK e out m - 1) []
 | 0, h => by rw [insK] at h; omega
 | m + 1, h => by
  rw [insK] at h ⊢
  by_cases hc : e < out.getD m []
  ·rw [decide_eq_true hc, cond_true] at h ⊢; exact insK_lo e out m h
  ·rw [decide_eq_false hc, cond_false]; exact hc
theorem insE_perm (e : List UInt8) (out : List (List UInt8)) : (insE e out).Perm (e :: out) := by
 unfold insE
 rw [List.append_assoc]
 have := List.perm_middle (a := e) (l₁ := out.take (insK e out out.length)) (l₂ := out.drop (insK e out out.length))
 rw [List.take_append_drop] at this
 exact this
theorem insE_sorted {e : List UInt8} {out : List (List UInt8)} (h : out.Pairwise fun x y => x ≤ y) : (insE e out).Pairwise fun x y => x ≤ y := by
 have k1 := insK_le e out out.length
 have gd : ∀ q (hq : q < out.length), out.getD q [] = out[q] := fun q hq => by simp [List.getD, hq]
 have hi : ∀ y ∈ out.drop (insK e out out.length), e ≤ y := fun y hy => by
  obtain ⟨q, hq, rfl⟩ := List.mem_iff_getElem.1 hy
  rw [List.length_drop] at hq
  rw [List.getElem_drop]
  have := insK_hi e out out.length (insK e out out.length + q) (by omega) (by omega)
  rw [gd _ (by omega)] at this
  exact List.le_of_lt this
 have lo : ∀ x ∈ out.take (insK e out out.length), x ≤ e := fun x hx => by
  obtain ⟨q, hq, rfl⟩ := List.mem_iff_getElem.1 hx
  have hq' : q < insK e out out.length := by rw [List.length_take] at hq; omega
  rw [List.getElem_take]
  have h0 := insK_lo e out out.length (by omega)
  rw [gd _ (by omega)] at h0
  have h1 := List.not_lt.1 h0
  by_cases c : q = insK e out out.length - 1
  ·subst c; exact h1
  ·exact List.le_trans (List.pairwise_iff_getElem.1 h q (insK e out out.length - 1) (by omega) (by omega) (by omega)) h1
 have hs := h
 rw [← List.take_append_drop (insK e out out.length) out, List.pairwise_append] at hs
 unfold insE
 rw [List.append_assoc, List.pairwise_append]
 refine ⟨hs.1, List.pairwise_cons.2 ⟨hi, hs.2.1⟩, fun x hx y hy => ?_⟩
 rcases List.mem_cons.1 hy with rfl | hy
 ·exact lo x hx
 ·exact hs.2.2 x hx y hy
theorem insAll_ok : ∀ (w out : List (List UInt8)), (out.Pairwise fun x y => x ≤ y) → ((insAll w out).Pairwise fun x y => x ≤ y) ∧ (insAll w out).Perm (w.filter neP ++ out)
 | [], out, h => ⟨h, .refl _⟩
 | e :: r, out, h => by
  rw [insAll]
  cases hn : neP e with
  | false =>
   rw [cond_false, List.filter_cons_of_neg (by simp [hn])]
   exact insAll_ok r out h
  | true =>
   rw [cond_true, List.filter_cons_of_pos hn]
   obtain ⟨h1, h2⟩ := insAll_ok r (insE e out) (insE_sorted h)
   refine ⟨h1, h2.trans ?_⟩
   exact ((insE_perm e out).append_left _).trans (List.perm_middle.trans (.refl _))
theorem insAll_sort (w : List (List UInt8)) : insAll w [] = (w.filter neP).mergeSort fun x y => decide (x ≤ y) := by
 obtain ⟨h1, h2⟩ := insAll_ok w [] .nil
 rw [List.append_nil] at h2
 refine List.Perm.eq_of_pairwise (le := fun x y => x ≤ y) (fun a b _ _ h3 h4 => List.le_antisymm h3 h4) h1 ?_ (h2.trans (List.mergeSort_perm _ _).symm)
 have := List.pairwise_mergeSort (le := fun (x y : List UInt8) => decide (x ≤ y)) (fun a b c h3 h4 => by simp only [decide_eq_true_eq] at *; exact List.le_trans h3 h4) (fun a b => by
  simp only [Bool.or_eq_true, decide_eq_true_eq]; exact List.le_total a b) (w.filter neP)
 exact this.imp fun h => by simpa using h
theorem S_ins_pos {k : Nat} {w out : List (List UInt8)} {i : Int} {e : List UInt8} (hi : idx w i = some e) (ho : out.length < 1073741824) : ∀ (n j : Nat), j < n → j ≤ out.length → S_l12Query_b2 k n i (j : Int) w out = some ((insK e out j : Nat) : Int) := by
 intro n
 induction n with
 | zero => intro j h; omega
 | succ n ih =>
  intro j hn hj
  rw [S_l12Query_b2, bif_dec]
  cases j with
  | zero => rw [if_neg (by omega)]; rfl
  | succ j =>
   have hjl : j < out.length := by omega
   rw [if_pos (by omega), hi, Option.bind_some, Option.bind_some, wrap_id (n := ((j + 1 : Nat) : Int) - 1) (by omega) (by omega), show ((j + 1 : Nat) : Int) - 1 = (j : Int) by omega, idx_nat hjl, Option.bind_some, Option.bind_some, Go.Proofs.bytesLess_eq, insK, show out.getD j [] = out[j] by simp [List.getD, hjl]]
   cases decide (e < out[j]) with
   | true => rw [cond_true, cond_true]; exact ih j (by omega) (by omega)
   | false => rw [cond_false, cond_false]
theorem insE_len (e : List UInt8) (out : List (List UInt8)) : (insE e out).length = out.length + 1 := by have := (insE_perm e out).length_eq; simpa using this
theorem S_ins_loop {k : Nat} (hk : 1073741824 ≤ k) {w : List (List UInt8)} (hw : w.length < 1073741824) : ∀ (n i : Nat) (out : List (List UInt8)), w.length - i < n → i ≤ w.length → out.length ≤ i → S_l12Query_b0 k n (i : Int) w out = some (insAll (w.drop i) out) := by
 intro n
 induction n with
 | zero => intro i out h; omega
 | succ n ih =>
  intro i out hn hi ho
  rw [S_l12Query_b0, bif_dec]
  by_cases c : i < w.length
  ·have kl := insK_le w[i] out out.length
   have il := insE_len w[i] out
   have step : S_l12Query_b1 k (i : Int) w out = some (bif neP w[i] then insE w[i] out else out) := by
    rw [S_l12Query_b1, S_ins_pos (idx_nat c) (by omega) k out.length (by omega) (by omega), Option.bind_some, idx_nat c, Option.bind_some, Option.bind_some, S_l12Query_c40]
    show ((bif neP w[i] then _ else _ : Option _).bind _) = _
    cases neP w[i] with
    | false => rfl
    | true =>
     rw [cond_true, ssub_take kl, Option.bind_some, appn_ok (by simp; omega), Option.bind_some, idx_nat c, Option.bind_some, Option.bind_some, appn_ok (by simp; omega), Option.bind_some, ssub_drop kl, Option.bind_some, appn_ok (by simp; omega)]
     rfl
   rw [if_pos (by omega), step, Option.bind_some, wrap_succ (by omega), ih (i + 1) _ (by omega) (by omega) (by cases neP w[i] <;> simp <;> omega)]
   conv => rhs; rw [List.drop_eq_getElem_cons c, insAll]
  ·rw [if_neg (by omega), List.drop_of_length_le (by omega), insAll]
theorem lens_perm {l l' : List (List UInt8)} (h : l.Perm l') : Lib.lens l = Lib.lens l' := by
 induction h with
 | nil => rfl
 | cons x _ ih => rw [lensC, lensC, ih]
 | swap x y l => rw [lensC, lensC, lensC, lensC]; omega
 | trans _ _ ih1 ih2 => exact ih1.trans ih2
theorem lens_filter (f : List UInt8 → Bool) : ∀ l : List (List UInt8), Lib.lens (l.filter f) ≤ Lib.lens l
 | [] => by simp
 | e :: l => by
  have := lens_filter f l
  cases h : f e with
  | true => rw [List.filter_cons_of_pos h, lensC, lensC]; omega
  | false => rw [List.filter_cons_of_neg (by simp [h]), lensC]; omega
def sortQ (q : List UInt8) : List (List UInt8) := ((cutP 38 q []).filter neP).mergeSort fun x y => decide (x ≤ y)
theorem sortQ_perm (q : List UInt8) : (sortQ q).Perm ((cutP 38 q []).filter neP) := List.mergeSort_perm _ _
theorem sortQ_lens (q : List UInt8) : (sortQ q).length ≤ q.length + 1 ∧ Lib.lens (sortQ q) ≤ q.length := by
 have h1 := lens_perm (sortQ_perm q)
 have h2 := (sortQ_perm q).length_eq
 have h3 := lens_filter neP (cutP 38 q [])
 have h4 := List.length_filter_le neP (cutP 38 q [])
 have h5 := cutP_len 38 q []
 have h6 := cutP_sum 38 q []
 simp only [List.length_nil] at h6
 omega
theorem sortQ_ne {q s : List UInt8} (h : s ∈ sortQ q) : s ≠ [] := by
 have := (List.mem_filter.1 ((sortQ_perm q).mem_iff.1 h)).2
 unfold neP at this
 simpa using this
theorem S_q_text {k : Nat} {x : List UInt8} {r : List (List UInt8)} (h : 2 * r.length + Lib.lens (x :: r) < 8589934592) : ∀ (n j : Nat), j ≤ r.length → r.length - j < n →
    S_l12Query_b4 k n (x ++ Lib.joinTail [38] (r.take j)) ((j + 1 : Nat) : Int) (x :: r) = some (x ++ Lib.joinTail [38] r) := by
 have hx : Lib.lens (x :: r) = x.length + Lib.lens r := rfl
 intro n
 induction n with
 | zero => intro j _ h; omega
 | succ n ih =>
  intro j hj hn
  rw [S_l12Query_b4, bif_dec]
  by_cases c : j < r.length
  ·have hlen : ((j + 1 : Nat) : Int) < ((x :: r).length : Int) := by simp; omega
   have e1 : decide (((j + 1 : Nat) : Int) > 0) = true := decide_eq_true (by omega)
   have e2 : idx (x :: r) ((j + 1 : Nat) : Int) = some r[j] := by
    rw [idx_nat (by simp; omega)]; simp
   have b1 := Lib.joinTail_take_le [38] r j
   have b2 := Lib.joinTail_length [38] r
   have b3 := Lib.joinTail_take_le [38] r (j + 1)
   have b4 := Lib.joinTail_take_succ [38] r j r[j] (List.getElem?_eq_getElem c)
   have b5 := congrArg List.length b4
   simp only [List.length_append, List.length_cons, List.length_nil] at b2 b5
   rw [if_pos hlen, S_l12Query_b5, S_l12Query_c63, e1, cond_true, cat_ok (by simp; omega), Option.bind_some, Option.bind_some, e2, Option.bind_some, Option.bind_some, cat_ok (by simp; omega), Option.bind_some, Option.bind_some, wrap_succ (by omega)]
   have := ih (j + 1) (by omega) (by omega)
   rw [b4] at this
   rw [← this]
   congr 1
   simp
  ·have hlen : ¬ ((j + 1 : Nat) : Int) < ((x :: r).length : Int) := by simp; omega
   rw [if_neg hlen, List.take_of_length_le (by omega)]
theorem S_l12Query_eq {k : Nat} (hk : 1073741824 ≤ k) (q : List UInt8) (h : q.length < 1073740000) : S_l12Query k q = some (Lib.join (sortQ q) [38]) := by
 have hc := cutP_len 38 q []
 obtain ⟨l1, l2⟩ := sortQ_lens q
 have hs := S_l12Split_eq hk q 38 (by omega)
 rw [show (((38 : UInt8).toNat : Nat) : Int) = 38 from rfl] at hs
 have c1 := S_ins_loop (k := k) hk (w := cutP 38 q []) (by omega) k 0 [] (by omega) (by omega) (by simp)
 rw [show (((0 : Nat)) : Int) = 0 from rfl, List.drop_zero, insAll_sort] at c1
 rw [S_l12Query, hs, Option.bind_some, c1, Option.bind_some]
 show ((S_l12Query_b4 k k [] 0 (sortQ q)).bind _) = _
 obtain ⟨k', rfl⟩ : ∃ k', k = k' + 1 := ⟨k - 1, by omega⟩
 cases hsq : sortQ q with
 | nil => rfl
 | cons x r =>
  rw [hsq] at l1 l2
  have hm : Lib.lens (x :: r) = x.length + Lib.lens r := rfl
  simp only [List.length_cons] at l1
  have hb : 2 * r.length + Lib.lens (x :: r) < 8589934592 := by
   have t1 := l1
   have t2 := l2
   clear c1 hs
   omega
  have c2 := S_q_text (k := k' + 1) (x := x) (r := r) hb k' 0 (by omega) (by omega)
  rw [S_l12Query_b4, bif_dec, if_pos (by simp), S_l12Query_b5, S_l12Query_c63, show decide ((0 : Int) > 0) = false from rfl, cond_false, Option.bind_some, show idx (x :: r) (0 : Int) = some x from rfl, Option.bind_some, Option.bind_some, cat_ok (by simp; omega), Option.bind_some, Option.bind_some]
  rw [show IntKind.wrap .i64 ((0 : Int) + 1) = ((0 + 1 : Nat) : Int) by decide, List.nil_append]
  rw [List.take_zero, show Lib.joinTail [38] [] = [] from rfl, List.append_nil] at c2
  rw [c2, Option.bind_some, Lib.join_cons]
theorem dec_len : ∀ (x acc t : List UInt8), dec x acc = some t → t.length ≤ acc.length + x.length
 | [], acc, t, h => by cases h; simp
 | [c], acc, t, h => by
  rw [decA1] at h
  cases hc : (c == 37) with
  | true => rw [hc] at h; cases h
  | false => rw [hc] at h; cases h; simp
 | [c, d], acc, t, h => by
  rw [decA2] at h
  cases hc : (c == 37) with
  | true => rw [hc] at h; cases h
  | false => rw [hc] at h; have := dec_len [d] (acc ++ [c]) t h; simp at this ⊢; omega
 | c :: u :: l :: r, acc, t, h => by
  rw [decA3] at h
  cases hc : (c == 37) with
  | true =>
   rw [hc, cond_true] at h
   cases h2 : (decide (0 ≤ hexV u) && decide (0 ≤ hexV l)) with
   | false => rw [h2] at h; cases h
   | true =>
    rw [h2] at h
    have := dec_len r _ t h
    have ol := outAB_len (hexV u).toNat (hexV l).toNat
    simp at this ⊢; omega
  | false => rw [hc] at h; have := dec_len (u :: l :: r) (acc ++ [c]) t h; simp at this ⊢; omega
theorem decT_len (x : List UInt8) : (decT x).1.length ≤ x.length := by
 unfold decT
 cases h : dec x [] with
 | none => simp
 | some t => have := dec_len x [] t h; simpa using this
def q47 (p : List UInt8) : Bool := p[0]? == some 47
def normT (s : List UInt8) : List UInt8 × Bool :=
 bif !(decT (splitT s).1).2 then ([], false) else bif !(decT (splitT s).2.1).2 then ([], false) else bif !q47 (decT (splitT s).1).1 then ([], false) else
 (bif (sortQ (decT (splitT s).2.1).1).isEmpty then pathT (decT (splitT s).1).1 else pathT (decT (splitT s).1).1 ++ [63] ++ Lib.join (sortQ (decT (splitT s).2.1).1) [38], true)
theorem splitT_len (s : List UInt8) : (splitT s).1.length ≤ s.length ∧ (splitT s).2.1.length ≤ s.length := by
 unfold splitT
 cases firstI (byteP s 63) s.length 0 with
 | none => simp
 | some i => simp; omega
theorem pathT_len (p : List UInt8) : (pathT p).length ≤ 2 * p.length + 1 := by
 obtain ⟨l1, l2⟩ := cutL (x := p.drop 1)
 have := Lib.joinTail_length [47] (cleanL (cutP 47 (p.drop 1) []) [])
 rw [List.length_drop] at l1 l2
 unfold pathT
 rw [this]
 simp only [List.length_cons, List.length_nil]
 omega
theorem joinQ_len (q : List UInt8) : (Lib.join (sortQ q) [38]).length ≤ 2 * q.length + 1 := by
 obtain ⟨l1, l2⟩ := sortQ_lens q
 cases hq : sortQ q with
 | nil => simp [Lib.join_nil]
 | cons x r => rw [hq] at l1 l2; rw [Lib.join_length]; simp at l1 ⊢; omega
theorem join_empty (q : List UInt8) : (Lib.join (sortQ q) [38] == []) = (sortQ q).isEmpty := by
 cases hq : sortQ q with
 | nil => rfl
 | cons x r =>
  have := sortQ_ne (q := q) (s := x) (by rw [hq]; exact .head _)
  rw [Lib.join_cons]
  cases x with
  | nil => exact absurd rfl this
  | cons a b => rfl
theorem S_NormalTarget_eq {k : Nat} (hk : 1073741824 ≤ k) (s : List UInt8) (h : s.length < 134217728) : S_NormalTarget k s = some (normT s) := by
 obtain ⟨s1, s2⟩ := splitT_len s
 have d1 := decT_len (splitT s).1
 have d2 := decT_len (splitT s).2.1
 rw [S_NormalTarget, S_SplitTarget_eq hk s (by omega), Option.bind_some, S_l12Plain_eq hk _ (by omega), Option.bind_some, S_l12Plain_eq hk _ (by omega), Option.bind_some]
 unfold normT
 generalize decT (splitT s).1 = p at d1 ⊢
 generalize decT (splitT s).2.1 = q at d2 ⊢
 obtain ⟨p, b1⟩ := p
 obtain ⟨q, b2⟩ := q
 simp only at d1 d2
 cases b1 <;> cases b2 <;> simp only [Bool.not_true, Bool.not_false, cond_true, cond_false]
 cases p with
 | nil => rfl
 | cons c r =>
  have e0 : (((c :: r).length : Int) == 0) = false := by rw [beq_eq_false_iff_ne]; simp; omega
  have u47 : ((UInt8.toNat c : Int) != 47) = !(c == 47) := by unfold bne; rw [← u8_eq c 47]; rfl
  have hq : q47 (c :: r) = (c == 47) := by unfold q47; simp
  rw [e0, cond_false, show idx (c :: r) (0 : Int) = some c from rfl, Option.bind_some, u47, hq]
  cases (c == 47) with
  | false => rfl
  | true =>
   have pl := pathT_len (c :: r)
   have jl := joinQ_len q
   simp only [Bool.not_true, cond_false]
   rw [S_l12Path_eq hk (c :: r) (by omega) (by simp), Option.bind_some, S_l12Query_eq hk q (by omega), Option.bind_some, join_empty, S_NormalTarget_c50]
   cases (sortQ q).isEmpty with
   | true => rfl
   | false => rw [Bool.not_false, cond_true, cat_ok (by simp; omega), Option.bind_some, cat_ok (by simp; omega)]; rfl
theorem hasPre_47 {k : Nat} (x : List UInt8) : strings_HasPrefix k x ([47] : List UInt8) = some (q47 x) := by
 rw [strings_HasPrefix, internal_stringslite_HasPrefix, bif_dec]
 cases x with
 | nil => rfl
 | cons c r =>
  rw [if_pos (by simp; omega)]
  have : ssub (c :: r) (0 : Int) ((([47] : List UInt8).length : Nat) : Int) = some [c] := by
   have := ssub_take (x := c :: r) (i := 1) (by simp)
   simpa using this
  rw [this, Option.bind_some, Option.bind_some]
  unfold q47
  simp
theorem I_NormalTarget_eq {k : Nat} (hk : 1073741824 ≤ k) (s : List UInt8) (h : s.length < 134217728) : I_NormalTarget k s = some (normT s) := by
 obtain ⟨s1, s2⟩ := splitT_len s
 have d1 := decT_len (splitT s).1
 have d2 := decT_len (splitT s).2.1
 rw [I_NormalTarget, I_SplitTarget_eq s (by omega), Option.bind_some, I_decodedTarget_eq hk _ (by omega), Option.bind_some, I_decodedTarget_eq hk _ (by omega), Option.bind_some]
 unfold normT
 generalize decT (splitT s).1 = p at d1 ⊢
 generalize decT (splitT s).2.1 = q at d2 ⊢
 obtain ⟨p, b1⟩ := p
 obtain ⟨q, b2⟩ := q
 simp only at d1 d2
 cases b1 <;> cases b2 <;> simp only [Bool.not_true, Bool.not_false, cond_true, cond_false]
 rw [hasPre_47, Option.bind_some]
 cases hq : q47 p with
 | false => rfl
 | true =>
  have h0 : 0 < p.length := by
   cases p with
   | nil => simp [q47] at hq
   | cons c r => simp
  have pl := pathT_len p
  have jl := joinQ_len q
  have hc := cutP_len 38 q []
  obtain ⟨l1, l2⟩ := sortQ_lens q
  have fl := List.length_filter_le neP (cutP 38 q [])
  have hso : sortO ((cutP 38 q []).filter neP) = some (sortQ q) := by
   unfold sortO
   rw [decide_eq_true (by omega : ((cutP 38 q []).filter neP).length < 4611686018427387904)]; rfl
  rw [Bool.not_true, cond_false, I_path hk p (by omega) h0]
  rw [strings_Split_eq _ _ (by omega), Option.bind_some, del_eq hk _ (by omega), Option.bind_some, slices_Sort_string, hso, Option.bind_some, I_NormalTarget_c51, bif_dec]
  cases hsq : sortQ q with
  | nil => rw [if_neg (by simp)]; rfl
  | cons x r =>
   rw [hsq] at jl l1
   have hd : (decide ((x :: r).length ≤ 140737488355328) && decide ((Lib.join (x :: r) [38]).length ≤ 140737488355328)) = true := by
    rw [Bool.and_eq_true]; exact ⟨decide_eq_true (by omega), decide_eq_true (by omega)⟩
   rw [if_pos (by simp), strings_Join, joinO, hd, cond_true, Option.bind_some, cat_ok (by simp; omega), Option.bind_some, cat_ok (by simp; omega), Option.bind_some, Option.bind_some]
   simp
theorem S_IsNormalTarget_eq {k : Nat} (hk : 1073741824 ≤ k) (s : List UInt8) (h : s.length < 134217728) : S_IsNormalTarget k s = some ((normT s).2 && ((normT s).1 == s)) := by
 rw [S_IsNormalTarget, S_NormalTarget_eq hk s h, Option.bind_some]
 cases (normT s).2 <;> rfl
theorem I_IsNormalTarget_eq {k : Nat} (hk : 1073741824 ≤ k) (s : List UInt8) (h : s.length < 134217728) : I_IsNormalTarget k s = some ((normT s).2 && ((normT s).1 == s)) := by
 rw [I_IsNormalTarget, I_NormalTarget_eq hk s h, Option.bind_some]
 cases (normT s).2 <;> rfl
def badV (c : UInt8) : Bool := !inR (c.toNat : Int) 32 126 && c != 9
def bvP (x : List UInt8) (i : Nat) : Bool := match x[i]? with | some c => badV c | none => false
def valOK (x : List UInt8) : Bool := (firstI (bvP x) x.length 0).isNone && decide ((x.length : Int) ≤ 200) && (trimT x == x)
def nameOK (x : List UInt8) : Bool := isTok x && (lowT x == x)
def bfP (l : List IField) (i : Nat) : Bool := match l[i]? with | some e => !nameOK e.Name || !valOK e.Value | none => false
def areF (l : List IField) : Bool := (firstI (bfP l) l.length 0).isNone && decide ((l.length : Int) ≤ 24)
theorem u8_ne9 (c : UInt8) : ((UInt8.toNat c : Int) != (9 : Int)) = (c != 9) := by
 have := u8_eq c 9
 unfold bne
 rw [← this]; rfl
theorem S_l5Value_eq {k : Nat} (hk : 1073741824 ≤ k) (x : List UInt8) (h : x.length < 1073741824) : S_l5Value k x = some (valOK x) := by
 have := find_all (len := x.length) (c := fun i => bif bvP x i then some false else none) (F := fun n i => S_l5Value_b0 k n x i) (fun n i hi => by
  have hb := UInt8.toNat_lt x[i]
  simp only [S_l5Value_b0, idx_nat hi, Option.bind_some, wrap_succ (by omega : i < 9223372036854775807), bif_dec, lt_cast, hi, if_true, bvP, List.getElem?_eq_getElem hi, badV, u8_ne9]
  rw [wrap_id (by omega) (by omega), S_l1In_eq, Option.bind_some]
  cases inR (x[i].toNat : Int) 32 126 <;> cases (x[i] != 9) <;> rfl) (fun n i hi => by
  simp only [S_l5Value_b0, bif_dec, lt_cast]
  rw [if_neg (by omega)]) (k := k) (by omega)
 rw [S_l5Value, this, findI_first, S_TrimText_eq hk x h]
 unfold valOK
 cases firstI (bvP x) x.length 0 with
 | none => cases decide ((x.length : Int) ≤ 200) <;> simp [ocOf, oc]
 | some j => simp [ocOf, oc]
theorem I_isFieldValue_eq {k : Nat} (hk : 1073741824 ≤ k) (x : List UInt8) (h : x.length < 1073741824) : I_isFieldValue k x = some (valOK x) := by
 have := find_all (len := x.length) (c := fun i => bif bvP x i then some false else none) (F := fun n i => I_isFieldValue_b0 k n x (x.length : Int) i) (fun n i hi => by
  have hb := UInt8.toNat_lt x[i]
  simp only [I_isFieldValue_b0, idx_nat hi, Option.bind_some, wrap_succ (by omega : i < 9223372036854775807), bif_dec, lt_cast, hi, if_true, bvP, List.getElem?_eq_getElem hi, badV, u8_ne9]
  rw [wrap_id (by omega) (by omega), I_inRange_eq, Option.bind_some]
  cases inR (x[i].toNat : Int) 32 126 <;> cases (x[i] != 9) <;> rfl) (fun n i hi => by
  simp only [I_isFieldValue_b0, bif_dec, lt_cast]
  rw [if_neg (by omega)]) (k := k) (by omega)
 rw [I_isFieldValue, this, findI_first, I_TrimText_eq x h]
 unfold valOK
 cases firstI (bvP x) x.length 0 with
 | none => cases decide ((x.length : Int) ≤ 200) <;> simp [ocOf, oc]
 | some j => simp [ocOf, oc]
theorem S_l5Name_eq {k : Nat} (hk : 1073741824 ≤ k) (x : List UInt8) (h : x.length < 1073741824) : S_l5Name k x = some (nameOK x) := by
 rw [S_l5Name, S_IsToken_eq hk x h, Option.bind_some, S_LowerText_eq hk x h]
 unfold nameOK
 cases isTok x <;> rfl
def shortF (l : List IField) : Prop := ∀ e ∈ l, e.Name.length < 1073741824 ∧ e.Value.length < 1073741824
theorem S_AreFields_eq {k : Nat} (hk : 1073741824 ≤ k) (l : List IField) (h : l.length < 1073741824) (hs : shortF l) : S_AreFields k l = some (areF l) := by
 have := find_all (len := l.length) (c := fun i => bif bfP l i then some false else none) (F := fun n i => S_AreFields_b0 k n l i) (fun n i hi => by
  obtain ⟨h1, h2⟩ := hs l[i] (List.getElem_mem hi)
  simp only [S_AreFields_b0, idx_nat hi, Option.bind_some, wrap_succ (by omega : i < 9223372036854775807), bif_dec, lt_cast, hi, if_true, bfP, List.getElem?_eq_getElem hi, S_l5Name_eq hk _ h1, S_l5Value_eq hk _ h2]
  cases nameOK l[i].Name <;> cases valOK l[i].Value <;> rfl) (fun n i hi => by
  simp only [S_AreFields_b0, bif_dec, lt_cast]
  rw [if_neg (by omega)]) (k := k) (by omega)
 rw [S_AreFields, this, findI_first]
 unfold areF
 cases firstI (bfP l) l.length 0 <;> simp [ocOf, oc]
theorem I_AreFields_eq {k : Nat} (hk : 1073741824 ≤ k) (l : List IField) (h : l.length < 1073741824) (hs : shortF l) : I_AreFields k l = some (areF l) := by
 have := find_all (len := l.length) (c := fun i => bif bfP l i then some false else none) (F := fun n i => I_AreFields_b0 k n l l (l.length : Int) i) (fun n i hi => by
  obtain ⟨h1, h2⟩ := hs l[i] (List.getElem_mem hi)
  simp only [I_AreFields_b0, idx_nat hi, Option.bind_some, wrap_succ (by omega : i < 9223372036854775807), bif_dec, lt_cast, hi, if_true, bfP, List.getElem?_eq_getElem hi, I_IsToken_eq hk _ h1, I_LowerText_eq hk _ h1, I_isFieldValue_eq hk _ h2, nameOK]
  cases isTok l[i].Name <;> cases (lowT l[i].Name == l[i].Name) <;> cases valOK l[i].Value <;> rfl) (fun n i hi => by
  simp only [I_AreFields_b0, bif_dec, lt_cast]
  rw [if_neg (by omega)]) (k := k) (by omega)
 rw [I_AreFields, this, findI_first]
 unfold areF
 cases firstI (bfP l) l.length 0 <;> simp [ocOf, oc]
def valOfF (n : List UInt8) (e : IField) : List (List UInt8) := bif e.Name == n then [e.Value] else []
def valsF (l : List IField) (n : List UInt8) : List (List UInt8) := l.flatMap (valOfF n)
def fsz (l : List IField) : Nat := l.length + (l.map fun e => e.Value.length).sum
theorem valsF_len (n : List UInt8) : ∀ l : List IField, (valsF l n).length ≤ l.length
 | [] => by simp [valsF]
 | e :: l => by
  have := valsF_len n l
  unfold valsF at this ⊢
  rw [List.flatMap_cons, List.length_append]
  have h2 : (valOfF n e).length ≤ 1 := by unfold valOfF; cases (e.Name == n) <;> simp
  rw [List.length_cons]; omega
theorem valsF_lens (n : List UInt8) : ∀ l : List IField, Lib.lens (valsF l n) ≤ (l.map fun e => e.Value.length).sum
 | [] => by simp [valsF, Lib.lens]
 | e :: l => by
  have := valsF_lens n l
  unfold valsF at this ⊢
  rw [List.flatMap_cons]
  unfold valOfF at this ⊢
  cases (e.Name == n) with
  | true => simp only [cond_true, List.cons_append, List.nil_append, List.map_cons, List.sum_cons]; show e.Value.length + Lib.lens _ ≤ _; omega
  | false => simp only [cond_false, List.nil_append, List.map_cons, List.sum_cons]; omega
def getF (l : List IField) (n : List UInt8) : List UInt8 × Bool := (joinT (valsF l n), decide (((valsF l n).length : Int) > 0))
theorem S_GetField_eq {k : Nat} (hk : 1073741824 ≤ k) (l : List IField) (n : List UInt8) (h : fsz l < 268435456) : S_GetField k l n = some (getF l n) := by
 have hl : l.length < 268435456 := by unfold fsz at h; omega
 have := fold_all (len := l.length) (g := fun j s => s ++ (l[j]?).elim [] (valOfF n)) (Inv := fun i s => s.length ≤ i) (F := fun m i s => S_GetField_b0 k m l n i s) (out := id) (fun m i s hi hI => by
  simp only [S_GetField_b0, bif_dec, lt_cast, hi, if_true, S_GetField_b1, idx_nat hi, Option.bind_some, S_GetField_c21, wrap_succ (by omega : i < 9223372036854775807), List.getElem?_eq_getElem hi, Option.elim_some, valOfF]
  cases (l[i].Name == n) with
  | true => rw [cond_true, cond_true, appn_ok (by simp; omega)]; exact ⟨rfl, by simp; omega⟩
  | false => rw [cond_false, cond_false, List.append_nil]; exact ⟨rfl, by omega⟩) (fun m i s hi => by
  simp only [S_GetField_b0, bif_dec, lt_cast]
  rw [if_neg (by omega)]; rfl) (k := k) (by omega) (s := []) (by simp)
 have h1 : S_GetField_b0 k k l n 0 [] = some (foldI (fun j s => s ++ (l[j]?).elim [] (valOfF n)) l.length 0 []) := this.1
 have h2 := valsF_len n l
 have h3 := valsF_lens n l
 have hv : foldI (fun j s => s ++ (l[j]?).elim [] (valOfF n)) l.length 0 [] = valsF l n := by
  rw [foldI_append (f := valOfF n) l.length 0 [] (by omega), List.drop_zero]; rfl
 rw [S_GetField, h1, hv, Option.bind_some, S_JoinList_eq hk _ (by unfold fsz at h; omega)]; rfl
def nmP (l : List IField) (n : List UInt8) (i : Nat) : Bool := match l[i]? with | some e => e.Name == n | none => false
def hasF (l : List IField) (n : List UInt8) : Bool := l.any fun e => e.Name == n
theorem firstI_any (l : List IField) (n : List UInt8) : (firstI (nmP l n) l.length 0).isSome = hasF l n := by
 unfold hasF
 cases hf : firstI (nmP l n) l.length 0 with
 | some j =>
  obtain ⟨_, h1, h2, _⟩ := firstI_some _ _ _ hf
  have hj : j < l.length := by omega
  simp only [nmP, List.getElem?_eq_getElem hj] at h2
  exact (List.any_eq_true.2 ⟨l[j], List.getElem_mem hj, h2⟩).symm
 | none =>
  have hn := firstI_none _ _ hf
  refine Eq.symm (List.any_eq_false.2 fun e he => ?_)
  obtain ⟨j, hj, rfl⟩ := List.mem_iff_getElem.1 he
  have := hn j (by omega) (by omega)
  simp only [nmP, List.getElem?_eq_getElem hj] at this
  rw [this]; simp
theorem getF_has (n : List UInt8) : ∀ l : List IField, decide (((valsF l n).length : Int) > 0) = hasF l n
 | [] => rfl
 | e :: l => by
  have ih := getF_has n l
  unfold valsF hasF at ih ⊢
  rw [List.flatMap_cons, List.any_cons, List.length_append]
  unfold valOfF at ih ⊢
  cases (e.Name == n) with
  | true => simp only [cond_true, Bool.true_or, List.length_cons, List.length_nil]; exact decide_eq_true (by omega)
  | false => simp only [cond_false, Bool.false_or, List.length_nil, Nat.zero_add]; exact ih
theorem I_hasField_eq {k : Nat} (hk : 1073741824 ≤ k) (l : List IField) (n : List UInt8) (h : l.length < 1073741824) : I_hasField k l n = some (hasF l n) := by
 have := find_all (len := l.length) (c := fun i => bif nmP l n i then some (i : Int) else none) (F := fun m i => slices_IndexFunc_IField_at_I_hasField_1_b0 k m l n (l.length : Int) i) (fun m i hi => by
  simp only [slices_IndexFunc_IField_at_I_hasField_1_b0, I_hasField_1, idx_nat hi, Option.bind_some, wrap_succ (by omega : i < 9223372036854775807), bif_dec, lt_cast, hi, if_true, nmP, List.getElem?_eq_getElem hi]
  cases (l[i].Name == n) <;> rfl) (fun m i hi => by
  simp only [slices_IndexFunc_IField_at_I_hasField_1_b0, bif_dec, lt_cast]
  rw [if_neg (by omega)]) (k := k) (by omega)
 rw [I_hasField, slices_ContainsFunc_IField_at_I_hasField_1, slices_IndexFunc_IField_at_I_hasField_1, this, findI_first, ← firstI_any]
 cases firstI (nmP l n) l.length 0 with
 | none => rfl
 | some j => simp [ocOf, oc]
def clen : List UInt8 := [99, 111, 110, 116, 101, 110, 116, 45, 108, 101, 110, 103, 116, 104]
def bP (p : UInt8 → Bool) (x : List UInt8) (i : Nat) : Bool := match x[i]? with | some c => p c | none => false
def noB (p : UInt8 → Bool) (x : List UInt8) : Bool := (firstI (bP p x) x.length 0).isNone
theorem bP_at {p : UInt8 → Bool} {x : List UInt8} {i : Nat} (h : i < x.length) : bP p x i = p x[i] := by simp only [bP, List.getElem?_eq_getElem h]
structure ReqIn (r : IRequest) : Prop where
 m : r.Method.length < 1073741824
 h : r.Host.length < 1073741824
 t : r.Target.length < 1073741824
 f : fsz r.Fields < 268435456
 s : shortF r.Fields
theorem noB_all (p : UInt8 → Bool) (x : List UInt8) : noB p x = x.all fun c => !p c := by
 unfold noB
 cases hf : firstI (bP p x) x.length 0 with
 | some j =>
  obtain ⟨_, h1, h2, _⟩ := firstI_some _ _ _ hf
  have hj : j < x.length := by omega
  rw [bP_at hj] at h2
  refine Eq.symm (List.all_eq_false.2 ⟨x[j], List.getElem_mem hj, by simp [h2]⟩)
 | none =>
  have hn := firstI_none _ _ hf
  refine Eq.symm (List.all_eq_true.2 fun c hc => ?_)
  obtain ⟨j, hj, rfl⟩ := List.mem_iff_getElem.1 hc
  have := hn j (by omega) (by omega)
  rw [bP_at hj] at this
  rw [this]; rfl
theorem u8_ne (c d : UInt8) : ((UInt8.toNat c : Int) != (UInt8.toNat d : Int)) = (c != d) := by
 have := u8_eq c d
 unfold bne
 rw [← this]
def isLow (c : UInt8) : Bool := inR (c.toNat : Int) 97 122
def badH (c : UInt8) : Bool := !inR (c.toNat : Int) 97 122 && (!inR (c.toNat : Int) 48 57 && (c != 45 && c != 46))
def badT (c : UInt8) : Bool := !inR (c.toNat : Int) 33 126
def hostT : List UInt8 := [104, 111, 115, 116]
def isReq (r : IRequest) : Bool :=
 noB isLow r.Method && noB badH r.Host && noB badT r.Target && isTok r.Method && inR (r.Host.length : Int) 1 40 && inR (r.Target.length : Int) 1 100 && (r.Target.head? == some 47) && areF r.Fields && decide ((r.Fields.length : Int) < 24) && !hasF r.Fields clen && !hasF r.Fields hostT
theorem idx0 {x : List UInt8} (h : inR (x.length : Int) 1 100 = true) : ∃ c, idx x (0 : Int) = some c ∧ x.head? = some c := by
 unfold inR at h
 simp only [Bool.and_eq_true, decide_eq_true_eq] at h
 cases x with
 | nil => simp at h
 | cons c r => exact ⟨c, rfl, rfl⟩
theorem req_b0 {k : Nat} (hk : 1073741824 ≤ k) (a b c : List UInt8) (d : List IField) (h : a.length < 1073741824) : S_IsRequest_b0 k k 0 a b c d = some (ocOf (bif noB isLow a then none else some false)) := by
 have := find_all (len := a.length) (c := fun i => bif bP isLow a i then some false else none) (F := fun n i => S_IsRequest_b0 k n i a b c d) (fun n i hi => by
  have hb := UInt8.toNat_lt a[i]
  simp only [S_IsRequest_b0, idx_nat hi, Option.bind_some, wrap_succ (by omega : i < 9223372036854775807), bif_dec, lt_cast, hi, if_true, bP_at hi, isLow]
  rw [wrap_id (by omega) (by omega), S_l1In_eq, Option.bind_some]
  cases inR (a[i].toNat : Int) 97 122 <;> rfl) (fun n i hi => by
  simp only [S_IsRequest_b0, bif_dec, lt_cast]
  rw [if_neg (by omega)]) (k := k) (by omega)
 rw [this, findI_first]
 unfold noB
 cases firstI (bP isLow a) a.length 0 <;> rfl
theorem req_b2 {k : Nat} (hk : 1073741824 ≤ k) (a b c : List UInt8) (d : List IField) (h : b.length < 1073741824) : S_IsRequest_b2 k k 0 a b c d = some (ocOf (bif noB badH b then none else some false)) := by
 have := find_all (len := b.length) (c := fun i => bif bP badH b i then some false else none) (F := fun n i => S_IsRequest_b2 k n i a b c d) (fun n i hi => by
  have hb := UInt8.toNat_lt b[i]
  have e45 : ((UInt8.toNat b[i] : Int) != (45 : Int)) = (b[i] != 45) := u8_ne b[i] 45
  have e46 : ((UInt8.toNat b[i] : Int) != (46 : Int)) = (b[i] != 46) := u8_ne b[i] 46
  simp only [S_IsRequest_b2, idx_nat hi, Option.bind_some, wrap_succ (by omega : i < 9223372036854775807), bif_dec, lt_cast, hi, if_true, bP_at hi, badH, e45, e46]
  rw [wrap_id (by omega) (by omega), S_l1In_eq, S_l1In_eq, Option.bind_some]
  cases inR (b[i].toNat : Int) 97 122 <;> cases inR (b[i].toNat : Int) 48 57 <;> cases (b[i] != 45) <;> cases (b[i] != 46) <;> rfl) (fun n i hi => by
  simp only [S_IsRequest_b2, bif_dec, lt_cast]
  rw [if_neg (by omega)]) (k := k) (by omega)
 rw [this, findI_first]
 unfold noB
 cases firstI (bP badH b) b.length 0 <;> rfl
theorem req_b4 {k : Nat} (hk : 1073741824 ≤ k) (a b c : List UInt8) (d : List IField) (h : c.length < 1073741824) : S_IsRequest_b4 k k 0 a b c d = some (ocOf (bif noB badT c then none else some false)) := by
 have := find_all (len := c.length) (c := fun i => bif bP badT c i then some false else none) (F := fun n i => S_IsRequest_b4 k n i a b c d) (fun n i hi => by
  have hb := UInt8.toNat_lt c[i]
  simp only [S_IsRequest_b4, idx_nat hi, Option.bind_some, wrap_succ (by omega : i < 9223372036854775807), bif_dec, lt_cast, hi, if_true, bP_at hi, badT]
  rw [wrap_id (by omega) (by omega), S_l1In_eq, Option.bind_some]
  cases inR (c[i].toNat : Int) 33 126 <;> rfl) (fun n i hi => by
  simp only [S_IsRequest_b4, bif_dec, lt_cast]
  rw [if_neg (by omega)]) (k := k) (by omega)
 rw [this, findI_first]
 unfold noB
 cases firstI (bP badT c) c.length 0 <;> rfl
theorem S_IsRequest_eq {k : Nat} (hk : 1073741824 ≤ k) (r : IRequest) (h : ReqIn r) : S_IsRequest k r = some (isReq r) := by
 have hl : r.Fields.length < 1073741824 := by have := h.f; unfold fsz at this; omega
 have hg : (getF r.Fields hostT).2 = hasF r.Fields hostT := getF_has hostT r.Fields
 have hg2 : (getF r.Fields clen).2 = hasF r.Fields clen := getF_has clen r.Fields
 have e11 : S_l11Fields k r.Fields = some (areF r.Fields && decide ((r.Fields.length : Int) < 24) && !hasF r.Fields clen) := by
  rw [S_l11Fields]
  show (S_GetField k r.Fields clen).bind _ = _
  rw [S_GetField_eq hk _ _ h.f, Option.bind_some, S_AreFields_eq hk _ hl h.s, Option.bind_some, hg2]
  cases areF r.Fields <;> cases decide ((r.Fields.length : Int) < 24) <;> rfl
 rw [S_IsRequest, req_b0 hk _ _ _ _ h.m, Option.bind_some]
 unfold isReq
 cases noB isLow r.Method with
 | false => rfl
 | true =>
  simp only [cond_true, ocOf, oc, req_b2 hk _ _ _ _ h.h, Option.bind_some]
  cases noB badH r.Host with
  | false => rfl
  | true =>
   simp only [cond_true, req_b4 hk _ _ _ _ h.t, Option.bind_some, ocOf, oc]
   cases noB badT r.Target with
   | false => rfl
   | true =>
    simp only [cond_true]
    show ((S_GetField k r.Fields hostT).bind _) = _
    rw [S_GetField_eq hk _ _ h.f, Option.bind_some, S_IsToken_eq hk _ h.m, Option.bind_some, hg]
    simp only [S_l1In_eq, Option.bind_some]
    cases isTok r.Method <;> cases inR (r.Host.length : Int) 1 40 <;> try rfl
    cases ht : inR (r.Target.length : Int) 1 100 with
    | false => simp
    | true =>
     obtain ⟨c, hc, hd⟩ := idx0 ht
     have e47 : ((UInt8.toNat c : Int) == (47 : Int)) = (c == 47) := u8_eq c 47
     have e47' : (some c == some (47 : UInt8)) = (c == 47) := by cases h : (c == 47) <;> simp_all
     simp only [cond_true, hc, hd, Option.bind_some, e47, e11, e47', Bool.true_and]
     cases (c == 47) <;> cases areF r.Fields <;> cases decide ((r.Fields.length : Int) < 24) <;> cases hasF r.Fields clen <;> simp
theorem I_isHost_eq {k : Nat} (hk : 1073741824 ≤ k) (x : List UInt8) (h : x.length < 1073741824) : I_isHost k x = some (noB badH x && inR (x.length : Int) 1 40) := by
 have := find_all (len := x.length) (c := fun i => bif bP badH x i then some false else none) (F := fun n i => I_isHost_b0 k n x (x.length : Int) i) (fun n i hi => by
  have hb := UInt8.toNat_lt x[i]
  have e45 : ((UInt8.toNat x[i] : Int) == (45 : Int)) = (x[i] == 45) := u8_eq x[i] 45
  have e46 : ((UInt8.toNat x[i] : Int) == (46 : Int)) = (x[i] == 46) := u8_eq x[i] 46
  simp only [I_isHost_b0, idx_nat hi, Option.bind_some, wrap_succ (by omega : i < 9223372036854775807), bif_dec, lt_cast, hi, if_true, bP_at hi, badH, e45, e46, inR, bne]
  by_cases a1 : 97 ≤ x[i].toNat <;> by_cases a2 : x[i].toNat ≤ 122 <;> by_cases a5 : 48 ≤ x[i].toNat <;> by_cases a6 : x[i].toNat ≤ 57 <;> cases (x[i] == 45) <;> cases (x[i] == 46) <;>
   simp [a1, a2, a5, a6, show ((x[i].toNat : Int) ≥ 97) = (97 ≤ x[i].toNat) from by simp; omega, show ((97 : Int) ≤ (x[i].toNat : Int)) = (97 ≤ x[i].toNat) from by simp; omega, show ((x[i].toNat : Int) ≤ 122) = (x[i].toNat ≤ 122) from by simp; omega, show ((x[i].toNat : Int) ≥ 48) = (48 ≤ x[i].toNat) from by simp; omega, show ((48 : Int) ≤ (x[i].toNat : Int)) = (48 ≤ x[i].toNat) from by simp; omega, show ((x[i].toNat : Int) ≤ 57) = (x[i].toNat ≤ 57) from by simp; omega]) (fun n i hi => by
  simp only [I_isHost_b0, bif_dec, lt_cast]
  rw [if_neg (by omega)]) (k := k) (by omega)
 rw [I_isHost, this, findI_first]
 unfold noB
 cases firstI (bP badH x) x.length 0 <;> simp [ocOf, oc, I_inRange_eq]
theorem tok_asc : ∀ j : Fin 256, (!tokB (UInt8.ofNat j.val) || decide ((UInt8.ofNat j.val).toNat < 128)) = true := by decide +kernel
theorem upp_tab : ∀ j : Fin 256, (Lib.upperB (UInt8.ofNat j.val) == UInt8.ofNat j.val) = !isLow (UInt8.ofNat j.val) := by decide +kernel
theorem upp_eq (c : UInt8) : (Lib.upperB c == c) = !isLow c := by
 have := upp_tab ⟨c.toNat, UInt8.toNat_lt c⟩
 simpa using this
theorem isTok_asc {x : List UInt8} (h : isTok x = true) : (x.all fun c => decide (c.toNat < 128)) = true := by
 unfold isTok at h
 simp only [Bool.and_eq_true] at h
 have hn : noB (fun c => !tokB c) x = true := h.1
 rw [noB_all] at hn
 refine List.all_eq_true.2 fun c hc => ?_
 have h1 := List.all_eq_true.1 hn c hc
 have h2 := tok_asc ⟨c.toNat, UInt8.toNat_lt c⟩
 simp at h1 h2
 simpa [h1] using h2
theorem upp_all : ∀ x : List UInt8, (Lib.toUpperA x == x) = noB isLow x
 | [] => rfl
 | c :: r => by
  have ih := upp_all r
  rw [noB_all] at ih ⊢
  have e : Lib.toUpperA (c :: r) = Lib.upperB c :: Lib.toUpperA r := rfl
  rw [e, List.cons_beq_cons, upp_eq, ih, List.all_cons]
theorem toUpper_ok {k : Nat} {x : List UInt8} (h : isTok x = true) (hl : x.length < 1073741824) : strings_ToUpper k x = some (Lib.toUpperA x) := by
 rw [strings_ToUpper, toUpperO, isTok_asc h, decide_eq_true (by omega)]; rfl
theorem I_IsRequest_eq {k : Nat} (hk : 1073741824 ≤ k) (r : IRequest) (h : ReqIn r) : I_IsRequest k r = some (isReq r) := by
 have hl : r.Fields.length < 1073741824 := by have := h.f; unfold fsz at this; omega
 have hb0 : I_IsRequest_b0 k k (r.Target.length : Int) 0 r.Method r.Host r.Target r.Fields = some (ocOf (bif noB badT r.Target then none else some false)) := by
  have := find_all (len := r.Target.length) (c := fun i => bif bP badT r.Target i then some false else none) (F := fun n i => I_IsRequest_b0 k n (r.Target.length : Int) i r.Method r.Host r.Target r.Fields) (fun n i hi => by
   have hb := UInt8.toNat_lt r.Target[i]
   have := h.t
   simp only [I_IsRequest_b0, idx_nat hi, Option.bind_some, wrap_succ (by omega : i < 9223372036854775807), bif_dec, lt_cast, hi, if_true, bP_at hi, badT]
   rw [wrap_id (by omega) (by omega), I_inRange_eq, Option.bind_some]
   cases inR (r.Target[i].toNat : Int) 33 126 <;> rfl) (fun n i hi => by
   simp only [I_IsRequest_b0, bif_dec, lt_cast]
   rw [if_neg (by omega)]) (k := k) (by have := h.t; omega)
  rw [this, findI_first]
  unfold noB
  cases firstI (bP badT r.Target) r.Target.length 0 <;> rfl
 have hh1 : I_hasField k r.Fields ([104, 111, 115, 116] : List UInt8) = some (hasF r.Fields hostT) := I_hasField_eq hk _ _ hl
 have hh2 : I_hasField k r.Fields ([99, 111, 110, 116, 101, 110, 116, 45, 108, 101, 110, 103, 116, 104] : List UInt8) = some (hasF r.Fields clen) := I_hasField_eq hk _ _ hl
 rw [I_IsRequest, I_IsToken_eq hk _ h.m, Option.bind_some]
 unfold isReq
 cases hm : isTok r.Method with
 | false => simp
 | true =>
  rw [Bool.not_true, cond_false, toUpper_ok hm h.m, Option.bind_some, upp_all, I_isHost_eq hk _ h.h, Option.bind_some]
  cases noB isLow r.Method with
  | false => rfl
  | true =>
   cases noB badH r.Host with
   | false => rfl
   | true =>
    cases inR (r.Host.length : Int) 1 40 with
    | false => simp
    | true =>
     rw [I_inRange_eq, Option.bind_some]
     cases ht : inR (r.Target.length : Int) 1 100 with
     | false => simp
     | true =>
      obtain ⟨c, hc, hd⟩ := idx0 ht
      have e47 : ((UInt8.toNat c : Int) != (47 : Int)) = (c != 47) := u8_ne c 47
      have e47' : (some c == some (47 : UInt8)) = (c == 47) := by cases h : (c == 47) <;> simp_all
      rw [hc, hd, Option.bind_some, e47, e47', hb0, I_AreFields_eq hk _ hl h.s, hh1, hh2]
      unfold bne
      cases (c == 47) <;> cases noB badT r.Target <;> cases areF r.Fields <;> cases decide ((r.Fields.length : Int) < 24) <;> cases hasF r.Fields hostT <;> cases hasF r.Fields clen <;> rfl
def tgtP (x : List IResource) (s : List UInt8) (i : Nat) : Bool := match x[i]? with | some e => e.Target == s | none => false
def findR (x : List IResource) (s : List UInt8) : Int := match firstI (tgtP x s) x.length 0 with | some j => (j : Int) | none => -1
theorem S_FindResource_eq {k : Nat} (hk : 1073741824 ≤ k) (o : IOrigin) (s : List UInt8) (h : o.Resources.length < 1073741824) : S_FindResource k o s = some (findR o.Resources s) := by
 have := find_all (len := o.Resources.length) (c := fun i => bif tgtP o.Resources s i then some (i : Int) else none) (F := fun n i => S_FindResource_b0 k n s i o.Host o.Resources) (fun n i hi => by
  simp only [S_FindResource_b0, idx_nat hi, Option.bind_some, wrap_succ (by omega : i < 9223372036854775807), bif_dec, lt_cast, hi, if_true, tgtP, List.getElem?_eq_getElem hi]
  cases (o.Resources[i].Target == s) <;> rfl) (fun n i hi => by
  simp only [S_FindResource_b0, bif_dec, lt_cast]
  rw [if_neg (by omega)]) (k := k) (by omega)
 rw [S_FindResource, this, findI_first]
 unfold findR
 cases firstI (tgtP o.Resources s) o.Resources.length 0 <;> rfl
theorem I_FindResource_eq {k : Nat} (hk : 1073741824 ≤ k) (o : IOrigin) (s : List UInt8) (h : o.Resources.length < 1073741824) : I_FindResource k o s = some (findR o.Resources s) := by
 have := find_all (len := o.Resources.length) (c := fun i => bif tgtP o.Resources s i then some (i : Int) else none) (F := fun n i => slices_IndexFunc_IResource_at_I_FindResource_1_b0 k n o.Resources s (o.Resources.length : Int) i) (fun n i hi => by
  simp only [slices_IndexFunc_IResource_at_I_FindResource_1_b0, I_FindResource_1, idx_nat hi, Option.bind_some, wrap_succ (by omega : i < 9223372036854775807), bif_dec, lt_cast, hi, if_true, tgtP, List.getElem?_eq_getElem hi]
  cases (o.Resources[i].Target == s) <;> rfl) (fun n i hi => by
  simp only [slices_IndexFunc_IResource_at_I_FindResource_1_b0, bif_dec, lt_cast]
  rw [if_neg (by omega)]) (k := k) (by omega)
 rw [I_FindResource, slices_IndexFunc_IResource_at_I_FindResource_1, this, findI_first]
 unfold findR
 cases firstI (tgtP o.Resources s) o.Resources.length 0 <;> rfl
def allB (p : Nat → Bool) (m i : Nat) : Bool := (findI (fun j => bif p j then none else some false) m i).isNone
theorem allB_succ (p : Nat → Bool) (m i : Nat) : allB p (m + 1) i = (p i && allB p m (i + 1)) := by
 unfold allB
 rw [findI]
 cases p i <;> rfl
theorem allB_congr {p q : Nat → Bool} : ∀ (m i : Nat), (∀ j, i ≤ j → j < i + m → p j = q j) → allB p m i = allB q m i
 | 0, _, _ => rfl
 | m + 1, i, h => by
  rw [allB_succ, allB_succ, h i (by omega) (by omega), allB_congr m (i + 1) fun j h1 h2 => h j (by omega) (by omega)]
theorem allB_find {p : Nat → Bool} : ∀ (m i : Nat), ocOf (findI (fun j => bif p j then none else some false) m i) = bif allB p m i then .nrm () else .oth false
 | 0, _ => rfl
 | m + 1, i => by
  rw [allB_succ, findI]
  cases p i with
  | false => rfl
  | true => exact allB_find m (i + 1)
theorem all_loop {len : Nat} {p : Nat → Bool} {F : Nat → Int → Option (Oc Unit Bool)}
    (T : ∀ n i, i < len → F (n + 1) (i : Int) = bif p i then F n ((i + 1 : Nat) : Int) else some (.oth false))
    (E : ∀ n i, len ≤ i → F (n + 1) (i : Int) = some (.nrm ())) {k : Nat} (hk : len < k) : F k 0 = some (bif allB p len 0 then .nrm () else .oth false) := by
 have := find_all (R := Bool) (len := len) (c := fun j => bif p j then none else some false) (F := F) (fun n i h => by
  rw [T n i h]
  cases p i <;> rfl) E hk
 rw [this, allB_find]
def tokP (l : List (List UInt8)) (i : Nat) : Bool := match l[i]? with | some e => isTok e | none => true
def keysT (s : List UInt8) : Bool := bif s == [] then true else allB (tokP (cutP 32 s [])) (cutP 32 s []).length 0 && decide (((cutP 32 s []).length : Int) ≤ 4)
theorem S_l15Keys_eq {k : Nat} (hk : 1073741824 ≤ k) (s : List UInt8) (h : s.length < 1073741000) : S_l15Keys k s = some (keysT s) := by
 have hl := cutP_len 32 s []
 have hsp : S_l12Split k s 32 = some (cutP 32 s []) := S_l12Split_eq hk s 32 h
 have hb := all_loop (len := (cutP 32 s []).length) (p := tokP (cutP 32 s [])) (F := fun n i => S_l15Keys_b0 k n i (cutP 32 s [])) (fun n i hi => by
  have hm := cutP_mem 32 s [] _ (List.getElem_mem hi)
  simp only [List.length_nil] at hm
  rw [S_l15Keys_b0, bif_dec, if_pos (by omega), idx_nat hi, Option.bind_some, Option.bind_some, S_IsToken_eq hk _ (by omega), Option.bind_some, wrap_succ (by omega)]
  unfold tokP
  rw [List.getElem?_eq_getElem hi]
  cases h : isTok (cutP 32 s [])[i] <;> simp [h]) (fun n i hi => by
  rw [S_l15Keys_b0, bif_dec, if_neg (by omega)]) (k := k) (by omega)
 have hb' : S_l15Keys_b0 k k 0 (cutP 32 s []) = _ := hb
 rw [S_l15Keys, hsp, Option.bind_some, hb', Option.bind_some]
 unfold keysT
 cases (s == []) with
 | true => rfl
 | false => cases allB (tokP (cutP 32 s [])) (cutP 32 s []).length 0 <;> rfl
theorem keys_idx {k : Nat} (hk : 1073741824 ≤ k) {l : List (List UInt8)} (hl : l.length < 1073741824) (hm : ∀ e ∈ l, e.length < 1073741824) : slices_ContainsFunc_string_at_I_areKeys_1 k l = some (!allB (tokP l) l.length 0) := by
 have main : ∀ (n i : Nat), i ≤ l.length → l.length - i < n → ∃ o, slices_IndexFunc_string_at_I_areKeys_1_b0 k n l (l.length : Int) (i : Int) = some o ∧ ((o = .nrm () ∧ allB (tokP l) (l.length - i) i = true) ∨ ∃ j : Nat, o = .oth (j : Int) ∧ allB (tokP l) (l.length - i) i = false) := by
  intro n
  induction n with
  | zero => intro i _ h; omega
  | succ n ih =>
   intro i hi hn
   rw [slices_IndexFunc_string_at_I_areKeys_1_b0, bif_dec]
   by_cases c : i < l.length
   ·have ht : tokP l i = isTok l[i] := by unfold tokP; rw [List.getElem?_eq_getElem c]
    rw [if_pos (by omega), idx_nat c, Option.bind_some, I_areKeys_1, I_IsToken_eq hk _ (hm _ (List.getElem_mem c)), Option.bind_some, Option.bind_some, wrap_succ (by omega), show l.length - i = (l.length - (i + 1)) + 1 by omega, allB_succ, ht]
    cases isTok l[i] with
    | false => exact ⟨_, rfl, .inr ⟨i, rfl, rfl⟩⟩
    | true => exact ih (i + 1) (by omega) (by omega)
   ·rw [if_neg (by omega), show l.length - i = 0 by omega]
    exact ⟨_, rfl, .inl ⟨rfl, rfl⟩⟩
 obtain ⟨o, h1, h2⟩ := main k 0 (by omega) (by omega)
 have h1' : slices_IndexFunc_string_at_I_areKeys_1_b0 k k l (l.length : Int) 0 = some o := h1
 rw [slices_ContainsFunc_string_at_I_areKeys_1, slices_IndexFunc_string_at_I_areKeys_1, h1', Option.bind_some]
 rw [Nat.sub_zero] at h2
 rcases h2 with ⟨rfl, h2⟩ | ⟨j, rfl, h2⟩
 ·rw [h2]; rfl
 ·rw [h2]
  simp only [oc, Option.bind_some]
  rw [decide_eq_true (by omega)]; rfl
theorem I_areKeys_eq {k : Nat} (hk : 1073741824 ≤ k) (s : List UInt8) (h : s.length < 1073741000) : I_areKeys k s = some (keysT s) := by
 have hl := cutP_len 32 s []
 rw [I_areKeys, strings_Split_eq s 32 (by omega), Option.bind_some, keys_idx hk (by omega) (fun e he => by have := cutP_mem 32 s [] _ he; simp only [List.length_nil] at this; omega), Option.bind_some, Bool.not_not]
 unfold keysT
 cases (s == []) with
 | true => rfl
 | false => cases decide (((cutP 32 s []).length : Int) ≤ 4) <;> cases allB (tokP (cutP 32 s [])) (cutP 32 s []).length 0 <;> rfl
def eqAt (l : List (List UInt8)) (e : List UInt8) (j : Nat) : Bool := match l[j]? with | some x => !(x == e) | none => true
def langP (l : List (List UInt8)) (i : Nat) : Bool := match l[i]? with
 | some e => allB (eqAt l e) i 0 && (nameOK e && (decide ((e.length : Int) ≤ 8) && !(e == [42])))
 | none => true
def verP (l : List IVersion) (i : Nat) : Bool := match l[i]? with
 | some e => inR e.At 0 4102444799 && (decide ((e.Text.length : Int) ≤ 400) && (bif decide (0 < i) then (match l[i - 1]? with | some f => decide (f.At < e.At) | none => true) else true))
 | none => true
def resT (r : IResource) : Bool :=
 allB (langP r.Langs) r.Langs.length 0 && (allB (verP r.Versions) r.Versions.length 0 && (((normT r.Target).2 && ((normT r.Target).1 == r.Target)) && (decide ((r.Target.length : Int) ≤ 100) && (valOK r.Control && (decide ((r.Control.length : Int) ≤ 150) && (keysT r.Keys && (decide ((r.Langs.length : Int) ≤ 4) && inR (r.Versions.length : Int) 1 8)))))))
structure ResIn (r : IResource) : Prop where
 ht : r.Target.length < 134217728
 hc : r.Control.length < 134217728
 hk : r.Keys.length < 134217728
 hl : r.Langs.length < 134217728
 hle : ∀ e ∈ r.Langs, e.length < 134217728
 hv : r.Versions.length < 134217728
theorem dec_gt (a b : Int) : decide (a > b) = !decide (a ≤ b) := by
 by_cases h : a ≤ b
 ·rw [decide_eq_true h, decide_eq_false (by omega)]; rfl
 ·rw [decide_eq_false h, decide_eq_true (by omega)]; rfl
theorem dec_ge (a b : Int) : decide (a ≥ b) = !decide (a < b) := by
 by_cases h : a < b
 ·rw [decide_eq_true h, decide_eq_false (by omega)]; rfl
 ·rw [decide_eq_false h, decide_eq_true (by omega)]; rfl
theorem S_lang_in {k : Nat} {y0 y1 y2 : List UInt8} {y3 : Bool} {l : List (List UInt8)} {y5 : List IVersion} (hk : 1073741824 ≤ k) (hl : l.length < 134217728) {i : Nat} (hi : i < l.length) :
    S_l15Resource_b2 k k (i : Int) 0 y0 y1 y2 y3 l y5 = some (bif allB (eqAt l l[i]) i 0 then .nrm () else .oth false) :=
 all_loop (len := i) (p := eqAt l l[i]) (F := fun n j => S_l15Resource_b2 k n (i : Int) j y0 y1 y2 y3 l y5) (fun n j hj => by
  have hj2 : j < l.length := by omega
  rw [S_l15Resource_b2, bif_dec, if_pos (by omega), idx_nat hj2, Option.bind_some, idx_nat hi, Option.bind_some, wrap_succ (by omega)]
  unfold eqAt
  rw [List.getElem?_eq_getElem hj2]
  simp only
  cases (l[j] == l[i]) <;> rfl) (fun n j hj => by
  rw [S_l15Resource_b2, bif_dec, if_neg (by omega)]) (by omega)
theorem S_langs {k : Nat} {y0 y1 y2 : List UInt8} {y3 : Bool} {l : List (List UInt8)} {y5 : List IVersion} (hk : 1073741824 ≤ k) (hl : l.length < 134217728) (hle : ∀ e ∈ l, e.length < 134217728) :
    S_l15Resource_b0 k k 0 y0 y1 y2 y3 l y5 = some (bif allB (langP l) l.length 0 then .nrm () else .oth false) :=
 all_loop (len := l.length) (p := langP l) (F := fun n j => S_l15Resource_b0 k n j y0 y1 y2 y3 l y5) (fun n i hi => by
  have hh := hle _ (List.getElem_mem hi)
  rw [S_l15Resource_b0, bif_dec, if_pos (by omega), S_lang_in hk hl hi, Option.bind_some]
  unfold langP
  rw [List.getElem?_eq_getElem hi]
  simp only
  cases allB (eqAt l l[i]) i 0 with
  | false => rfl
  | true =>
   rw [cond_true]
   simp only [oc]
   rw [idx_nat hi, Option.bind_some, S_l5Name_eq hk _ (by omega), Option.bind_some, Option.bind_some, Option.bind_some, dec_gt, wrap_succ (by omega), Bool.true_and]
   cases nameOK l[i] <;> cases decide ((l[i].length : Int) ≤ 8) <;> cases (l[i] == [42]) <;> rfl) (fun n j hj => by
  rw [S_l15Resource_b0, bif_dec, if_neg (by omega)]) (by omega)
theorem S_vers {k : Nat} {y0 y1 y2 : List UInt8} {y3 : Bool} {y4 : List (List UInt8)} {l : List IVersion} (hk : 1073741824 ≤ k) (hl : l.length < 134217728) :
    S_l15Resource_b4 k k 0 y0 y1 y2 y3 y4 l = some (bif allB (verP l) l.length 0 then .nrm () else .oth false) :=
 all_loop (len := l.length) (p := verP l) (F := fun n j => S_l15Resource_b4 k n j y0 y1 y2 y3 y4 l) (fun n i hi => by
  rw [S_l15Resource_b4, bif_dec, if_pos (by omega), idx_nat hi, Option.bind_some, S_l1In_eq, Option.bind_some, dec_gt (l[i].Text.length : Int) 400, wrap_succ (by omega)]
  unfold verP
  rw [List.getElem?_eq_getElem hi]
  simp only
  by_cases c : 0 < i
  ·have e1 : IntKind.wrap .i64 ((i : Int) - 1) = ((i - 1 : Nat) : Int) := by rw [wrap_id (by omega) (by omega)]; omega
   have h1 : i - 1 < l.length := by omega
   rw [decide_eq_true (by omega : (i : Int) > 0), cond_true, e1, idx_nat h1, Option.bind_some, dec_ge l[i - 1].At l[i].At, decide_eq_true c, cond_true, List.getElem?_eq_getElem h1]
   simp only
   cases inR l[i].At 0 4102444799 <;> cases decide ((l[i].Text.length : Int) ≤ 400) <;> cases decide (l[i - 1].At < l[i].At) <;> rfl
  ·rw [decide_eq_false (by omega : ¬ (i : Int) > 0), cond_false, decide_eq_false c, cond_false]
   cases inR l[i].At 0 4102444799 <;> cases decide ((l[i].Text.length : Int) ≤ 400) <;> rfl) (fun n j hj => by
  rw [S_l15Resource_b4, bif_dec, if_neg (by omega)]) (by omega)
theorem S_l15Resource_eq {k : Nat} (hk : 1073741824 ≤ k) (r : IResource) (h : ResIn r) : S_l15Resource k r = some (resT r) := by
 have ht := h.ht
 have hc := h.hc
 have hkk := h.hk
 rw [S_l15Resource, S_langs hk h.hl h.hle, Option.bind_some, S_vers hk h.hv, Option.bind_some]
 unfold resT
 cases allB (langP r.Langs) r.Langs.length 0 with
 | false => rfl
 | true =>
  cases allB (verP r.Versions) r.Versions.length 0 with
  | false => rfl
  | true =>
   simp only [cond_true, oc]
   rw [S_IsNormalTarget_eq hk _ ht, Option.bind_some, S_l5Value_eq hk _ (by omega), Option.bind_some, S_l15Keys_eq hk _ (by omega), Option.bind_some, S_l1In_eq, Option.bind_some]
   generalize ((normT r.Target).2 && ((normT r.Target).1 == r.Target)) = b1
   cases b1 <;> cases decide ((r.Target.length : Int) ≤ 100) <;> cases valOK r.Control <;> cases decide ((r.Control.length : Int) ≤ 150) <;> cases keysT r.Keys <;> cases decide ((r.Langs.length : Int) ≤ 4) <;> rfl
theorem slices_Contains_eq {k : Nat} (hk : 1073741824 ≤ k) {x : List (List UInt8)} {e : List UInt8} (hl : x.length < 1073741824) : slices_Contains_string k x e = some (!allB (eqAt x e) x.length 0) := by
 have main : ∀ (n i : Nat), i ≤ x.length → x.length - i < n → ∃ o, slices_Index_string_b0 k n x e (x.length : Int) (i : Int) = some o ∧ ((o = .nrm () ∧ allB (eqAt x e) (x.length - i) i = true) ∨ ∃ j : Nat, o = .oth (j : Int) ∧ allB (eqAt x e) (x.length - i) i = false) := by
  intro n
  induction n with
  | zero => intro i _ h; omega
  | succ n ih =>
   intro i hi hn
   rw [slices_Index_string_b0, bif_dec]
   by_cases c : i < x.length
   ·have ht : eqAt x e i = !(e == x[i]) := by unfold eqAt; rw [List.getElem?_eq_getElem c]; simp only; rw [BEq.comm]
    rw [if_pos (by omega), idx_nat c, Option.bind_some, wrap_succ (by omega), show x.length - i = (x.length - (i + 1)) + 1 by omega, allB_succ, ht]
    cases (e == x[i]) with
    | true => exact ⟨_, rfl, .inr ⟨i, rfl, rfl⟩⟩
    | false => exact ih (i + 1) (by omega) (by omega)
   ·rw [if_neg (by omega), show x.length - i = 0 by omega]
    exact ⟨_, rfl, .inl ⟨rfl, rfl⟩⟩
 obtain ⟨o, h1, h2⟩ := main k 0 (by omega) (by omega)
 have h1' : slices_Index_string_b0 k k x e (x.length : Int) 0 = some o := h1
 rw [slices_Contains_string, slices_Index_string, h1', Option.bind_some]
 rw [Nat.sub_zero] at h2
 rcases h2 with ⟨rfl, h2⟩ | ⟨j, rfl, h2⟩
 ·rw [h2]; rfl
 ·rw [h2]
  simp only [oc, Option.bind_some]
  rw [decide_eq_true (by omega)]; rfl
theorem I_langs {k : Nat} {y0 y1 y2 : List UInt8} {y3 : Bool} {l : List (List UInt8)} {y5 : List IVersion} (hk : 1073741824 ≤ k) (hl : l.length < 134217728) (hle : ∀ e ∈ l, e.length < 134217728) :
    I_isResource_b0 k k l (l.length : Int) 0 y0 y1 y2 y3 l y5 = some (bif allB (langP l) l.length 0 then .nrm () else .oth false) :=
 all_loop (len := l.length) (p := langP l) (F := fun n j => I_isResource_b0 k n l (l.length : Int) j y0 y1 y2 y3 l y5) (fun n i hi => by
  have hh := hle _ (List.getElem_mem hi)
  have h0 : ssub l (0 : Int) (i : Int) = some (l.take i) := by rw [ssub_ok (by omega) (by omega) (by omega)]; rfl
  have hc : allB (eqAt (l.take i) l[i]) (l.take i).length 0 = allB (eqAt l l[i]) i 0 := by
   rw [List.length_take, Nat.min_eq_left (by omega)]
   refine allB_congr i 0 fun j _ hj => ?_
   unfold eqAt
   rw [List.getElem?_take_of_lt (by omega)]
  rw [I_isResource_b0, bif_dec, if_pos (by omega), idx_nat hi, Option.bind_some, I_IsToken_eq hk _ (by omega), Option.bind_some, I_LowerText_eq hk _ (by omega), Option.bind_some, dec_gt, h0, Option.bind_some, slices_Contains_eq hk (by simp; omega), Option.bind_some, hc, wrap_succ (by omega)]
  unfold langP nameOK
  rw [List.getElem?_eq_getElem hi]
  simp only
  cases allB (eqAt l l[i]) i 0 <;> cases isTok l[i] <;> cases (lowT l[i] == l[i]) <;> cases decide ((l[i].length : Int) ≤ 8) <;> cases (l[i] == [42]) <;> rfl) (fun n j hj => by
  rw [I_isResource_b0, bif_dec, if_neg (by omega)]) (by omega)
theorem I_vers {k : Nat} {y0 y1 y2 : List UInt8} {y3 : Bool} {y4 : List (List UInt8)} {l : List IVersion} (hk : 1073741824 ≤ k) (hl : l.length < 134217728) :
    I_isResource_b2 k k l (l.length : Int) 0 y0 y1 y2 y3 y4 l = some (bif allB (verP l) l.length 0 then .nrm () else .oth false) :=
 all_loop (len := l.length) (p := verP l) (F := fun n j => I_isResource_b2 k n l (l.length : Int) j y0 y1 y2 y3 y4 l) (fun n i hi => by
  rw [I_isResource_b2, bif_dec, if_pos (by omega), idx_nat hi, Option.bind_some, I_inRange_eq, Option.bind_some, dec_gt (l[i].Text.length : Int) 400, wrap_succ (by omega)]
  unfold verP
  rw [List.getElem?_eq_getElem hi]
  simp only
  by_cases c : 0 < i
  ·have e1 : IntKind.wrap .i64 ((i : Int) - 1) = ((i - 1 : Nat) : Int) := by rw [wrap_id (by omega) (by omega)]; omega
   have h1 : i - 1 < l.length := by omega
   rw [decide_eq_true (by omega : (i : Int) > 0), cond_true, e1, idx_nat h1, Option.bind_some, dec_ge l[i - 1].At l[i].At, decide_eq_true c, cond_true, List.getElem?_eq_getElem h1]
   simp only
   cases inR l[i].At 0 4102444799 <;> cases decide ((l[i].Text.length : Int) ≤ 400) <;> cases decide (l[i - 1].At < l[i].At) <;> rfl
  ·rw [decide_eq_false (by omega : ¬ (i : Int) > 0), cond_false, decide_eq_false c, cond_false]
   cases inR l[i].At 0 4102444799 <;> cases decide ((l[i].Text.length : Int) ≤ 400) <;> rfl) (fun n j hj => by
  rw [I_isResource_b2, bif_dec, if_neg (by omega)]) (by omega)
theorem I_isResource_eq {k : Nat} (hk : 1073741824 ≤ k) (r : IResource) (h : ResIn r) : I_isResource k r = some (resT r) := by
 have ht := h.ht
 have hc := h.hc
 have hkk := h.hk
 rw [I_isResource, I_IsNormalTarget_eq hk _ ht, Option.bind_some, dec_gt, I_isFieldValue_eq hk _ (by omega), Option.bind_some, dec_gt, I_areKeys_eq hk _ (by omega), Option.bind_some, dec_gt, I_inRange_eq, Option.bind_some, I_langs hk h.hl h.hle, Option.bind_some, I_vers hk h.hv, Option.bind_some]
 unfold resT
 generalize ((normT r.Target).2 && ((normT r.Target).1 == r.Target)) = b1
 cases allB (langP r.Langs) r.Langs.length 0 <;> cases allB (verP r.Versions) r.Versions.length 0 <;> cases b1 <;> cases decide ((r.Target.length : Int) ≤ 100) <;> cases valOK r.Control <;> cases decide ((r.Control.length : Int) ≤ 150) <;> cases keysT r.Keys <;> cases decide ((r.Langs.length : Int) ≤ 4) <;> cases inR (r.Versions.length : Int) 1 8 <;> rfl
def orgP (l : List IResource) (i : Nat) : Bool := match l[i]? with | some e => resT e && (findR l e.Target == (i : Int)) | none => true
def askO (h : List UInt8) : IRequest := ⟨[71, 69, 84], h, [47], []⟩
def orgT (o : IOrigin) : Bool := allB (orgP o.Resources) o.Resources.length 0 && (decide ((o.Resources.length : Int) ≤ 12) && isReq (askO o.Host))
structure OrgIn (o : IOrigin) : Prop where
 hh : o.Host.length < 134217728
 hr : o.Resources.length < 134217728
 hre : ∀ e ∈ o.Resources, ResIn e
theorem askO_in {h : List UInt8} (hh : h.length < 134217728) : ReqIn (askO h) := ⟨by simp [askO], by simp only [askO]; omega, by simp [askO], by simp [askO, fsz], fun e he => by simp [askO] at he⟩
theorem S_IsOrigin_eq {k : Nat} (hk : 1073741824 ≤ k) (o : IOrigin) (h : OrgIn o) : S_IsOrigin k o = some (orgT o) := by
 have hr := h.hr
 have hb := all_loop (len := o.Resources.length) (p := orgP o.Resources) (F := fun n j => S_IsOrigin_b0 k n j o.Host o.Resources) (fun n i hi => by
  have hq := S_FindResource_eq hk (⟨o.Host, o.Resources⟩ : IOrigin) (o.Resources[i]).Target (by simp only; omega)
  rw [S_IsOrigin_b0, bif_dec, if_pos (by omega), idx_nat hi, Option.bind_some, S_l15Resource_eq hk _ (h.hre _ (List.getElem_mem hi)), Option.bind_some, Option.bind_some, hq, Option.bind_some, wrap_succ (by omega), bne]
  unfold orgP
  rw [List.getElem?_eq_getElem hi]
  simp only
  cases resT o.Resources[i] <;> cases (findR o.Resources (o.Resources[i]).Target == (i : Int)) <;> rfl) (fun n j hj => by
  rw [S_IsOrigin_b0, bif_dec, if_neg (by omega)]) (k := k) (by omega)
 have hb' : S_IsOrigin_b0 k k 0 o.Host o.Resources = _ := hb
 have ha : S_IsRequest k ⟨[71, 69, 84], o.Host, [47], []⟩ = some (isReq (askO o.Host)) := S_IsRequest_eq hk _ (askO_in h.hh)
 rw [S_IsOrigin, hb', Option.bind_some, ha, Option.bind_some]
 unfold orgT
 cases allB (orgP o.Resources) o.Resources.length 0 with
 | false => rfl
 | true => cases decide ((o.Resources.length : Int) ≤ 12) <;> rfl
theorem I_IsOrigin_eq {k : Nat} (hk : 1073741824 ≤ k) (o : IOrigin) (h : OrgIn o) : I_IsOrigin k o = some (orgT o) := by
 have hr := h.hr
 have hb := all_loop (len := o.Resources.length) (p := orgP o.Resources) (F := fun n j => I_IsOrigin_b0 k n o.Resources (o.Resources.length : Int) j o.Host o.Resources) (fun n i hi => by
  have hq := I_FindResource_eq hk (⟨o.Host, o.Resources⟩ : IOrigin) (o.Resources[i]).Target (by simp only; omega)
  rw [I_IsOrigin_b0, bif_dec, if_pos (by omega), idx_nat hi, Option.bind_some, hq, Option.bind_some, I_isResource_eq hk _ (h.hre _ (List.getElem_mem hi)), Option.bind_some, wrap_succ (by omega), bne]
  unfold orgP
  rw [List.getElem?_eq_getElem hi]
  simp only
  cases resT o.Resources[i] <;> cases (findR o.Resources (o.Resources[i]).Target == (i : Int)) <;> rfl) (fun n j hj => by
  rw [I_IsOrigin_b0, bif_dec, if_neg (by omega)]) (k := k) (by omega)
 have hb' : I_IsOrigin_b0 k k o.Resources (o.Resources.length : Int) 0 o.Host o.Resources = _ := hb
 have ha : I_IsRequest k ⟨[71, 69, 84], o.Host, [47], []⟩ = some (isReq (askO o.Host)) := I_IsRequest_eq hk _ (askO_in h.hh)
 rw [I_IsOrigin, ha, Option.bind_some, hb', Option.bind_some, dec_gt]
 unfold orgT
 cases allB (orgP o.Resources) o.Resources.length 0 <;> cases decide ((o.Resources.length : Int) ≤ 12) <;> cases isReq (askO o.Host) <;> rfl
theorem orgIn_of {a : LOrigin} (h : sz_LOrigin a ≤ 1048576) : OrgIn (to_LOrigin a) ∧ ∀ e ∈ (to_LOrigin a).Resources, e.Langs.length < 1073741824 ∧ e.Versions.length < 1073741824 := by
 have hr0 : a.Resources.length ≤ szL sz_LResource a.Resources := by unfold szL; omega
 unfold sz_LOrigin at h
 have key : ∀ e ∈ (to_LOrigin a).Resources, ResIn e := by
  intro e he
  simp only [to_LOrigin, List.mem_map] at he
  obtain ⟨r, hr, rfl⟩ := he
  have h5 := sz_mem (g := sz_LResource) hr
  have h6 : sz_LResource r ≤ 1048576 := by omega
  unfold sz_LResource at h6
  have h7 : r.Langs.length ≤ szL List.length r.Langs := by unfold szL; omega
  have h8 : r.Versions.length ≤ szL sz_LVersion r.Versions := by unfold szL; omega
  refine ⟨?_, ?_, ?_, ?_, ?_, ?_⟩ <;> simp only [to_LResource, List.length_map] <;> try omega
  intro l hl
  have := sz_mem (g := List.length) hl
  omega
 refine ⟨⟨by simp only [to_LOrigin]; omega, by simp only [to_LOrigin, List.length_map]; omega, key⟩, fun e he => ?_⟩
 have k1 := (key e he).hl
 have k2 := (key e he).hv
 omega
theorem S_l15Copy_eq {k : Nat} (hk : 1073741824 ≤ k) (o : IOrigin) (h : o.Resources.length < 1073741824) (hb : ∀ e ∈ o.Resources, e.Langs.length < 1073741824 ∧ e.Versions.length < 1073741824) : S_l15Copy k o = some o := by
 have := fold_all (len := o.Resources.length) (g := fun j s => s ++ (o.Resources[j]?).elim [] fun e => [e]) (Inv := fun i s => s.length ≤ i) (F := fun m i s => S_l15Copy_b0 k m i o.Host o.Resources ([] : List UInt8) o.Host s) (out := id) (fun m i s hi hI => by
  have hI : s.length ≤ i := hI
  obtain ⟨b1, b2⟩ := hb _ (List.getElem_mem hi)
  rw [S_l15Copy_b0, bif_dec, if_pos (by omega), idx_nat hi, Option.bind_some, appn_ok (by simp; omega), Option.bind_some, appn_ok (by simp; omega), Option.bind_some, appn_ok (by simp; omega), Option.bind_some, wrap_succ (by omega), List.getElem?_eq_getElem hi, Option.elim_some]
  exact ⟨rfl, by simp only [List.length_append, List.length_cons, List.length_nil]; omega⟩) (fun m i s hi => by
  rw [S_l15Copy_b0, bif_dec, if_neg (by omega)]; rfl) (k := k) (by omega) (s := []) (by simp)
 have h1 : S_l15Copy_b0 k k 0 o.Host o.Resources ([] : List UInt8) o.Host [] = some (foldI (fun j s => s ++ (o.Resources[j]?).elim [] fun e => [e]) o.Resources.length 0 []) := this.1
 rw [S_l15Copy, h1, foldI_append (f := fun e => [e]) o.Resources.length 0 [] (by omega), List.drop_zero, List.nil_append, Option.bind_some]
 simp
theorem I_copyOrigin_eq {k : Nat} (hk : 1073741824 ≤ k) (o : IOrigin) (h : o.Resources.length < 1073741824) (hb : ∀ e ∈ o.Resources, e.Langs.length < 1073741824 ∧ e.Versions.length < 1073741824) : I_copyOrigin k o = some o := by
 have := fold_all (len := o.Resources.length) (g := fun j s => s ++ (o.Resources[j]?).elim [] fun e => [e]) (Inv := fun i s => s.length ≤ i) (F := fun m i s => I_copyOrigin_b0 k m o.Resources (o.Resources.length : Int) i ([] : List UInt8) o.Host s) (out := id) (fun m i s hi hI => by
  have hI : s.length ≤ i := hI
  obtain ⟨b1, b2⟩ := hb _ (List.getElem_mem hi)
  have c1 : slices_Clone_string k o.Resources[i].Langs = some o.Resources[i].Langs := by rw [slices_Clone_string, appn_ok (by simp; omega)]; rfl
  have c2 : slices_Clone_IVersion k o.Resources[i].Versions = some o.Resources[i].Versions := by rw [slices_Clone_IVersion, appn_ok (by simp; omega)]; rfl
  rw [I_copyOrigin_b0, bif_dec, if_pos (by omega), idx_nat hi, Option.bind_some, c1, Option.bind_some, c2, Option.bind_some, appn_ok (by simp; omega), Option.bind_some, wrap_succ (by omega), List.getElem?_eq_getElem hi, Option.elim_some]
  exact ⟨rfl, by simp only [List.length_append, List.length_cons, List.length_nil]; omega⟩) (fun m i s hi => by
  rw [I_copyOrigin_b0, bif_dec, if_neg (by omega)]; rfl) (k := k) (by omega) (s := []) (by simp)
 have h1 : I_copyOrigin_b0 k k o.Resources (o.Resources.length : Int) 0 ([] : List UInt8) o.Host [] = some (foldI (fun j s => s ++ (o.Resources[j]?).elim [] fun e => [e]) o.Resources.length 0 []) := this.1
 rw [I_copyOrigin, h1, foldI_append (f := fun e => [e]) o.Resources.length 0 [] (by omega), List.drop_zero, List.nil_append, Option.bind_some]
 simp
theorem allB_iff {p : Nat → Bool} : ∀ (m i : Nat), allB p m i = true ↔ ∀ j, i ≤ j → j < i + m → p j = true
 | 0, i => ⟨fun _ j h1 h2 => by omega, fun _ => rfl⟩
 | m + 1, i => by
  rw [allB_succ, Bool.and_eq_true, allB_iff m (i + 1)]
  constructor
  ·rintro ⟨h1, h2⟩ j h3 h4
   by_cases e : j = i
   ·exact e ▸ h1
   ·exact h2 j (by omega) (by omega)
  ·exact fun h => ⟨h i (by omega) (by omega), fun j h1 h2 => h j (by omega) (by omega)⟩
def addVer (e : IResource) (v : IVersion) : IResource := ⟨e.Target, e.Control, e.Keys, e.Private, e.Langs, e.Versions ++ [v]⟩
def pubO (o : IOrigin) (i : Nat) (e : IResource) : IOrigin := ⟨o.Host, o.Resources.set i e⟩
theorem findR_set {l : List IResource} {i : Nat} (h : i < l.length) (v : IVersion) (s : List UInt8) : findR (l.set i (addVer l[i] v)) s = findR l s := by
 have : firstI (tgtP (l.set i (addVer l[i] v)) s) l.length 0 = firstI (tgtP l s) l.length 0 := firstI_congr _ _ fun j _ hj => by
  unfold tgtP
  rw [List.getElem?_set]
  by_cases e : i = j
  ·subst e
   rw [if_pos rfl, if_pos h, List.getElem?_eq_getElem h]; rfl
  ·rw [if_neg e]
 unfold findR
 rw [List.length_set, this]
theorem orgT_pub {o : IOrigin} {i : Nat} (h : i < o.Resources.length) (v : IVersion) (ho : orgT o = true) : orgT (pubO o i (addVer o.Resources[i] v)) = resT (addVer o.Resources[i] v) := by
 unfold orgT at ho ⊢
 simp only [Bool.and_eq_true] at ho
 obtain ⟨h1, h2, h3⟩ := ho
 have hp := (allB_iff _ _).1 h1
 unfold pubO
 simp only [List.length_set, h2, h3, Bool.and_true]
 have hj : ∀ j, j < o.Resources.length → orgP (o.Resources.set i (addVer o.Resources[i] v)) j = if j = i then resT (addVer o.Resources[i] v) else true := by
  intro j hj
  have hpj := hp j (by omega) (by omega)
  unfold orgP at hpj ⊢
  rw [List.getElem?_eq_getElem hj] at hpj
  simp only [Bool.and_eq_true] at hpj
  rw [List.getElem?_set]
  by_cases e : j = i
  ·subst e
   rw [if_pos rfl, if_pos h, if_pos rfl]
   simp only
   rw [findR_set h v]
   have : (findR o.Resources (addVer o.Resources[j] v).Target == (j : Int)) = true := hpj.2
   rw [this, Bool.and_true]
  ·rw [if_neg (fun x => e x.symm), if_neg e, List.getElem?_eq_getElem hj]
   simp only
   rw [findR_set h v, hpj.1, hpj.2]; rfl
 cases hr : resT (addVer o.Resources[i] v) with
 | true => exact (allB_iff _ _).2 fun j _ h2 => by rw [hj j (by omega), hr]; split <;> rfl
 | false =>
  cases ha : allB (orgP (o.Resources.set i (addVer o.Resources[i] v))) o.Resources.length 0 with
  | false => rfl
  | true =>
   have := (allB_iff _ _).1 ha i (by omega) (by omega)
   rw [hj i h, if_pos rfl, hr] at this
   cases this
def pubT (o : IOrigin) (s : List UInt8) (v : IVersion) : IOrigin × Bool :=
 match firstI (tgtP o.Resources s) o.Resources.length 0 with
 | none => (o, false)
 | some i => match o.Resources[i]? with
  | none => (o, false)
  | some e => bif orgT o && resT (addVer e v) then (pubO o i (addVer e v), true) else (o, false)
theorem OrgIn.ver {o : IOrigin} (h : OrgIn o) : ∀ e ∈ o.Resources, e.Langs.length < 1073741824 ∧ e.Versions.length < 1073741824 := fun e he => by
 have k1 := (h.hre e he).hl
 have k2 := (h.hre e he).hv
 omega
theorem addVer_in {e : IResource} {v : IVersion} (h : ResIn e) (hv : e.Versions.length + 1 < 134217728) : ResIn (addVer e v) := ⟨h.ht, h.hc, h.hk, h.hl, h.hle, by simp [addVer]; omega⟩
theorem pub_in {o : IOrigin} {i : Nat} {e : IResource} (h : OrgIn o) (he : ResIn e) : OrgIn (pubO o i e) := ⟨h.hh, by unfold pubO; simp only [List.length_set]; exact h.hr, fun x hx => by
 rcases List.mem_or_eq_of_mem_set hx with hx | rfl
 ·exact h.hre x hx
 ·exact he⟩
theorem S_PublishPage_eq {k : Nat} (hk : 1073741824 ≤ k) (o : IOrigin) (s : List UInt8) (v : IVersion) (h : OrgIn o) (hv : ∀ e ∈ o.Resources, e.Versions.length + 1 < 134217728) : S_PublishPage k o s v = some (pubT o s v) := by
 have hr := h.hr
 rw [S_PublishPage, S_l15Copy_eq hk o (by omega) h.ver, Option.bind_some, S_FindResource_eq hk o s (by omega), Option.bind_some, S_IsOrigin_eq hk o h, Option.bind_some]
 unfold pubT findR
 cases hf : firstI (tgtP o.Resources s) o.Resources.length 0 with
 | none => rfl
 | some i =>
  have hi := firstI_lt hf
  have hve := hv _ (List.getElem_mem hi)
  have hre := h.hre _ (List.getElem_mem hi)
  simp only
  rw [decide_eq_false (by omega), cond_false, List.getElem?_eq_getElem hi]
  simp only
  cases ho : orgT o with
  | false => rfl
  | true =>
   have hs : i < (o.Resources.set i (addVer o.Resources[i] v)).length := by rw [List.length_set]; exact hi
   have e1 : idx (o.Resources.set i (addVer o.Resources[i] v)) ((i : Nat) : Int) = some (addVer o.Resources[i] v) := idx_set hi
   have hres := S_l15Resource_eq hk _ (addVer_in (v := v) hre hve)
   rw [Bool.not_true, cond_false, idx_nat hi, Option.bind_some, Option.bind_some, appn_ok (by simp; omega), Option.bind_some, Option.bind_some, guardT_self, Int.toNat_natCast]
   change (((idx (o.Resources.set i (addVer o.Resources[i] v)) ((i : Nat) : Int)).bind fun _ => (idx (o.Resources.set i (addVer o.Resources[i] v)) ((i : Nat) : Int)).bind fun e6 => (S_l15Resource k e6).bind fun w7 => bif !w7 then (some o).bind fun w8 => some (w8, false) else some ((⟨o.Host, (o.Resources.set i (addVer o.Resources[i] v)).set i e6⟩ : IOrigin), true))) = _
   rw [e1, Option.bind_some, Option.bind_some, hres, Option.bind_some, List.set_set]
   cases resT (addVer o.Resources[i] v) <;> rfl
theorem I_PublishPage_eq {k : Nat} (hk : 1073741824 ≤ k) (o : IOrigin) (s : List UInt8) (v : IVersion) (h : OrgIn o) (hv : ∀ e ∈ o.Resources, e.Versions.length + 1 < 134217728) : I_PublishPage k o s v = some (pubT o s v) := by
 have hr := h.hr
 rw [I_PublishPage, I_copyOrigin_eq hk o (by omega) h.ver, Option.bind_some, I_FindResource_eq hk o s (by omega), Option.bind_some, I_IsOrigin_eq hk o h, Option.bind_some]
 unfold pubT findR
 cases hf : firstI (tgtP o.Resources s) o.Resources.length 0 with
 | none => rfl
 | some i =>
  have hi := firstI_lt hf
  have hve := hv _ (List.getElem_mem hi)
  have hre := h.hre _ (List.getElem_mem hi)
  simp only
  rw [decide_eq_false (by omega), cond_false, List.getElem?_eq_getElem hi]
  simp only
  cases ho : orgT o with
  | false => rfl
  | true =>
   have hres : I_IsOrigin k (pubO o i (addVer o.Resources[i] v)) = some (resT (addVer o.Resources[i] v)) := by rw [I_IsOrigin_eq hk _ (pub_in h (addVer_in hre hve)), orgT_pub hi v ho]
   rw [Bool.not_true, cond_false, idx_nat hi, Option.bind_some, Option.bind_some, appn_ok (by simp; omega), Option.bind_some, Option.bind_some, guardT_self, Int.toNat_natCast]
   change ((I_IsOrigin k (pubO o i (addVer o.Resources[i] v))).bind fun w6 => bif !w6 then (some o).bind fun w7 => some (w7, false) else some (pubO o i (addVer o.Resources[i] v), true)) = _
   rw [hres, Option.bind_some]
   cases resT (addVer o.Resources[i] v) <;> rfl
def mkRes (m : Int) (e : IResource) : IResource := ⟨mText m, mText (m + 1), mText (m + 2), ((m + 3).tmod 3 == 0), marks mk_String 1 (m + 4) e.Langs, marks mk_Version 3 (m + 4 + (e.Langs.length : Int)) e.Versions⟩
def cntRes (e : IResource) : Nat := 4 + e.Langs.length + 3 * e.Versions.length
def marksV : Int → List IResource → List IResource
 | _, [] => []
 | m, e :: l => mkRes m e :: marksV (m + (cntRes e : Int)) l
def totV : List IResource → Nat
 | [] => 0
 | e :: l => cntRes e + totV l
def ResB (e : IResource) : Prop := e.Langs.length < 1073741824 ∧ e.Versions.length < 1073741824
theorem marksV_len : ∀ (l : List IResource) (m : Int), (marksV m l).length = l.length
 | [], _ => rfl
 | _ :: l, m => by simp [marksV, marksV_len l]
theorem markRes_step {k : Nat} (hk : 1073741824 ≤ k) {n i : Nat} {m : Int} {r : List IResource} (h : i < r.length) (h0 : 0 < m) (hm : m + (cntRes r[i] : Int) ≤ 1099511627776) (hr : r.length < 1073741824) (hb : ResB r[i]) :
    L_markResourceS_b0 k (n + 1) m (i : Int) r = L_markResourceS_b0 k n (m + (cntRes r[i] : Int)) ((i + 1 : Nat) : Int) (r.set i (mkRes m r[i])) := by
 obtain ⟨hl, hv⟩ := hb
 unfold cntRes at hm ⊢
 rw [L_markResourceS_b0]
 simp (disch := first | omega | (simp only [List.length_set]; omega)) only [bif_dec, lt_cast, h, if_true, idx_nat h, idx_set, Option.bind_some, wrap_id, Int.toNat_natCast, List.set_set, L_markText_eq hk, md3, List.getElem_set_self]
 rw [L_markStringS_eqm hk _ hl _ (by omega) (by omega)]
 simp (disch := first | omega | (simp only [List.length_set]; omega)) only [idx_nat h, idx_set, Option.bind_some, Int.toNat_natCast, List.set_set, List.getElem_set_self]
 rw [L_markVersionS_eqm hk _ hv _ (by omega) (by omega), Option.bind_some]
 unfold mkRes
 have e6 : (i : Int) + 1 = ((i + 1 : Nat) : Int) := by omega
 have e1 : m + 1 + 1 = m + 2 := by omega
 have e2 : m + 2 + 1 = m + 3 := by omega
 have e3 : m + 3 + 1 = m + 4 := by omega
 have e4 : m + 4 + ((1 : Nat) : Int) * (r[i].Langs.length : Int) = m + 4 + (r[i].Langs.length : Int) := by omega
 have e5 : m + 4 + (r[i].Langs.length : Int) + ((3 : Nat) : Int) * (r[i].Versions.length : Int) = m + ((4 + r[i].Langs.length + 3 * r[i].Versions.length : Nat) : Int) := by omega
 simp only [e1, e2, e3, e4, e5, e6]
theorem markRes_loop {k : Nat} (hk : 1073741824 ≤ k) : ∀ (n i : Nat) (m : Int) (r : List IResource), i ≤ r.length → r.length - i < n → 0 < m → m + (totV (r.drop i) : Int) ≤ 1099511627776 → r.length < 1073741824 → (∀ e ∈ r.drop i, ResB e) →
    L_markResourceS_b0 k n m (i : Int) r = some (m + (totV (r.drop i) : Int), r.take i ++ marksV m (r.drop i)) := by
 intro n
 induction n with
 | zero => intro i m r _ h; omega
 | succ n ih =>
  intro i m r hi hn h0 hm hr hb
  by_cases c : i < r.length
  ·rw [List.drop_eq_getElem_cons c] at hm hb ⊢
   simp only [totV] at hm ⊢
   have hs : (r.set i (mkRes m r[i])).drop (i + 1) = r.drop (i + 1) := by rw [List.drop_set_of_lt (by omega)]
   have ht : (r.set i (mkRes m r[i])).take (i + 1) = r.take i ++ [mkRes m r[i]] := by
    rw [List.take_add_one, List.getElem?_set_self c, List.take_set, List.set_eq_of_length_le (by simp; omega)]
    rfl
   rw [markRes_step hk c h0 (by omega) hr (hb _ (.head _)), ih (i + 1) _ _ (by simp; omega) (by simp; omega) (by omega) (by rw [hs]; omega) (by simpa using hr) (by rw [hs]; exact fun e he => hb e (.tail _ he)), hs, ht, marksV]
   simp only [List.append_assoc, List.cons_append, List.nil_append]
   congr 2
   omega
  ·rw [L_markResourceS_b0, bif_dec, if_neg (by omega), List.drop_of_length_le (by omega), List.take_of_length_le (by omega)]
   simp [totV, marksV]
theorem L_markResourceS_eq {k : Nat} (hk : 1073741824 ≤ k) (r : List IResource) (h : r.length < 1073741824) (hb : ∀ e ∈ r, ResB e) (ht : totV r ≤ 1099511627775) : L_markResourceS k r 1 = some (1 + (totV r : Int), marksV 1 r) := by
 have := markRes_loop hk k 0 1 r (by omega) (by omega) (by omega) (by rw [List.drop_zero]; omega) h (by rw [List.drop_zero]; exact hb)
 rw [List.drop_zero, List.take_zero, List.nil_append, show (((0 : Nat)) : Int) = 0 from rfl] at this
 rw [L_markResourceS, this]; rfl
theorem heldRes_step {k : Nat} (hk : 1073741824 ≤ k) {n i : Nat} {m : Int} {x : List IResource} {e : IResource} (h : i < x.length) (h0 : 0 < m) (hm : m + (cntRes e : Int) ≤ 1099511627776) (hr : x.length < 1073741824) (hb : ResB e) (he : x[i] = mkRes m e) :
    L_heldResourceS_b0 k (n + 1) x m (i : Int) = L_heldResourceS_b0 k n x (m + (cntRes e : Int)) ((i + 1 : Nat) : Int) := by
 obtain ⟨hl, hv⟩ := hb
 unfold cntRes at hm ⊢
 have e1 : m + 1 + 1 = m + 2 := by omega
 have e2 : m + 2 + 1 = m + 3 := by omega
 have e3 : m + 3 + 1 = m + 4 := by omega
 have s1 := L_heldStringS_eqm hk e.Langs hl (m + 4) (by omega) (by omega)
 have s2 := L_heldVersionS_eqm hk e.Versions hv (m + 4 + (e.Langs.length : Int)) (by omega) (by omega)
 have e4 : m + 4 + ((1 : Nat) : Int) * (e.Langs.length : Int) = m + 4 + (e.Langs.length : Int) := by omega
 rw [e4] at s1
 rw [L_heldResourceS_b0]
 simp (disch := omega) only [bif_dec, lt_cast, h, if_true, idx_nat h, he, mkRes, Option.bind_some, wrap_id, L_markText_eq hk, md3, cond_false, BEq.rfl, Bool.not_true, e1, e2, e3, s1, s2]
 rw [if_neg (by omega), if_neg (by omega)]
 congr 1
 omega
theorem heldRes_loop {k : Nat} (hk : 1073741824 ≤ k) : ∀ (n i : Nat) (m : Int) (x l : List IResource), x.drop i = marksV m l → i ≤ x.length → x.length - i < n → 0 < m → m + (totV l : Int) ≤ 1099511627776 → x.length < 1073741824 → (∀ e ∈ l, ResB e) →
    L_heldResourceS_b0 k n x m (i : Int) = some (.nrm (m + (totV l : Int))) := by
 intro n
 induction n with
 | zero => intro i m x l _ _ h; omega
 | succ n ih =>
  intro i m x l hd hi hn h0 hm hr hb
  have hlen := congrArg List.length hd
  rw [marksV_len, List.length_drop] at hlen
  cases l with
  | nil =>
   simp only [List.length_nil] at hlen
   rw [L_heldResourceS_b0, bif_dec, if_neg (by omega)]
   simp [totV]
  | cons e l =>
   simp only [List.length_cons] at hlen
   have c : i < x.length := by omega
   rw [List.drop_eq_getElem_cons c, marksV] at hd
   obtain ⟨q1, q2⟩ := List.cons.inj hd
   simp only [totV] at hm ⊢
   rw [heldRes_step hk c h0 (by omega) hr (hb _ (.head _)) q1, ih (i + 1) _ x l q2 (by omega) (by omega) (by omega) (by omega) hr fun e he => hb e (.tail _ he)]
   congr 2
   omega
theorem L_heldResourceS_eq {k : Nat} (hk : 1073741824 ≤ k) (r : List IResource) (h : r.length < 1073741824) (hb : ∀ e ∈ r, ResB e) (ht : totV r ≤ 1099511627775) : L_heldResourceS k (marksV 1 r) 1 = some (1 + (totV r : Int)) := by
 have := heldRes_loop hk k 0 1 (marksV 1 r) r (by rw [List.drop_zero]) (by omega) (by rw [marksV_len]; omega) (by omega) (by omega) (by rw [marksV_len]; exact h) hb
 rw [show (((0 : Nat)) : Int) = 0 from rfl] at this
 rw [L_heldResourceS, this]; rfl
theorem L_markOrigin_eq {k : Nat} (hk : 1073741824 ≤ k) (o : IOrigin) (h : o.Resources.length < 1073741824) (hb : ∀ e ∈ o.Resources, ResB e) (ht : totV o.Resources ≤ 1099511627775) : L_markOrigin_f k (o.Host, o.Resources, ()) 1 = some (1 + (totV o.Resources : Int), (o.Host, marksV 1 o.Resources, ())) := by
 rw [L_markOrigin_f, L_markOrigin, L_markResourceS_eq hk _ h hb ht]; rfl
theorem L_heldOrigin_eq {k : Nat} (hk : 1073741824 ≤ k) (o : IOrigin) (h : o.Resources.length < 1073741824) (hb : ∀ e ∈ o.Resources, ResB e) (ht : totV o.Resources ≤ 1099511627775) : L_heldOrigin k ⟨o.Host, marksV 1 o.Resources⟩ 1 = some (1 + (totV o.Resources : Int)) := by
 rw [L_heldOrigin, L_heldResourceS_eq hk _ h hb ht, Option.bind_some, bif_dec, if_neg (by omega)]
theorem totV_le : ∀ (l : List LResource), totV (l.map to_LResource) ≤ 4 * (l.length + (l.map sz_LResource).sum)
 | [] => by simp [totV]
 | r :: l => by
  have ih := totV_le l
  have h1 : r.Langs.length ≤ szL List.length r.Langs := by unfold szL; omega
  have h2 : r.Versions.length ≤ szL sz_LVersion r.Versions := by unfold szL; omega
  have h3 : cntRes (to_LResource r) = 4 + r.Langs.length + 3 * r.Versions.length := by unfold cntRes to_LResource; simp
  have h4 : r.Langs.length + r.Versions.length ≤ sz_LResource r := by unfold sz_LResource; omega
  simp only [List.map_cons, totV, List.length_cons, List.sum_cons]
  omega
theorem totV_org {a : LOrigin} (h : sz_LOrigin a ≤ 1048576) : totV (to_LOrigin a).Resources ≤ 4194304 := by
 have := totV_le a.Resources
 unfold sz_LOrigin szL at h
 show totV (a.Resources.map to_LResource) ≤ _
 omega
theorem totV_set : ∀ (l : List IResource) (i : Nat) (e : IResource), totV (l.set i e) ≤ totV l + cntRes e
 | [], _, _ => by simp [totV]
 | a :: l, 0, e => by simp only [List.set_cons_zero, totV]; omega
 | a :: l, i + 1, e => by
  have := totV_set l i e
  simp only [List.set_cons_succ, totV]; omega
theorem totV_mem : ∀ {l : List IResource} {e : IResource}, e ∈ l → cntRes e ≤ totV l
 | a :: l, e, h => by
  rcases List.mem_cons.1 h with rfl | h
  ·simp only [totV]; omega
  ·have := totV_mem h
   simp only [totV]; omega
theorem pubT_ok {o : IOrigin} {s : List UInt8} {v : IVersion} (h : OrgIn o) (hv : ∀ e ∈ o.Resources, e.Versions.length + 1 < 134217728) (ht : totV o.Resources ≤ 4194304) : OrgIn (pubT o s v).1 ∧ totV (pubT o s v).1.Resources ≤ 1099511627775 := by
 have same : OrgIn o ∧ totV o.Resources ≤ 1099511627775 := ⟨h, by omega⟩
 unfold pubT
 split
 ·exact same
 ·rename_i i hi
  split
  ·exact same
  ·rename_i e he
   have hm := List.mem_of_getElem? he
   cases orgT o && resT (addVer e v) with
   | false => exact same
   | true =>
    refine ⟨pub_in h (addVer_in (h.hre e hm) (hv e hm)), ?_⟩
    have h1 := totV_set o.Resources i (addVer e v)
    have h2 := totV_mem hm
    have h3 : cntRes (addVer e v) = cntRes e + 3 := by unfold cntRes addVer; simp; omega
    show totV (o.Resources.set i (addVer e v)) ≤ _
    omega
theorem FnExactPublishPage_pure {k : Nat} (hk : 1073741824 ≤ k) (a0 : LOrigin) (a1 : List UInt8) (a2 : LVersion) (h0 : V_LOrigin a0) (h1 : InS a1) (h2 : V_LVersion a2) : L_FnExactPublishPage k a0 a1 a2 = some true := by
 unfold L_FnExactPublishPage
 rw [bif_dec]
 by_cases c0 : (a1.length : Int) > 1048576
 ·rw [if_pos c0]
 rw [if_neg c0, L_szOrigin_eq hk h0 _ (by omega) (by omega), Option.bind_some, bif_dec]
 by_cases c3 : (sz_LOrigin a0 : Int) ≤ 1048576
 case neg => rw [if_neg c3, if_pos (by omega)]
 have c4 : sz_LOrigin a0 ≤ 1048576 := by omega
 rw [if_pos c3, if_neg (by omega), L_szVersion_eq hk h2 _ (by omega) (by omega), Option.bind_some, bif_dec]
 by_cases c5 : (sz_LVersion a2 : Int) ≤ 1048576 - (sz_LOrigin a0 : Int)
 case neg => rw [if_neg c5, if_pos (by omega)]
 have c6 : sz_LVersion a2 ≤ 1048576 := by omega
 rw [if_pos c5, if_neg (by omega)]
 obtain ⟨r1, r2⟩ := orgIn_of c4
 have r3 := r1.hr
 have r4 : (to_LOrigin a0).Resources.length < 1073741824 := by omega
 have rt := totV_org c4
 have rv : ∀ e ∈ (to_LOrigin a0).Resources, e.Versions.length + 1 < 134217728 := fun e he => by
  have h5 := totV_mem he
  unfold cntRes at h5
  omega
 obtain ⟨g1, g2⟩ := pubT_ok (s := a1) (v := to_LVersion a2) r1 rv rt
 have g3 := g1.hr
 have g4 : (pubT (to_LOrigin a0) a1 (to_LVersion a2)).1.Resources.length < 1073741824 := by omega
 have s1 := S_PublishPage_eq hk _ a1 (to_LVersion a2) r1 rv
 have s2 := I_PublishPage_eq hk _ a1 (to_LVersion a2) r1 rv
 generalize pubT (to_LOrigin a0) a1 (to_LVersion a2) = w at *
 have q1 := L_eqOrigin_eq hk w.1 w.1 g4 g1.ver
 have q2 := L_eqOrigin_eq hk (to_LOrigin a0) (to_LOrigin a0) r4 r2
 rw [decide_eq_true rfl] at q1 q2
 have m1 := L_markOrigin_eq hk (to_LOrigin a0) r4 r2 (by omega)
 have m2 := L_markOrigin_eq hk w.1 g4 g1.ver g2
 have m3 := L_heldOrigin_eq hk w.1 g4 g1.ver g2
 simp only [L_toOrigin_eq hk a0 c4, L_toVersion_eq hk a2 c6, Option.bind_some, s1, s2, q1, q2, Bool.not_true, cond_false, BEq.rfl, m1, m2, m3, bne_self_eq_false]
 rw [decide_eq_false (by omega), cond_false, decide_eq_false (by omega), cond_false]
 rfl
end
end Go.YtnidlohhndpjdaaGreatDoor
