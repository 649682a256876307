/- Plain lemmas and definitions. Nothing is claimed here. -/
import Derived.Test.YtnidlohhndpjdaaGreatDoorKu
import Derived.Sort.Walk0
set_option linter.unusedVariables false
set_option linter.unusedSimpArgs false
set_option maxRecDepth 100000
namespace Go.YtnidlohhndpjdaaGreatDoor
open Go Go.RowKit Go.Pv Go.Pu
noncomputable section
def mk15 : List UInt8 := [33, 35, 36, 37, 38, 39, 42, 43, 45, 46, 94, 95, 124, 126, 96]
def mk14 : List UInt8 := [33, 35, 36, 37, 38, 39, 42, 43, 45, 46, 94, 95, 124, 126]
def letB (c : UInt8) : Bool := (decide (97 ≤ c.toNat) && decide (c.toNat ≤ 122)) || (decide (65 ≤ c.toNat) && decide (c.toNat ≤ 90)) || (decide (48 ≤ c.toNat) && decide (c.toNat ≤ 57))
def mkP (c : UInt8) (i : Nat) : Bool := match mk15[i]? with | some m => c == m | none => false
def tokB (c : UInt8) : Bool := (firstI (mkP c) 15 0).isSome || letB c
theorem tok_tab : ∀ j : Fin 256, tokB (UInt8.ofNat j.val) = (letB (UInt8.ofNat j.val) || decide (Lib.indexByte mk14 (UInt8.ofNat j.val) ≥ 0) || (UInt8.ofNat j.val == 96)) := by decide +kernel
theorem tok_eq (c : UInt8) : tokB c = (letB c || decide (Lib.indexByte mk14 c ≥ 0) || (c == 96)) := by
 have := tok_tab ⟨c.toNat, UInt8.toNat_lt c⟩
 simpa using this
theorem I_isTokenByte_eq {k : Nat} (c : UInt8) : I_isTokenByte k (c.toNat : Int) = some (tokB c) := by
 have hb := UInt8.toNat_lt c
 have hi : strings_IndexByte k [33, 35, 36, 37, 38, 39, 42, 43, 45, 46, 94, 95, 124, 126] (c.toNat : Int) = some (Lib.indexByte mk14 c) := by
  rw [strings_IndexByte, indexByteO, Int.toNat_natCast]; simp [mk14]
 have h96 : ((c.toNat : Int) == 96) = (c == 96) := u8_eq c 96
 rw [I_isTokenByte, hi, h96, tok_eq]
 simp only [Option.bind_some, bif_dec, letB]
 by_cases a1 : 97 ≤ c.toNat <;> by_cases a2 : c.toNat ≤ 122 <;> by_cases a3 : 65 ≤ c.toNat <;> by_cases a4 : c.toNat ≤ 90 <;> by_cases a5 : 48 ≤ c.toNat <;> by_cases a6 : c.toNat ≤ 57 <;> by_cases a7 : Lib.indexByte mk14 c ≥ 0 <;>
  simp [a1, a2, a3, a4, a5, a6, a7, show ((c.toNat : Int) ≥ 97) = (97 ≤ c.toNat) from by simp; omega, show ((c.toNat : Int) ≤ 122) = (c.toNat ≤ 122) from by simp; omega, show ((c.toNat : Int) ≥ 65) = (65 ≤ c.toNat) from by simp; omega, show ((c.toNat : Int) ≤ 90) = (c.toNat ≤ 90) from by simp; omega, show ((c.toNat : Int) ≥ 48) = (48 ≤ c.toNat) from by simp; omega, show ((c.toNat : Int) ≤ 57) = (c.toNat ≤ 57) from by simp; omega]
def ntP (x : List UInt8) (i : Nat) : Bool := match x[i]? with | some c => !tokB c | none => false
def inR (n a b : Int) : Bool := decide (a ≤ n) && decide (n ≤ b)
theorem I_inRange_eq {k : Nat} (n a b : Int) : I_inRange k n a b = some (inR n a b) := by
 rw [I_inRange, bif_dec, inR]
 by_cases h : a ≤ n <;> simp [h]
def isTok (x : List UInt8) : Bool := (firstI (ntP x) x.length 0).isNone && inR (x.length : Int) 1 40
theorem I_IsToken_eq {k : Nat} (hk : 1073741824 ≤ k) (x : List UInt8) (h : x.length < 1073741824) : I_IsToken k x = some (isTok x) := by
 have := find_all (len := x.length) (c := fun i => bif ntP x i then some false else none) (F := fun n i => I_IsToken_b0 k n x (x.length : Int) i) (fun n i hi => by
  simp only [I_IsToken_b0, idx_nat hi, Option.bind_some, wrap_succ (by omega : i < 9223372036854775807), bif_dec, lt_cast, hi, if_true, ntP, List.getElem?_eq_getElem hi, I_isTokenByte_eq]
  cases tokB x[i] <;> rfl) (fun n i hi => by
  simp only [I_IsToken_b0, bif_dec, lt_cast]
  rw [if_neg (by omega)]) (k := k) (by omega)
 rw [I_IsToken, this, findI_first]
 unfold isTok
 cases firstI (ntP x) x.length 0 <;> simp [ocOf, oc, I_inRange_eq]
def lowB (c : UInt8) : UInt8 := bif decide (65 ≤ c.toNat) && decide (c.toNat ≤ 90) then c + 32 else c
def lowT (s : List UInt8) : List UInt8 := s.map lowB
theorem lowB_add : ∀ j : Fin 256, (65 ≤ j.val ∧ j.val ≤ 90) → IntKind.wrap .u8 ((j.val : Int) + 32) = (((UInt8.ofNat j.val) + 32).toNat : Int) := by decide +kernel
theorem low_wrap (c : UInt8) (h : 65 ≤ c.toNat ∧ c.toNat ≤ 90) : IntKind.wrap .u8 ((c.toNat : Int) + 32) = ((c + 32).toNat : Int) := by
 have := lowB_add ⟨c.toNat, UInt8.toNat_lt c⟩ h
 simpa using this
theorem bytes_ints (s : List UInt8) : bytesOf (intsOf s) = s := by
 unfold bytesOf intsOf
 rw [List.map_map]
 conv => rhs; rw [← List.map_id s]
 refine List.map_congr_left fun c _ => ?_
 simp
theorem ints_len (s : List UInt8) : (intsOf s).length = s.length := by unfold intsOf; simp
theorem ints_idx {s : List UInt8} {i : Nat} (h : i < s.length) : idx (intsOf s) (i : Int) = some (s[i].toNat : Int) := by
 rw [idx_nat (by rw [ints_len]; exact h)]; simp [intsOf]
theorem ints_set (s : List UInt8) (i : Nat) (c : UInt8) : (intsOf s).set i (c.toNat : Int) = intsOf (s.set i c) := by
 unfold intsOf; rw [List.map_set]
theorem low_loop {L : Nat} {F : Nat → Int → List Int → Option (List Int)} (T : ∀ n (i : Nat) (s : List UInt8) (h : i < s.length), s.length = L → F (n + 1) (i : Int) (intsOf s) = F n ((i + 1 : Nat) : Int) (intsOf (s.set i (lowB s[i]))))
    (E : ∀ n (i : Nat) (s : List UInt8), s.length ≤ i → s.length = L → F (n + 1) (i : Int) (intsOf s) = some (intsOf s)) : ∀ (n i : Nat) (s : List UInt8), i ≤ s.length → s.length - i < n → s.length = L → F n (i : Int) (intsOf s) = some (intsOf (s.take i ++ (s.drop i).map lowB)) := by
 intro n
 induction n with
 | zero => intro i s _ h; omega
 | succ n ih =>
  intro i s hi hn hs
  by_cases h : i < s.length
  ·rw [T n i s h hs, ih (i + 1) _ (by simp; omega) (by simp; omega) (by simpa using hs)]
   congr 2
   rw [List.drop_eq_getElem_cons h, List.map_cons]
   have e1 : (s.set i (lowB s[i])).take (i + 1) = s.take i ++ [lowB s[i]] := by
    apply List.ext_getElem?
    intro j
    by_cases hj : j < i
    ·rw [List.getElem?_take, if_pos (by omega), List.getElem?_set_ne (by omega), List.getElem?_append_left (by simp; omega), List.getElem?_take, if_pos hj]
    ·by_cases hj2 : j = i
     ·subst hj2
      rw [List.getElem?_take, if_pos (by omega), List.getElem?_set_self h, List.getElem?_append_right (by simp; omega)]
      simp [Nat.min_eq_left (Nat.le_of_lt h)]
     ·rw [List.getElem?_take, if_neg (by omega), List.getElem?_eq_none (by simp; omega)]
   have e2 : (s.set i (lowB s[i])).drop (i + 1) = s.drop (i + 1) := by
    apply List.ext_getElem?
    intro j
    rw [List.getElem?_drop, List.getElem?_drop, List.getElem?_set_ne (by omega)]
   rw [e1, e2, List.append_assoc]; rfl
  ·rw [E n i s (by omega) hs, List.drop_of_length_le (by omega), List.take_of_length_le (by omega)]; simp
theorem I_LowerText_eq {k : Nat} (hk : 1073741824 ≤ k) (s : List UInt8) (h : s.length < 1073741824) : I_LowerText k s = some (lowT s) := by
 have := low_loop (L := s.length) (F := fun n i r => I_LowerText_b0 k n (s.length : Int) i r) (fun n i t hi hs => by
  have hb := UInt8.toNat_lt t[i]
  have hlen : ((i : Int) < (s.length : Int)) := by omega
  simp only [I_LowerText_b0, bif_dec, hlen, if_true, I_LowerText_b1, ints_idx hi, Option.bind_some, wrap_succ (by omega : i < 9223372036854775807)]
  by_cases c1 : 65 ≤ t[i].toNat
  ·by_cases c2 : t[i].toNat ≤ 90
   ·have e1 : ((t[i].toNat : Int) ≥ 65) := by omega
    have e2 : decide ((t[i].toNat : Int) ≤ 90) = true := decide_eq_true (by omega)
    have e3 : lowB t[i] = t[i] + 32 := by unfold lowB; rw [decide_eq_true c1, decide_eq_true c2]; rfl
    simp only [e1, e2, if_true, I_LowerText_c20, cond_true, Option.bind_some, ints_idx hi, low_wrap _ ⟨c1, c2⟩, Int.toNat_natCast, ints_set, e3]
   ·have e1 : ((t[i].toNat : Int) ≥ 65) := by omega
    have e2 : decide ((t[i].toNat : Int) ≤ 90) = false := decide_eq_false (by omega)
    have e3 : lowB t[i] = t[i] := by unfold lowB; rw [decide_eq_false c2]; simp
    simp only [e1, e2, if_true, I_LowerText_c20, cond_false, Option.bind_some, e3, List.set_getElem_self]
  ·have e1 : ¬ ((t[i].toNat : Int) ≥ 65) := by omega
   have e3 : lowB t[i] = t[i] := by unfold lowB; rw [decide_eq_false c1]; simp
   simp only [e1, if_false, I_LowerText_c20, cond_false, Option.bind_some, e3, List.set_getElem_self]) (fun n i t hi ht => by
  have hlen : ¬ ((i : Int) < (s.length : Int)) := by omega
  simp only [I_LowerText_b0, bif_dec, hlen, if_false]) k 0 s (by omega) (by omega) rfl
 have h1 : I_LowerText_b0 k k (s.length : Int) 0 (intsOf s) = some (intsOf (s.take 0 ++ (s.drop 0).map lowB)) := this
 rw [I_LowerText, ints_len, h1, Option.bind_some, bytes_ints]; simp [lowT]
def hexV (c : UInt8) : Int := if 48 ≤ c.toNat ∧ c.toNat ≤ 57 then (c.toNat : Int) - 48 else if 97 ≤ c.toNat ∧ c.toNat ≤ 102 then (c.toNat : Int) - 87 else if 65 ≤ c.toNat ∧ c.toNat ≤ 70 then (c.toNat : Int) - 55 else -1
def hexC : List UInt8 := [48, 49, 50, 51, 52, 53, 54, 55, 56, 57, 65, 66, 67, 68, 69, 70]
theorem I_hex0 : ∀ j : Fin 256, I_hexDigit 0 (j.val : Int) = some (hexV (UInt8.ofNat j.val)) := by decide +kernel
theorem I_hexDigit_eq {k : Nat} (c : UInt8) : I_hexDigit k (c.toNat : Int) = some (hexV c) := by
 have := I_hex0 ⟨c.toNat, UInt8.toNat_lt c⟩
 simp only [UInt8.ofNat_toNat] at this
 exact this
theorem hexV_lt (c : UInt8) : hexV c < 16 := by
 unfold hexV
 split
 ·omega
 ·split
  ·omega
  ·split <;> omega
def vAB (a b : Nat) : UInt8 := UInt8.ofNat (16 * a + b)
def unres (v : UInt8) : Bool := letB v || v == 45 || v == 46 || v == 95 || v == 126
def outAB (a b : Nat) : List UInt8 := bif unres (vAB a b) then [vAB a b] else [37, hexC.getD a 0, hexC.getD b 0]
theorem outAB_len (a b : Nat) : (outAB a b).length ≤ 3 := by unfold outAB; cases unres (vAB a b) <;> simp
theorem ab_tab : ∀ a b : Fin 16, IntKind.wrap .u8 (IntKind.wrap .i64 (IntKind.wrap .i64 ((16 : Int) * (a.val : Int)) + (b.val : Int))) = ((vAB a.val b.val).toNat : Int) ∧ shrI .u8 ((vAB a.val b.val).toNat : Int) 4 = some (a.val : Int) ∧ andI .u8 ((vAB a.val b.val).toNat : Int) 15 = (b.val : Int) := by decide +kernel
theorem idx_hexC {a : Nat} (h : a < 16) : idx ([48, 49, 50, 51, 52, 53, 54, 55, 56, 57, 65, 66, 67, 68, 69, 70] : List UInt8) (a : Int) = some (hexC.getD a 0) := by
 have hl : a < hexC.length := h
 have : idx hexC (a : Int) = some hexC[a] := idx_nat hl
 rw [show hexC.getD a 0 = hexC[a] by simp [List.getD, hl]]
 exact this
def dec : List UInt8 → List UInt8 → Option (List UInt8)
 | [], acc => some acc
 | [c], acc => bif c == 37 then none else some (acc ++ [c])
 | [c, d], acc => bif c == 37 then none else dec [d] (acc ++ [c])
 | c :: h :: l :: r, acc => bif c == 37 then (bif decide (0 ≤ hexV h) && decide (0 ≤ hexV l) then dec r (acc ++ outAB (hexV h).toNat (hexV l).toNat) else none) else dec (h :: l :: r) (acc ++ [c])
theorem decA1 (c : UInt8) (acc : List UInt8) : dec [c] acc = bif c == 37 then none else some (acc ++ [c]) := rfl
theorem decA2 (c d : UInt8) (acc : List UInt8) : dec [c, d] acc = bif c == 37 then none else dec [d] (acc ++ [c]) := rfl
theorem decA3 (c h l : UInt8) (r acc : List UInt8) : dec (c :: h :: l :: r) acc = bif c == 37 then (bif decide (0 ≤ hexV h) && decide (0 ≤ hexV l) then dec r (acc ++ outAB (hexV h).toNat (hexV l).toNat) else none) else dec (h :: l :: r) (acc ++ [c]) := rfl
theorem dec_p (r acc : List UInt8) {c : UInt8} (h : (c == 37) = false) : dec (c :: r) acc = dec r (acc ++ [c]) := by
 match r with
 | [] => rw [decA1, h]; rfl
 | [d] => rw [decA2, h]; rfl
 | d :: e :: r => rw [decA3, h]; rfl
theorem dec_s (r acc : List UInt8) {c : UInt8} (h : (c == 37) = true) (hr : r.length < 2) : dec (c :: r) acc = none := by
 match r, hr with
 | [], _ => rw [decA1, h]; rfl
 | [d], _ => rw [decA2, h]; rfl
theorem dec_h (r acc : List UInt8) {c u l : UInt8} (h : (c == 37) = true) : dec (c :: u :: l :: r) acc = bif decide (0 ≤ hexV u) && decide (0 ≤ hexV l) then dec r (acc ++ outAB (hexV u).toNat (hexV l).toNat) else none := by rw [decA3, h]; rfl
theorem intsOf_app (a b : List UInt8) : intsOf a ++ intsOf b = intsOf (a ++ b) := by unfold intsOf; simp
def decT (x : List UInt8) : List UInt8 × Bool := match dec x [] with | some t => (t, true) | none => ([], false)
theorem tl_tab : ∀ j : Fin 256, decide (Lib.indexByte [45, 46, 95, 126] (UInt8.ofNat j.val) ≥ 0) = (UInt8.ofNat j.val == 45 || UInt8.ofNat j.val == 46 || UInt8.ofNat j.val == 95 || UInt8.ofNat j.val == 126) := by decide +kernel
theorem tl_eq (c : UInt8) : decide (Lib.indexByte [45, 46, 95, 126] c ≥ 0) = (c == 45 || c == 46 || c == 95 || c == 126) := by
 have := tl_tab ⟨c.toNat, UInt8.toNat_lt c⟩
 simpa using this
theorem bind_of {α β : Type} {o : Option α} {x : α} {g : α → Option β} (h : o = some x) : o.bind g = g x := by rw [h]; rfl
theorem unres_int (v : UInt8) : unres v = ((decide ((v.toNat : Int) ≥ 97) && decide ((v.toNat : Int) ≤ 122)) || (decide ((v.toNat : Int) ≥ 65) && decide ((v.toNat : Int) ≤ 90)) || (decide ((v.toNat : Int) ≥ 48) && decide ((v.toNat : Int) ≤ 57)) || decide (Lib.indexByte [45, 46, 95, 126] v ≥ 0)) := by
 rw [tl_eq]
 unfold unres letB
 have e1 : decide ((v.toNat : Int) ≥ 97) = decide (97 ≤ v.toNat) := decide_eq_decide.2 (by omega)
 have e2 : decide ((v.toNat : Int) ≤ 122) = decide (v.toNat ≤ 122) := decide_eq_decide.2 (by omega)
 have e3 : decide ((v.toNat : Int) ≥ 65) = decide (65 ≤ v.toNat) := decide_eq_decide.2 (by omega)
 have e4 : decide ((v.toNat : Int) ≤ 90) = decide (v.toNat ≤ 90) := decide_eq_decide.2 (by omega)
 have e5 : decide ((v.toNat : Int) ≥ 48) = decide (48 ≤ v.toNat) := decide_eq_decide.2 (by omega)
 have e6 : decide ((v.toNat : Int) ≤ 57) = decide (v.toNat ≤ 57) := decide_eq_decide.2 (by omega)
 rw [e1, e2, e3, e4, e5, e6]
 simp only [Bool.or_assoc]
theorem I_emit {k : Nat} {x : List UInt8} {x5 : Int} {acc : List UInt8} {a b : Nat} (ha : a < 16) (hb : b < 16) (hl : acc.length < 1073741824) {f : Bool} (hf : f = unres (vAB a b)) :
    I_decodedTarget_c88 k x x5 (a : Int) (b : Int) ((vAB a b).toNat : Int) f (intsOf acc) = some (intsOf (acc ++ outAB a b)) := by
 subst hf
 unfold I_decodedTarget_c88 outAB
 cases unres (vAB a b) with
 | true => rw [cond_true, cond_true, appn_ok (by simp [intsOf]; omega), ← intsOf_app]; rfl
 | false => rw [cond_false, cond_false, idx_hexC ha, Option.bind_some, idx_hexC hb, Option.bind_some, appn_ok (by simp [intsOf]; omega), ← intsOf_app]; rfl
theorem I_dec_loop {k : Nat} {x : List UInt8} (hx : x.length < 1073741000) : ∀ (n i : Nat) (acc : List UInt8), x.length - i < n → i ≤ x.length → acc.length ≤ i →
    I_decodedTarget_b0 k n x (i : Int) (intsOf acc) = some (match dec (x.drop i) acc with | some t => .nrm (intsOf t) | none => .oth ([], false)) := by
 intro n
 induction n with
 | zero => intro i acc h; omega
 | succ n ih =>
  intro i acc hn hi ha
  rw [I_decodedTarget_b0, bif_dec]
  by_cases c : i < x.length
  ·have u37 : ((UInt8.toNat x[i] : Int) != 37) = !(x[i] == 37) := by unfold bne; rw [← u8_eq x[i] 37]; rfl
   rw [if_pos (by omega), I_decodedTarget_b1, idx_nat c, Option.bind_some, u37, List.drop_eq_getElem_cons c]
   cases h37 : (x[i] == 37) with
   | false =>
    rw [Bool.not_false, cond_true, Option.bind_some, appn_ok (by simp [intsOf]; omega), Option.bind_some, dec_p _ _ h37]
    simp only [Option.bind_some, oc]
    rw [wrap_succ (by omega), show intsOf acc ++ [(x[i].toNat : Int)] = intsOf (acc ++ [x[i]]) from intsOf_app acc [x[i]]]
    exact ih (i + 1) (acc ++ [x[i]]) (by omega) (by omega) (by simp; omega)
   | true =>
    have w2 : IntKind.wrap .i64 ((i : Int) + 2) = ((i + 2 : Nat) : Int) := by rw [wrap_id (by omega) (by omega)]; omega
    rw [Bool.not_true, cond_false, w2, wrap_succ (by omega), bif_dec]
    by_cases c2 : i + 2 < x.length
    ·have c1 : i + 1 < x.length := by omega
     rw [if_neg (by omega), idx_nat c1, Option.bind_some, I_hexDigit_eq, Option.bind_some, bif_dec, List.drop_eq_getElem_cons c1, List.drop_eq_getElem_cons c2, dec_h _ _ h37]
     by_cases hu : hexV x[i + 1] < 0
     ·rw [if_pos hu, decide_eq_false (by omega), Bool.false_and]; rfl
     ·rw [if_neg hu, idx_nat c2, Option.bind_some, I_hexDigit_eq, Option.bind_some, bif_dec, decide_eq_true (by omega), Bool.true_and]
      by_cases hv : hexV x[i + 2] < 0
      ·rw [if_pos hv, decide_eq_false (by omega)]; rfl
      ·rw [if_neg hv, decide_eq_true (by omega), cond_true]
       have g1 := hexV_lt x[i + 1]
       have g2 := hexV_lt x[i + 2]
       obtain ⟨a, hav⟩ := Int.eq_ofNat_of_zero_le (show 0 ≤ hexV x[i + 1] by omega)
       obtain ⟨b, hbv⟩ := Int.eq_ofNat_of_zero_le (show 0 ≤ hexV x[i + 2] by omega)
       have ga : a < 16 := by omega
       have gb : b < 16 := by omega
       have tb := (ab_tab ⟨a, ga⟩ ⟨b, gb⟩).1
       simp only at tb
       have hI : strings_IndexByte k ([45, 46, 95, 126] : List UInt8) ((vAB a b).toNat : Int) = some (Lib.indexByte [45, 46, 95, 126] (vAB a b)) := by
        rw [strings_IndexByte, indexByteO, Int.toNat_natCast]; simp
       simp only [I_hexDigit_eq, Option.bind_some, hav, hbv]
       rw [tb, Int.toNat_natCast, Int.toNat_natCast]
       simp only [hI, Option.bind_some]
       have ol := outAB_len a b
       have fin := ih (i + 3) (acc ++ outAB a b) (by omega) (by omega) (by simp; omega)
       have w3 : IntKind.wrap .i64 (((i + 2 : Nat) : Int) + 1) = ((i + 3 : Nat) : Int) := wrap_succ (by omega)
       have em := I_emit (k := k) (x := x) (x5 := (i : Int)) (acc := acc) ga gb (by omega) (unres_int (vAB a b)).symm
       have e1 : ∀ o : Option (Oc (Int × List Int) (List UInt8 × Bool)), o = some (.nrm (((i + 2 : Nat) : Int), intsOf (acc ++ outAB a b))) → (o.bind fun o1 => oc o1 (fun o2 => I_decodedTarget_b0 k n x (IntKind.wrap .i64 (o2.1 + 1)) o2.2) fun o3 => some (.oth o3)) = some (match dec (x.drop (i + 2 + 1)) (acc ++ outAB a b) with | some t => .nrm (intsOf t) | none => .oth ([], false)) := fun o ho => by
        rw [ho, Option.bind_some]
        show I_decodedTarget_b0 k n x (IntKind.wrap .i64 (((i + 2 : Nat) : Int) + 1)) (intsOf (acc ++ outAB a b)) = _
        rw [w3]; exact fin
       refine e1 _ ?_
       revert em
       generalize decide (((vAB a b).toNat : Int) ≥ 97) = d1
       generalize decide (((vAB a b).toNat : Int) ≤ 122) = d2
       generalize decide (((vAB a b).toNat : Int) ≥ 65) = d3
       generalize decide (((vAB a b).toNat : Int) ≤ 90) = d4
       generalize decide (((vAB a b).toNat : Int) ≥ 48) = d5
       generalize decide (((vAB a b).toNat : Int) ≤ 57) = d6
       generalize decide (Lib.indexByte [45, 46, 95, 126] (vAB a b) ≥ 0) = d7
       intro em
       cases d1 <;> cases d2 <;> cases d3 <;> cases d4 <;> cases d5 <;> cases d6 <;> exact bind_of em
    ·rw [if_pos (by omega), dec_s _ _ h37 (by simp; omega)]; rfl
  ·rw [if_neg (by omega), List.drop_of_length_le (by omega)]; rfl
theorem I_decodedTarget_eq {k : Nat} (hk : 1073741824 ≤ k) (x : List UInt8) (h : x.length < 1073741000) : I_decodedTarget k x = some (decT x) := by
 have := I_dec_loop (k := k) h k 0 [] (by omega) (by omega) (by simp)
 rw [show (((0 : Nat)) : Int) = 0 from rfl, show intsOf [] = [] from rfl, List.drop_zero] at this
 rw [I_decodedTarget, this, Option.bind_some]
 unfold decT
 cases dec x [] with
 | none => rfl
 | some t => simp only [oc, bytes_ints]
def blank (c : UInt8) : Bool := c == 32 || c == 9
def rtrim (x : List UInt8) : List UInt8 := (x.reverse.dropWhile blank).reverse
def trimT (x : List UInt8) : List UInt8 := rtrim (x.dropWhile blank)
theorem rtrim_cons (e : UInt8) (l : List UInt8) : rtrim (e :: l) = if rtrim l = [] then (if blank e then [] else [e]) else e :: rtrim l := by
 unfold rtrim
 rw [List.reverse_cons, List.dropWhile_append]
 cases h : l.reverse.dropWhile blank with
 | nil => cases hb : blank e <;> simp [List.dropWhile_cons, hb]
 | cons a m => simp
theorem trim_comm : ∀ x : List UInt8, rtrim (x.dropWhile blank) = (rtrim x).dropWhile blank
 | [] => rfl
 | e :: l => by
  have ih := trim_comm l
  rw [rtrim_cons, List.dropWhile_cons]
  cases hb : blank e with
  | true =>
   by_cases h : rtrim l = []
   ·rw [h] at ih; simp [h, ih]
   ·simp [h, List.dropWhile_cons, hb, ih]
  | false =>
   rw [if_neg (by simp), rtrim_cons]
   by_cases h : rtrim l = []
   ·simp [h, List.dropWhile_cons, hb]
   ·simp [h, List.dropWhile_cons, hb]
theorem trimS_eq (x : List UInt8) : Lib.trimS x [32, 9] = trimT x := by
 have hc : (fun b : UInt8 => ([32, 9] : List UInt8).contains b) = blank := by
  funext b; unfold blank
  simp only [List.contains, List.elem]
  cases h1 : (b == 32) <;> cases h2 : (b == 9) <;> rfl
 unfold Lib.trimS Lib.trimLeftS Lib.trimRightS trimT
 rw [hc, trim_comm]; rfl
theorem I_TrimText_eq {k : Nat} (x : List UInt8) (h : x.length < 1073741824) : I_TrimText k x = some (trimT x) := by
 have hd : (decide (x.length ≤ 9223372036854775807) && decide (([32, 9] : List UInt8).length < 4294967281) && ([32, 9] : List UInt8).all (fun b => decide (b.toNat < 128))) = true := by
  rw [Bool.and_eq_true, Bool.and_eq_true]; exact ⟨⟨decide_eq_true (by omega), by decide⟩, by decide⟩
 rw [I_TrimText, strings_Trim, trimO, hd, cond_true, trimS_eq]; rfl
def sub (x : List UInt8) (f i : Nat) : List UInt8 := (x.take i).drop f
theorem sub_self (x : List UInt8) (i : Nat) : sub x i i = [] := by unfold sub; rw [List.drop_eq_nil_iff]; simp; omega
def cutP (b : UInt8) : List UInt8 → List UInt8 → List (List UInt8)
 | [], cur => [cur]
 | c :: r, cur => bif c == b then cur :: cutP b r [] else cutP b r (cur ++ [c])
theorem cutP_mem (b : UInt8) : ∀ (l cur p : List UInt8), p ∈ cutP b l cur → p.length ≤ cur.length + l.length
 | [], cur, p, h => by
  have : p = cur := by simpa [cutP] using h
  rw [this]; omega
 | c :: r, cur, p, h => by
  rw [cutP] at h
  cases h3 : (c == b) with
  | true =>
   rw [h3, cond_true] at h
   rcases List.mem_cons.1 h with rfl | h
   ·omega
   ·have := cutP_mem b r [] p h
    simp at this ⊢; omega
  | false =>
   rw [h3, cond_false] at h
   have := cutP_mem b r (cur ++ [c]) p h
   simp at this ⊢; omega
theorem cutP_len (b : UInt8) : ∀ (l cur : List UInt8), (cutP b l cur).length ≤ l.length + 1
 | [], cur => by simp [cutP]
 | c :: r, cur => by
  rw [cutP]
  have h1 := cutP_len b r []
  have h2 := cutP_len b r (cur ++ [c])
  cases (c == b) with
  | true => rw [cond_true]; simp; omega
  | false => rw [cond_false]; simp; omega
theorem cutP_pos (b : UInt8) : ∀ (l cur : List UInt8), 0 < (cutP b l cur).length
 | [], cur => by simp [cutP]
 | c :: r, cur => by
  rw [cutP]
  have h2 := cutP_pos b r (cur ++ [c])
  cases (c == b) with
  | true => rw [cond_true]; simp
  | false => rw [cond_false]; exact h2
theorem index_cons (b c : UInt8) (r : List UInt8) : Lib.index (c :: r) [b] = if c == b then 0 else if Lib.index r [b] == -1 then -1 else Lib.index r [b] + 1 := by
 rw [Lib.index_one, Lib.index_one, Lib.indexByte]
theorem count_first (b c : UInt8) (r : List UInt8) (h : (c == b) = true) : Lib.count (c :: r) [b] = 1 + Lib.count r [b] := by
 have := Lib.count_hit (s := c :: r) (sub := [b]) (i := 0) (by simp) (by rw [index_cons, if_pos h]; rfl)
 simpa using this
theorem split_cons (b c : UInt8) (r : List UInt8) : Lib.split (c :: r) [b] = bif c == b then [] :: Lib.split r [b] else match Lib.split r [b] with | [] => [[c]] | p :: ps => (c :: p) :: ps := by
 cases h : (c == b) with
 | true =>
  unfold Lib.split
  rw [count_first b c r h, Nat.add_comm, Lib.splitK, index_cons, if_pos h]
  simp
 | false =>
  rw [cond_false]
  have hn : ¬ (c == b) = true := by rw [h]; exact Bool.false_ne_true
  have hi := index_cons b c r
  rw [if_neg hn] at hi
  rcases Lib.index_spec r [b] with ⟨h1, _⟩ | ⟨i, h1, _, _, _⟩
  ·rw [h1] at hi
   unfold Lib.split
   rw [Lib.count_miss h1, Lib.count_miss (s := c :: r) (by rw [hi]; rfl), Lib.splitK, Lib.splitK]
  ·have hm : ¬ ((i : Int) == -1) = true := fun e => by have := beq_iff_eq.1 e; omega
   rw [h1, if_neg hm] at hi
   have c1 := Lib.count_hit (s := r) (sub := [b]) (i := i) (by simp) h1
   have c2 := Lib.count_hit (s := c :: r) (sub := [b]) (i := i + 1) (by simp) (by rw [hi]; rfl)
   have hm2 : ¬ ((i : Int) + 1 == -1) = true := fun e => by have := beq_iff_eq.1 e; omega
   unfold Lib.split
   rw [c1, c2, Nat.add_comm 1, Nat.add_comm 1, Lib.splitK, Lib.splitK, h1, hi, if_neg hm, if_neg hm2]
   rw [show ((i : Int) + 1).toNat = i + 1 by omega, show ((i : Int)).toNat = i by omega]
   simp [List.take_succ_cons, Nat.add_right_comm]
theorem split_ne (b : UInt8) (s : List UInt8) : Lib.split s [b] ≠ [] := by
 unfold Lib.split
 cases Lib.count s [b] with
 | zero => simp [Lib.splitK]
 | succ n => rw [Lib.splitK]; split <;> simp
theorem cutP_split (b : UInt8) : ∀ (s cur : List UInt8), cutP b s cur = match Lib.split s [b] with | [] => [] | p :: ps => (cur ++ p) :: ps
 | [], cur => by
  have : Lib.split [] [b] = [[]] := by
   unfold Lib.split
   rw [Lib.count_miss (by rw [Lib.index_one]; rfl)]; rfl
  rw [this]; simp [cutP]
 | c :: r, cur => by
  have h1 := cutP_split b r []
  have h2 := cutP_split b r (cur ++ [c])
  have hne := split_ne b r
  rw [cutP, split_cons, h1, h2]
  cases hs : Lib.split r [b] with
  | nil => exact absurd hs hne
  | cons p ps =>
   cases (c == b) with
   | true => simp
   | false => simp
theorem split_cutP (b : UInt8) (s : List UInt8) : Lib.split s [b] = cutP b s [] := by
 rw [cutP_split]
 cases hs : Lib.split s [b] with
 | nil => exact absurd hs (split_ne b s)
 | cons p ps => simp
theorem strings_Split_eq {k : Nat} (x : List UInt8) (b : UInt8) (h : x.length < 1073741824) : strings_Split k x [b] = some (cutP b x []) := by
 have hd : (decide (x.length < 4294967281) && decide (1 ≤ [b].length)) = true := by rw [Bool.and_eq_true]; exact ⟨decide_eq_true (by omega), by simp⟩
 rw [strings_Split, splitO, hd, cond_true, ← split_cutP]; rfl
def cleanE (last : Bool) (e : List UInt8) (out : List (List UInt8)) : List (List UInt8) :=
 bif !(e == [46]) && !(e == [46, 46]) then out ++ [e] else
 bif last then (bif e == [46, 46] then out.take (out.length - 1) else out) ++ [[]] else (bif e == [46, 46] then out.take (out.length - 1) else out)
def cleanL : List (List UInt8) → List (List UInt8) → List (List UInt8)
 | [], out => out
 | e :: r, out => cleanL r (cleanE r.isEmpty e out)
theorem lensC (p : List UInt8) (l : List (List UInt8)) : Lib.lens (p :: l) = p.length + Lib.lens l := rfl
theorem lens_app : ∀ a b : List (List UInt8), Lib.lens (a ++ b) = Lib.lens a + Lib.lens b
 | [], b => by simp [Lib.lens]
 | p :: a, b => by rw [List.cons_append, lensC, lensC, lens_app a b]; omega
theorem lens_take (l : List (List UInt8)) (n : Nat) : Lib.lens (l.take n) ≤ Lib.lens l := by
 have := lens_app (l.take n) (l.drop n)
 rw [List.take_append_drop] at this
 omega
theorem lens_one (p : List UInt8) : Lib.lens [p] = p.length := by rw [lensC]; simp [Lib.lens]
theorem cutP_sum (b : UInt8) : ∀ (l cur : List UInt8), Lib.lens (cutP b l cur) ≤ cur.length + l.length
 | [], cur => by rw [cutP, lens_one]; omega
 | c :: r, cur => by
  rw [cutP]
  have h1 := cutP_sum b r []
  have h2 := cutP_sum b r (cur ++ [c])
  cases (c == b) with
  | true => rw [cond_true, lensC]; simp at h1 ⊢; omega
  | false => rw [cond_false]; simp at h2 ⊢; omega
theorem cleanE_len (last : Bool) (e : List UInt8) (out : List (List UInt8)) : (cleanE last e out).length ≤ out.length + 1 := by
 unfold cleanE
 cases (!(e == [46]) && !(e == [46, 46])) <;> cases last <;> cases (e == ([46, 46] : List UInt8)) <;> simp <;> omega
theorem cleanE_lens (last : Bool) (e : List UInt8) (out : List (List UInt8)) : Lib.lens (cleanE last e out) ≤ Lib.lens out + e.length := by
 have h1 := lens_take out (out.length - 1)
 have h2 := lens_app out [e]
 have h3 := lens_app (out.take (out.length - 1)) [[]]
 have h4 := lens_app out [[]]
 rw [lens_one] at h2 h3 h4
 simp only [List.length_nil] at h3 h4
 unfold cleanE
 cases (!(e == [46]) && !(e == [46, 46])) <;> cases last <;> cases (e == ([46, 46] : List UInt8)) <;> simp only [cond_true, cond_false] <;> omega
theorem cleanE_ne (e : List UInt8) (out : List (List UInt8)) : cleanE true e out ≠ [] := by
 unfold cleanE
 cases (!(e == [46]) && !(e == [46, 46])) <;> simp
theorem cleanL_ne : ∀ (l out : List (List UInt8)), l ≠ [] → cleanL l out ≠ []
 | [], _, h => (h rfl).elim
 | [e], out, _ => cleanE_ne e out
 | e :: f :: r, out, _ => by rw [cleanL]; exact cleanL_ne (f :: r) _ (by simp)
theorem cleanL_len : ∀ (l out : List (List UInt8)), (cleanL l out).length ≤ out.length + l.length
 | [], out => by simp [cleanL]
 | e :: r, out => by
  have h1 := cleanL_len r (cleanE r.isEmpty e out)
  have h2 := cleanE_len r.isEmpty e out
  rw [cleanL, List.length_cons]; omega
theorem cleanL_lens : ∀ (l out : List (List UInt8)), Lib.lens (cleanL l out) ≤ Lib.lens out + Lib.lens l
 | [], out => by simp [cleanL]
 | e :: r, out => by
  have h1 := cleanL_lens r (cleanE r.isEmpty e out)
  have h2 := cleanE_lens r.isEmpty e out
  rw [cleanL, lensC]; omega
theorem last_eq {w : List (List UInt8)} {i : Nat} (h : i < w.length) : ((i : Int) == (w.length : Int) - 1) = (w.drop (i + 1)).isEmpty := by
 by_cases c : i + 1 = w.length
 ·rw [beq_iff_eq.2 (by omega : (i : Int) = (w.length : Int) - 1), List.drop_of_length_le (by omega)]; rfl
 ·rw [beq_eq_false_iff_ne.2 (by omega : (i : Int) ≠ (w.length : Int) - 1), List.drop_eq_getElem_cons (by omega)]; rfl
theorem take_pred {out : List (List UInt8)} (h : out.length < 1073741824) (h0 : 0 < out.length) : ssub out (0 : Int) (IntKind.wrap .i64 ((out.length : Int) - 1)) = some (out.take (out.length - 1)) := by
 rw [wrap_id (by omega) (by omega), show (out.length : Int) - 1 = ((out.length - 1 : Nat) : Int) by omega]
 exact ssub_take (by omega)
theorem I_clean1 {k : Nat} {w out : List (List UInt8)} {i : Nat} (hw : w.length < 1073741824) (hi : i < w.length) (ho : out.length < 1073741824) :
    I_cleanComponents_b1 k w w (w.length : Int) (i : Int) out = some (cleanE (w.drop (i + 1)).isEmpty w[i] out) := by
 rw [I_cleanComponents_b1, idx_nat hi, Option.bind_some]
 have ap : ∀ (o : List (List UInt8)) (e : List UInt8), o.length < 1073741824 → app 16 o [e] = some (o ++ [e]) := fun o e h => appn_ok (by simp; omega)
 have tl : (out.take (out.length - 1)).length < 1073741824 := by simp; omega
 have lw : IntKind.wrap .i64 ((w.length : Int) - 1) = (w.length : Int) - 1 := wrap_id (by omega) (by omega)
 unfold cleanE
 cases h2 : (w[i] == ([46, 46] : List UInt8)) with
 | true =>
  have h2' : w[i] = [46, 46] := by simpa using h2
  rw [cond_true]
  have key : I_cleanComponents_c20 k w (i : Int) w[i] w (w.length : Int) (i : Int) (decide ((out.length : Int) > 0)) out = some (out.take (out.length - 1)) := by
   unfold I_cleanComponents_c20
   by_cases c : 0 < out.length
   ·rw [decide_eq_true (by omega), cond_true, take_pred ho c]; rfl
   ·have : out = [] := List.length_eq_zero_iff.1 (by omega)
    subst this; rfl
  rw [key, Option.bind_some, I_cleanComponents_b2, h2']
  simp only [show (([46, 46] : List UInt8) == [46]) = false from rfl, Bool.not_false, cond_true, BEq.rfl, Bool.not_true, I_cleanComponents_c26, cond_false, I_cleanComponents_c37, lw, last_eq hi, ap _ _ tl, Option.bind_some, Bool.and_false]
  cases (w.drop (i + 1)).isEmpty <;> rfl
 | false =>
  rw [cond_false, I_cleanComponents_c20, cond_false, Option.bind_some, I_cleanComponents_b2]
  cases h1 : (w[i] == ([46] : List UInt8)) with
  | true =>
   simp only [Bool.not_true, cond_false, I_cleanComponents_c26, I_cleanComponents_c37, lw, last_eq hi, ap _ _ ho, Option.bind_some, Bool.false_and]
   cases (w.drop (i + 1)).isEmpty <;> rfl
  | false =>
   simp only [Bool.not_false, cond_true, h2, I_cleanComponents_c26, ap _ _ ho, Option.bind_some, Bool.and_self]
theorem I_clean_loop {k : Nat} {w : List (List UInt8)} (hw : w.length < 1073741824) : ∀ (n i : Nat) (out : List (List UInt8)), w.length - i < n → i ≤ w.length → out.length ≤ i → I_cleanComponents_b0 k n w w (w.length : Int) (i : Int) out = some (cleanL (w.drop i) out) := by
 intro n
 induction n with
 | zero => intro i out h; omega
 | succ n ih =>
  intro i out hn hi ho
  rw [I_cleanComponents_b0, bif_dec]
  by_cases c : i < w.length
  ·have := cleanE_len (w.drop (i + 1)).isEmpty w[i] out
   rw [if_pos (by omega), I_clean1 hw c (by omega), Option.bind_some, wrap_succ (by omega), ih (i + 1) _ (by omega) (by omega) (by omega)]
   conv => rhs; rw [List.drop_eq_getElem_cons c, cleanL]
  ·rw [if_neg (by omega), List.drop_of_length_le (by omega), cleanL]
theorem I_cleanComponents_eq {k : Nat} (hk : 1073741824 ≤ k) (w : List (List UInt8)) (hw : w.length < 1073741824) : I_cleanComponents k w = some (cleanL w []) := by
 have := I_clean_loop (k := k) hw k 0 [] (by omega) (by omega) (by simp)
 rw [show (((0 : Nat)) : Int) = 0 from rfl, List.drop_zero] at this
 rw [I_cleanComponents, this]; rfl
def pathT (p : List UInt8) : List UInt8 := Lib.joinTail [47] (cleanL (cutP 47 (p.drop 1) []) [])
theorem cutL {x : List UInt8} : (cleanL (cutP 47 x []) []).length ≤ x.length + 1 ∧ Lib.lens (cleanL (cutP 47 x []) []) ≤ x.length := by
 have h1 := cleanL_len (cutP 47 x []) []
 have h2 := cleanL_lens (cutP 47 x []) []
 have h3 := cutP_len 47 x []
 have h4 := cutP_sum 47 x []
 rw [show Lib.lens [] = 0 from rfl] at h2
 simp only [List.length_nil] at h1 h4
 omega
theorem I_path {k : Nat} (hk : 1073741824 ≤ k) (p : List UInt8) (h : p.length < 1073740000) (h0 : 0 < p.length) {β : Type} (g : List UInt8 → Option β) :
    ((ssub p (1 : Int) (p.length : Int)).bind fun t5 => ((strings_Split k t5 ([47] : List UInt8)).bind fun w6 => ((I_cleanComponents k w6).bind fun w7 => ((strings_Join k w7 ([47] : List UInt8)).bind fun w8 => ((cat ([47] : List UInt8) w8).bind g))))) = g (pathT p) := by
 have hd : (p.drop 1).length < 1073740000 := by simp; omega
 have hc := cutP_len 47 (p.drop 1) []
 obtain ⟨l1, l2⟩ := cutL (x := p.drop 1)
 have hsub : ssub p (1 : Int) (p.length : Int) = some (p.drop 1) := ssub_drop (i := 1) (by omega)
 rw [hsub, Option.bind_some, strings_Split_eq _ _ (by omega), Option.bind_some, I_cleanComponents_eq hk _ (by omega), Option.bind_some]
 unfold pathT
 have hne := cleanL_ne (cutP 47 (p.drop 1) []) [] (by have := cutP_pos 47 (p.drop 1) []; intro e; rw [e] at this; simp at this)
 generalize cleanL (cutP 47 (p.drop 1) []) [] = o at *
 cases o with
 | nil => exact absurd rfl hne
 | cons e r =>
  have hj := Lib.join_length e r [47]
  rw [lensC] at l2 hj
  simp only [List.length_cons, List.length_nil] at hj l1
  have hd : (decide ((e :: r).length ≤ 140737488355328) && decide ((Lib.join (e :: r) [47]).length ≤ 140737488355328)) = true := by
   rw [Bool.and_eq_true]; exact ⟨decide_eq_true (by simp; omega), decide_eq_true (by omega)⟩
  rw [strings_Join, joinO, hd, cond_true, Option.bind_some, cat_ok (by simp; omega), Option.bind_some]
  congr 1
  rw [Lib.join_cons]; simp [Lib.joinTail]
def splitT (s : List UInt8) : List UInt8 × List UInt8 × Bool := match firstI (byteP s 63) s.length 0 with | some i => (s.take i, s.drop (i + 1), true) | none => (s, [], false)
theorem I_SplitTarget_eq {k : Nat} (s : List UInt8) (h : s.length < 1073741824) : I_SplitTarget k s = some (splitT s) := by
 have hd : decide (s.length < 4294967281) = true := by simp; omega
 rw [I_SplitTarget, strings_Cut, cutO, hd, cond_true, Option.bind_some, cut_byte]
 rfl
def neP (s : List UInt8) : Bool := !(s == [])
def emP (w : List (List UInt8)) (i : Nat) : Bool := match w[i]? with | some s => s == [] | none => false
theorem idxF_eq {k : Nat} (hk : 1073741824 ≤ k) (w : List (List UInt8)) (h : w.length < 1073741824) : slices_IndexFunc_string_at_I_NormalTarget_1 k w = some (oInt (firstI (emP w) w.length 0)) := by
 have := find_all (len := w.length) (c := fun i => bif emP w i then some (i : Int) else none) (F := fun n i => slices_IndexFunc_string_at_I_NormalTarget_1_b0 k n w (w.length : Int) i) (fun n i hi => by
  simp only [slices_IndexFunc_string_at_I_NormalTarget_1_b0, idx_nat hi, Option.bind_some, wrap_succ (by omega : i < 9223372036854775807), bif_dec, lt_cast, hi, if_true, I_NormalTarget_1, emP, List.getElem?_eq_getElem hi]
  cases (w[i] == ([] : List UInt8)) <;> rfl) (fun n i hi => by
  simp only [slices_IndexFunc_string_at_I_NormalTarget_1_b0, bif_dec, lt_cast]
  rw [if_neg (by omega)]) (k := k) (by omega)
 rw [slices_IndexFunc_string_at_I_NormalTarget_1, this, findI_first]
 cases firstI (emP w) w.length 0 <;> rfl
theorem take_set_succ {r : List (List UInt8)} {i : Nat} {e : List UInt8} (h : i < r.length) : (r.set i e).take (i + 1) = r.take i ++ [e] := by
 rw [List.take_add_one, List.take_set, List.set_eq_of_length_le (by rw [List.length_take]; omega), List.getElem?_set_self h]; rfl
theorem filter_take_succ {w : List (List UInt8)} {j : Nat} (h : j < w.length) : (w.take (j + 1)).filter neP = (w.take j).filter neP ++ (bif neP w[j] then [w[j]] else []) := by
 rw [List.take_add_one, List.filter_append, List.getElem?_eq_getElem h]
 cases hn : neP w[j] <;> simp [hn]
theorem del_loop {k : Nat} {w : List (List UInt8)} (hw : w.length < 1073741824) : ∀ (n j i : Nat) (r : List (List UInt8)), w.length - j < n → j ≤ w.length → i ≤ j → r.length = w.length → r.take i = (w.take j).filter neP → r.drop j = w.drop j →
    ∃ (i' : Nat) (r' : List (List UInt8)), slices_DeleteFunc_string_at_I_NormalTarget_1_b0 k n (i : Int) (j : Int) r = some ((i' : Int), r') ∧ i' ≤ w.length ∧ r'.length = w.length ∧ r'.take i' = w.filter neP := by
 intro n
 induction n with
 | zero => intro j i r h; omega
 | succ n ih =>
  intro j i r hn hj hi hl ht hd
  rw [slices_DeleteFunc_string_at_I_NormalTarget_1_b0, bif_dec]
  by_cases c : j < w.length
  ·have cr : j < r.length := by omega
   have ci : i < r.length := by omega
   have e : r[j] = w[j] := by
    have := congrArg (fun l => l[0]?) hd
    simp only [List.getElem?_drop, Nat.add_zero, List.getElem?_eq_getElem cr, List.getElem?_eq_getElem c] at this
    exact Option.some.inj this
   have hd' : r.drop (j + 1) = w.drop (j + 1) := by
    have := congrArg (List.drop 1) hd
    rw [List.drop_drop, List.drop_drop] at this
    exact this
   have ft := filter_take_succ c
   rw [if_pos (by omega), slices_DeleteFunc_string_at_I_NormalTarget_1_b1, idx_nat cr, Option.bind_some, Option.bind_some, I_NormalTarget_1, Option.bind_some, slices_DeleteFunc_string_at_I_NormalTarget_1_c29, e]
   have hne : (!(w[j] == ([] : List UInt8))) = neP w[j] := rfl
   rw [hne]
   cases hp : neP w[j] with
   | true =>
    rw [hp, cond_true] at ft
    rw [cond_true, idx_nat ci, Option.bind_some, Option.bind_some, Option.bind_some, Option.bind_some, Int.toNat_natCast]
    simp only
    rw [wrap_succ (by omega), wrap_succ (by omega)]
    exact ih (j + 1) (i + 1) (r.set i w[j]) (by omega) (by omega) (by omega) (by simpa using hl) (by rw [take_set_succ ci, ft, ht]) (by rw [List.drop_set_of_lt (by omega)]; exact hd')
   | false =>
    rw [hp, cond_false, List.append_nil] at ft
    rw [cond_false, Option.bind_some, Option.bind_some]
    simp only
    rw [wrap_succ (by omega)]
    exact ih (j + 1) i r (by omega) (by omega) (by omega) hl (by rw [ft, ht]) hd'
  ·rw [if_neg (by omega)]
   exact ⟨i, r, rfl, by omega, hl, by rw [ht, List.take_of_length_le (by omega)]⟩
theorem del_eq {k : Nat} (hk : 1073741824 ≤ k) (w : List (List UInt8)) (h : w.length < 1073741824) : slices_DeleteFunc_string_at_I_NormalTarget_1 k w = some (w.filter neP) := by
 rw [slices_DeleteFunc_string_at_I_NormalTarget_1, idxF_eq hk w h, Option.bind_some]
 cases hf : firstI (emP w) w.length 0 with
 | none =>
  have hno := firstI_none _ _ hf
  have : w.filter neP = w := List.filter_eq_self.2 fun s hs => by
   obtain ⟨i, hi, rfl⟩ := List.mem_iff_getElem.1 hs
   have := hno i (by omega) (by omega)
   unfold emP at this
   rw [List.getElem?_eq_getElem hi] at this
   unfold neP
   simp only at this
   rw [this]; rfl
  rw [this]; rfl
 | some i =>
  obtain ⟨_, g1, g2, g3⟩ := firstI_some _ _ _ hf
  have hi : i < w.length := by omega
  have ei : w[i] = [] := by
   unfold emP at g2
   rw [List.getElem?_eq_getElem hi] at g2
   simpa using g2
  have hlt : w.take i = (w.take i).filter neP := (List.filter_eq_self.2 fun s hs => by
   obtain ⟨q, hq, rfl⟩ := List.mem_iff_getElem.1 hs
   have hq' : q < i := by simp at hq; omega
   have := g3 q (by omega) hq'
   unfold emP at this
   rw [List.getElem?_eq_getElem (by omega : q < w.length)] at this
   unfold neP
   simp only at this
   rw [List.getElem_take, this]; rfl).symm
  have ft := filter_take_succ hi
  have hn : neP w[i] = false := by rw [ei]; rfl
  rw [hn, cond_false, List.append_nil] at ft
  obtain ⟨i', r', e, hi', hl', ht'⟩ := del_loop (k := k) h k (i + 1) i w (by omega) (by omega) (by omega) rfl (by rw [ft]; exact hlt) rfl
  show (bif ((i : Int) == -1) then some w else ((slices_DeleteFunc_string_at_I_NormalTarget_1_b0 k k (i : Int) (IntKind.wrap .i64 ((i : Int) + 1)) w).bind _)) = _
  rw [beq_eq_false_iff_ne.2 (by omega : (i : Int) ≠ -1), cond_false, wrap_succ (by omega), e, Option.bind_some]
  simp only
  rw [ssub_drop (by omega), Option.bind_some, Int.toNat_natCast, ssub_take (by simp; omega), Option.bind_some]
  rw [List.take_append_of_le_length (by simp; omega), List.take_take, Nat.min_self, ht']
def insK (e : List UInt8) (out : List (List UInt8)) : Nat → Nat
 | 0 => 0
 | k + 1 => bif decide (e < out.getD k []) then insK e out k else k + 1
theorem lens_perm {l l' : List (List UInt8)} (h : l.Perm l') : Lib.lens l = Lib.lens l' := by
 induction h with
 | nil => rfl
 | cons x _ ih => rw [lensC, lensC, ih]
 | swap x y l => rw [lensC, lensC, lensC, lensC]; omega
 | trans _ _ ih1 ih2 => exact ih1.trans ih2
theorem lens_filter (f : List UInt8 → Bool) : ∀ l : List (List UInt8), Lib.lens (l.filter f) ≤ Lib.lens l
 | [] => by simp
 | e :: l => by
  have := lens_filter f l
  cases h : f e with
  | true => rw [List.filter_cons_of_pos h, lensC, lensC]; omega
  | false => rw [List.filter_cons_of_neg (by simp [h]), lensC]; omega
def sortQ (q : List UInt8) : List (List UInt8) := ((cutP 38 q []).filter neP).mergeSort fun x y => decide (x ≤ y)
theorem sortQ_perm (q : List UInt8) : (sortQ q).Perm ((cutP 38 q []).filter neP) := List.mergeSort_perm _ _
theorem sortQ_lens (q : List UInt8) : (sortQ q).length ≤ q.length + 1 ∧ Lib.lens (sortQ q) ≤ q.length := by
 have h1 := lens_perm (sortQ_perm q)
 have h2 := (sortQ_perm q).length_eq
 have h3 := lens_filter neP (cutP 38 q [])
 have h4 := List.length_filter_le neP (cutP 38 q [])
 have h5 := cutP_len 38 q []
 have h6 := cutP_sum 38 q []
 simp only [List.length_nil] at h6
 omega
theorem dec_len : ∀ (x acc t : List UInt8), dec x acc = some t → t.length ≤ acc.length + x.length
 | [], acc, t, h => by cases h; simp
 | [c], acc, t, h => by
  rw [decA1] at h
  cases hc : (c == 37) with
  | true => rw [hc] at h; cases h
  | false => rw [hc] at h; cases h; simp
 | [c, d], acc, t, h => by
  rw [decA2] at h
  cases hc : (c == 37) with
  | true => rw [hc] at h; cases h
  | false => rw [hc] at h; have := dec_len [d] (acc ++ [c]) t h; simp at this ⊢; omega
 | c :: u :: l :: r, acc, t, h => by
  rw [decA3] at h
  cases hc : (c == 37) with
  | true =>
   rw [hc, cond_true] at h
   cases h2 : (decide (0 ≤ hexV u) && decide (0 ≤ hexV l)) with
   | false => rw [h2] at h; cases h
   | true =>
    rw [h2] at h
    have := dec_len r _ t h
    have ol := outAB_len (hexV u).toNat (hexV l).toNat
    simp at this ⊢; omega
  | false => rw [hc] at h; have := dec_len (u :: l :: r) (acc ++ [c]) t h; simp at this ⊢; omega
theorem decT_len (x : List UInt8) : (decT x).1.length ≤ x.length := by
 unfold decT
 cases h : dec x [] with
 | none => simp
 | some t => have := dec_len x [] t h; simpa using this
def q47 (p : List UInt8) : Bool := p[0]? == some 47
def normT (s : List UInt8) : List UInt8 × Bool :=
 bif !(decT (splitT s).1).2 then ([], false) else bif !(decT (splitT s).2.1).2 then ([], false) else bif !q47 (decT (splitT s).1).1 then ([], false) else
 (bif (sortQ (decT (splitT s).2.1).1).isEmpty then pathT (decT (splitT s).1).1 else pathT (decT (splitT s).1).1 ++ [63] ++ Lib.join (sortQ (decT (splitT s).2.1).1) [38], true)
theorem splitT_len (s : List UInt8) : (splitT s).1.length ≤ s.length ∧ (splitT s).2.1.length ≤ s.length := by
 unfold splitT
 cases firstI (byteP s 63) s.length 0 with
 | none => simp
 | some i => simp; omega
theorem pathT_len (p : List UInt8) : (pathT p).length ≤ 2 * p.length + 1 := by
 obtain ⟨l1, l2⟩ := cutL (x := p.drop 1)
 have := Lib.joinTail_length [47] (cleanL (cutP 47 (p.drop 1) []) [])
 rw [List.length_drop] at l1 l2
 unfold pathT
 rw [this]
 simp only [List.length_cons, List.length_nil]
 omega
theorem joinQ_len (q : List UInt8) : (Lib.join (sortQ q) [38]).length ≤ 2 * q.length + 1 := by
 obtain ⟨l1, l2⟩ := sortQ_lens q
 cases hq : sortQ q with
 | nil => simp [Lib.join_nil]
 | cons x r => rw [hq] at l1 l2; rw [Lib.join_length]; simp at l1 ⊢; omega
theorem hasPre_47 {k : Nat} (x : List UInt8) : strings_HasPrefix k x ([47] : List UInt8) = some (q47 x) := by
 rw [strings_HasPrefix, internal_stringslite_HasPrefix, bif_dec]
 cases x with
 | nil => rfl
 | cons c r =>
  rw [if_pos (by simp; omega)]
  have : ssub (c :: r) (0 : Int) ((([47] : List UInt8).length : Nat) : Int) = some [c] := by
   have := ssub_take (x := c :: r) (i := 1) (by simp)
   simpa using this
  rw [this, Option.bind_some, Option.bind_some]
  unfold q47
  simp
theorem I_NormalTarget_eq {k : Nat} (hk : 1073741824 ≤ k) (s : List UInt8) (h : s.length < 134217728) : I_NormalTarget k s = some (normT s) := by
 obtain ⟨s1, s2⟩ := splitT_len s
 have d1 := decT_len (splitT s).1
 have d2 := decT_len (splitT s).2.1
 rw [I_NormalTarget, I_SplitTarget_eq s (by omega), Option.bind_some, I_decodedTarget_eq hk _ (by omega), Option.bind_some, I_decodedTarget_eq hk _ (by omega), Option.bind_some]
 unfold normT
 generalize decT (splitT s).1 = p at d1 ⊢
 generalize decT (splitT s).2.1 = q at d2 ⊢
 obtain ⟨p, b1⟩ := p
 obtain ⟨q, b2⟩ := q
 simp only at d1 d2
 cases b1 <;> cases b2 <;> simp only [Bool.not_true, Bool.not_false, cond_true, cond_false]
 rw [hasPre_47, Option.bind_some]
 cases hq : q47 p with
 | false => rfl
 | true =>
  have h0 : 0 < p.length := by
   cases p with
   | nil => simp [q47] at hq
   | cons c r => simp
  have pl := pathT_len p
  have jl := joinQ_len q
  have hc := cutP_len 38 q []
  obtain ⟨l1, l2⟩ := sortQ_lens q
  have fl := List.length_filter_le neP (cutP 38 q [])
  have hso : sortO ((cutP 38 q []).filter neP) = some (sortQ q) := by
   unfold sortO
   rw [decide_eq_true (by omega : ((cutP 38 q []).filter neP).length < 4611686018427387904)]; rfl
  rw [Bool.not_true, cond_false, I_path hk p (by omega) h0]
  rw [strings_Split_eq _ _ (by omega), Option.bind_some, del_eq hk _ (by omega), Option.bind_some, slices_Sort_string, hso, Option.bind_some, I_NormalTarget_c51, bif_dec]
  cases hsq : sortQ q with
  | nil => rw [if_neg (by simp)]; rfl
  | cons x r =>
   rw [hsq] at jl l1
   have hd : (decide ((x :: r).length ≤ 140737488355328) && decide ((Lib.join (x :: r) [38]).length ≤ 140737488355328)) = true := by
    rw [Bool.and_eq_true]; exact ⟨decide_eq_true (by omega), decide_eq_true (by omega)⟩
   rw [if_pos (by simp), strings_Join, joinO, hd, cond_true, Option.bind_some, cat_ok (by simp; omega), Option.bind_some, cat_ok (by simp; omega), Option.bind_some, Option.bind_some]
   simp
theorem I_IsNormalTarget_eq {k : Nat} (hk : 1073741824 ≤ k) (s : List UInt8) (h : s.length < 134217728) : I_IsNormalTarget k s = some ((normT s).2 && ((normT s).1 == s)) := by
 rw [I_IsNormalTarget, I_NormalTarget_eq hk s h, Option.bind_some]
 cases (normT s).2 <;> rfl
def badV (c : UInt8) : Bool := !inR (c.toNat : Int) 32 126 && c != 9
def bvP (x : List UInt8) (i : Nat) : Bool := match x[i]? with | some c => badV c | none => false
def valOK (x : List UInt8) : Bool := (firstI (bvP x) x.length 0).isNone && decide ((x.length : Int) ≤ 200) && (trimT x == x)
def nameOK (x : List UInt8) : Bool := isTok x && (lowT x == x)
def bfP (l : List IField) (i : Nat) : Bool := match l[i]? with | some e => !nameOK e.Name || !valOK e.Value | none => false
def areF (l : List IField) : Bool := (firstI (bfP l) l.length 0).isNone && decide ((l.length : Int) ≤ 24)
theorem u8_ne9 (c : UInt8) : ((UInt8.toNat c : Int) != (9 : Int)) = (c != 9) := by
 have := u8_eq c 9
 unfold bne
 rw [← this]; rfl
theorem I_isFieldValue_eq {k : Nat} (hk : 1073741824 ≤ k) (x : List UInt8) (h : x.length < 1073741824) : I_isFieldValue k x = some (valOK x) := by
 have := find_all (len := x.length) (c := fun i => bif bvP x i then some false else none) (F := fun n i => I_isFieldValue_b0 k n x (x.length : Int) i) (fun n i hi => by
  have hb := UInt8.toNat_lt x[i]
  simp only [I_isFieldValue_b0, idx_nat hi, Option.bind_some, wrap_succ (by omega : i < 9223372036854775807), bif_dec, lt_cast, hi, if_true, bvP, List.getElem?_eq_getElem hi, badV, u8_ne9]
  rw [wrap_id (by omega) (by omega), I_inRange_eq, Option.bind_some]
  cases inR (x[i].toNat : Int) 32 126 <;> cases (x[i] != 9) <;> rfl) (fun n i hi => by
  simp only [I_isFieldValue_b0, bif_dec, lt_cast]
  rw [if_neg (by omega)]) (k := k) (by omega)
 rw [I_isFieldValue, this, findI_first, I_TrimText_eq x h]
 unfold valOK
 cases firstI (bvP x) x.length 0 with
 | none => cases decide ((x.length : Int) ≤ 200) <;> simp [ocOf, oc]
 | some j => simp [ocOf, oc]
def shortF (l : List IField) : Prop := ∀ e ∈ l, e.Name.length < 1073741824 ∧ e.Value.length < 1073741824
theorem I_AreFields_eq {k : Nat} (hk : 1073741824 ≤ k) (l : List IField) (h : l.length < 1073741824) (hs : shortF l) : I_AreFields k l = some (areF l) := by
 have := find_all (len := l.length) (c := fun i => bif bfP l i then some false else none) (F := fun n i => I_AreFields_b0 k n l l (l.length : Int) i) (fun n i hi => by
  obtain ⟨h1, h2⟩ := hs l[i] (List.getElem_mem hi)
  simp only [I_AreFields_b0, idx_nat hi, Option.bind_some, wrap_succ (by omega : i < 9223372036854775807), bif_dec, lt_cast, hi, if_true, bfP, List.getElem?_eq_getElem hi, I_IsToken_eq hk _ h1, I_LowerText_eq hk _ h1, I_isFieldValue_eq hk _ h2, nameOK]
  cases isTok l[i].Name <;> cases (lowT l[i].Name == l[i].Name) <;> cases valOK l[i].Value <;> rfl) (fun n i hi => by
  simp only [I_AreFields_b0, bif_dec, lt_cast]
  rw [if_neg (by omega)]) (k := k) (by omega)
 rw [I_AreFields, this, findI_first]
 unfold areF
 cases firstI (bfP l) l.length 0 <;> simp [ocOf, oc]
def fsz (l : List IField) : Nat := l.length + (l.map fun e => e.Value.length).sum
def nmP (l : List IField) (n : List UInt8) (i : Nat) : Bool := match l[i]? with | some e => e.Name == n | none => false
def hasF (l : List IField) (n : List UInt8) : Bool := l.any fun e => e.Name == n
theorem firstI_any (l : List IField) (n : List UInt8) : (firstI (nmP l n) l.length 0).isSome = hasF l n := by
 unfold hasF
 cases hf : firstI (nmP l n) l.length 0 with
 | some j =>
  obtain ⟨_, h1, h2, _⟩ := firstI_some _ _ _ hf
  have hj : j < l.length := by omega
  simp only [nmP, List.getElem?_eq_getElem hj] at h2
  exact (List.any_eq_true.2 ⟨l[j], List.getElem_mem hj, h2⟩).symm
 | none =>
  have hn := firstI_none _ _ hf
  refine Eq.symm (List.any_eq_false.2 fun e he => ?_)
  obtain ⟨j, hj, rfl⟩ := List.mem_iff_getElem.1 he
  have := hn j (by omega) (by omega)
  simp only [nmP, List.getElem?_eq_getElem hj] at this
  rw [this]; simp
theorem I_hasField_eq {k : Nat} (hk : 1073741824 ≤ k) (l : List IField) (n : List UInt8) (h : l.length < 1073741824) : I_hasField k l n = some (hasF l n) := by
 have := find_all (len := l.length) (c := fun i => bif nmP l n i then some (i : Int) else none) (F := fun m i => slices_IndexFunc_IField_at_I_hasField_1_b0 k m l n (l.length : Int) i) (fun m i hi => by
  simp only [slices_IndexFunc_IField_at_I_hasField_1_b0, I_hasField_1, idx_nat hi, Option.bind_some, wrap_succ (by omega : i < 9223372036854775807), bif_dec, lt_cast, hi, if_true, nmP, List.getElem?_eq_getElem hi]
  cases (l[i].Name == n) <;> rfl) (fun m i hi => by
  simp only [slices_IndexFunc_IField_at_I_hasField_1_b0, bif_dec, lt_cast]
  rw [if_neg (by omega)]) (k := k) (by omega)
 rw [I_hasField, slices_ContainsFunc_IField_at_I_hasField_1, slices_IndexFunc_IField_at_I_hasField_1, this, findI_first, ← firstI_any]
 cases firstI (nmP l n) l.length 0 with
 | none => rfl
 | some j => simp [ocOf, oc]
def clen : List UInt8 := [99, 111, 110, 116, 101, 110, 116, 45, 108, 101, 110, 103, 116, 104]
def bP (p : UInt8 → Bool) (x : List UInt8) (i : Nat) : Bool := match x[i]? with | some c => p c | none => false
def noB (p : UInt8 → Bool) (x : List UInt8) : Bool := (firstI (bP p x) x.length 0).isNone
theorem bP_at {p : UInt8 → Bool} {x : List UInt8} {i : Nat} (h : i < x.length) : bP p x i = p x[i] := by simp only [bP, List.getElem?_eq_getElem h]
structure ReqIn (r : IRequest) : Prop where
 m : r.Method.length < 1073741824
 h : r.Host.length < 1073741824
 t : r.Target.length < 1073741824
 f : fsz r.Fields < 268435456
 s : shortF r.Fields
theorem noB_all (p : UInt8 → Bool) (x : List UInt8) : noB p x = x.all fun c => !p c := by
 unfold noB
 cases hf : firstI (bP p x) x.length 0 with
 | some j =>
  obtain ⟨_, h1, h2, _⟩ := firstI_some _ _ _ hf
  have hj : j < x.length := by omega
  rw [bP_at hj] at h2
  refine Eq.symm (List.all_eq_false.2 ⟨x[j], List.getElem_mem hj, by simp [h2]⟩)
 | none =>
  have hn := firstI_none _ _ hf
  refine Eq.symm (List.all_eq_true.2 fun c hc => ?_)
  obtain ⟨j, hj, rfl⟩ := List.mem_iff_getElem.1 hc
  have := hn j (by omega) (by omega)
  rw [bP_at hj] at this
  rw [this]; rfl
theorem u8_ne (c d : UInt8) : ((UInt8.toNat c : Int) != (UInt8.toNat d : Int)) = (c != d) := by
 have := u8_eq c d
 unfold bne
 rw [← this]
def isLow (c : UInt8) : Bool := inR (c.toNat : Int) 97 122
def badH (c : UInt8) : Bool := !inR (c.toNat : Int) 97 122 && (!inR (c.toNat : Int) 48 57 && (c != 45 && c != 46))
def badT (c : UInt8) : Bool := !inR (c.toNat : Int) 33 126
def hostT : List UInt8 := [104, 111, 115, 116]
def isReq (r : IRequest) : Bool :=
 noB isLow r.Method && noB badH r.Host && noB badT r.Target && isTok r.Method && inR (r.Host.length : Int) 1 40 && inR (r.Target.length : Int) 1 100 && (r.Target.head? == some 47) && areF r.Fields && decide ((r.Fields.length : Int) < 24) && !hasF r.Fields clen && !hasF r.Fields hostT
theorem idx0 {x : List UInt8} (h : inR (x.length : Int) 1 100 = true) : ∃ c, idx x (0 : Int) = some c ∧ x.head? = some c := by
 unfold inR at h
 simp only [Bool.and_eq_true, decide_eq_true_eq] at h
 cases x with
 | nil => simp at h
 | cons c r => exact ⟨c, rfl, rfl⟩
theorem I_isHost_eq {k : Nat} (hk : 1073741824 ≤ k) (x : List UInt8) (h : x.length < 1073741824) : I_isHost k x = some (noB badH x && inR (x.length : Int) 1 40) := by
 have := find_all (len := x.length) (c := fun i => bif bP badH x i then some false else none) (F := fun n i => I_isHost_b0 k n x (x.length : Int) i) (fun n i hi => by
  have hb := UInt8.toNat_lt x[i]
  have e45 : ((UInt8.toNat x[i] : Int) == (45 : Int)) = (x[i] == 45) := u8_eq x[i] 45
  have e46 : ((UInt8.toNat x[i] : Int) == (46 : Int)) = (x[i] == 46) := u8_eq x[i] 46
  simp only [I_isHost_b0, idx_nat hi, Option.bind_some, wrap_succ (by omega : i < 9223372036854775807), bif_dec, lt_cast, hi, if_true, bP_at hi, badH, e45, e46, inR, bne]
  by_cases a1 : 97 ≤ x[i].toNat <;> by_cases a2 : x[i].toNat ≤ 122 <;> by_cases a5 : 48 ≤ x[i].toNat <;> by_cases a6 : x[i].toNat ≤ 57 <;> cases (x[i] == 45) <;> cases (x[i] == 46) <;>
   simp [a1, a2, a5, a6, show ((x[i].toNat : Int) ≥ 97) = (97 ≤ x[i].toNat) from by simp; omega, show ((97 : Int) ≤ (x[i].toNat : Int)) = (97 ≤ x[i].toNat) from by simp; omega, show ((x[i].toNat : Int) ≤ 122) = (x[i].toNat ≤ 122) from by simp; omega, show ((x[i].toNat : Int) ≥ 48) = (48 ≤ x[i].toNat) from by simp; omega, show ((48 : Int) ≤ (x[i].toNat : Int)) = (48 ≤ x[i].toNat) from by simp; omega, show ((x[i].toNat : Int) ≤ 57) = (x[i].toNat ≤ 57) from by simp; omega]) (fun n i hi => by
  simp only [I_isHost_b0, bif_dec, lt_cast]
  rw [if_neg (by omega)]) (k := k) (by omega)
 rw [I_isHost, this, findI_first]
 unfold noB
 cases firstI (bP badH x) x.length 0 <;> simp [ocOf, oc, I_inRange_eq]
theorem tok_asc : ∀ j : Fin 256, (!tokB (UInt8.ofNat j.val) || decide ((UInt8.ofNat j.val).toNat < 128)) = true := by decide +kernel
theorem upp_tab : ∀ j : Fin 256, (Lib.upperB (UInt8.ofNat j.val) == UInt8.ofNat j.val) = !isLow (UInt8.ofNat j.val) := by decide +kernel
theorem upp_eq (c : UInt8) : (Lib.upperB c == c) = !isLow c := by
 have := upp_tab ⟨c.toNat, UInt8.toNat_lt c⟩
 simpa using this
theorem isTok_asc {x : List UInt8} (h : isTok x = true) : (x.all fun c => decide (c.toNat < 128)) = true := by
 unfold isTok at h
 simp only [Bool.and_eq_true] at h
 have hn : noB (fun c => !tokB c) x = true := h.1
 rw [noB_all] at hn
 refine List.all_eq_true.2 fun c hc => ?_
 have h1 := List.all_eq_true.1 hn c hc
 have h2 := tok_asc ⟨c.toNat, UInt8.toNat_lt c⟩
 simp at h1 h2
 simpa [h1] using h2
theorem upp_all : ∀ x : List UInt8, (Lib.toUpperA x == x) = noB isLow x
 | [] => rfl
 | c :: r => by
  have ih := upp_all r
  rw [noB_all] at ih ⊢
  have e : Lib.toUpperA (c :: r) = Lib.upperB c :: Lib.toUpperA r := rfl
  rw [e, List.cons_beq_cons, upp_eq, ih, List.all_cons]
theorem toUpper_ok {k : Nat} {x : List UInt8} (h : isTok x = true) (hl : x.length < 1073741824) : strings_ToUpper k x = some (Lib.toUpperA x) := by
 rw [strings_ToUpper, toUpperO, isTok_asc h, decide_eq_true (by omega)]; rfl
theorem I_IsRequest_eq {k : Nat} (hk : 1073741824 ≤ k) (r : IRequest) (h : ReqIn r) : I_IsRequest k r = some (isReq r) := by
 have hl : r.Fields.length < 1073741824 := by have := h.f; unfold fsz at this; omega
 have hb0 : I_IsRequest_b0 k k (r.Target.length : Int) 0 r.Method r.Host r.Target r.Fields = some (ocOf (bif noB badT r.Target then none else some false)) := by
  have := find_all (len := r.Target.length) (c := fun i => bif bP badT r.Target i then some false else none) (F := fun n i => I_IsRequest_b0 k n (r.Target.length : Int) i r.Method r.Host r.Target r.Fields) (fun n i hi => by
   have hb := UInt8.toNat_lt r.Target[i]
   have := h.t
   simp only [I_IsRequest_b0, idx_nat hi, Option.bind_some, wrap_succ (by omega : i < 9223372036854775807), bif_dec, lt_cast, hi, if_true, bP_at hi, badT]
   rw [wrap_id (by omega) (by omega), I_inRange_eq, Option.bind_some]
   cases inR (r.Target[i].toNat : Int) 33 126 <;> rfl) (fun n i hi => by
   simp only [I_IsRequest_b0, bif_dec, lt_cast]
   rw [if_neg (by omega)]) (k := k) (by have := h.t; omega)
  rw [this, findI_first]
  unfold noB
  cases firstI (bP badT r.Target) r.Target.length 0 <;> rfl
 have hh1 : I_hasField k r.Fields ([104, 111, 115, 116] : List UInt8) = some (hasF r.Fields hostT) := I_hasField_eq hk _ _ hl
 have hh2 : I_hasField k r.Fields ([99, 111, 110, 116, 101, 110, 116, 45, 108, 101, 110, 103, 116, 104] : List UInt8) = some (hasF r.Fields clen) := I_hasField_eq hk _ _ hl
 rw [I_IsRequest, I_IsToken_eq hk _ h.m, Option.bind_some]
 unfold isReq
 cases hm : isTok r.Method with
 | false => simp
 | true =>
  rw [Bool.not_true, cond_false, toUpper_ok hm h.m, Option.bind_some, upp_all, I_isHost_eq hk _ h.h, Option.bind_some]
  cases noB isLow r.Method with
  | false => rfl
  | true =>
   cases noB badH r.Host with
   | false => rfl
   | true =>
    cases inR (r.Host.length : Int) 1 40 with
    | false => simp
    | true =>
     rw [I_inRange_eq, Option.bind_some]
     cases ht : inR (r.Target.length : Int) 1 100 with
     | false => simp
     | true =>
      obtain ⟨c, hc, hd⟩ := idx0 ht
      have e47 : ((UInt8.toNat c : Int) != (47 : Int)) = (c != 47) := u8_ne c 47
      have e47' : (some c == some (47 : UInt8)) = (c == 47) := by cases h : (c == 47) <;> simp_all
      rw [hc, hd, Option.bind_some, e47, e47', hb0, I_AreFields_eq hk _ hl h.s, hh1, hh2]
      unfold bne
      cases (c == 47) <;> cases noB badT r.Target <;> cases areF r.Fields <;> cases decide ((r.Fields.length : Int) < 24) <;> cases hasF r.Fields hostT <;> cases hasF r.Fields clen <;> rfl
def tgtP (x : List IResource) (s : List UInt8) (i : Nat) : Bool := match x[i]? with | some e => e.Target == s | none => false
def findR (x : List IResource) (s : List UInt8) : Int := match firstI (tgtP x s) x.length 0 with | some j => (j : Int) | none => -1
theorem I_FindResource_eq {k : Nat} (hk : 1073741824 ≤ k) (o : IOrigin) (s : List UInt8) (h : o.Resources.length < 1073741824) : I_FindResource k o s = some (findR o.Resources s) := by
 have := find_all (len := o.Resources.length) (c := fun i => bif tgtP o.Resources s i then some (i : Int) else none) (F := fun n i => slices_IndexFunc_IResource_at_I_FindResource_1_b0 k n o.Resources s (o.Resources.length : Int) i) (fun n i hi => by
  simp only [slices_IndexFunc_IResource_at_I_FindResource_1_b0, I_FindResource_1, idx_nat hi, Option.bind_some, wrap_succ (by omega : i < 9223372036854775807), bif_dec, lt_cast, hi, if_true, tgtP, List.getElem?_eq_getElem hi]
  cases (o.Resources[i].Target == s) <;> rfl) (fun n i hi => by
  simp only [slices_IndexFunc_IResource_at_I_FindResource_1_b0, bif_dec, lt_cast]
  rw [if_neg (by omega)]) (k := k) (by omega)
 rw [I_FindResource, slices_IndexFunc_IResource_at_I_FindResource_1, this, findI_first]
 unfold findR
 cases firstI (tgtP o.Resources s) o.Resources.length 0 <;> rfl
def allB (p : Nat → Bool) (m i : Nat) : Bool := (findI (fun j => bif p j then none else some false) m i).isNone
theorem allB_succ (p : Nat → Bool) (m i : Nat) : allB p (m + 1) i = (p i && allB p m (i + 1)) := by
 unfold allB
 rw [findI]
 cases p i <;> rfl
theorem allB_congr {p q : Nat → Bool} : ∀ (m i : Nat), (∀ j, i ≤ j → j < i + m → p j = q j) → allB p m i = allB q m i
 | 0, _, _ => rfl
 | m + 1, i, h => by
  rw [allB_succ, allB_succ, h i (by omega) (by omega), allB_congr m (i + 1) fun j h1 h2 => h j (by omega) (by omega)]
theorem allB_find {p : Nat → Bool} : ∀ (m i : Nat), ocOf (findI (fun j => bif p j then none else some false) m i) = bif allB p m i then .nrm () else .oth false
 | 0, _ => rfl
 | m + 1, i => by
  rw [allB_succ, findI]
  cases p i with
  | false => rfl
  | true => exact allB_find m (i + 1)
theorem all_loop {len : Nat} {p : Nat → Bool} {F : Nat → Int → Option (Oc Unit Bool)}
    (T : ∀ n i, i < len → F (n + 1) (i : Int) = bif p i then F n ((i + 1 : Nat) : Int) else some (.oth false))
    (E : ∀ n i, len ≤ i → F (n + 1) (i : Int) = some (.nrm ())) {k : Nat} (hk : len < k) : F k 0 = some (bif allB p len 0 then .nrm () else .oth false) := by
 have := find_all (R := Bool) (len := len) (c := fun j => bif p j then none else some false) (F := F) (fun n i h => by
  rw [T n i h]
  cases p i <;> rfl) E hk
 rw [this, allB_find]
def tokP (l : List (List UInt8)) (i : Nat) : Bool := match l[i]? with | some e => isTok e | none => true
def keysT (s : List UInt8) : Bool := bif s == [] then true else allB (tokP (cutP 32 s [])) (cutP 32 s []).length 0 && decide (((cutP 32 s []).length : Int) ≤ 4)
theorem keys_idx {k : Nat} (hk : 1073741824 ≤ k) {l : List (List UInt8)} (hl : l.length < 1073741824) (hm : ∀ e ∈ l, e.length < 1073741824) : slices_ContainsFunc_string_at_I_areKeys_1 k l = some (!allB (tokP l) l.length 0) := by
 have main : ∀ (n i : Nat), i ≤ l.length → l.length - i < n → ∃ o, slices_IndexFunc_string_at_I_areKeys_1_b0 k n l (l.length : Int) (i : Int) = some o ∧ ((o = .nrm () ∧ allB (tokP l) (l.length - i) i = true) ∨ ∃ j : Nat, o = .oth (j : Int) ∧ allB (tokP l) (l.length - i) i = false) := by
  intro n
  induction n with
  | zero => intro i _ h; omega
  | succ n ih =>
   intro i hi hn
   rw [slices_IndexFunc_string_at_I_areKeys_1_b0, bif_dec]
   by_cases c : i < l.length
   ·have ht : tokP l i = isTok l[i] := by unfold tokP; rw [List.getElem?_eq_getElem c]
    rw [if_pos (by omega), idx_nat c, Option.bind_some, I_areKeys_1, I_IsToken_eq hk _ (hm _ (List.getElem_mem c)), Option.bind_some, Option.bind_some, wrap_succ (by omega), show l.length - i = (l.length - (i + 1)) + 1 by omega, allB_succ, ht]
    cases isTok l[i] with
    | false => exact ⟨_, rfl, .inr ⟨i, rfl, rfl⟩⟩
    | true => exact ih (i + 1) (by omega) (by omega)
   ·rw [if_neg (by omega), show l.length - i = 0 by omega]
    exact ⟨_, rfl, .inl ⟨rfl, rfl⟩⟩
 obtain ⟨o, h1, h2⟩ := main k 0 (by omega) (by omega)
 have h1' : slices_IndexFunc_string_at_I_areKeys_1_b0 k k l (l.length : Int) 0 = some o := h1
 rw [slices_ContainsFunc_string_at_I_areKeys_1, slices_IndexFunc_string_at_I_areKeys_1, h1', Option.bind_some]
 rw [Nat.sub_zero] at h2
 rcases h2 with ⟨rfl, h2⟩ | ⟨j, rfl, h2⟩
 ·rw [h2]; rfl
 ·rw [h2]
  simp only [oc, Option.bind_some]
  rw [decide_eq_true (by omega)]; rfl
theorem I_areKeys_eq {k : Nat} (hk : 1073741824 ≤ k) (s : List UInt8) (h : s.length < 1073741000) : I_areKeys k s = some (keysT s) := by
 have hl := cutP_len 32 s []
 rw [I_areKeys, strings_Split_eq s 32 (by omega), Option.bind_some, keys_idx hk (by omega) (fun e he => by have := cutP_mem 32 s [] _ he; simp only [List.length_nil] at this; omega), Option.bind_some, Bool.not_not]
 unfold keysT
 cases (s == []) with
 | true => rfl
 | false => cases decide (((cutP 32 s []).length : Int) ≤ 4) <;> cases allB (tokP (cutP 32 s [])) (cutP 32 s []).length 0 <;> rfl
def eqAt (l : List (List UInt8)) (e : List UInt8) (j : Nat) : Bool := match l[j]? with | some x => !(x == e) | none => true
def langP (l : List (List UInt8)) (i : Nat) : Bool := match l[i]? with
 | some e => allB (eqAt l e) i 0 && (nameOK e && (decide ((e.length : Int) ≤ 8) && !(e == [42])))
 | none => true
def verP (l : List IVersion) (i : Nat) : Bool := match l[i]? with
 | some e => inR e.At 0 4102444799 && (decide ((e.Text.length : Int) ≤ 400) && (bif decide (0 < i) then (match l[i - 1]? with | some f => decide (f.At < e.At) | none => true) else true))
 | none => true
def resT (r : IResource) : Bool :=
 allB (langP r.Langs) r.Langs.length 0 && (allB (verP r.Versions) r.Versions.length 0 && (((normT r.Target).2 && ((normT r.Target).1 == r.Target)) && (decide ((r.Target.length : Int) ≤ 100) && (valOK r.Control && (decide ((r.Control.length : Int) ≤ 150) && (keysT r.Keys && (decide ((r.Langs.length : Int) ≤ 4) && inR (r.Versions.length : Int) 1 8)))))))
structure ResIn (r : IResource) : Prop where
 ht : r.Target.length < 134217728
 hc : r.Control.length < 134217728
 hk : r.Keys.length < 134217728
 hl : r.Langs.length < 134217728
 hle : ∀ e ∈ r.Langs, e.length < 134217728
 hv : r.Versions.length < 134217728
theorem dec_gt (a b : Int) : decide (a > b) = !decide (a ≤ b) := by
 by_cases h : a ≤ b
 ·rw [decide_eq_true h, decide_eq_false (by omega)]; rfl
 ·rw [decide_eq_false h, decide_eq_true (by omega)]; rfl
theorem dec_ge (a b : Int) : decide (a ≥ b) = !decide (a < b) := by
 by_cases h : a < b
 ·rw [decide_eq_true h, decide_eq_false (by omega)]; rfl
 ·rw [decide_eq_false h, decide_eq_true (by omega)]; rfl
theorem slices_Contains_eq {k : Nat} (hk : 1073741824 ≤ k) {x : List (List UInt8)} {e : List UInt8} (hl : x.length < 1073741824) : slices_Contains_string k x e = some (!allB (eqAt x e) x.length 0) := by
 have main : ∀ (n i : Nat), i ≤ x.length → x.length - i < n → ∃ o, slices_Index_string_b0 k n x e (x.length : Int) (i : Int) = some o ∧ ((o = .nrm () ∧ allB (eqAt x e) (x.length - i) i = true) ∨ ∃ j : Nat, o = .oth (j : Int) ∧ allB (eqAt x e) (x.length - i) i = false) := by
  intro n
  induction n with
  | zero => intro i _ h; omega
  | succ n ih =>
   intro i hi hn
   rw [slices_Index_string_b0, bif_dec]
   by_cases c : i < x.length
   ·have ht : eqAt x e i = !(e == x[i]) := by unfold eqAt; rw [List.getElem?_eq_getElem c]; simp only; rw [BEq.comm]
    rw [if_pos (by omega), idx_nat c, Option.bind_some, wrap_succ (by omega), show x.length - i = (x.length - (i + 1)) + 1 by omega, allB_succ, ht]
    cases (e == x[i]) with
    | true => exact ⟨_, rfl, .inr ⟨i, rfl, rfl⟩⟩
    | false => exact ih (i + 1) (by omega) (by omega)
   ·rw [if_neg (by omega), show x.length - i = 0 by omega]
    exact ⟨_, rfl, .inl ⟨rfl, rfl⟩⟩
 obtain ⟨o, h1, h2⟩ := main k 0 (by omega) (by omega)
 have h1' : slices_Index_string_b0 k k x e (x.length : Int) 0 = some o := h1
 rw [slices_Contains_string, slices_Index_string, h1', Option.bind_some]
 rw [Nat.sub_zero] at h2
 rcases h2 with ⟨rfl, h2⟩ | ⟨j, rfl, h2⟩
 ·rw [h2]; rfl
 ·rw [h2]
  simp only [oc, Option.bind_some]
  rw [decide_eq_true (by omega)]; rfl
theorem I_langs {k : Nat} {y0 y1 y2 : List UInt8} {y3 : Bool} {l : List (List UInt8)} {y5 : List IVersion} (hk : 1073741824 ≤ k) (hl : l.length < 134217728) (hle : ∀ e ∈ l, e.length < 134217728) :
    I_isResource_b0 k k l (l.length : Int) 0 y0 y1 y2 y3 l y5 = some (bif allB (langP l) l.length 0 then .nrm () else .oth false) :=
 all_loop (len := l.length) (p := langP l) (F := fun n j => I_isResource_b0 k n l (l.length : Int) j y0 y1 y2 y3 l y5) (fun n i hi => by
  have hh := hle _ (List.getElem_mem hi)
  have h0 : ssub l (0 : Int) (i : Int) = some (l.take i) := by rw [ssub_ok (by omega) (by omega) (by omega)]; rfl
  have hc : allB (eqAt (l.take i) l[i]) (l.take i).length 0 = allB (eqAt l l[i]) i 0 := by
   rw [List.length_take, Nat.min_eq_left (by omega)]
   refine allB_congr i 0 fun j _ hj => ?_
   unfold eqAt
   rw [List.getElem?_take_of_lt (by omega)]
  rw [I_isResource_b0, bif_dec, if_pos (by omega), idx_nat hi, Option.bind_some, I_IsToken_eq hk _ (by omega), Option.bind_some, I_LowerText_eq hk _ (by omega), Option.bind_some, dec_gt, h0, Option.bind_some, slices_Contains_eq hk (by simp; omega), Option.bind_some, hc, wrap_succ (by omega)]
  unfold langP nameOK
  rw [List.getElem?_eq_getElem hi]
  simp only
  cases allB (eqAt l l[i]) i 0 <;> cases isTok l[i] <;> cases (lowT l[i] == l[i]) <;> cases decide ((l[i].length : Int) ≤ 8) <;> cases (l[i] == [42]) <;> rfl) (fun n j hj => by
  rw [I_isResource_b0, bif_dec, if_neg (by omega)]) (by omega)
theorem I_vers {k : Nat} {y0 y1 y2 : List UInt8} {y3 : Bool} {y4 : List (List UInt8)} {l : List IVersion} (hk : 1073741824 ≤ k) (hl : l.length < 134217728) :
    I_isResource_b2 k k l (l.length : Int) 0 y0 y1 y2 y3 y4 l = some (bif allB (verP l) l.length 0 then .nrm () else .oth false) :=
 all_loop (len := l.length) (p := verP l) (F := fun n j => I_isResource_b2 k n l (l.length : Int) j y0 y1 y2 y3 y4 l) (fun n i hi => by
  rw [I_isResource_b2, bif_dec, if_pos (by omega), idx_nat hi, Option.bind_some, I_inRange_eq, Option.bind_some, dec_gt (l[i].Text.length : Int) 400, wrap_succ (by omega)]
  unfold verP
  rw [List.getElem?_eq_getElem hi]
  simp only
  by_cases c : 0 < i
  ·have e1 : IntKind.wrap .i64 ((i : Int) - 1) = ((i - 1 : Nat) : Int) := by rw [wrap_id (by omega) (by omega)]; omega
   have h1 : i - 1 < l.length := by omega
   rw [decide_eq_true (by omega : (i : Int) > 0), cond_true, e1, idx_nat h1, Option.bind_some, dec_ge l[i - 1].At l[i].At, decide_eq_true c, cond_true, List.getElem?_eq_getElem h1]
   simp only
   cases inR l[i].At 0 4102444799 <;> cases decide ((l[i].Text.length : Int) ≤ 400) <;> cases decide (l[i - 1].At < l[i].At) <;> rfl
  ·rw [decide_eq_false (by omega : ¬ (i : Int) > 0), cond_false, decide_eq_false c, cond_false]
   cases inR l[i].At 0 4102444799 <;> cases decide ((l[i].Text.length : Int) ≤ 400) <;> rfl) (fun n j hj => by
  rw [I_isResource_b2, bif_dec, if_neg (by omega)]) (by omega)
theorem I_isResource_eq {k : Nat} (hk : 1073741824 ≤ k) (r : IResource) (h : ResIn r) : I_isResource k r = some (resT r) := by
 have ht := h.ht
 have hc := h.hc
 have hkk := h.hk
 rw [I_isResource, I_IsNormalTarget_eq hk _ ht, Option.bind_some, dec_gt, I_isFieldValue_eq hk _ (by omega), Option.bind_some, dec_gt, I_areKeys_eq hk _ (by omega), Option.bind_some, dec_gt, I_inRange_eq, Option.bind_some, I_langs hk h.hl h.hle, Option.bind_some, I_vers hk h.hv, Option.bind_some]
 unfold resT
 generalize ((normT r.Target).2 && ((normT r.Target).1 == r.Target)) = b1
 cases allB (langP r.Langs) r.Langs.length 0 <;> cases allB (verP r.Versions) r.Versions.length 0 <;> cases b1 <;> cases decide ((r.Target.length : Int) ≤ 100) <;> cases valOK r.Control <;> cases decide ((r.Control.length : Int) ≤ 150) <;> cases keysT r.Keys <;> cases decide ((r.Langs.length : Int) ≤ 4) <;> cases inR (r.Versions.length : Int) 1 8 <;> rfl
def orgP (l : List IResource) (i : Nat) : Bool := match l[i]? with | some e => resT e && (findR l e.Target == (i : Int)) | none => true
def askO (h : List UInt8) : IRequest := ⟨[71, 69, 84], h, [47], []⟩
def orgT (o : IOrigin) : Bool := allB (orgP o.Resources) o.Resources.length 0 && (decide ((o.Resources.length : Int) ≤ 12) && isReq (askO o.Host))
structure OrgIn (o : IOrigin) : Prop where
 hh : o.Host.length < 134217728
 hr : o.Resources.length < 134217728
 hre : ∀ e ∈ o.Resources, ResIn e
theorem askO_in {h : List UInt8} (hh : h.length < 134217728) : ReqIn (askO h) := ⟨by simp [askO], by simp only [askO]; omega, by simp [askO], by simp [askO, fsz], fun e he => by simp [askO] at he⟩
theorem I_IsOrigin_eq {k : Nat} (hk : 1073741824 ≤ k) (o : IOrigin) (h : OrgIn o) : I_IsOrigin k o = some (orgT o) := by
 have hr := h.hr
 have hb := all_loop (len := o.Resources.length) (p := orgP o.Resources) (F := fun n j => I_IsOrigin_b0 k n o.Resources (o.Resources.length : Int) j o.Host o.Resources) (fun n i hi => by
  have hq := I_FindResource_eq hk (⟨o.Host, o.Resources⟩ : IOrigin) (o.Resources[i]).Target (by simp only; omega)
  rw [I_IsOrigin_b0, bif_dec, if_pos (by omega), idx_nat hi, Option.bind_some, hq, Option.bind_some, I_isResource_eq hk _ (h.hre _ (List.getElem_mem hi)), Option.bind_some, wrap_succ (by omega), bne]
  unfold orgP
  rw [List.getElem?_eq_getElem hi]
  simp only
  cases resT o.Resources[i] <;> cases (findR o.Resources (o.Resources[i]).Target == (i : Int)) <;> rfl) (fun n j hj => by
  rw [I_IsOrigin_b0, bif_dec, if_neg (by omega)]) (k := k) (by omega)
 have hb' : I_IsOrigin_b0 k k o.Resources (o.Resources.length : Int) 0 o.Host o.Resources = _ := hb
 have ha : I_IsRequest k ⟨[71, 69, 84], o.Host, [47], []⟩ = some (isReq (askO o.Host)) := I_IsRequest_eq hk _ (askO_in h.hh)
 rw [I_IsOrigin, ha, Option.bind_some, hb', Option.bind_some, dec_gt]
 unfold orgT
 cases allB (orgP o.Resources) o.Resources.length 0 <;> cases decide ((o.Resources.length : Int) ≤ 12) <;> cases isReq (askO o.Host) <;> rfl
theorem I_copyOrigin_eq {k : Nat} (hk : 1073741824 ≤ k) (o : IOrigin) (h : o.Resources.length < 1073741824) (hb : ∀ e ∈ o.Resources, e.Langs.length < 1073741824 ∧ e.Versions.length < 1073741824) : I_copyOrigin k o = some o := by
 have := fold_all (len := o.Resources.length) (g := fun j s => s ++ (o.Resources[j]?).elim [] fun e => [e]) (Inv := fun i s => s.length ≤ i) (F := fun m i s => I_copyOrigin_b0 k m o.Resources (o.Resources.length : Int) i ([] : List UInt8) o.Host s) (out := id) (fun m i s hi hI => by
  have hI : s.length ≤ i := hI
  obtain ⟨b1, b2⟩ := hb _ (List.getElem_mem hi)
  have c1 : slices_Clone_string k o.Resources[i].Langs = some o.Resources[i].Langs := by rw [slices_Clone_string, appn_ok (by simp; omega)]; rfl
  have c2 : slices_Clone_IVersion k o.Resources[i].Versions = some o.Resources[i].Versions := by rw [slices_Clone_IVersion, appn_ok (by simp; omega)]; rfl
  rw [I_copyOrigin_b0, bif_dec, if_pos (by omega), idx_nat hi, Option.bind_some, c1, Option.bind_some, c2, Option.bind_some, appn_ok (by simp; omega), Option.bind_some, wrap_succ (by omega), List.getElem?_eq_getElem hi, Option.elim_some]
  exact ⟨rfl, by simp only [List.length_append, List.length_cons, List.length_nil]; omega⟩) (fun m i s hi => by
  rw [I_copyOrigin_b0, bif_dec, if_neg (by omega)]; rfl) (k := k) (by omega) (s := []) (by simp)
 have h1 : I_copyOrigin_b0 k k o.Resources (o.Resources.length : Int) 0 ([] : List UInt8) o.Host [] = some (foldI (fun j s => s ++ (o.Resources[j]?).elim [] fun e => [e]) o.Resources.length 0 []) := this.1
 rw [I_copyOrigin, h1, foldI_append (f := fun e => [e]) o.Resources.length 0 [] (by omega), List.drop_zero, List.nil_append, Option.bind_some]
 simp
theorem allB_iff {p : Nat → Bool} : ∀ (m i : Nat), allB p m i = true ↔ ∀ j, i ≤ j → j < i + m → p j = true
 | 0, i => ⟨fun _ j h1 h2 => by omega, fun _ => rfl⟩
 | m + 1, i => by
  rw [allB_succ, Bool.and_eq_true, allB_iff m (i + 1)]
  constructor
  ·rintro ⟨h1, h2⟩ j h3 h4
   by_cases e : j = i
   ·exact e ▸ h1
   ·exact h2 j (by omega) (by omega)
  ·exact fun h => ⟨h i (by omega) (by omega), fun j h1 h2 => h j (by omega) (by omega)⟩
def addVer (e : IResource) (v : IVersion) : IResource := ⟨e.Target, e.Control, e.Keys, e.Private, e.Langs, e.Versions ++ [v]⟩
def pubO (o : IOrigin) (i : Nat) (e : IResource) : IOrigin := ⟨o.Host, o.Resources.set i e⟩
theorem findR_set {l : List IResource} {i : Nat} (h : i < l.length) (v : IVersion) (s : List UInt8) : findR (l.set i (addVer l[i] v)) s = findR l s := by
 have : firstI (tgtP (l.set i (addVer l[i] v)) s) l.length 0 = firstI (tgtP l s) l.length 0 := firstI_congr _ _ fun j _ hj => by
  unfold tgtP
  rw [List.getElem?_set]
  by_cases e : i = j
  ·subst e
   rw [if_pos rfl, if_pos h, List.getElem?_eq_getElem h]; rfl
  ·rw [if_neg e]
 unfold findR
 rw [List.length_set, this]
theorem orgT_pub {o : IOrigin} {i : Nat} (h : i < o.Resources.length) (v : IVersion) (ho : orgT o = true) : orgT (pubO o i (addVer o.Resources[i] v)) = resT (addVer o.Resources[i] v) := by
 unfold orgT at ho ⊢
 simp only [Bool.and_eq_true] at ho
 obtain ⟨h1, h2, h3⟩ := ho
 have hp := (allB_iff _ _).1 h1
 unfold pubO
 simp only [List.length_set, h2, h3, Bool.and_true]
 have hj : ∀ j, j < o.Resources.length → orgP (o.Resources.set i (addVer o.Resources[i] v)) j = if j = i then resT (addVer o.Resources[i] v) else true := by
  intro j hj
  have hpj := hp j (by omega) (by omega)
  unfold orgP at hpj ⊢
  rw [List.getElem?_eq_getElem hj] at hpj
  simp only [Bool.and_eq_true] at hpj
  rw [List.getElem?_set]
  by_cases e : j = i
  ·subst e
   rw [if_pos rfl, if_pos h, if_pos rfl]
   simp only
   rw [findR_set h v]
   have : (findR o.Resources (addVer o.Resources[j] v).Target == (j : Int)) = true := hpj.2
   rw [this, Bool.and_true]
  ·rw [if_neg (fun x => e x.symm), if_neg e, List.getElem?_eq_getElem hj]
   simp only
   rw [findR_set h v, hpj.1, hpj.2]; rfl
 cases hr : resT (addVer o.Resources[i] v) with
 | true => exact (allB_iff _ _).2 fun j _ h2 => by rw [hj j (by omega), hr]; split <;> rfl
 | false =>
  cases ha : allB (orgP (o.Resources.set i (addVer o.Resources[i] v))) o.Resources.length 0 with
  | false => rfl
  | true =>
   have := (allB_iff _ _).1 ha i (by omega) (by omega)
   rw [hj i h, if_pos rfl, hr] at this
   cases this
def pubT (o : IOrigin) (s : List UInt8) (v : IVersion) : IOrigin × Bool :=
 match firstI (tgtP o.Resources s) o.Resources.length 0 with
 | none => (o, false)
 | some i => match o.Resources[i]? with
  | none => (o, false)
  | some e => bif orgT o && resT (addVer e v) then (pubO o i (addVer e v), true) else (o, false)
theorem OrgIn.ver {o : IOrigin} (h : OrgIn o) : ∀ e ∈ o.Resources, e.Langs.length < 1073741824 ∧ e.Versions.length < 1073741824 := fun e he => by
 have k1 := (h.hre e he).hl
 have k2 := (h.hre e he).hv
 omega
theorem addVer_in {e : IResource} {v : IVersion} (h : ResIn e) (hv : e.Versions.length + 1 < 134217728) : ResIn (addVer e v) := ⟨h.ht, h.hc, h.hk, h.hl, h.hle, by simp [addVer]; omega⟩
theorem pub_in {o : IOrigin} {i : Nat} {e : IResource} (h : OrgIn o) (he : ResIn e) : OrgIn (pubO o i e) := ⟨h.hh, by unfold pubO; simp only [List.length_set]; exact h.hr, fun x hx => by
 rcases List.mem_or_eq_of_mem_set hx with hx | rfl
 ·exact h.hre x hx
 ·exact he⟩
theorem I_PublishPage_eq {k : Nat} (hk : 1073741824 ≤ k) (o : IOrigin) (s : List UInt8) (v : IVersion) (h : OrgIn o) (hv : ∀ e ∈ o.Resources, e.Versions.length + 1 < 134217728) : I_PublishPage k o s v = some (pubT o s v) := by
 have hr := h.hr
 rw [I_PublishPage, I_copyOrigin_eq hk o (by omega) h.ver, Option.bind_some, I_FindResource_eq hk o s (by omega), Option.bind_some, I_IsOrigin_eq hk o h, Option.bind_some]
 unfold pubT findR
 cases hf : firstI (tgtP o.Resources s) o.Resources.length 0 with
 | none => rfl
 | some i =>
  have hi := firstI_lt hf
  have hve := hv _ (List.getElem_mem hi)
  have hre := h.hre _ (List.getElem_mem hi)
  simp only
  rw [decide_eq_false (by omega), cond_false, List.getElem?_eq_getElem hi]
  simp only
  cases ho : orgT o with
  | false => rfl
  | true =>
   have hres : I_IsOrigin k (pubO o i (addVer o.Resources[i] v)) = some (resT (addVer o.Resources[i] v)) := by rw [I_IsOrigin_eq hk _ (pub_in h (addVer_in hre hve)), orgT_pub hi v ho]
   rw [Bool.not_true, cond_false, idx_nat hi, Option.bind_some, Option.bind_some, appn_ok (by simp; omega), Option.bind_some, Option.bind_some, guardT_self, Int.toNat_natCast]
   change ((I_IsOrigin k (pubO o i (addVer o.Resources[i] v))).bind fun w6 => bif !w6 then (some o).bind fun w7 => some (w7, false) else some (pubO o i (addVer o.Resources[i] v), true)) = _
   rw [hres, Option.bind_some]
   cases resT (addVer o.Resources[i] v) <;> rfl
def CurOk (c : Sl1Cur) : Prop := 0 ≤ c.i ∧ c.i ≤ (c.b.length : Int) ∧ c.b.length ≤ 1048576
theorem and255 (n : Int) : 0 ≤ andI .i64 n 255 ∧ andI .i64 n 255 ≤ 255 := by
 have h : (BitVec.ofInt 64 n &&& BitVec.ofInt 64 255).toNat ≤ 255 := by
  rw [BitVec.toNat_and]; exact Nat.le_trans Nat.and_le_right (by decide)
 show 0 ≤ IntKind.wrap .i64 (((BitVec.ofInt 64 n &&& BitVec.ofInt 64 255).toNat : Nat) : Int) ∧ IntKind.wrap .i64 (((BitVec.ofInt 64 n &&& BitVec.ofInt 64 255).toNat : Nat) : Int) ≤ 255
 rw [wrap_id (by omega) (by omega)]; omega
theorem S_l1Byte_tot {k : Nat} {c : Sl1Cur} (h : CurOk c) : ∃ v c', S_l1Byte k c = some (v, c') ∧ (0 ≤ v ∧ v ≤ 255) ∧ CurOk c' := by
 obtain ⟨b, i, hh⟩ := c
 obtain ⟨h1, h2, h3⟩ := h
 obtain ⟨n, rfl⟩ := Int.eq_ofNat_of_zero_le h1
 have h2 : (n : Int) ≤ (b.length : Int) := h2
 have h3 : b.length ≤ 1048576 := h3
 unfold S_l1Byte
 generalize IntKind.wrap .i64 (IntKind.wrap .i64 ((⟨b, (n : Int), hh⟩ : Sl1Cur).h * 6364136223846793005) + 1442695040888963407) = g
 obtain ⟨q1, e1⟩ : ∃ q, shrI .i64 g 33 = some q := ⟨_, rfl⟩
 obtain ⟨q2, e2⟩ : ∃ q, shrI .i64 g 47 = some q := ⟨_, rfl⟩
 rw [e1, Option.bind_some, e2, Option.bind_some, S_l1Byte_c34, bif_dec]
 by_cases c : (n : Int) < (b.length : Int)
 ·have e3 : idx b (n : Int) = some b[n] := idx_nat (by omega)
  rw [if_pos c]
  simp only [e3, Option.bind_some]
  refine ⟨_, _, rfl, and255 _, ?_, ?_, h3⟩
  ·show 0 ≤ IntKind.wrap .i64 ((n : Int) + 1)
   rw [wrap_succ (by omega)]; omega
  ·show IntKind.wrap .i64 ((n : Int) + 1) ≤ (b.length : Int)
   rw [wrap_succ (by omega)]; omega
 ·rw [if_neg c, Option.bind_some]
  exact ⟨_, _, rfl, and255 _, h1, h2, h3⟩
theorem md_pos {a n : Int} (h : 0 ≤ a) (hn : 0 < n) : ∃ r, md a n = some r ∧ 0 ≤ r ∧ r < n :=
 ⟨a.tmod n, by unfold md; rw [if_neg (by omega)], Int.tmod_nonneg n h, Int.tmod_lt_of_pos a hn⟩
theorem S_l1Below_tot {k : Nat} {c : Sl1Cur} (h : CurOk c) {n : Int} (hn : 0 < n) : ∃ v c', S_l1Below k c n = some (v, c') ∧ (0 ≤ v ∧ v < n) ∧ CurOk c' := by
 unfold S_l1Below
 rw [bif_dec, if_neg (by omega), bif_dec]
 obtain ⟨v1, c1, e1, ⟨a1, b1⟩, h1⟩ := S_l1Byte_tot (k := k) h
 rw [e1]
 by_cases hs : n ≤ 256
 ·rw [if_pos hs, Option.bind_some]
  obtain ⟨r, er, hr⟩ := md_pos a1 hn
  rw [er]
  exact ⟨_, _, rfl, hr, h1⟩
 ·rw [if_neg hs, Option.bind_some]
  obtain ⟨v2, c2, e2, ⟨a2, b2⟩, h2⟩ := S_l1Byte_tot (k := k) h1
  obtain ⟨v3, c3, e3, ⟨a3, b3⟩, h3⟩ := S_l1Byte_tot (k := k) h2
  rw [e2, Option.bind_some, e3, Option.bind_some]
  rw [wrap_id (n := v1 * 65536) (by omega) (by omega), wrap_id (n := v2 * 256) (by omega) (by omega), wrap_id (n := v1 * 65536 + v2 * 256) (by omega) (by omega), wrap_id (by omega) (by omega)]
  obtain ⟨r, er, hr⟩ := md_pos (a := v1 * 65536 + v2 * 256 + v3) (by omega) hn
  rw [er]
  exact ⟨_, _, rfl, hr, h3⟩
theorem S_l1Str_tot {k : Nat} {c : Sl1Cur} (h : CurOk c) {l : List (List UInt8)} (h0 : 0 < l.length) : ∃ s c', S_l1Str k c l = some (s, c') ∧ s ∈ l ∧ CurOk c' := by
 unfold S_l1Str
 obtain ⟨v, c1, e1, ⟨a1, b1⟩, h1⟩ := S_l1Below_tot (k := k) h (n := (l.length : Int)) (by omega)
 obtain ⟨m, rfl⟩ := Int.eq_ofNat_of_zero_le a1
 rw [e1, Option.bind_some, idx_nat (by omega), Option.bind_some]
 exact ⟨_, _, rfl, List.getElem_mem _, h1⟩
theorem S_l1Str_len {k : Nat} {c : Sl1Cur} (h : CurOk c) {l : List (List UInt8)} (h0 : 0 < l.length) {n : Nat} (hn : ∀ s ∈ l, s.length ≤ n) : ∃ s c', S_l1Str k c l = some (s, c') ∧ s.length ≤ n ∧ CurOk c' := by
 obtain ⟨s, c', e, hs, h'⟩ := S_l1Str_tot (k := k) h h0
 exact ⟨s, c', e, hn s hs, h'⟩
theorem S_l1New_loop {k : Nat} {x : List Int} (hx : x.length ≤ 1048576) : ∀ (n i : Nat) (s : Int), i ≤ x.length → x.length - i < n → ∃ r, S_l1New_b0 k n x s (i : Int) = some r := by
 intro n
 induction n with
 | zero => intro i s _ h; omega
 | succ n ih =>
  intro i s hi hn
  rw [S_l1New_b0, bif_dec, bif_dec]
  by_cases c : (i : Int) < (x.length : Int)
  ·rw [if_pos c]
   by_cases c2 : (i : Int) < 4000
   ·rw [if_pos c2, idx_nat (by omega), Option.bind_some, wrap_succ (by omega)]
    exact ih (i + 1) _ (by omega) (by omega)
   ·rw [if_neg c2]; exact ⟨_, rfl⟩
  ·rw [if_neg c]; exact ⟨_, rfl⟩
theorem S_l1New_tot {k : Nat} (hk : 1073741824 ≤ k) {x : List Int} (hx : x.length ≤ 1048576) : ∃ c, S_l1New k x = some c ∧ CurOk c := by
 unfold S_l1New
 obtain ⟨r, e⟩ := S_l1New_loop (k := k) hx k 0 (IntKind.wrap .i64 ((271091 : Int) + (x.length : Int))) (by omega) (by omega)
 rw [show (((0 : Nat)) : Int) = 0 from rfl] at e
 rw [e, Option.bind_some]
 exact ⟨_, rfl, by show (0 : Int) ≤ 0; omega, by show (0 : Int) ≤ (x.length : Int); omega, hx⟩
theorem wrap_pred {j : Nat} (h : j + 1 ≤ 9223372036854775807) : IntKind.wrap .i64 (((j + 1 : Nat) : Int) - 1) = (j : Int) := by rw [wrap_id (by omega) (by omega)]; omega
theorem L_big_eq {k : Nat} {x : List Int} : L_big k x = some (decide ((x.length : Int) > 1048576)) := rfl
theorem L_at_ok {k : Nat} {z : List Int} (h0 : InL InB z) (hz : z.length ≤ 1048576) {i : Nat} (hi : i ≤ 1000) : ∃ v : Nat, v < 256 ∧ L_at k z (i : Int) = some (v : Int) := by
 unfold L_at
 rw [bif_dec]
 by_cases c : (i : Int) < (z.length : Int)
 ·have hb := h0.2 z[i] (List.getElem_mem (by omega))
  unfold InB at hb
  obtain ⟨v, hv⟩ := Int.eq_ofNat_of_zero_le hb.1
  rw [if_pos c, idx_nat (by omega), Option.bind_some, wrap_id (by omega) (by omega)]
  exact ⟨v, by omega, by rw [hv]⟩
 ·rw [if_neg c, wrap_id (n := (i : Int) * 31) (by omega) (by omega), wrap_id (n := (z.length : Int) * 7) (by omega) (by omega), wrap_id (by omega) (by omega)]
  obtain ⟨r, er, h1, h2⟩ := md_pos (a := (i : Int) * 31 + (z.length : Int) * 7) (n := 256) (by omega) (by omega)
  obtain ⟨v, hv⟩ := Int.eq_ofNat_of_zero_le h1
  rw [er, Option.bind_some]
  exact ⟨v, by omega, by rw [hv]⟩
theorem S_l1Once_tot {k : Nat} {c : Sl1Cur} (h : CurOk c) {n : Int} (hn : 0 < n) : ∃ v c', S_l1Once k c n = some (v, c') ∧ CurOk c' := by
 unfold S_l1Once
 obtain ⟨v, c1, e1, _, h1⟩ := S_l1Below_tot (k := k) h hn
 rw [e1]; exact ⟨_, _, rfl, h1⟩
structure VerS (l : List IVersion) : Prop where
 n : l.length ≤ 10
 t : ∀ e ∈ l, e.Text.length ≤ 60
structure ResS (r : IResource) : Prop where
 t : r.Target.length ≤ 20
 c : r.Control.length ≤ 60
 k : r.Keys.length ≤ 20
 l : r.Langs.length ≤ 3
 le : ∀ e ∈ r.Langs, e.length ≤ 8
 v : VerS r.Versions
theorem l15_vers {k : Nat} {x5 : Int} {y2 y3 : List UInt8} {r1 : List IResource} {r4 : List (List UInt8)} {y60 y61 y62 : List UInt8} {y63 : Bool} {r6 : List (List UInt8)} : ∀ (n j : Nat) (x7 : Int) (l : List IVersion) (b : List Int) (i h : Int), j < n → l.length + j ≤ 10 → CurOk ⟨b, i, h⟩ → (∀ e ∈ l, e.Text.length ≤ 60) →
    ∃ b' i' h' t, S_l15Draw_b2 k n x5 x7 (j : Int) b i h y2 y3 r1 r4 y60 y61 y62 y63 r6 l = some (b', i', h', t) ∧ t.length = l.length + j ∧ CurOk ⟨b', i', h'⟩ ∧ ∀ e ∈ t, e.Text.length ≤ 60 := by
 intro n
 induction n with
 | zero => intro j x7 l b i h hj; omega
 | succ n ih =>
  intro j x7 l b i h hj hx hc hl
  rw [S_l15Draw_b2, bif_dec]
  cases j with
  | zero => rw [if_neg (by omega)]; exact ⟨_, _, _, _, rfl, rfl, hc, hl⟩
  | succ j =>
   rw [if_pos (by omega)]
   obtain ⟨v1, c1, e1, l1, h1⟩ := S_l1Str_len (k := k) hc (l := [([111, 110, 101] : List UInt8), ([116, 119, 111] : List UInt8), ([116, 104, 114, 101, 101] : List UInt8), ([84, 104, 101, 32, 113, 117, 105, 99, 107, 32, 98, 114, 111, 119, 110, 32, 102, 111, 120, 46] : List UInt8), ([60, 97, 62] : List UInt8), ([] : List UInt8)]) (by decide) (n := 60) (by decide)
   obtain ⟨v2, c2, e2, h2⟩ := S_l1Once_tot (k := k) h1 (n := 9) (by omega)
   obtain ⟨v3, c3, e3, _, h3⟩ := S_l1Below_tot (k := k) h2 (n := 40) (by omega)
   rw [e1, Option.bind_some]
   simp only [e2, Option.bind_some]
   rw [appn_ok (by simp only [List.length_cons, List.length_nil]; omega), Option.bind_some, e3, Option.bind_some, wrap_pred (by omega)]
   obtain ⟨b', i', h', t, e, ht, hc', hq⟩ := ih j (IntKind.wrap .i64 (IntKind.wrap .i64 (x7 + 1) + v3)) (l ++ [⟨x7, v1, v2⟩]) c3.b c3.i c3.h (by omega) (by simp only [List.length_append, List.length_cons, List.length_nil]; omega) h3 (fun e he => by
    rcases List.mem_append.1 he with he | he
    ·exact hl e he
    ·rw [List.mem_singleton] at he; subst he; exact l1)
   exact ⟨b', i', h', t, e, by simp only [List.length_append, List.length_cons, List.length_nil] at ht; omega, hc', hq⟩
theorem l15_b4 {k : Nat} {x5 : Int} {x57 : List UInt8} {y2 y3 : List UInt8} {r1 : List IResource} {r4 : List (List UInt8)} {y60 y61 y62 : List UInt8} {y63 : Bool} {c : Sl1Cur} {l : List IVersion} (h : CurOk c) (h0 : 0 < l.length) (hl : ∀ e ∈ l, e.Text.length ≤ 60) :
    ∃ b i h' p ls vs, S_l15Draw_b4 k x5 x57 c.b c.i c.h y2 y3 r1 r4 y60 y61 y62 y63 [] l = some (b, i, h', p, ls, vs) ∧ CurOk ⟨b, i, h'⟩ ∧ ls.length ≤ 3 ∧ (∀ e ∈ ls, e.length ≤ 8) ∧ vs.length = l.length ∧ ∀ e ∈ vs, e.Text.length ≤ 60 := by
 unfold S_l15Draw_b4 S_l15Draw_c58
 cases x57 == ([47, 108, 97, 110, 103] : List UInt8) with
 | true =>
  obtain ⟨v1, c1, e1, ⟨a1, b1⟩, h1⟩ := S_l1Below_tot (k := k) h (n := 3) (by omega)
  have e1' : S_l1Below k (⟨c.b, c.i, c.h⟩ : Sl1Cur) (3 : Int) = some (v1, c1) := e1
  obtain ⟨m, rfl⟩ := Int.eq_ofNat_of_zero_le a1
  have w : IntKind.wrap .i64 ((1 : Int) + ((m : Nat) : Int)) = ((m + 1 : Nat) : Int) := by rw [wrap_id (by omega) (by omega)]; omega
  simp only [cond_true, e1', Option.bind_some]
  rw [w, ssub_take (by simp only [List.length_cons, List.length_nil]; omega)]
  simp only [Option.bind_some]
  refine ⟨_, _, _, _, _, _, rfl, h1, by simp only [List.length_take, List.length_cons, List.length_nil]; omega, fun e he => ?_, rfl, hl⟩
  have h2 := List.mem_of_mem_take he
  clear he
  simp only [List.mem_cons, List.not_mem_nil, or_false] at h2
  rcases h2 with rfl | rfl | rfl <;> decide
 | false =>
  rw [cond_false]
  unfold S_l15Draw_c66
  cases x57 == ([47, 109, 105, 110, 101] : List UInt8) with
  | true => exact ⟨_, _, _, _, _, _, rfl, h, by simp, by simp, rfl, hl⟩
  | false =>
   rw [cond_false]
   unfold S_l15Draw_c69
   cases x57 == ([47, 98, 105, 103] : List UInt8) with
   | false => exact ⟨_, _, _, _, _, _, rfl, h, by simp, by simp, rfl, hl⟩
   | true =>
    have i0 : ∀ w : List IVersion, 0 < w.length → ∃ e, idx w (0 : Int) = some e ∧ e ∈ w := fun w hw => ⟨w[0], idx_nat (i := 0) hw, List.getElem_mem hw⟩
    obtain ⟨e, he, _⟩ := i0 l h0
    obtain ⟨e', he', hm⟩ := i0 (l.set ((0 : Int)).toNat (⟨e.At, ([84, 104, 101, 32, 113, 117, 105, 99, 107, 32, 98, 114, 111, 119, 110, 32, 102, 111, 120, 46, 84, 104, 101, 32, 113, 117, 105, 99, 107, 32, 98, 114, 111, 119, 110, 32, 102, 111, 120, 46, 84, 104, 101, 32, 113, 117, 105, 99, 107, 32, 98, 114, 111, 119, 110, 32, 102, 111, 120, 46] : List UInt8), e.Gone⟩ : IVersion)) (by rw [List.length_set]; exact h0)
    have hb : ∀ e2 ∈ l.set ((0 : Int)).toNat (⟨e.At, ([84, 104, 101, 32, 113, 117, 105, 99, 107, 32, 98, 114, 111, 119, 110, 32, 102, 111, 120, 46, 84, 104, 101, 32, 113, 117, 105, 99, 107, 32, 98, 114, 111, 119, 110, 32, 102, 111, 120, 46, 84, 104, 101, 32, 113, 117, 105, 99, 107, 32, 98, 114, 111, 119, 110, 32, 102, 111, 120, 46] : List UInt8), e.Gone⟩ : IVersion), e2.Text.length ≤ 60 := fun e2 h2 => by
     rcases List.mem_or_eq_of_mem_set h2 with h2 | h2
     ·exact hl e2 h2
     ·subst h2; simp only; decide
    simp only [cond_true, he, Option.bind_some, he']
    refine ⟨_, _, _, _, _, _, rfl, h, by simp, by simp, by simp only [List.length_set], fun e2 h2 => ?_⟩
    rcases List.mem_or_eq_of_mem_set h2 with h2 | h2
    ·exact hb e2 h2
    ·subst h2; exact hb e' hm
theorem l15_res {k : Nat} (hk : 1073741824 ≤ k) {y2 y3 : List UInt8} {r1 : List IResource} {r4 : List (List UInt8)} {j : Nat} {c : Sl1Cur} (h : CurOk c) (hj : j < r4.length) (h4 : ∀ e ∈ r4, e.length ≤ 20) (h1 : r1.length ≤ 1000) :
    ∃ b i h' r, S_l15Draw_b1 k (j : Int) c.b c.i c.h y2 y3 r1 r4 = some (b, i, h', r1 ++ [r]) ∧ CurOk ⟨b, i, h'⟩ ∧ ResS r := by
 unfold S_l15Draw_b1
 have hi : idx r4 (j : Int) = some r4[j] := idx_nat hj
 have ht := h4 _ (List.getElem_mem hj)
 generalize r4[j] = tg at hi ht
 obtain ⟨v1, c1, e1, l1, q1⟩ := S_l1Str_len (k := k) h (l := [([109, 97, 120, 45, 97, 103, 101, 61, 50, 48] : List UInt8), ([109, 97, 120, 45, 97, 103, 101, 61, 50, 48, 44, 32, 115, 116, 97, 108, 101, 45, 119, 104, 105, 108, 101, 45, 114, 101, 118, 97, 108, 105, 100, 97, 116, 101, 61, 51, 48] : List UInt8), ([115, 45, 109, 97, 120, 97, 103, 101, 61, 53, 44, 32, 109, 97, 120, 45, 97, 103, 101, 61, 54, 48] : List UInt8), ([110, 111, 45, 99, 97, 99, 104, 101] : List UInt8), ([110, 111, 45, 115, 116, 111, 114, 101] : List UInt8), ([] : List UInt8), ([109, 97, 120, 45, 97, 103, 101, 61, 57, 44, 32, 109, 117, 115, 116, 45, 114, 101, 118, 97, 108, 105, 100, 97, 116, 101] : List UInt8), ([109, 97, 120, 45, 97, 103, 101, 61, 56, 44, 32, 115, 116, 97, 108, 101, 45, 105, 102, 45, 101, 114, 114, 111, 114, 61, 52, 48] : List UInt8), ([112, 117, 98, 108, 105, 99, 44, 32, 109, 97, 120, 45, 97, 103, 101, 61, 49, 48, 48] : List UInt8)]) (by decide) (n := 60) (by decide)
 have e1' : S_l1Str k (⟨c.b, c.i, c.h⟩ : Sl1Cur) [([109, 97, 120, 45, 97, 103, 101, 61, 50, 48] : List UInt8), ([109, 97, 120, 45, 97, 103, 101, 61, 50, 48, 44, 32, 115, 116, 97, 108, 101, 45, 119, 104, 105, 108, 101, 45, 114, 101, 118, 97, 108, 105, 100, 97, 116, 101, 61, 51, 48] : List UInt8), ([115, 45, 109, 97, 120, 97, 103, 101, 61, 53, 44, 32, 109, 97, 120, 45, 97, 103, 101, 61, 54, 48] : List UInt8), ([110, 111, 45, 99, 97, 99, 104, 101] : List UInt8), ([110, 111, 45, 115, 116, 111, 114, 101] : List UInt8), ([] : List UInt8), ([109, 97, 120, 45, 97, 103, 101, 61, 57, 44, 32, 109, 117, 115, 116, 45, 114, 101, 118, 97, 108, 105, 100, 97, 116, 101] : List UInt8), ([109, 97, 120, 45, 97, 103, 101, 61, 56, 44, 32, 115, 116, 97, 108, 101, 45, 105, 102, 45, 101, 114, 114, 111, 114, 61, 52, 48] : List UInt8), ([112, 117, 98, 108, 105, 99, 44, 32, 109, 97, 120, 45, 97, 103, 101, 61, 49, 48, 48] : List UInt8)] = some (v1, c1) := e1
 obtain ⟨v2, c2, e2, l2, q2⟩ := S_l1Str_len (k := k) q1 (l := [([] : List UInt8), ([107, 49] : List UInt8), ([107, 49, 32, 107, 50] : List UInt8), ([110, 101, 119, 115] : List UInt8)]) (by decide) (n := 20) (by decide)
 obtain ⟨v3, c3, e3, _, q3⟩ := S_l1Below_tot (k := k) q2 (n := 30) (by omega)
 obtain ⟨v4, c4, e4, ⟨a4, b4⟩, q4⟩ := S_l1Below_tot (k := k) q3 (n := 4) (by omega)
 obtain ⟨m, rfl⟩ := Int.eq_ofNat_of_zero_le a4
 have w : IntKind.wrap .i64 ((1 : Int) + ((m : Nat) : Int)) = ((m + 1 : Nat) : Int) := by rw [wrap_id (by omega) (by omega)]; omega
 obtain ⟨b5, i5, h5, t, e5, n5, q5, t5⟩ := l15_vers (k := k) (x5 := (j : Int)) (y2 := y2) (y3 := y3) (r1 := r1) (r4 := r4) (y60 := tg) (y61 := v1) (y62 := v2) (y63 := false) (r6 := []) k (m + 1) v3 [] c4.b c4.i c4.h (by omega) (by simp only [List.length_nil]; omega) q4 (by simp)
 simp only [List.length_nil, Nat.zero_add] at n5
 obtain ⟨b6, i6, h6, p, ls, vs, e6, q6, n6, m6, n7, t6⟩ := l15_b4 (k := k) (x5 := (j : Int)) (x57 := tg) (y2 := y2) (y3 := y3) (r1 := r1) (r4 := r4) (y60 := tg) (y61 := v1) (y62 := v2) (y63 := false) (c := ⟨b5, i5, h5⟩) (l := t) q5 (by omega) t5
 simp only at e6
 simp only [hi, e1', e2, e3, e4, w, e5, e6, Option.bind_some]
 rw [appn_ok (by simp only [List.length_cons, List.length_nil]; omega), Option.bind_some]
 exact ⟨_, _, _, _, rfl, q6, ⟨ht, l1, l2, n6, m6, ⟨by simp only; omega, t6⟩⟩⟩
theorem l15_loop {k : Nat} (hk : 1073741824 ≤ k) {y2 y3 : List UInt8} {r4 : List (List UInt8)} (h4 : ∀ e ∈ r4, e.length ≤ 20) (hr : r4.length ≤ 100) : ∀ (n j : Nat) (r1 : List IResource) (b : List Int) (i h : Int), j ≤ r4.length → r4.length - j < n → r1.length = j → (∀ e ∈ r1, ResS e) → CurOk ⟨b, i, h⟩ →
    ∃ b' i' h' l, S_l15Draw_b0 k n (j : Int) b i h y2 y3 r1 r4 = some (b', i', h', l) ∧ CurOk ⟨b', i', h'⟩ ∧ l.length = r4.length ∧ ∀ e ∈ l, ResS e := by
 intro n
 induction n with
 | zero => intro j r1 b i h _ hj; omega
 | succ n ih =>
  intro j r1 b i h hj hn h1 hs hc
  rw [S_l15Draw_b0, bif_dec]
  by_cases cj : j < r4.length
  ·rw [if_pos (by omega)]
   obtain ⟨b2, i2, h2, r, e, q, s⟩ := l15_res (k := k) hk (y2 := y2) (y3 := y3) (r1 := r1) (r4 := r4) (c := ⟨b, i, h⟩) hc cj h4 (by omega)
   simp only at e
   rw [e, Option.bind_some, wrap_succ (by omega)]
   exact ih (j + 1) (r1 ++ [r]) b2 i2 h2 (by omega) (by omega) (by simp only [List.length_append, List.length_cons, List.length_nil]; omega) (fun e he => by
    rcases List.mem_append.1 he with he | he
    ·exact hs e he
    ·rw [List.mem_singleton] at he; subst he; exact s) q
  ·rw [if_neg (by omega)]; exact ⟨_, _, _, _, rfl, hc, by omega, hs⟩
structure OrgS (o : IOrigin) : Prop where
 h : o.Host.length ≤ 20
 n : o.Resources.length ≤ 7
 r : ∀ e ∈ o.Resources, ResS e
 p : 0 < o.Resources.length
theorem S_l15Draw_tot {k : Nat} (hk : 1073741824 ≤ k) {c : Sl1Cur} (h : CurOk c) : ∃ o c', S_l15Draw k c = some (o, c') ∧ CurOk c' ∧ OrgS o := by
 unfold S_l15Draw
 obtain ⟨b, i, h', l, e, q, n, s⟩ := l15_loop (k := k) hk (y2 := []) (y3 := [104, 46, 101, 120, 97, 109, 112, 108, 101]) (r4 := [([47, 97] : List UInt8), ([47, 97, 63, 120, 61, 49, 38, 121, 61, 50] : List UInt8), ([47, 112] : List UInt8), ([47, 108, 97, 110, 103] : List UInt8), ([47, 109, 105, 110, 101] : List UInt8), ([47, 98, 105, 103] : List UInt8), ([47, 112, 97, 103, 101] : List UInt8)]) (by decide) (by decide) k 0 [] c.b c.i c.h (by omega) (by simp only [List.length_cons, List.length_nil]; omega) rfl (by simp) h
 rw [show (((0 : Nat)) : Int) = 0 from rfl] at e
 rw [e, Option.bind_some]
 exact ⟨_, _, rfl, q, ⟨by simp only; decide, by simp only; rw [n]; decide, s, by simp only; rw [n]; decide⟩⟩
def vLast (p : Nat → Bool) : Nat → Int
 | 0 => -1
 | j + 1 => bif p j then (j : Int) else vLast p j
def atP (x : List IVersion) (t : Int) (i : Nat) : Bool := match x[i]? with | some e => decide (e.At ≤ t) | none => false
theorem atP_idx {x : List IVersion} {t : Int} {i : Nat} (h : i < x.length) : atP x t i = decide (x[i].At ≤ t) := by simp only [atP, List.getElem?_eq_getElem h]
theorem S_VersionAt_loop {k : Nat} {t : Int} {a b c : List UInt8} {d : Bool} {e : List (List UInt8)} {x : List IVersion} (hx : x.length < 1073741824) : ∀ (n i : Nat), i ≤ x.length → x.length - i < n →
    S_VersionAt_b0 k n t (vLast (atP x t) i) (i : Int) a b c d e x = some (vLast (atP x t) x.length) := by
 intro n
 induction n with
 | zero => intro i _ h; omega
 | succ n ih =>
  intro i hi hn
  rw [S_VersionAt_b0, bif_dec]
  by_cases h : i < x.length
  ·rw [if_pos (by omega), S_VersionAt_b1, idx_nat h, Option.bind_some, S_VersionAt_c21, wrap_succ (by omega)]
   have := ih (i + 1) (by omega) (by omega)
   rw [vLast, atP_idx h] at this
   cases hd : decide (x[i].At ≤ t) with
   | true => rw [hd, cond_true] at this; rw [cond_true, Option.bind_some, Option.bind_some]; exact this
   | false => rw [hd, cond_false] at this; rw [cond_false, Option.bind_some, Option.bind_some]; exact this
  ·rw [if_neg (by omega), show i = x.length by omega]
theorem I_VersionAt_loop {k : Nat} {t : Int} {a b c : List UInt8} {d : Bool} {e : List (List UInt8)} {x : List IVersion} (hx : x.length < 1073741824) : ∀ (n j : Nat), j ≤ x.length → j < n →
    ∃ o, I_VersionAt_b0 k n t ((j : Int) - 1) a b c d e x = some o ∧ (oc o (fun _ => some (-1 : Int)) fun r => some r) = some (vLast (atP x t) j) := by
 intro n
 induction n with
 | zero => intro j _ h; omega
 | succ n ih =>
  intro j hj hn
  rw [I_VersionAt_b0, bif_dec]
  cases j with
  | zero => rw [if_neg (by omega)]; exact ⟨_, rfl, rfl⟩
  | succ j =>
   have h : j < x.length := by omega
   rw [if_pos (by omega), show ((j + 1 : Nat) : Int) - 1 = (j : Int) by omega, idx_nat h, Option.bind_some, wrap_id (by omega) (by omega), vLast, atP_idx h]
   cases decide (x[j].At ≤ t) with
   | true => exact ⟨_, rfl, rfl⟩
   | false => rw [cond_false, cond_false]; exact ih j (by omega) (by omega)
theorem S_VersionAt_eq {k : Nat} (hk : 1073741824 ≤ k) (r : IResource) (t : Int) (h : r.Versions.length < 1073741824) : S_VersionAt k r t = some (vLast (atP r.Versions t) r.Versions.length) := by
 rw [S_VersionAt]
 have := S_VersionAt_loop (k := k) (t := t) (a := r.Target) (b := r.Control) (c := r.Keys) (d := r.Private) (e := r.Langs) (x := r.Versions) h k 0 (by omega) (by omega)
 rw [show (-1 : Int) = vLast (atP r.Versions t) 0 from rfl, show (0 : Int) = ((0 : Nat) : Int) from rfl, this]; rfl
theorem I_VersionAt_eq {k : Nat} (hk : 1073741824 ≤ k) (r : IResource) (t : Int) (h : r.Versions.length < 1073741824) : I_VersionAt k r t = some (vLast (atP r.Versions t) r.Versions.length) := by
 rw [I_VersionAt, wrap_id (by omega) (by omega)]
 obtain ⟨o, h1, h2⟩ := I_VersionAt_loop (k := k) (t := t) (a := r.Target) (b := r.Control) (c := r.Keys) (d := r.Private) (e := r.Langs) (x := r.Versions) h k r.Versions.length (by omega) (by omega)
 rw [h1, Option.bind_some]
 cases o <;> exact h2
theorem vLast_lt (p : Nat → Bool) : ∀ n, -1 ≤ vLast p n ∧ vLast p n < (n : Int)
 | 0 => by unfold vLast; omega
 | n + 1 => by
  have := vLast_lt p n
  rw [vLast]
  cases p n with
  | true => rw [cond_true]; omega
  | false => rw [cond_false]; omega
theorem vLast_p {p : Nat → Bool} : ∀ n (m : Nat), vLast p n = (m : Int) → p m = true
 | 0, m, h => by unfold vLast at h; omega
 | n + 1, m, h => by
  rw [vLast] at h
  cases hp : p n with
  | true => rw [hp, cond_true] at h; have : n = m := by omega
            exact this ▸ hp
  | false => rw [hp, cond_false] at h; exact vLast_p n m h
theorem vLast_after {p : Nat → Bool} : ∀ n (j : Nat), vLast p n < (j : Int) → j < n → p j = false
 | 0, j, _, h => by omega
 | n + 1, j, h, hj => by
  rw [vLast] at h
  cases hp : p n with
  | true => rw [hp, cond_true] at h; omega
  | false =>
   rw [hp, cond_false] at h
   by_cases e : j = n
   ·exact e ▸ hp
   ·exact vLast_after n j h (by omega)
theorem vLast_mono {p q : Nat → Bool} (h : ∀ i, p i = true → q i = true) : ∀ n, vLast p n ≤ vLast q n
 | 0 => Int.le_refl _
 | n + 1 => by
  have ih := vLast_mono h n
  have := vLast_lt p n
  rw [vLast, vLast]
  cases hp : p n with
  | true => rw [h n hp, cond_true, cond_true]; exact Int.le_refl _
  | false =>
   rw [cond_false]
   cases q n with
   | true => rw [cond_true]; omega
   | false => exact ih
theorem vLast_congr {p q : Nat → Bool} : ∀ n, (∀ i, i < n → p i = q i) → vLast p n = vLast q n
 | 0, _ => rfl
 | n + 1, h => by rw [vLast, vLast, h n (by omega), vLast_congr n fun i hi => h i (by omega)]
theorem atP_app {x : List IVersion} {v : IVersion} {t : Int} {i : Nat} (h : i < x.length) : atP (x ++ [v]) t i = atP x t i := by
 unfold atP; rw [List.getElem?_append_left h]
theorem atP_new {x : List IVersion} {v : IVersion} {t : Int} : atP (x ++ [v]) t x.length = decide (v.At ≤ t) := by
 unfold atP; rw [List.getElem?_append_right (Nat.le_refl _), Nat.sub_self]; rfl
theorem vLast_old {x : List IVersion} {v : IVersion} {t : Int} (h : t < v.At) : vLast (atP (x ++ [v]) t) (x ++ [v]).length = vLast (atP x t) x.length := by
 rw [List.length_append, List.length_cons, List.length_nil, vLast, atP_new, decide_eq_false (by omega), cond_false]
 exact vLast_congr _ fun i hi => atP_app hi
theorem vLast_new {x : List IVersion} {v : IVersion} : vLast (atP (x ++ [v]) v.At) (x ++ [v]).length = (x.length : Int) := by
 rw [List.length_append, List.length_cons, List.length_nil, vLast, atP_new, decide_eq_true (by omega), cond_true]
theorem orgS_in {o : IOrigin} (h : OrgS o) : OrgIn o := ⟨by have := h.h; omega, by have := h.n; omega, fun e he => by
 have q := h.r e he
 have q1 := q.t
 have q2 := q.c
 have q3 := q.k
 have q4 := q.l
 have q5 := q.v.n
 exact ⟨by omega, by omega, by omega, by omega, fun x hx => by have := q.le x hx; omega, by omega⟩⟩
theorem S_DrawPublishPage_tot {k : Nat} (hk : 1073741824 ≤ k) {x : List Int} (hx : x.length ≤ 1048576) : ∃ o s v, S_DrawPublishPage k x = some (o, s, v) ∧ OrgS o := by
 unfold S_DrawPublishPage
 obtain ⟨c, e0, h0⟩ := S_l1New_tot hk hx
 obtain ⟨o, c1, e1, h1, ho⟩ := S_l15Draw_tot hk h0
 obtain ⟨v2, c2, e2, l2, h2⟩ := S_l1Str_len (k := k) h1 (l := [([47, 97] : List UInt8), ([47, 112] : List UInt8), ([47, 110, 111, 110, 101] : List UInt8), ([47, 37, 54, 49] : List UInt8)]) (by decide) (n := 20) (by decide)
 obtain ⟨v3, c3, e3, ⟨a3, b3⟩, h3⟩ := S_l1Below_tot (k := k) h2 (n := ((([(0 : Int), (50 : Int), (100 : Int), (300 : Int), (-1 : Int)] : List Int).length : Nat) : Int)) (by decide)
 obtain ⟨m, rfl⟩ := Int.eq_ofNat_of_zero_le a3
 obtain ⟨v5, c5, e5, h5⟩ := S_l1Once_tot (k := k) h3 (n := 5) (by omega)
 rw [e0, Option.bind_some, e1, Option.bind_some]
 simp only [e2, Option.bind_some]
 unfold S_l1Int
 rw [e3, Option.bind_some, idx_nat (by omega), Option.bind_some, Option.bind_some]
 simp only [e5, Option.bind_some]
 exact ⟨_, _, _, rfl, ho⟩
theorem pubT_cases (o : IOrigin) (s : List UInt8) (v : IVersion) : pubT o s v = (o, false) ∨ ∃ i, ∃ h : i < o.Resources.length, findR o.Resources s = (i : Int) ∧ orgT o = true ∧ resT (addVer o.Resources[i] v) = true ∧ pubT o s v = (pubO o i (addVer o.Resources[i] v), true) := by
 unfold pubT findR
 cases hf : firstI (tgtP o.Resources s) o.Resources.length 0 with
 | none => exact .inl rfl
 | some i =>
  have hi := firstI_lt hf
  have hi' : i < o.Resources.length := by omega
  simp only
  rw [List.getElem?_eq_getElem hi']
  simp only
  cases ho : orgT o with
  | false => exact .inl rfl
  | true =>
   cases hr : resT (addVer o.Resources[i] v) with
   | false => exact .inl rfl
   | true => exact .inr ⟨i, hi', rfl, rfl, hr, rfl⟩
theorem vers_loop {k : Nat} (hk : 1073741824 ≤ k) {i : Nat} {h1 h2 tx : List UInt8} {at' : Int} {g : Bool} {l1 l2 : List IResource} {v : IVersion} (i1 : i < l1.length) (i2 : i < l2.length) (he : l2[i] = addVer l1[i] v) (hv : v.At = at') (hl : l1[i].Versions.length < 1000) : ∀ (n j : Nat), j ≤ 100 → 100 - j < n →
    L_FnVersions_b0 k n (i : Int) (j : Int) h1 l1 at' tx g h2 l2 = some (.nrm (l1, l2)) := by
 intro n
 induction n with
 | zero => intro j _ h; omega
 | succ n ih =>
  intro j hj hn
  rw [L_FnVersions_b0, bif_dec]
  by_cases c : (j : Int) < 100
  ·rw [if_pos c, bif_dec, wrap_succ (by omega)]
   have hr := ih (j + 1) (by omega) (by omega)
   by_cases d : (j : Int) < at'
   ·have w1 : I_VersionAt k l2[i] (j : Int) = some (vLast (atP l1[i].Versions (j : Int)) l1[i].Versions.length) := by
     rw [he, I_VersionAt_eq hk _ _ (by simp only [addVer, List.length_append, List.length_cons, List.length_nil]; omega)]
     show some (vLast (atP (l1[i].Versions ++ [v]) (j : Int)) (l1[i].Versions ++ [v]).length) = _
     rw [vLast_old (by omega)]
    rw [if_pos d, idx_nat i2, Option.bind_some, Option.bind_some, w1, Option.bind_some, idx_nat i1, Option.bind_some, Option.bind_some, S_VersionAt_eq hk _ _ (by omega), Option.bind_some, bne_self_eq_false, cond_false, Int.toNat_natCast, List.set_getElem_self, List.set_getElem_self]
    exact hr
   ·rw [if_neg d]; exact hr
  ·rw [if_neg c]
noncomputable def endV (k : Nat) (a0 : List Int) : Option Bool :=
    ((S_DrawPublishPage k a0).bind fun w9 =>
    ((I_PublishPage k w9.1 w9.2.1 w9.2.2).bind fun w10 =>
    ((I_FindResource k w9.1 w9.2.1).bind fun w11 =>
    (bif (!w10.2) then some ((w10.1.Resources.length : Int) == (w9.1.Resources.length : Int))
    else ((L_FnVersions_b0 k k w11 (0 : Int) w9.1.Host w9.1.Resources w9.2.2.At w9.2.2.Text w9.2.2.Gone w10.1.Host w10.1.Resources).bind fun o16 =>
    oc o16 (fun o17 => ((I_IsOrigin k (⟨w10.1.Host, o17.2⟩ : IOrigin)).bind fun w19 =>
    (bif w19 then ((idx o17.2 w11).bind fun _ =>
    ((idx o17.2 w11).bind fun e20 =>
    ((I_VersionAt k e20 w9.2.2.At).bind fun w21 =>
    ((idx o17.1 w11).bind fun _ =>
    ((idx o17.1 w11).bind fun e22 =>
    some (w21 == (e22.Versions.length : Int))))))) else some false)))
    (fun o18 => some o18))))))
theorem endV_eq {k : Nat} (hk : 1073741824 ≤ k) {a0 : List Int} (ha : a0.length ≤ 1048576) : endV k a0 = some true := by
 obtain ⟨o, s, v, e, ho⟩ := S_DrawPublishPage_tot hk ha
 have hn := ho.n
 have hin := orgS_in ho
 have hvl : ∀ e ∈ o.Resources, e.Versions.length + 1 < 134217728 := fun e he => by have := (ho.r e he).v.n; omega
 unfold endV
 rw [e, Option.bind_some]
 simp only
 rw [I_PublishPage_eq hk o s v hin hvl, Option.bind_some, I_FindResource_eq hk o s (by omega), Option.bind_some]
 rcases pubT_cases o s v with h | ⟨i, hi, hf, hO, hR, h⟩
 ·rw [h]; simp
 ·have hv := (ho.r _ (List.getElem_mem hi)).v.n
  have hs : i < (o.Resources.set i (addVer o.Resources[i] v)).length := by rw [List.length_set]; exact hi
  have hg : (o.Resources.set i (addVer o.Resources[i] v))[i] = addVer o.Resources[i] v := List.getElem_set_self hs
  have ix : idx (o.Resources.set i (addVer o.Resources[i] v)) ((i : Nat) : Int) = some (addVer o.Resources[i] v) := idx_set hi
  have hl := vers_loop (k := k) hk (i := i) (h1 := o.Host) (h2 := o.Host) (tx := v.Text) (g := v.Gone) (l1 := o.Resources) (l2 := o.Resources.set i (addVer o.Resources[i] v)) (v := v) hi hs hg rfl (by omega) k 0 (by omega) (by omega)
  rw [show (((0 : Nat)) : Int) = 0 from rfl] at hl
  have ho2 : I_IsOrigin k (pubO o i (addVer o.Resources[i] v)) = some true := by
   rw [I_IsOrigin_eq hk _ (pub_in hin (addVer_in (hin.hre _ (List.getElem_mem hi)) (hvl _ (List.getElem_mem hi)))), orgT_pub hi v hO, hR]
  have w : I_VersionAt k (addVer o.Resources[i] v) v.At = some (o.Resources[i].Versions.length : Int) := by
   rw [I_VersionAt_eq hk _ _ (by simp only [addVer, List.length_append, List.length_cons, List.length_nil]; omega)]
   show some (vLast (atP (o.Resources[i].Versions ++ [v]) v.At) (o.Resources[i].Versions ++ [v]).length) = _
   rw [vLast_new]
  rw [h, hf]
  show ((L_FnVersions_b0 k k (i : Int) (0 : Int) o.Host o.Resources v.At v.Text v.Gone o.Host (o.Resources.set i (addVer o.Resources[i] v))).bind fun o16 =>
   oc o16 (fun o17 => ((I_IsOrigin k (⟨o.Host, o17.2⟩ : IOrigin)).bind fun w19 =>
   (bif w19 then ((idx o17.2 (i : Int)).bind fun _ =>
   ((idx o17.2 (i : Int)).bind fun e20 =>
   ((I_VersionAt k e20 v.At).bind fun w21 =>
   ((idx o17.1 (i : Int)).bind fun _ =>
   ((idx o17.1 (i : Int)).bind fun e22 =>
   some (w21 == (e22.Versions.length : Int))))))) else some false)))
   (fun o18 => some o18)) = _
  rw [hl, Option.bind_some]
  show ((I_IsOrigin k (pubO o i (addVer o.Resources[i] v))).bind fun w19 =>
   (bif w19 then ((idx (o.Resources.set i (addVer o.Resources[i] v)) (i : Int)).bind fun _ =>
   ((idx (o.Resources.set i (addVer o.Resources[i] v)) (i : Int)).bind fun e20 =>
   ((I_VersionAt k e20 v.At).bind fun w21 =>
   ((idx o.Resources (i : Int)).bind fun _ =>
   ((idx o.Resources (i : Int)).bind fun e22 =>
   some (w21 == (e22.Versions.length : Int))))))) else some false)) = _
  rw [ho2, Option.bind_some, cond_true, ix, Option.bind_some, Option.bind_some, w, Option.bind_some, idx_nat hi, Option.bind_some, Option.bind_some, beq_self_eq_true]
theorem nextV {l : List IVersion} {t : Int} (hl : l.length < 1000) (X : Option Bool) :
    (bif (decide ((IntKind.wrap .i64 (vLast (atP l t) l.length + (1 : Int))) < (l.length : Int))) then ((idx l (IntKind.wrap .i64 (vLast (atP l t) l.length + (1 : Int)))).bind fun _ =>
    ((idx l (IntKind.wrap .i64 (vLast (atP l t) l.length + (1 : Int)))).bind fun e8 =>
    (bif (decide (e8.At ≤ t)) then some false else X))) else X) = X := by
 obtain ⟨h1, h2⟩ := vLast_lt (atP l t) l.length
 have ha := vLast_after (p := atP l t) l.length
 generalize vLast (atP l t) l.length = w at *
 obtain ⟨q, hq⟩ := Int.eq_ofNat_of_zero_le (by omega : 0 ≤ w + 1)
 rw [wrap_id (by omega) (by omega), hq, bif_dec]
 by_cases c : ((q : Nat) : Int) < (l.length : Int)
 ·have hj : q < l.length := by omega
  have := ha q (by omega) hj
  rw [atP_idx hj] at this
  rw [if_pos c, idx_nat hj, Option.bind_some, Option.bind_some, this, cond_false]
 ·rw [if_neg c]
theorem thisV {l : List IVersion} {t : Int} (X : Option Bool) :
    (bif (decide (vLast (atP l t) l.length ≥ (0 : Int))) then ((idx l (vLast (atP l t) l.length)).bind fun _ =>
    ((idx l (vLast (atP l t) l.length)).bind fun e7 =>
    (bif (decide (e7.At > t)) then some false else X))) else X) = X := by
 obtain ⟨h1, h2⟩ := vLast_lt (atP l t) l.length
 have ha := vLast_p (p := atP l t) l.length
 generalize vLast (atP l t) l.length = w at *
 rw [bif_dec]
 by_cases c : w ≥ 0
 ·obtain ⟨m, rfl⟩ := Int.eq_ofNat_of_zero_le c
  have hj : m < l.length := by omega
  have := ha m rfl
  rw [atP_idx hj, decide_eq_true_eq] at this
  rw [if_pos c, idx_nat hj, Option.bind_some, Option.bind_some, decide_eq_false (by omega), cond_false]
 ·rw [if_neg c]
theorem FnVersions_pure {k : Nat} (hk : 1073741824 ≤ k) (a0 : List Int) (h0 : InL InB a0) : L_FnVersions k a0 = some true := by
 unfold L_FnVersions
 rw [L_big_eq, Option.bind_some, bif_dec]
 by_cases c1 : (a0.length : Int) > 1048576
 ·rw [if_pos c1]
 rw [if_neg c1]
 have ha : a0.length ≤ 1048576 := by omega
 have hend := endV_eq hk ha
 obtain ⟨c, e0, hc⟩ := S_l1New_tot hk ha
 obtain ⟨o, c1, e1, q1, ho⟩ := S_l15Draw_tot hk hc
 obtain ⟨g, c2, e2, ⟨g1, g2⟩, q2⟩ := S_l1Below_tot (k := k) q1 (n := 160) (by omega)
 obtain ⟨n, hn, en⟩ := L_at_ok (k := k) h0 ha (i := 1) (by omega)
 have en' : L_at k a0 (1 : Int) = some (n : Int) := en
 obtain ⟨r, er, r1, r2⟩ := md_pos (a := (n : Int)) (n := 50) (by omega) (by omega)
 have hz := ho.p
 ·have i0 : idx o.Resources (0 : Int) = some o.Resources[0] := idx_nat (i := 0) hz
  have d1 : S_DrawVersionAt k a0 = some (o.Resources[0], g - 5) := by
   unfold S_DrawVersionAt
   rw [e0, Option.bind_some, e1, Option.bind_some]
   simp only
   rw [i0, Option.bind_some, Option.bind_some, e2, Option.bind_some, wrap_id (by omega) (by omega)]
  have hv := (ho.r _ (List.getElem_mem hz)).v.n
  generalize o.Resources[0] = e at *
  have mono := vLast_mono (p := atP e.Versions (g - 5)) (q := atP e.Versions (g - 5 + 1 + r)) (fun i h => by
   unfold atP at h ⊢
   cases hx : e.Versions[i]? with
   | none => rw [hx] at h; cases h
   | some x => rw [hx] at h; simp only [decide_eq_true_eq] at h ⊢; omega) e.Versions.length
  rw [d1, Option.bind_some]
  simp only
  rw [I_VersionAt_eq hk e _ (by omega), Option.bind_some, en', Option.bind_some, er, Option.bind_some, wrap_id (n := g - 5 + 1) (by omega) (by omega), wrap_id (n := g - 5 + 1 + r) (by omega) (by omega), I_VersionAt_eq hk e _ (by omega), Option.bind_some, decide_eq_false (by omega), cond_false]
  exact (thisV _).trans ((nextV (by omega) _).trans hend)
end
end Go.YtnidlohhndpjdaaGreatDoor
