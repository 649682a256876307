/- Plain lemmas and definitions. Nothing is claimed here. -/
import Derived.Test.YtolmhhnhmbiofaaGreatDoorKu
import Derived.Sort.Walk0
set_option linter.unusedVariables false
set_option linter.unusedSimpArgs false
set_option maxRecDepth 100000
namespace Go.YtolmhhnhmbiofaaGreatDoor
open Go Go.RowKit Go.Pv Go.Pu
noncomputable section
def mk15 : List UInt8 := [33, 35, 36, 37, 38, 39, 42, 43, 45, 46, 94, 95, 124, 126, 96]
def mk14 : List UInt8 := [33, 35, 36, 37, 38, 39, 42, 43, 45, 46, 94, 95, 124, 126]
def letB (c : UInt8) : Bool := (decide (97 ≤ c.toNat) && decide (c.toNat ≤ 122)) || (decide (65 ≤ c.toNat) && decide (c.toNat ≤ 90)) || (decide (48 ≤ c.toNat) && decide (c.toNat ≤ 57))
def mkP (c : UInt8) (i : Nat) : Bool := match mk15[i]? with | some m => c == m | none => false
def tokB (c : UInt8) : Bool := (firstI (mkP c) 15 0).isSome || letB c
theorem S_l4Letter_eq {k : Nat} (c : UInt8) : S_l4Letter k (c.toNat : Int) = some (letB c) := by
  have hb := UInt8.toNat_lt c
  rw [S_l4Letter, wrap_id (by omega) (by omega)]
  simp only [S_l1In, bif_dec, letB]
  by_cases a1 : 97 ≤ c.toNat <;> by_cases a2 : c.toNat ≤ 122 <;> by_cases a3 : 65 ≤ c.toNat <;> by_cases a4 : c.toNat ≤ 90 <;> by_cases a5 : 48 ≤ c.toNat <;> by_cases a6 : c.toNat ≤ 57 <;>
    simp [a1, a2, a3, a4, a5, a6, show ((c.toNat : Int) ≥ 97) = (97 ≤ c.toNat) from by simp; omega, show ((c.toNat : Int) ≤ 122) = (c.toNat ≤ 122) from by simp; omega, show ((c.toNat : Int) ≥ 65) = (65 ≤ c.toNat) from by simp; omega, show ((c.toNat : Int) ≤ 90) = (c.toNat ≤ 90) from by simp; omega, show ((c.toNat : Int) ≥ 48) = (48 ≤ c.toNat) from by simp; omega, show ((c.toNat : Int) ≤ 57) = (c.toNat ≤ 57) from by simp; omega]
theorem tok_tab : ∀ j : Fin 256, tokB (UInt8.ofNat j.val) = (letB (UInt8.ofNat j.val) || decide (Lib.indexByte mk14 (UInt8.ofNat j.val) ≥ 0) || (UInt8.ofNat j.val == 96)) := by decide +kernel
theorem tok_eq (c : UInt8) : tokB c = (letB c || decide (Lib.indexByte mk14 c ≥ 0) || (c == 96)) := by
  have := tok_tab ⟨c.toNat, UInt8.toNat_lt c⟩
  simpa using this
theorem I_isTokenByte_eq {k : Nat} (c : UInt8) : I_isTokenByte k (c.toNat : Int) = some (tokB c) := by
  have hb := UInt8.toNat_lt c
  have hi : strings_IndexByte k [33, 35, 36, 37, 38, 39, 42, 43, 45, 46, 94, 95, 124, 126] (c.toNat : Int) = some (Lib.indexByte mk14 c) := by
    rw [strings_IndexByte, indexByteO, Int.toNat_natCast]; simp [mk14]
  have h96 : ((c.toNat : Int) == 96) = (c == 96) := u8_eq c 96
  rw [I_isTokenByte, hi, h96, tok_eq]
  simp only [Option.bind_some, bif_dec, letB]
  by_cases a1 : 97 ≤ c.toNat <;> by_cases a2 : c.toNat ≤ 122 <;> by_cases a3 : 65 ≤ c.toNat <;> by_cases a4 : c.toNat ≤ 90 <;> by_cases a5 : 48 ≤ c.toNat <;> by_cases a6 : c.toNat ≤ 57 <;> by_cases a7 : Lib.indexByte mk14 c ≥ 0 <;>
    simp [a1, a2, a3, a4, a5, a6, a7, show ((c.toNat : Int) ≥ 97) = (97 ≤ c.toNat) from by simp; omega, show ((c.toNat : Int) ≤ 122) = (c.toNat ≤ 122) from by simp; omega, show ((c.toNat : Int) ≥ 65) = (65 ≤ c.toNat) from by simp; omega, show ((c.toNat : Int) ≤ 90) = (c.toNat ≤ 90) from by simp; omega, show ((c.toNat : Int) ≥ 48) = (48 ≤ c.toNat) from by simp; omega, show ((c.toNat : Int) ≤ 57) = (c.toNat ≤ 57) from by simp; omega]
def ntP (x : List UInt8) (i : Nat) : Bool := match x[i]? with | some c => !tokB c | none => false
def inR (n a b : Int) : Bool := decide (a ≤ n) && decide (n ≤ b)
theorem I_inRange_eq {k : Nat} (n a b : Int) : I_inRange k n a b = some (inR n a b) := by
  rw [I_inRange, bif_dec, inR]
  by_cases h : a ≤ n <;> simp [h]
def isTok (x : List UInt8) : Bool := (firstI (ntP x) x.length 0).isNone && inR (x.length : Int) 1 40
theorem I_IsToken_eq {k : Nat} (hk : 1073741824 ≤ k) (x : List UInt8) (h : x.length < 1073741824) : I_IsToken k x = some (isTok x) := by
  have := find_all (len := x.length) (c := fun i => bif ntP x i then some false else none) (F := fun n i => I_IsToken_b0 k n x (x.length : Int) i) (fun n i hi => by
    simp only [I_IsToken_b0, idx_nat hi, Option.bind_some, wrap_succ (by omega : i < 9223372036854775807), bif_dec, lt_cast, hi, if_true, ntP, List.getElem?_eq_getElem hi, I_isTokenByte_eq]
    cases tokB x[i] <;> rfl) (fun n i hi => by
    simp only [I_IsToken_b0, bif_dec, lt_cast]
    rw [if_neg (by omega)]) (k := k) (by omega)
  rw [I_IsToken, this, findI_first]
  unfold isTok
  cases firstI (ntP x) x.length 0 <;> simp [ocOf, oc, I_inRange_eq]
def lowB (c : UInt8) : UInt8 := bif decide (65 ≤ c.toNat) && decide (c.toNat ≤ 90) then c + 32 else c
def lowT (s : List UInt8) : List UInt8 := s.map lowB
theorem lowB_add : ∀ j : Fin 256, (65 ≤ j.val ∧ j.val ≤ 90) → IntKind.wrap .u8 ((j.val : Int) + 32) = (((UInt8.ofNat j.val) + 32).toNat : Int) := by decide +kernel
theorem low_wrap (c : UInt8) (h : 65 ≤ c.toNat ∧ c.toNat ≤ 90) : IntKind.wrap .u8 ((c.toNat : Int) + 32) = ((c + 32).toNat : Int) := by
  have := lowB_add ⟨c.toNat, UInt8.toNat_lt c⟩ h
  simpa using this
theorem bytes_ints (s : List UInt8) : bytesOf (intsOf s) = s := by
  unfold bytesOf intsOf
  rw [List.map_map]
  conv => rhs; rw [← List.map_id s]
  refine List.map_congr_left fun c _ => ?_
  simp
theorem ints_len (s : List UInt8) : (intsOf s).length = s.length := by unfold intsOf; simp
theorem ints_idx {s : List UInt8} {i : Nat} (h : i < s.length) : idx (intsOf s) (i : Int) = some (s[i].toNat : Int) := by
  rw [idx_nat (by rw [ints_len]; exact h)]; simp [intsOf]
theorem ints_set (s : List UInt8) (i : Nat) (c : UInt8) : (intsOf s).set i (c.toNat : Int) = intsOf (s.set i c) := by
  unfold intsOf; rw [List.map_set]
theorem low_loop {L : Nat} {F : Nat → Int → List Int → Option (List Int)} (T : ∀ n (i : Nat) (s : List UInt8) (h : i < s.length), s.length = L → F (n + 1) (i : Int) (intsOf s) = F n ((i + 1 : Nat) : Int) (intsOf (s.set i (lowB s[i]))))
    (E : ∀ n (i : Nat) (s : List UInt8), s.length ≤ i → s.length = L → F (n + 1) (i : Int) (intsOf s) = some (intsOf s)) : ∀ (n i : Nat) (s : List UInt8), i ≤ s.length → s.length - i < n → s.length = L → F n (i : Int) (intsOf s) = some (intsOf (s.take i ++ (s.drop i).map lowB)) := by
  intro n
  induction n with
  | zero => intro i s _ h; omega
  | succ n ih =>
    intro i s hi hn hs
    by_cases h : i < s.length
    · rw [T n i s h hs, ih (i + 1) _ (by simp; omega) (by simp; omega) (by simpa using hs)]
      congr 2
      rw [List.drop_eq_getElem_cons h, List.map_cons]
      have e1 : (s.set i (lowB s[i])).take (i + 1) = s.take i ++ [lowB s[i]] := by
        apply List.ext_getElem?
        intro j
        by_cases hj : j < i
        · rw [List.getElem?_take, if_pos (by omega), List.getElem?_set_ne (by omega), List.getElem?_append_left (by simp; omega), List.getElem?_take, if_pos hj]
        · by_cases hj2 : j = i
          · subst hj2
            rw [List.getElem?_take, if_pos (by omega), List.getElem?_set_self h, List.getElem?_append_right (by simp; omega)]
            simp [Nat.min_eq_left (Nat.le_of_lt h)]
          · rw [List.getElem?_take, if_neg (by omega), List.getElem?_eq_none (by simp; omega)]
      have e2 : (s.set i (lowB s[i])).drop (i + 1) = s.drop (i + 1) := by
        apply List.ext_getElem?
        intro j
        rw [List.getElem?_drop, List.getElem?_drop, List.getElem?_set_ne (by omega)]
      rw [e1, e2, List.append_assoc]; rfl
    · rw [E n i s (by omega) hs, List.drop_of_length_le (by omega), List.take_of_length_le (by omega)]; simp
theorem I_LowerText_eq {k : Nat} (hk : 1073741824 ≤ k) (s : List UInt8) (h : s.length < 1073741824) : I_LowerText k s = some (lowT s) := by
  have := low_loop (L := s.length) (F := fun n i r => I_LowerText_b0 k n (s.length : Int) i r) (fun n i t hi hs => by
    have hb := UInt8.toNat_lt t[i]
    have hlen : ((i : Int) < (s.length : Int)) := by omega
    simp only [I_LowerText_b0, bif_dec, hlen, if_true, I_LowerText_b1, ints_idx hi, Option.bind_some, wrap_succ (by omega : i < 9223372036854775807)]
    by_cases c1 : 65 ≤ t[i].toNat
    · by_cases c2 : t[i].toNat ≤ 90
      · have e1 : ((t[i].toNat : Int) ≥ 65) := by omega
        have e2 : decide ((t[i].toNat : Int) ≤ 90) = true := decide_eq_true (by omega)
        have e3 : lowB t[i] = t[i] + 32 := by unfold lowB; rw [decide_eq_true c1, decide_eq_true c2]; rfl
        simp only [e1, e2, if_true, I_LowerText_c20, cond_true, Option.bind_some, ints_idx hi, low_wrap _ ⟨c1, c2⟩, Int.toNat_natCast, ints_set, e3]
      · have e1 : ((t[i].toNat : Int) ≥ 65) := by omega
        have e2 : decide ((t[i].toNat : Int) ≤ 90) = false := decide_eq_false (by omega)
        have e3 : lowB t[i] = t[i] := by unfold lowB; rw [decide_eq_false c2]; simp
        simp only [e1, e2, if_true, I_LowerText_c20, cond_false, Option.bind_some, e3, List.set_getElem_self]
    · have e1 : ¬ ((t[i].toNat : Int) ≥ 65) := by omega
      have e3 : lowB t[i] = t[i] := by unfold lowB; rw [decide_eq_false c1]; simp
      simp only [e1, if_false, I_LowerText_c20, cond_false, Option.bind_some, e3, List.set_getElem_self]) (fun n i t hi ht => by
    have hlen : ¬ ((i : Int) < (s.length : Int)) := by omega
    simp only [I_LowerText_b0, bif_dec, hlen, if_false]) k 0 s (by omega) (by omega) rfl
  have h1 : I_LowerText_b0 k k (s.length : Int) 0 (intsOf s) = some (intsOf (s.take 0 ++ (s.drop 0).map lowB)) := this
  rw [I_LowerText, ints_len, h1, Option.bind_some, bytes_ints]; simp [lowT]
def hexV (c : UInt8) : Int := if 48 ≤ c.toNat ∧ c.toNat ≤ 57 then (c.toNat : Int) - 48 else if 97 ≤ c.toNat ∧ c.toNat ≤ 102 then (c.toNat : Int) - 87 else if 65 ≤ c.toNat ∧ c.toNat ≤ 70 then (c.toNat : Int) - 55 else -1
def hexC : List UInt8 := [48, 49, 50, 51, 52, 53, 54, 55, 56, 57, 65, 66, 67, 68, 69, 70]
theorem S_hex0 : ∀ j : Fin 256, S_l12Hex 0 (j.val : Int) = some (hexV (UInt8.ofNat j.val)) := by decide +kernel
theorem S_l12Hex_eq {k : Nat} (c : UInt8) : S_l12Hex k (c.toNat : Int) = some (hexV c) := by
  have := S_hex0 ⟨c.toNat, UInt8.toNat_lt c⟩
  simp only [UInt8.ofNat_toNat] at this
  exact this
theorem I_hex0 : ∀ j : Fin 256, I_hexDigit 0 (j.val : Int) = some (hexV (UInt8.ofNat j.val)) := by decide +kernel
theorem I_hexDigit_eq {k : Nat} (c : UInt8) : I_hexDigit k (c.toNat : Int) = some (hexV c) := by
  have := I_hex0 ⟨c.toNat, UInt8.toNat_lt c⟩
  simp only [UInt8.ofNat_toNat] at this
  exact this
theorem hexV_lt (c : UInt8) : hexV c < 16 := by
  unfold hexV
  split
  · omega
  · split
    · omega
    · split <;> omega
def vAB (a b : Nat) : UInt8 := UInt8.ofNat (16 * a + b)
def unres (v : UInt8) : Bool := letB v || v == 45 || v == 46 || v == 95 || v == 126
def outAB (a b : Nat) : List UInt8 := bif unres (vAB a b) then [vAB a b] else [37, hexC.getD a 0, hexC.getD b 0]
theorem outAB_len (a b : Nat) : (outAB a b).length ≤ 3 := by unfold outAB; cases unres (vAB a b) <;> simp
theorem ab_tab : ∀ a b : Fin 16, IntKind.wrap .u8 (IntKind.wrap .i64 (IntKind.wrap .i64 ((16 : Int) * (a.val : Int)) + (b.val : Int))) = ((vAB a.val b.val).toNat : Int) ∧ shrI .u8 ((vAB a.val b.val).toNat : Int) 4 = some (a.val : Int) ∧ andI .u8 ((vAB a.val b.val).toNat : Int) 15 = (b.val : Int) := by decide +kernel
theorem idx_hexC {a : Nat} (h : a < 16) : idx ([48, 49, 50, 51, 52, 53, 54, 55, 56, 57, 65, 66, 67, 68, 69, 70] : List UInt8) (a : Int) = some (hexC.getD a 0) := by
  have hl : a < hexC.length := h
  have : idx hexC (a : Int) = some hexC[a] := idx_nat hl
  rw [show hexC.getD a 0 = hexC[a] by simp [List.getD, hl]]
  exact this
def dec : List UInt8 → List UInt8 → Option (List UInt8)
  | [], acc => some acc
  | [c], acc => bif c == 37 then none else some (acc ++ [c])
  | [c, d], acc => bif c == 37 then none else dec [d] (acc ++ [c])
  | c :: h :: l :: r, acc => bif c == 37 then (bif decide (0 ≤ hexV h) && decide (0 ≤ hexV l) then dec r (acc ++ outAB (hexV h).toNat (hexV l).toNat) else none) else dec (h :: l :: r) (acc ++ [c])
theorem decA1 (c : UInt8) (acc : List UInt8) : dec [c] acc = bif c == 37 then none else some (acc ++ [c]) := rfl
theorem decA2 (c d : UInt8) (acc : List UInt8) : dec [c, d] acc = bif c == 37 then none else dec [d] (acc ++ [c]) := rfl
theorem decA3 (c h l : UInt8) (r acc : List UInt8) : dec (c :: h :: l :: r) acc = bif c == 37 then (bif decide (0 ≤ hexV h) && decide (0 ≤ hexV l) then dec r (acc ++ outAB (hexV h).toNat (hexV l).toNat) else none) else dec (h :: l :: r) (acc ++ [c]) := rfl
theorem dec_p (r acc : List UInt8) {c : UInt8} (h : (c == 37) = false) : dec (c :: r) acc = dec r (acc ++ [c]) := by
  match r with
  | [] => rw [decA1, h]; rfl
  | [d] => rw [decA2, h]; rfl
  | d :: e :: r => rw [decA3, h]; rfl
theorem dec_s (r acc : List UInt8) {c : UInt8} (h : (c == 37) = true) (hr : r.length < 2) : dec (c :: r) acc = none := by
  match r, hr with
  | [], _ => rw [decA1, h]; rfl
  | [d], _ => rw [decA2, h]; rfl
theorem dec_h (r acc : List UInt8) {c u l : UInt8} (h : (c == 37) = true) : dec (c :: u :: l :: r) acc = bif decide (0 ≤ hexV u) && decide (0 ≤ hexV l) then dec r (acc ++ outAB (hexV u).toNat (hexV l).toNat) else none := by rw [decA3, h]; rfl
theorem intsOf_app (a b : List UInt8) : intsOf a ++ intsOf b = intsOf (a ++ b) := by unfold intsOf; simp
theorem S_emit {k : Nat} {x : List UInt8} {x5 : Int} {acc : List UInt8} {a b : Nat} (ha : a < 16) (hb : b < 16) (hl : acc.length < 1073741824) {f : Bool} (hf : f = unres (vAB a b)) :
    S_l12Plain_c75 k x x5 ((vAB a b).toNat : Int) f (intsOf acc) = some (intsOf (acc ++ outAB a b)) := by
  obtain ⟨_, h2, h3⟩ := ab_tab ⟨a, ha⟩ ⟨b, hb⟩
  simp only at h2 h3
  subst hf
  unfold S_l12Plain_c75 outAB
  cases unres (vAB a b) with
  | true => rw [cond_true, cond_true, appn_ok (by simp [intsOf]; omega), ← intsOf_app]; rfl
  | false => rw [cond_false, cond_false, h2, Option.bind_some, idx_hexC ha, Option.bind_some, h3, idx_hexC hb, Option.bind_some, appn_ok (by simp [intsOf]; omega), ← intsOf_app]; rfl
theorem S_plain_loop {k : Nat} {x : List UInt8} (hx : x.length < 1073741000) : ∀ (n i : Nat) (acc : List UInt8), x.length - i < n → i ≤ x.length → acc.length ≤ i →
    S_l12Plain_b0 k n x (i : Int) (intsOf acc) = some (match dec (x.drop i) acc with | some t => .nrm (intsOf t) | none => .oth ([], false)) := by
  intro n
  induction n with
  | zero => intro i acc h; omega
  | succ n ih =>
    intro i acc hn hi ha
    rw [S_l12Plain_b0, bif_dec]
    by_cases c : i < x.length
    · have u37 : ((UInt8.toNat x[i] : Int) != 37) = !(x[i] == 37) := by unfold bne; rw [← u8_eq x[i] 37]; rfl
      rw [if_pos (by omega), S_l12Plain_b1, idx_nat c, Option.bind_some, u37, List.drop_eq_getElem_cons c]
      cases h37 : (x[i] == 37) with
      | false =>
        rw [Bool.not_false, cond_true, Option.bind_some, appn_ok (by simp [intsOf]; omega), Option.bind_some, dec_p _ _ h37]
        simp only [Option.bind_some, oc]
        rw [wrap_succ (by omega), show intsOf acc ++ [(x[i].toNat : Int)] = intsOf (acc ++ [x[i]]) from intsOf_app acc [x[i]]]
        exact ih (i + 1) (acc ++ [x[i]]) (by omega) (by omega) (by simp; omega)
      | true =>
        have w2 : IntKind.wrap .i64 ((i : Int) + 2) = ((i + 2 : Nat) : Int) := by rw [wrap_id (by omega) (by omega)]; omega
        rw [Bool.not_true, cond_false, w2, wrap_succ (by omega), bif_dec]
        by_cases c2 : i + 2 < x.length
        · have c1 : i + 1 < x.length := by omega
          rw [if_neg (by omega), idx_nat c1, Option.bind_some, S_l12Hex_eq, Option.bind_some, bif_dec, List.drop_eq_getElem_cons c1, List.drop_eq_getElem_cons c2, dec_h _ _ h37]
          by_cases hu : hexV x[i + 1] < 0
          · rw [if_pos hu, decide_eq_false (by omega), Bool.false_and]; rfl
          · rw [if_neg hu, idx_nat c2, Option.bind_some, S_l12Hex_eq, Option.bind_some, bif_dec, decide_eq_true (by omega), Bool.true_and]
            by_cases hv : hexV x[i + 2] < 0
            · rw [if_pos hv, decide_eq_false (by omega)]; rfl
            · rw [if_neg hv, decide_eq_true (by omega), cond_true]
              have g1 := hexV_lt x[i + 1]
              have g2 := hexV_lt x[i + 2]
              obtain ⟨a, hav⟩ := Int.eq_ofNat_of_zero_le (show 0 ≤ hexV x[i + 1] by omega)
              obtain ⟨b, hbv⟩ := Int.eq_ofNat_of_zero_le (show 0 ≤ hexV x[i + 2] by omega)
              have ga : a < 16 := by omega
              have gb : b < 16 := by omega
              have tb := (ab_tab ⟨a, ga⟩ ⟨b, gb⟩).1
              simp only at tb
              simp only [S_l12Hex_eq, Option.bind_some, hav, hbv]
              rw [tb, S_l4Letter_eq, Option.bind_some, Int.toNat_natCast, Int.toNat_natCast]
              have e45 : (((vAB a b).toNat : Int) == 45) = (vAB a b == 45) := u8_eq _ 45
              have e46 : (((vAB a b).toNat : Int) == 46) = (vAB a b == 46) := u8_eq _ 46
              have e95 : (((vAB a b).toNat : Int) == 95) = (vAB a b == 95) := u8_eq _ 95
              have e126 : (((vAB a b).toNat : Int) == 126) = (vAB a b == 126) := u8_eq _ 126
              have ol := outAB_len a b
              have fin := ih (i + 3) (acc ++ outAB a b) (by omega) (by omega) (by simp; omega)
              have w3 : IntKind.wrap .i64 (((i + 2 : Nat) : Int) + 1) = ((i + 3 : Nat) : Int) := wrap_succ (by omega)
              rw [e45, e46, e95, e126]
              have em : ∀ {f : Bool}, f = unres (vAB a b) → S_l12Plain_c75 k x (i : Int) ((vAB a b).toNat : Int) f (intsOf acc) = some (intsOf (acc ++ outAB a b)) := fun hf => S_emit ga gb (by omega) hf
              have e1 : ∀ o : Option (Oc (Int × List Int) (List UInt8 × Bool)), o = some (.nrm (((i + 2 : Nat) : Int), intsOf (acc ++ outAB a b))) → (o.bind fun o1 => oc o1 (fun o2 => S_l12Plain_b0 k n x (IntKind.wrap .i64 (o2.1 + 1)) o2.2) fun o3 => some (.oth o3)) = some (match dec (x.drop (i + 2 + 1)) (acc ++ outAB a b) with | some t => .nrm (intsOf t) | none => .oth ([], false)) := fun o ho => by
                rw [ho, Option.bind_some]
                show S_l12Plain_b0 k n x (IntKind.wrap .i64 (((i + 2 : Nat) : Int) + 1)) (intsOf (acc ++ outAB a b)) = _
                rw [w3]; exact fin
              refine e1 _ ?_
              cases hL : letB (vAB a b) with
              | true => rw [cond_true, em (by unfold unres; rw [hL]; rfl)]; rfl
              | false =>
                cases h1 : (vAB a b == 45) with
                | true => rw [cond_false, cond_true, em (by unfold unres; rw [hL, h1]; rfl)]; rfl
                | false =>
                  cases h2 : (vAB a b == 46) with
                  | true => rw [cond_false, cond_false, cond_true, em (by unfold unres; rw [hL, h1, h2]; rfl)]; rfl
                  | false =>
                    cases h3 : (vAB a b == 95) with
                    | true => rw [cond_false, cond_false, cond_false, cond_true, em (by unfold unres; rw [hL, h1, h2, h3]; rfl)]; rfl
                    | false => rw [cond_false, cond_false, cond_false, cond_false, em (by unfold unres; rw [hL, h1, h2, h3]; rfl)]; rfl
        · rw [if_pos (by omega), dec_s _ _ h37 (by simp; omega)]; rfl
    · rw [if_neg (by omega), List.drop_of_length_le (by omega)]; rfl
def decT (x : List UInt8) : List UInt8 × Bool := match dec x [] with | some t => (t, true) | none => ([], false)
theorem S_l12Plain_eq {k : Nat} (hk : 1073741824 ≤ k) (x : List UInt8) (h : x.length < 1073741000) : S_l12Plain k x = some (decT x) := by
  have := S_plain_loop (k := k) h k 0 [] (by omega) (by omega) (by simp)
  rw [show (((0 : Nat)) : Int) = 0 from rfl, show intsOf [] = [] from rfl, List.drop_zero] at this
  rw [S_l12Plain, this, Option.bind_some]
  unfold decT
  cases dec x [] with
  | none => rfl
  | some t => simp only [oc, bytes_ints]
theorem tl_tab : ∀ j : Fin 256, decide (Lib.indexByte [45, 46, 95, 126] (UInt8.ofNat j.val) ≥ 0) = (UInt8.ofNat j.val == 45 || UInt8.ofNat j.val == 46 || UInt8.ofNat j.val == 95 || UInt8.ofNat j.val == 126) := by decide +kernel
theorem tl_eq (c : UInt8) : decide (Lib.indexByte [45, 46, 95, 126] c ≥ 0) = (c == 45 || c == 46 || c == 95 || c == 126) := by
  have := tl_tab ⟨c.toNat, UInt8.toNat_lt c⟩
  simpa using this
theorem bind_of {α β : Type} {o : Option α} {x : α} {g : α → Option β} (h : o = some x) : o.bind g = g x := by rw [h]; rfl
theorem unres_int (v : UInt8) : unres v = ((decide ((v.toNat : Int) ≥ 97) && decide ((v.toNat : Int) ≤ 122)) || (decide ((v.toNat : Int) ≥ 65) && decide ((v.toNat : Int) ≤ 90)) || (decide ((v.toNat : Int) ≥ 48) && decide ((v.toNat : Int) ≤ 57)) || decide (Lib.indexByte [45, 46, 95, 126] v ≥ 0)) := by
  rw [tl_eq]
  unfold unres letB
  have e1 : decide ((v.toNat : Int) ≥ 97) = decide (97 ≤ v.toNat) := decide_eq_decide.2 (by omega)
  have e2 : decide ((v.toNat : Int) ≤ 122) = decide (v.toNat ≤ 122) := decide_eq_decide.2 (by omega)
  have e3 : decide ((v.toNat : Int) ≥ 65) = decide (65 ≤ v.toNat) := decide_eq_decide.2 (by omega)
  have e4 : decide ((v.toNat : Int) ≤ 90) = decide (v.toNat ≤ 90) := decide_eq_decide.2 (by omega)
  have e5 : decide ((v.toNat : Int) ≥ 48) = decide (48 ≤ v.toNat) := decide_eq_decide.2 (by omega)
  have e6 : decide ((v.toNat : Int) ≤ 57) = decide (v.toNat ≤ 57) := decide_eq_decide.2 (by omega)
  rw [e1, e2, e3, e4, e5, e6]
  simp only [Bool.or_assoc]
theorem I_emit {k : Nat} {x : List UInt8} {x5 : Int} {acc : List UInt8} {a b : Nat} (ha : a < 16) (hb : b < 16) (hl : acc.length < 1073741824) {f : Bool} (hf : f = unres (vAB a b)) :
    I_decodedTarget_c88 k x x5 (a : Int) (b : Int) ((vAB a b).toNat : Int) f (intsOf acc) = some (intsOf (acc ++ outAB a b)) := by
  subst hf
  unfold I_decodedTarget_c88 outAB
  cases unres (vAB a b) with
  | true => rw [cond_true, cond_true, appn_ok (by simp [intsOf]; omega), ← intsOf_app]; rfl
  | false => rw [cond_false, cond_false, idx_hexC ha, Option.bind_some, idx_hexC hb, Option.bind_some, appn_ok (by simp [intsOf]; omega), ← intsOf_app]; rfl
theorem I_dec_loop {k : Nat} {x : List UInt8} (hx : x.length < 1073741000) : ∀ (n i : Nat) (acc : List UInt8), x.length - i < n → i ≤ x.length → acc.length ≤ i →
    I_decodedTarget_b0 k n x (i : Int) (intsOf acc) = some (match dec (x.drop i) acc with | some t => .nrm (intsOf t) | none => .oth ([], false)) := by
  intro n
  induction n with
  | zero => intro i acc h; omega
  | succ n ih =>
    intro i acc hn hi ha
    rw [I_decodedTarget_b0, bif_dec]
    by_cases c : i < x.length
    · have u37 : ((UInt8.toNat x[i] : Int) != 37) = !(x[i] == 37) := by unfold bne; rw [← u8_eq x[i] 37]; rfl
      rw [if_pos (by omega), I_decodedTarget_b1, idx_nat c, Option.bind_some, u37, List.drop_eq_getElem_cons c]
      cases h37 : (x[i] == 37) with
      | false =>
        rw [Bool.not_false, cond_true, Option.bind_some, appn_ok (by simp [intsOf]; omega), Option.bind_some, dec_p _ _ h37]
        simp only [Option.bind_some, oc]
        rw [wrap_succ (by omega), show intsOf acc ++ [(x[i].toNat : Int)] = intsOf (acc ++ [x[i]]) from intsOf_app acc [x[i]]]
        exact ih (i + 1) (acc ++ [x[i]]) (by omega) (by omega) (by simp; omega)
      | true =>
        have w2 : IntKind.wrap .i64 ((i : Int) + 2) = ((i + 2 : Nat) : Int) := by rw [wrap_id (by omega) (by omega)]; omega
        rw [Bool.not_true, cond_false, w2, wrap_succ (by omega), bif_dec]
        by_cases c2 : i + 2 < x.length
        · have c1 : i + 1 < x.length := by omega
          rw [if_neg (by omega), idx_nat c1, Option.bind_some, I_hexDigit_eq, Option.bind_some, bif_dec, List.drop_eq_getElem_cons c1, List.drop_eq_getElem_cons c2, dec_h _ _ h37]
          by_cases hu : hexV x[i + 1] < 0
          · rw [if_pos hu, decide_eq_false (by omega), Bool.false_and]; rfl
          · rw [if_neg hu, idx_nat c2, Option.bind_some, I_hexDigit_eq, Option.bind_some, bif_dec, decide_eq_true (by omega), Bool.true_and]
            by_cases hv : hexV x[i + 2] < 0
            · rw [if_pos hv, decide_eq_false (by omega)]; rfl
            · rw [if_neg hv, decide_eq_true (by omega), cond_true]
              have g1 := hexV_lt x[i + 1]
              have g2 := hexV_lt x[i + 2]
              obtain ⟨a, hav⟩ := Int.eq_ofNat_of_zero_le (show 0 ≤ hexV x[i + 1] by omega)
              obtain ⟨b, hbv⟩ := Int.eq_ofNat_of_zero_le (show 0 ≤ hexV x[i + 2] by omega)
              have ga : a < 16 := by omega
              have gb : b < 16 := by omega
              have tb := (ab_tab ⟨a, ga⟩ ⟨b, gb⟩).1
              simp only at tb
              have hI : strings_IndexByte k ([45, 46, 95, 126] : List UInt8) ((vAB a b).toNat : Int) = some (Lib.indexByte [45, 46, 95, 126] (vAB a b)) := by
                rw [strings_IndexByte, indexByteO, Int.toNat_natCast]; simp
              simp only [I_hexDigit_eq, Option.bind_some, hav, hbv]
              rw [tb, Int.toNat_natCast, Int.toNat_natCast]
              simp only [hI, Option.bind_some]
              have ol := outAB_len a b
              have fin := ih (i + 3) (acc ++ outAB a b) (by omega) (by omega) (by simp; omega)
              have w3 : IntKind.wrap .i64 (((i + 2 : Nat) : Int) + 1) = ((i + 3 : Nat) : Int) := wrap_succ (by omega)
              have em := I_emit (k := k) (x := x) (x5 := (i : Int)) (acc := acc) ga gb (by omega) (unres_int (vAB a b)).symm
              have e1 : ∀ o : Option (Oc (Int × List Int) (List UInt8 × Bool)), o = some (.nrm (((i + 2 : Nat) : Int), intsOf (acc ++ outAB a b))) → (o.bind fun o1 => oc o1 (fun o2 => I_decodedTarget_b0 k n x (IntKind.wrap .i64 (o2.1 + 1)) o2.2) fun o3 => some (.oth o3)) = some (match dec (x.drop (i + 2 + 1)) (acc ++ outAB a b) with | some t => .nrm (intsOf t) | none => .oth ([], false)) := fun o ho => by
                rw [ho, Option.bind_some]
                show I_decodedTarget_b0 k n x (IntKind.wrap .i64 (((i + 2 : Nat) : Int) + 1)) (intsOf (acc ++ outAB a b)) = _
                rw [w3]; exact fin
              refine e1 _ ?_
              revert em
              generalize decide (((vAB a b).toNat : Int) ≥ 97) = d1
              generalize decide (((vAB a b).toNat : Int) ≤ 122) = d2
              generalize decide (((vAB a b).toNat : Int) ≥ 65) = d3
              generalize decide (((vAB a b).toNat : Int) ≤ 90) = d4
              generalize decide (((vAB a b).toNat : Int) ≥ 48) = d5
              generalize decide (((vAB a b).toNat : Int) ≤ 57) = d6
              generalize decide (Lib.indexByte [45, 46, 95, 126] (vAB a b) ≥ 0) = d7
              intro em
              cases d1 <;> cases d2 <;> cases d3 <;> cases d4 <;> cases d5 <;> cases d6 <;> exact bind_of em
        · rw [if_pos (by omega), dec_s _ _ h37 (by simp; omega)]; rfl
    · rw [if_neg (by omega), List.drop_of_length_le (by omega)]; rfl
theorem I_decodedTarget_eq {k : Nat} (hk : 1073741824 ≤ k) (x : List UInt8) (h : x.length < 1073741000) : I_decodedTarget k x = some (decT x) := by
  have := I_dec_loop (k := k) h k 0 [] (by omega) (by omega) (by simp)
  rw [show (((0 : Nat)) : Int) = 0 from rfl, show intsOf [] = [] from rfl, List.drop_zero] at this
  rw [I_decodedTarget, this, Option.bind_some]
  unfold decT
  cases dec x [] with
  | none => rfl
  | some t => simp only [oc, bytes_ints]
def blank (c : UInt8) : Bool := c == 32 || c == 9
def rtrim (x : List UInt8) : List UInt8 := (x.reverse.dropWhile blank).reverse
def trimT (x : List UInt8) : List UInt8 := rtrim (x.dropWhile blank)
theorem rtrim_cons (e : UInt8) (l : List UInt8) : rtrim (e :: l) = if rtrim l = [] then (if blank e then [] else [e]) else e :: rtrim l := by
  unfold rtrim
  rw [List.reverse_cons, List.dropWhile_append]
  cases h : l.reverse.dropWhile blank with
  | nil => cases hb : blank e <;> simp [List.dropWhile_cons, hb]
  | cons a m => simp
theorem trim_comm : ∀ x : List UInt8, rtrim (x.dropWhile blank) = (rtrim x).dropWhile blank
  | [] => rfl
  | e :: l => by
    have ih := trim_comm l
    rw [rtrim_cons, List.dropWhile_cons]
    cases hb : blank e with
    | true =>
      by_cases h : rtrim l = []
      · rw [h] at ih; simp [h, ih]
      · simp [h, List.dropWhile_cons, hb, ih]
    | false =>
      rw [if_neg (by simp), rtrim_cons]
      by_cases h : rtrim l = []
      · simp [h, List.dropWhile_cons, hb]
      · simp [h, List.dropWhile_cons, hb]
theorem trimS_eq (x : List UInt8) : Lib.trimS x [32, 9] = trimT x := by
  have hc : (fun b : UInt8 => ([32, 9] : List UInt8).contains b) = blank := by
    funext b; unfold blank
    simp only [List.contains, List.elem]
    cases h1 : (b == 32) <;> cases h2 : (b == 9) <;> rfl
  unfold Lib.trimS Lib.trimLeftS Lib.trimRightS trimT
  rw [hc, trim_comm]; rfl
theorem I_TrimText_eq {k : Nat} (x : List UInt8) (h : x.length < 1073741824) : I_TrimText k x = some (trimT x) := by
  have hd : (decide (x.length ≤ 9223372036854775807) && decide (([32, 9] : List UInt8).length < 4294967281) && ([32, 9] : List UInt8).all (fun b => decide (b.toNat < 128))) = true := by
    rw [Bool.and_eq_true, Bool.and_eq_true]; exact ⟨⟨decide_eq_true (by omega), by decide⟩, by decide⟩
  rw [I_TrimText, strings_Trim, trimO, hd, cond_true, trimS_eq]; rfl
def sub (x : List UInt8) (f i : Nat) : List UInt8 := (x.take i).drop f
theorem sub_succ {x : List UInt8} {f i : Nat} (hf : f ≤ i) (hi : i < x.length) : sub x f (i + 1) = sub x f i ++ [x[i]] := by
  unfold sub
  have : x.take (i + 1) = x.take i ++ [x[i]] := by rw [List.take_add_one, List.getElem?_eq_getElem hi]; rfl
  rw [this, List.drop_append_of_le_length (by simp; omega)]
theorem sub_self (x : List UInt8) (i : Nat) : sub x i i = [] := by unfold sub; rw [List.drop_eq_nil_iff]; simp; omega
theorem sub_end {x : List UInt8} {f i : Nat} (h : x.length ≤ i) : sub x f i = x.drop f := by unfold sub; rw [List.take_of_length_le h]
theorem ssub_sub {x : List UInt8} {f i : Nat} (h1 : f ≤ i) (h : i ≤ x.length) : ssub x (f : Int) (i : Int) = some (sub x f i) := ssub_mid h1 h
def cutP (b : UInt8) : List UInt8 → List UInt8 → List (List UInt8)
  | [], cur => [cur]
  | c :: r, cur => bif c == b then cur :: cutP b r [] else cutP b r (cur ++ [c])
theorem cutP_len (b : UInt8) : ∀ (l cur : List UInt8), (cutP b l cur).length ≤ l.length + 1
  | [], cur => by simp [cutP]
  | c :: r, cur => by
    rw [cutP]
    have h1 := cutP_len b r []
    have h2 := cutP_len b r (cur ++ [c])
    cases (c == b) with
    | true => rw [cond_true]; simp; omega
    | false => rw [cond_false]; simp; omega
theorem cutP_pos (b : UInt8) : ∀ (l cur : List UInt8), 0 < (cutP b l cur).length
  | [], cur => by simp [cutP]
  | c :: r, cur => by
    rw [cutP]
    have h2 := cutP_pos b r (cur ++ [c])
    cases (c == b) with
    | true => rw [cond_true]; simp
    | false => rw [cond_false]; exact h2
theorem S_l12Split_loop {k : Nat} {x : List UInt8} {b : UInt8} (hx : x.length < 1073741824) : ∀ (n i f : Nat) (r : List (List UInt8)), f ≤ i → i ≤ x.length → x.length < i + n → r.length ≤ i →
    ∃ (f' : Nat) (r' : List (List UInt8)), S_l12Split_b0 k n x (b.toNat : Int) (f : Int) (i : Int) r = some ((f' : Int), r') ∧ f' ≤ x.length ∧ r'.length ≤ x.length ∧ r' ++ [x.drop f'] = r ++ cutP b (x.drop i) (sub x f i) := by
  intro n
  induction n with
  | zero => intro i f r _ h h2; omega
  | succ n ih =>
    intro i f r hf hi hn hr
    rw [S_l12Split_b0, bif_dec]
    by_cases c : i < x.length
    · have ub := u8_eq x[i] b
      rw [if_pos (by omega), List.drop_eq_getElem_cons c, cutP]
      simp only [S_l12Split_b1, idx_nat c, Option.bind_some, S_l12Split_c19, ub]
      cases h3 : (x[i] == b) with
      | true =>
        simp only [cond_true]
        rw [ssub_sub hf (by omega), Option.bind_some, appn_ok (by simp; omega)]
        simp only [Option.bind_some]
        rw [wrap_succ (by omega)]
        obtain ⟨f', r', e1, e2, e3, e4⟩ := ih (i + 1) (i + 1) (r ++ [sub x f i]) (by omega) (by omega) (by omega) (by simp; omega)
        rw [sub_self] at e4
        exact ⟨f', r', e1, e2, e3, by rw [e4]; simp⟩
      | false =>
        simp only [cond_false, Option.bind_some]
        rw [wrap_succ (by omega), ← sub_succ hf c]
        exact ih (i + 1) f r (by omega) (by omega) (by omega) (by omega)
    · rw [if_neg (by omega), List.drop_of_length_le (by omega), cutP, sub_end (by omega)]
      exact ⟨f, r, rfl, by omega, by omega, rfl⟩
theorem S_l12Split_eq {k : Nat} (hk : 1073741824 ≤ k) (x : List UInt8) (b : UInt8) (h : x.length < 1073741000) : S_l12Split k x (b.toNat : Int) = some (cutP b x []) := by
  obtain ⟨f', r', e1, e2, e3, e4⟩ := S_l12Split_loop (k := k) (b := b) (show x.length < 1073741824 by omega) k 0 0 [] (by omega) (by omega) (by omega) (by simp)
  rw [show ((0 : Nat) : Int) = 0 from rfl] at e1
  rw [S_l12Split, e1, Option.bind_some]
  simp only
  rw [ssub_drop e2, Option.bind_some, appn_ok (by simp; omega), e4]
  simp [sub]
theorem index_cons (b c : UInt8) (r : List UInt8) : Lib.index (c :: r) [b] = if c == b then 0 else if Lib.index r [b] == -1 then -1 else Lib.index r [b] + 1 := by
  rw [Lib.index_one, Lib.index_one, Lib.indexByte]
theorem count_first (b c : UInt8) (r : List UInt8) (h : (c == b) = true) : Lib.count (c :: r) [b] = 1 + Lib.count r [b] := by
  have := Lib.count_hit (s := c :: r) (sub := [b]) (i := 0) (by simp) (by rw [index_cons, if_pos h]; rfl)
  simpa using this
theorem split_cons (b c : UInt8) (r : List UInt8) : Lib.split (c :: r) [b] = bif c == b then [] :: Lib.split r [b] else match Lib.split r [b] with | [] => [[c]] | p :: ps => (c :: p) :: ps := by
  cases h : (c == b) with
  | true =>
    unfold Lib.split
    rw [count_first b c r h, Nat.add_comm, Lib.splitK, index_cons, if_pos h]
    simp
  | false =>
    rw [cond_false]
    have hn : ¬ (c == b) = true := by rw [h]; exact Bool.false_ne_true
    have hi := index_cons b c r
    rw [if_neg hn] at hi
    rcases Lib.index_spec r [b] with ⟨h1, _⟩ | ⟨i, h1, _, _, _⟩
    · rw [h1] at hi
      unfold Lib.split
      rw [Lib.count_miss h1, Lib.count_miss (s := c :: r) (by rw [hi]; rfl), Lib.splitK, Lib.splitK]
    · have hm : ¬ ((i : Int) == -1) = true := fun e => by have := beq_iff_eq.1 e; omega
      rw [h1, if_neg hm] at hi
      have c1 := Lib.count_hit (s := r) (sub := [b]) (i := i) (by simp) h1
      have c2 := Lib.count_hit (s := c :: r) (sub := [b]) (i := i + 1) (by simp) (by rw [hi]; rfl)
      have hm2 : ¬ ((i : Int) + 1 == -1) = true := fun e => by have := beq_iff_eq.1 e; omega
      unfold Lib.split
      rw [c1, c2, Nat.add_comm 1, Nat.add_comm 1, Lib.splitK, Lib.splitK, h1, hi, if_neg hm, if_neg hm2]
      rw [show ((i : Int) + 1).toNat = i + 1 by omega, show ((i : Int)).toNat = i by omega]
      simp [List.take_succ_cons, Nat.add_right_comm]
theorem split_ne (b : UInt8) (s : List UInt8) : Lib.split s [b] ≠ [] := by
  unfold Lib.split
  cases Lib.count s [b] with
  | zero => simp [Lib.splitK]
  | succ n => rw [Lib.splitK]; split <;> simp
theorem cutP_split (b : UInt8) : ∀ (s cur : List UInt8), cutP b s cur = match Lib.split s [b] with | [] => [] | p :: ps => (cur ++ p) :: ps
  | [], cur => by
    have : Lib.split [] [b] = [[]] := by
      unfold Lib.split
      rw [Lib.count_miss (by rw [Lib.index_one]; rfl)]; rfl
    rw [this]; simp [cutP]
  | c :: r, cur => by
    have h1 := cutP_split b r []
    have h2 := cutP_split b r (cur ++ [c])
    have hne := split_ne b r
    rw [cutP, split_cons, h1, h2]
    cases hs : Lib.split r [b] with
    | nil => exact absurd hs hne
    | cons p ps =>
      cases (c == b) with
      | true => simp
      | false => simp
theorem split_cutP (b : UInt8) (s : List UInt8) : Lib.split s [b] = cutP b s [] := by
  rw [cutP_split]
  cases hs : Lib.split s [b] with
  | nil => exact absurd hs (split_ne b s)
  | cons p ps => simp
theorem strings_Split_eq {k : Nat} (x : List UInt8) (b : UInt8) (h : x.length < 1073741824) : strings_Split k x [b] = some (cutP b x []) := by
  have hd : (decide (x.length < 4294967281) && decide (1 ≤ [b].length)) = true := by rw [Bool.and_eq_true]; exact ⟨decide_eq_true (by omega), by simp⟩
  rw [strings_Split, splitO, hd, cond_true, ← split_cutP]; rfl
def cleanE (last : Bool) (e : List UInt8) (out : List (List UInt8)) : List (List UInt8) :=
  bif !(e == [46]) && !(e == [46, 46]) then out ++ [e] else
  bif last then (bif e == [46, 46] then out.take (out.length - 1) else out) ++ [[]] else (bif e == [46, 46] then out.take (out.length - 1) else out)
def cleanL : List (List UInt8) → List (List UInt8) → List (List UInt8)
  | [], out => out
  | e :: r, out => cleanL r (cleanE r.isEmpty e out)
theorem lensC (p : List UInt8) (l : List (List UInt8)) : Lib.lens (p :: l) = p.length + Lib.lens l := rfl
theorem lens_app : ∀ a b : List (List UInt8), Lib.lens (a ++ b) = Lib.lens a + Lib.lens b
  | [], b => by simp [Lib.lens]
  | p :: a, b => by rw [List.cons_append, lensC, lensC, lens_app a b]; omega
theorem lens_take (l : List (List UInt8)) (n : Nat) : Lib.lens (l.take n) ≤ Lib.lens l := by
  have := lens_app (l.take n) (l.drop n)
  rw [List.take_append_drop] at this
  omega
theorem lens_one (p : List UInt8) : Lib.lens [p] = p.length := by rw [lensC]; simp [Lib.lens]
theorem lens_mem : ∀ {l : List (List UInt8)} {p : List UInt8}, p ∈ l → p.length ≤ Lib.lens l
  | q :: l, p, h => by
    rw [lensC]
    rcases List.mem_cons.1 h with rfl | h
    · omega
    · have := lens_mem h; omega
theorem cutP_sum (b : UInt8) : ∀ (l cur : List UInt8), Lib.lens (cutP b l cur) ≤ cur.length + l.length
  | [], cur => by rw [cutP, lens_one]; omega
  | c :: r, cur => by
    rw [cutP]
    have h1 := cutP_sum b r []
    have h2 := cutP_sum b r (cur ++ [c])
    cases (c == b) with
    | true => rw [cond_true, lensC]; simp at h1 ⊢; omega
    | false => rw [cond_false]; simp at h2 ⊢; omega
theorem cleanE_len (last : Bool) (e : List UInt8) (out : List (List UInt8)) : (cleanE last e out).length ≤ out.length + 1 := by
  unfold cleanE
  cases (!(e == [46]) && !(e == [46, 46])) <;> cases last <;> cases (e == ([46, 46] : List UInt8)) <;> simp <;> omega
theorem cleanE_lens (last : Bool) (e : List UInt8) (out : List (List UInt8)) : Lib.lens (cleanE last e out) ≤ Lib.lens out + e.length := by
  have h1 := lens_take out (out.length - 1)
  have h2 := lens_app out [e]
  have h3 := lens_app (out.take (out.length - 1)) [[]]
  have h4 := lens_app out [[]]
  rw [lens_one] at h2 h3 h4
  simp only [List.length_nil] at h3 h4
  unfold cleanE
  cases (!(e == [46]) && !(e == [46, 46])) <;> cases last <;> cases (e == ([46, 46] : List UInt8)) <;> simp only [cond_true, cond_false] <;> omega
theorem cleanE_ne (e : List UInt8) (out : List (List UInt8)) : cleanE true e out ≠ [] := by
  unfold cleanE
  cases (!(e == [46]) && !(e == [46, 46])) <;> simp
theorem cleanL_ne : ∀ (l out : List (List UInt8)), l ≠ [] → cleanL l out ≠ []
  | [], _, h => (h rfl).elim
  | [e], out, _ => cleanE_ne e out
  | e :: f :: r, out, _ => by rw [cleanL]; exact cleanL_ne (f :: r) _ (by simp)
theorem cleanL_len : ∀ (l out : List (List UInt8)), (cleanL l out).length ≤ out.length + l.length
  | [], out => by simp [cleanL]
  | e :: r, out => by
    have h1 := cleanL_len r (cleanE r.isEmpty e out)
    have h2 := cleanE_len r.isEmpty e out
    rw [cleanL, List.length_cons]; omega
theorem cleanL_lens : ∀ (l out : List (List UInt8)), Lib.lens (cleanL l out) ≤ Lib.lens out + Lib.lens l
  | [], out => by simp [cleanL]
  | e :: r, out => by
    have h1 := cleanL_lens r (cleanE r.isEmpty e out)
    have h2 := cleanE_lens r.isEmpty e out
    rw [cleanL, lensC]; omega
theorem last_eq {w : List (List UInt8)} {i : Nat} (h : i < w.length) : ((i : Int) == (w.length : Int) - 1) = (w.drop (i + 1)).isEmpty := by
  by_cases c : i + 1 = w.length
  · rw [beq_iff_eq.2 (by omega : (i : Int) = (w.length : Int) - 1), List.drop_of_length_le (by omega)]; rfl
  · rw [beq_eq_false_iff_ne.2 (by omega : (i : Int) ≠ (w.length : Int) - 1), List.drop_eq_getElem_cons (by omega)]; rfl
theorem take_pred {out : List (List UInt8)} (h : out.length < 1073741824) (h0 : 0 < out.length) : ssub out (0 : Int) (IntKind.wrap .i64 ((out.length : Int) - 1)) = some (out.take (out.length - 1)) := by
  rw [wrap_id (by omega) (by omega), show (out.length : Int) - 1 = ((out.length - 1 : Nat) : Int) by omega]
  exact ssub_take (by omega)
theorem S_clean1 {k : Nat} {w out : List (List UInt8)} {i : Nat} (hw : w.length < 1073741824) (hi : i < w.length) (ho : out.length < 1073741824) :
    S_l12Path_b1 k (i : Int) w out = some (cleanE (w.drop (i + 1)).isEmpty w[i] out) := by
  rw [S_l12Path_b1, wrap_id (n := (w.length : Int) - 1) (by omega) (by omega), last_eq hi, S_l12Path_b2, idx_nat hi, Option.bind_some, Option.bind_some]
  generalize (w.drop (i + 1)).isEmpty = last
  have ap : ∀ (o : List (List UInt8)) (e : List UInt8), o.length < 1073741824 → app 16 o [e] = some (o ++ [e]) := fun o e h => appn_ok (by simp; omega)
  have tl : (out.take (out.length - 1)).length < 1073741824 := by simp; omega
  unfold cleanE
  cases h2 : (w[i] == ([46, 46] : List UInt8)) with
  | true =>
    have h2' : w[i] = [46, 46] := by simpa using h2
    rw [cond_true]
    by_cases c : 0 < out.length
    · rw [decide_eq_true (by omega), S_l12Path_c24, cond_true, take_pred ho c]
      simp only [Option.bind_some, S_l12Path_c60, ap _ _ tl, Bool.not_true, Bool.and_false, cond_false, cond_true]
      cases last <;> rfl
    · have : out = [] := List.length_eq_zero_iff.1 (by omega)
      subst this
      rw [decide_eq_false (by simp), S_l12Path_c24, cond_false, idx_nat hi, Option.bind_some, Option.bind_some, h2']
      cases last <;> rfl
  | false =>
    rw [cond_false, S_l12Path_c24, cond_false, idx_nat hi, Option.bind_some, Option.bind_some]
    cases h1 : (w[i] == ([46] : List UInt8)) with
    | true =>
      simp only [Bool.not_true, cond_false, S_l12Path_c40, Option.bind_some, S_l12Path_c60, ap _ _ ho, Bool.false_and]
      cases last <;> rfl
    | false =>
      simp only [Bool.not_false, cond_true, idx_nat hi, Option.bind_some, h2, S_l12Path_c40, ap _ _ ho, S_l12Path_c60, cond_false, Bool.and_self]
theorem I_clean1 {k : Nat} {w out : List (List UInt8)} {i : Nat} (hw : w.length < 1073741824) (hi : i < w.length) (ho : out.length < 1073741824) :
    I_cleanComponents_b1 k w w (w.length : Int) (i : Int) out = some (cleanE (w.drop (i + 1)).isEmpty w[i] out) := by
  rw [I_cleanComponents_b1, idx_nat hi, Option.bind_some]
  have ap : ∀ (o : List (List UInt8)) (e : List UInt8), o.length < 1073741824 → app 16 o [e] = some (o ++ [e]) := fun o e h => appn_ok (by simp; omega)
  have tl : (out.take (out.length - 1)).length < 1073741824 := by simp; omega
  have lw : IntKind.wrap .i64 ((w.length : Int) - 1) = (w.length : Int) - 1 := wrap_id (by omega) (by omega)
  unfold cleanE
  cases h2 : (w[i] == ([46, 46] : List UInt8)) with
  | true =>
    have h2' : w[i] = [46, 46] := by simpa using h2
    rw [cond_true]
    have key : I_cleanComponents_c20 k w (i : Int) w[i] w (w.length : Int) (i : Int) (decide ((out.length : Int) > 0)) out = some (out.take (out.length - 1)) := by
      unfold I_cleanComponents_c20
      by_cases c : 0 < out.length
      · rw [decide_eq_true (by omega), cond_true, take_pred ho c]; rfl
      · have : out = [] := List.length_eq_zero_iff.1 (by omega)
        subst this; rfl
    rw [key, Option.bind_some, I_cleanComponents_b2, h2']
    simp only [show (([46, 46] : List UInt8) == [46]) = false from rfl, Bool.not_false, cond_true, BEq.rfl, Bool.not_true, I_cleanComponents_c26, cond_false, I_cleanComponents_c37, lw, last_eq hi, ap _ _ tl, Option.bind_some, Bool.and_false]
    cases (w.drop (i + 1)).isEmpty <;> rfl
  | false =>
    rw [cond_false, I_cleanComponents_c20, cond_false, Option.bind_some, I_cleanComponents_b2]
    cases h1 : (w[i] == ([46] : List UInt8)) with
    | true =>
      simp only [Bool.not_true, cond_false, I_cleanComponents_c26, I_cleanComponents_c37, lw, last_eq hi, ap _ _ ho, Option.bind_some, Bool.false_and]
      cases (w.drop (i + 1)).isEmpty <;> rfl
    | false =>
      simp only [Bool.not_false, cond_true, h2, I_cleanComponents_c26, ap _ _ ho, Option.bind_some, Bool.and_self]
theorem S_clean_loop {k : Nat} {w : List (List UInt8)} (hw : w.length < 1073741824) : ∀ (n i : Nat) (out : List (List UInt8)), w.length - i < n → i ≤ w.length → out.length ≤ i → S_l12Path_b0 k n (i : Int) w out = some (cleanL (w.drop i) out) := by
  intro n
  induction n with
  | zero => intro i out h; omega
  | succ n ih =>
    intro i out hn hi ho
    rw [S_l12Path_b0, bif_dec]
    by_cases c : i < w.length
    · have := cleanE_len (w.drop (i + 1)).isEmpty w[i] out
      rw [if_pos (by omega), S_clean1 hw c (by omega), Option.bind_some, wrap_succ (by omega), ih (i + 1) _ (by omega) (by omega) (by omega)]
      conv => rhs; rw [List.drop_eq_getElem_cons c, cleanL]
    · rw [if_neg (by omega), List.drop_of_length_le (by omega), cleanL]
theorem I_clean_loop {k : Nat} {w : List (List UInt8)} (hw : w.length < 1073741824) : ∀ (n i : Nat) (out : List (List UInt8)), w.length - i < n → i ≤ w.length → out.length ≤ i → I_cleanComponents_b0 k n w w (w.length : Int) (i : Int) out = some (cleanL (w.drop i) out) := by
  intro n
  induction n with
  | zero => intro i out h; omega
  | succ n ih =>
    intro i out hn hi ho
    rw [I_cleanComponents_b0, bif_dec]
    by_cases c : i < w.length
    · have := cleanE_len (w.drop (i + 1)).isEmpty w[i] out
      rw [if_pos (by omega), I_clean1 hw c (by omega), Option.bind_some, wrap_succ (by omega), ih (i + 1) _ (by omega) (by omega) (by omega)]
      conv => rhs; rw [List.drop_eq_getElem_cons c, cleanL]
    · rw [if_neg (by omega), List.drop_of_length_le (by omega), cleanL]
theorem I_cleanComponents_eq {k : Nat} (hk : 1073741824 ≤ k) (w : List (List UInt8)) (hw : w.length < 1073741824) : I_cleanComponents k w = some (cleanL w []) := by
  have := I_clean_loop (k := k) hw k 0 [] (by omega) (by omega) (by simp)
  rw [show (((0 : Nat)) : Int) = 0 from rfl, List.drop_zero] at this
  rw [I_cleanComponents, this]; rfl
def pathT (p : List UInt8) : List UInt8 := Lib.joinTail [47] (cleanL (cutP 47 (p.drop 1) []) [])
theorem S_path_text {k : Nat} {o : List (List UInt8)} (hl : o.length < 1073741824) (hs : Lib.lens o < 1073741824) : ∀ (n i : Nat) (t : List UInt8), o.length - i < n → i ≤ o.length → t.length ≤ i + 1073741824 →
    t = Lib.joinTail [47] (o.take i) → S_l12Path_b3 k n t (i : Int) o = some (Lib.joinTail [47] o) := by
  intro n
  induction n with
  | zero => intro i t h; omega
  | succ n ih =>
    intro i t hn hi ht he
    rw [S_l12Path_b3, bif_dec]
    by_cases c : i < o.length
    · have hm := lens_mem (List.getElem_mem c)
      have b4 := Lib.joinTail_take_succ [47] o i o[i] (List.getElem?_eq_getElem c)
      have b2 : (Lib.joinTail [47] (o.take (i + 1))).length ≤ (i + 1) + 1073741824 := by
        have b5 := Lib.joinTail_length [47] (o.take (i + 1))
        have b6 := lens_take o (i + 1)
        have b7 : (o.take (i + 1)).length ≤ i + 1 := by simp; omega
        simp at b5 b7
        omega
      rw [if_pos (by omega), cat_ok (by simp; omega), Option.bind_some, idx_nat c, Option.bind_some, Option.bind_some, cat_ok (by simp; omega), Option.bind_some, wrap_succ (by omega)]
      have e : t ++ [47] ++ o[i] = Lib.joinTail [47] (o.take (i + 1)) := by rw [b4, he]
      rw [e]
      exact ih (i + 1) _ (by omega) (by omega) b2 rfl
    · rw [if_neg (by omega), he, List.take_of_length_le (by omega)]
theorem cutL {x : List UInt8} : (cleanL (cutP 47 x []) []).length ≤ x.length + 1 ∧ Lib.lens (cleanL (cutP 47 x []) []) ≤ x.length := by
  have h1 := cleanL_len (cutP 47 x []) []
  have h2 := cleanL_lens (cutP 47 x []) []
  have h3 := cutP_len 47 x []
  have h4 := cutP_sum 47 x []
  rw [show Lib.lens [] = 0 from rfl] at h2
  simp only [List.length_nil] at h1 h4
  omega
theorem S_l12Path_eq {k : Nat} (hk : 1073741824 ≤ k) (p : List UInt8) (h : p.length < 1073740000) (h0 : 0 < p.length) : S_l12Path k p = some (pathT p) := by
  have hd : (p.drop 1).length < 1073740000 := by simp; omega
  have hc := cutP_len 47 (p.drop 1) []
  have c1 := S_clean_loop (k := k) (w := cutP 47 (p.drop 1) []) (by omega) k 0 [] (by omega) (by omega) (by simp)
  rw [show (((0 : Nat)) : Int) = 0 from rfl, List.drop_zero] at c1
  obtain ⟨l1, l2⟩ := cutL (x := p.drop 1)
  have c2 := S_path_text (k := k) (o := cleanL (cutP 47 (p.drop 1) []) []) (by omega) (by omega) k 0 [] (by omega) (by omega) (by simp) (by simp [Lib.joinTail])
  rw [show (((0 : Nat)) : Int) = 0 from rfl] at c2
  have hs := S_l12Split_eq hk (p.drop 1) 47 (by omega)
  rw [show (((47 : UInt8).toNat : Nat) : Int) = 47 from rfl] at hs
  have hsub : ssub p (1 : Int) (p.length : Int) = some (p.drop 1) := ssub_drop (i := 1) (by omega)
  rw [S_l12Path, hsub, Option.bind_some, hs, Option.bind_some, c1, Option.bind_some, c2]; rfl
theorem I_path {k : Nat} (hk : 1073741824 ≤ k) (p : List UInt8) (h : p.length < 1073740000) (h0 : 0 < p.length) {β : Type} (g : List UInt8 → Option β) :
    ((ssub p (1 : Int) (p.length : Int)).bind fun t5 => ((strings_Split k t5 ([47] : List UInt8)).bind fun w6 => ((I_cleanComponents k w6).bind fun w7 => ((strings_Join k w7 ([47] : List UInt8)).bind fun w8 => ((cat ([47] : List UInt8) w8).bind g))))) = g (pathT p) := by
  have hd : (p.drop 1).length < 1073740000 := by simp; omega
  have hc := cutP_len 47 (p.drop 1) []
  obtain ⟨l1, l2⟩ := cutL (x := p.drop 1)
  have hsub : ssub p (1 : Int) (p.length : Int) = some (p.drop 1) := ssub_drop (i := 1) (by omega)
  rw [hsub, Option.bind_some, strings_Split_eq _ _ (by omega), Option.bind_some, I_cleanComponents_eq hk _ (by omega), Option.bind_some]
  unfold pathT
  have hne := cleanL_ne (cutP 47 (p.drop 1) []) [] (by have := cutP_pos 47 (p.drop 1) []; intro e; rw [e] at this; simp at this)
  generalize cleanL (cutP 47 (p.drop 1) []) [] = o at *
  cases o with
  | nil => exact absurd rfl hne
  | cons e r =>
    have hj := Lib.join_length e r [47]
    rw [lensC] at l2 hj
    simp only [List.length_cons, List.length_nil] at hj l1
    have hd : (decide ((e :: r).length ≤ 140737488355328) && decide ((Lib.join (e :: r) [47]).length ≤ 140737488355328)) = true := by
      rw [Bool.and_eq_true]; exact ⟨decide_eq_true (by simp; omega), decide_eq_true (by omega)⟩
    rw [strings_Join, joinO, hd, cond_true, Option.bind_some, cat_ok (by simp; omega), Option.bind_some]
    congr 1
    rw [Lib.join_cons]; simp [Lib.joinTail]
def splitT (s : List UInt8) : List UInt8 × List UInt8 × Bool := match firstI (byteP s 63) s.length 0 with | some i => (s.take i, s.drop (i + 1), true) | none => (s, [], false)
theorem S_SplitTarget_eq {k : Nat} (hk : 1073741824 ≤ k) (s : List UInt8) (h : s.length < 1073741824) : S_SplitTarget k s = some (splitT s) := by
  have := find_all (len := s.length) (c := fun i => bif byteP s 63 i then some (s.take i, s.drop (i + 1), true) else none) (F := fun n i => S_SplitTarget_b0 k n s i) (fun n i hi => by
    have e : ((UInt8.toNat s[i] : Int) == 63) = (s[i] == 63) := u8_eq s[i] 63
    simp only [S_SplitTarget_b0, idx_nat hi, Option.bind_some, wrap_succ (by omega : i < 9223372036854775807), bif_dec, lt_cast, hi, if_true, byteP_at hi, e]
    cases (s[i] == 63) with
    | true => rw [cond_true, cond_true, ssub_take (by omega), Option.bind_some, ssub_drop (by omega)]; rfl
    | false => rfl) (fun n i hi => by
    simp only [S_SplitTarget_b0, bif_dec, lt_cast]
    rw [if_neg (by omega)]) (k := k) (by omega)
  rw [S_SplitTarget, this, findI_first]
  unfold splitT
  cases firstI (byteP s 63) s.length 0 <;> rfl
theorem I_SplitTarget_eq {k : Nat} (s : List UInt8) (h : s.length < 1073741824) : I_SplitTarget k s = some (splitT s) := by
  have hd : decide (s.length < 4294967281) = true := by simp; omega
  rw [I_SplitTarget, strings_Cut, cutO, hd, cond_true, Option.bind_some, cut_byte]
  rfl
def neP (s : List UInt8) : Bool := !(s == [])
def emP (w : List (List UInt8)) (i : Nat) : Bool := match w[i]? with | some s => s == [] | none => false
theorem idxF_eq {k : Nat} (hk : 1073741824 ≤ k) (w : List (List UInt8)) (h : w.length < 1073741824) : slices_IndexFunc_string_at_I_NormalTarget_1 k w = some (oInt (firstI (emP w) w.length 0)) := by
  have := find_all (len := w.length) (c := fun i => bif emP w i then some (i : Int) else none) (F := fun n i => slices_IndexFunc_string_at_I_NormalTarget_1_b0 k n w (w.length : Int) i) (fun n i hi => by
    simp only [slices_IndexFunc_string_at_I_NormalTarget_1_b0, idx_nat hi, Option.bind_some, wrap_succ (by omega : i < 9223372036854775807), bif_dec, lt_cast, hi, if_true, I_NormalTarget_1, emP, List.getElem?_eq_getElem hi]
    cases (w[i] == ([] : List UInt8)) <;> rfl) (fun n i hi => by
    simp only [slices_IndexFunc_string_at_I_NormalTarget_1_b0, bif_dec, lt_cast]
    rw [if_neg (by omega)]) (k := k) (by omega)
  rw [slices_IndexFunc_string_at_I_NormalTarget_1, this, findI_first]
  cases firstI (emP w) w.length 0 <;> rfl
theorem take_set_succ {r : List (List UInt8)} {i : Nat} {e : List UInt8} (h : i < r.length) : (r.set i e).take (i + 1) = r.take i ++ [e] := by
  rw [List.take_add_one, List.take_set, List.set_eq_of_length_le (by rw [List.length_take]; omega), List.getElem?_set_self h]; rfl
theorem filter_take_succ {w : List (List UInt8)} {j : Nat} (h : j < w.length) : (w.take (j + 1)).filter neP = (w.take j).filter neP ++ (bif neP w[j] then [w[j]] else []) := by
  rw [List.take_add_one, List.filter_append, List.getElem?_eq_getElem h]
  cases hn : neP w[j] <;> simp [hn]
theorem del_loop {k : Nat} {w : List (List UInt8)} (hw : w.length < 1073741824) : ∀ (n j i : Nat) (r : List (List UInt8)), w.length - j < n → j ≤ w.length → i ≤ j → r.length = w.length → r.take i = (w.take j).filter neP → r.drop j = w.drop j →
    ∃ (i' : Nat) (r' : List (List UInt8)), slices_DeleteFunc_string_at_I_NormalTarget_1_b0 k n (i : Int) (j : Int) r = some ((i' : Int), r') ∧ i' ≤ w.length ∧ r'.length = w.length ∧ r'.take i' = w.filter neP := by
  intro n
  induction n with
  | zero => intro j i r h; omega
  | succ n ih =>
    intro j i r hn hj hi hl ht hd
    rw [slices_DeleteFunc_string_at_I_NormalTarget_1_b0, bif_dec]
    by_cases c : j < w.length
    · have cr : j < r.length := by omega
      have ci : i < r.length := by omega
      have e : r[j] = w[j] := by
        have := congrArg (fun l => l[0]?) hd
        simp only [List.getElem?_drop, Nat.add_zero, List.getElem?_eq_getElem cr, List.getElem?_eq_getElem c] at this
        exact Option.some.inj this
      have hd' : r.drop (j + 1) = w.drop (j + 1) := by
        have := congrArg (List.drop 1) hd
        rw [List.drop_drop, List.drop_drop] at this
        exact this
      have ft := filter_take_succ c
      rw [if_pos (by omega), slices_DeleteFunc_string_at_I_NormalTarget_1_b1, idx_nat cr, Option.bind_some, Option.bind_some, I_NormalTarget_1, Option.bind_some, slices_DeleteFunc_string_at_I_NormalTarget_1_c29, e]
      have hne : (!(w[j] == ([] : List UInt8))) = neP w[j] := rfl
      rw [hne]
      cases hp : neP w[j] with
      | true =>
        rw [hp, cond_true] at ft
        rw [cond_true, idx_nat ci, Option.bind_some, Option.bind_some, Option.bind_some, Option.bind_some, Int.toNat_natCast]
        simp only
        rw [wrap_succ (by omega), wrap_succ (by omega)]
        exact ih (j + 1) (i + 1) (r.set i w[j]) (by omega) (by omega) (by omega) (by simpa using hl) (by rw [take_set_succ ci, ft, ht]) (by rw [List.drop_set_of_lt (by omega)]; exact hd')
      | false =>
        rw [hp, cond_false, List.append_nil] at ft
        rw [cond_false, Option.bind_some, Option.bind_some]
        simp only
        rw [wrap_succ (by omega)]
        exact ih (j + 1) i r (by omega) (by omega) (by omega) hl (by rw [ft, ht]) hd'
    · rw [if_neg (by omega)]
      exact ⟨i, r, rfl, by omega, hl, by rw [ht, List.take_of_length_le (by omega)]⟩
theorem del_eq {k : Nat} (hk : 1073741824 ≤ k) (w : List (List UInt8)) (h : w.length < 1073741824) : slices_DeleteFunc_string_at_I_NormalTarget_1 k w = some (w.filter neP) := by
  rw [slices_DeleteFunc_string_at_I_NormalTarget_1, idxF_eq hk w h, Option.bind_some]
  cases hf : firstI (emP w) w.length 0 with
  | none =>
    have hno := firstI_none _ _ hf
    have : w.filter neP = w := List.filter_eq_self.2 fun s hs => by
      obtain ⟨i, hi, rfl⟩ := List.mem_iff_getElem.1 hs
      have := hno i (by omega) (by omega)
      unfold emP at this
      rw [List.getElem?_eq_getElem hi] at this
      unfold neP
      simp only at this
      rw [this]; rfl
    rw [this]; rfl
  | some i =>
    obtain ⟨_, g1, g2, g3⟩ := firstI_some _ _ _ hf
    have hi : i < w.length := by omega
    have ei : w[i] = [] := by
      unfold emP at g2
      rw [List.getElem?_eq_getElem hi] at g2
      simpa using g2
    have hlt : w.take i = (w.take i).filter neP := (List.filter_eq_self.2 fun s hs => by
      obtain ⟨q, hq, rfl⟩ := List.mem_iff_getElem.1 hs
      have hq' : q < i := by simp at hq; omega
      have := g3 q (by omega) hq'
      unfold emP at this
      rw [List.getElem?_eq_getElem (by omega : q < w.length)] at this
      unfold neP
      simp only at this
      rw [List.getElem_take, this]; rfl).symm
    have ft := filter_take_succ hi
    have hn : neP w[i] = false := by rw [ei]; rfl
    rw [hn, cond_false, List.append_nil] at ft
    obtain ⟨i', r', e, hi', hl', ht'⟩ := del_loop (k := k) h k (i + 1) i w (by omega) (by omega) (by omega) rfl (by rw [ft]; exact hlt) rfl
    show (bif ((i : Int) == -1) then some w else ((slices_DeleteFunc_string_at_I_NormalTarget_1_b0 k k (i : Int) (IntKind.wrap .i64 ((i : Int) + 1)) w).bind _)) = _
    rw [beq_eq_false_iff_ne.2 (by omega : (i : Int) ≠ -1), cond_false, wrap_succ (by omega), e, Option.bind_some]
    simp only
    rw [ssub_drop (by omega), Option.bind_some, Int.toNat_natCast, ssub_take (by simp; omega), Option.bind_some]
    rw [List.take_append_of_le_length (by simp; omega), List.take_take, Nat.min_self, ht']
def insK (e : List UInt8) (out : List (List UInt8)) : Nat → Nat
  | 0 => 0
  | k + 1 => bif decide (e < out.getD k []) then insK e out k else k + 1
def insE (e : List UInt8) (out : List (List UInt8)) : List (List UInt8) := out.take (insK e out out.length) ++ [e] ++ out.drop (insK e out out.length)
def insAll : List (List UInt8) → List (List UInt8) → List (List UInt8)
  | [], out => out
  | e :: r, out => insAll r (bif neP e then insE e out else out)
theorem insK_le (e : List UInt8) (out : List (List UInt8)) : ∀ m, insK e out m ≤ m
  | 0 => by rw [insK]; omega
  | m + 1 => by
    have := insK_le e out m
    rw [insK]
    cases decide (e < out.getD m []) with
    | true => rw [cond_true]; omega
    | false => rw [cond_false]; omega
theorem insK_hi (e : List UInt8) (out : List (List UInt8)) : ∀ m q, insK e out m ≤ q → q < m → e < out.getD q []
  | 0, q, _, h => by omega
  | m + 1, q, h1, h2 => by
    rw [insK] at h1
    by_cases hc : e < out.getD m []
    · rw [decide_eq_true hc, cond_true] at h1
      by_cases hq : q = m
      · rw [hq]; exact hc
      · exact insK_hi e out m q h1 (by omega)
    · rw [decide_eq_false hc, cond_false] at h1; omega
theorem insK_lo (e : List UInt8) (out : List (List UInt8)) : ∀ m, 0 < insK e out m → ¬ e < out.getD (insK e out m - 1) []
  | 0, h => by rw [insK] at h; omega
  | m + 1, h => by
    rw [insK] at h ⊢
    by_cases hc : e < out.getD m []
    · rw [decide_eq_true hc, cond_true] at h ⊢; exact insK_lo e out m h
    · rw [decide_eq_false hc, cond_false]; exact hc
theorem insE_perm (e : List UInt8) (out : List (List UInt8)) : (insE e out).Perm (e :: out) := by
  unfold insE
  rw [List.append_assoc]
  have := List.perm_middle (a := e) (l₁ := out.take (insK e out out.length)) (l₂ := out.drop (insK e out out.length))
  rw [List.take_append_drop] at this
  exact this
theorem insE_sorted {e : List UInt8} {out : List (List UInt8)} (h : out.Pairwise fun x y => x ≤ y) : (insE e out).Pairwise fun x y => x ≤ y := by
  have k1 := insK_le e out out.length
  have gd : ∀ q (hq : q < out.length), out.getD q [] = out[q] := fun q hq => by simp [List.getD, hq]
  have hi : ∀ y ∈ out.drop (insK e out out.length), e ≤ y := fun y hy => by
    obtain ⟨q, hq, rfl⟩ := List.mem_iff_getElem.1 hy
    rw [List.length_drop] at hq
    rw [List.getElem_drop]
    have := insK_hi e out out.length (insK e out out.length + q) (by omega) (by omega)
    rw [gd _ (by omega)] at this
    exact List.le_of_lt this
  have lo : ∀ x ∈ out.take (insK e out out.length), x ≤ e := fun x hx => by
    obtain ⟨q, hq, rfl⟩ := List.mem_iff_getElem.1 hx
    have hq' : q < insK e out out.length := by rw [List.length_take] at hq; omega
    rw [List.getElem_take]
    have h0 := insK_lo e out out.length (by omega)
    rw [gd _ (by omega)] at h0
    have h1 := List.not_lt.1 h0
    by_cases c : q = insK e out out.length - 1
    · subst c; exact h1
    · exact List.le_trans (List.pairwise_iff_getElem.1 h q (insK e out out.length - 1) (by omega) (by omega) (by omega)) h1
  have hs := h
  rw [← List.take_append_drop (insK e out out.length) out, List.pairwise_append] at hs
  unfold insE
  rw [List.append_assoc, List.pairwise_append]
  refine ⟨hs.1, List.pairwise_cons.2 ⟨hi, hs.2.1⟩, fun x hx y hy => ?_⟩
  rcases List.mem_cons.1 hy with rfl | hy
  · exact lo x hx
  · exact hs.2.2 x hx y hy
theorem insAll_ok : ∀ (w out : List (List UInt8)), (out.Pairwise fun x y => x ≤ y) → ((insAll w out).Pairwise fun x y => x ≤ y) ∧ (insAll w out).Perm (w.filter neP ++ out)
  | [], out, h => ⟨h, .refl _⟩
  | e :: r, out, h => by
    rw [insAll]
    cases hn : neP e with
    | false =>
      rw [cond_false, List.filter_cons_of_neg (by simp [hn])]
      exact insAll_ok r out h
    | true =>
      rw [cond_true, List.filter_cons_of_pos hn]
      obtain ⟨h1, h2⟩ := insAll_ok r (insE e out) (insE_sorted h)
      refine ⟨h1, h2.trans ?_⟩
      exact ((insE_perm e out).append_left _).trans (List.perm_middle.trans (.refl _))
theorem insAll_sort (w : List (List UInt8)) : insAll w [] = (w.filter neP).mergeSort fun x y => decide (x ≤ y) := by
  obtain ⟨h1, h2⟩ := insAll_ok w [] .nil
  rw [List.append_nil] at h2
  refine List.Perm.eq_of_pairwise (le := fun x y => x ≤ y) (fun a b _ _ h3 h4 => List.le_antisymm h3 h4) h1 ?_ (h2.trans (List.mergeSort_perm _ _).symm)
  have := List.pairwise_mergeSort (le := fun (x y : List UInt8) => decide (x ≤ y)) (fun a b c h3 h4 => by simp only [decide_eq_true_eq] at *; exact List.le_trans h3 h4) (fun a b => by
    simp only [Bool.or_eq_true, decide_eq_true_eq]; exact List.le_total a b) (w.filter neP)
  exact this.imp fun h => by simpa using h
theorem S_ins_pos {k : Nat} {w out : List (List UInt8)} {i : Int} {e : List UInt8} (hi : idx w i = some e) (ho : out.length < 1073741824) : ∀ (n j : Nat), j < n → j ≤ out.length → S_l12Query_b2 k n i (j : Int) w out = some ((insK e out j : Nat) : Int) := by
  intro n
  induction n with
  | zero => intro j h; omega
  | succ n ih =>
    intro j hn hj
    rw [S_l12Query_b2, bif_dec]
    cases j with
    | zero => rw [if_neg (by omega)]; rfl
    | succ j =>
      have hjl : j < out.length := by omega
      rw [if_pos (by omega), hi, Option.bind_some, Option.bind_some, wrap_id (n := ((j + 1 : Nat) : Int) - 1) (by omega) (by omega), show ((j + 1 : Nat) : Int) - 1 = (j : Int) by omega, idx_nat hjl, Option.bind_some, Option.bind_some, Go.Proofs.bytesLess_eq, insK, show out.getD j [] = out[j] by simp [List.getD, hjl]]
      cases decide (e < out[j]) with
      | true => rw [cond_true, cond_true]; exact ih j (by omega) (by omega)
      | false => rw [cond_false, cond_false]
theorem insE_len (e : List UInt8) (out : List (List UInt8)) : (insE e out).length = out.length + 1 := by have := (insE_perm e out).length_eq; simpa using this
theorem S_ins_loop {k : Nat} (hk : 1073741824 ≤ k) {w : List (List UInt8)} (hw : w.length < 1073741824) : ∀ (n i : Nat) (out : List (List UInt8)), w.length - i < n → i ≤ w.length → out.length ≤ i → S_l12Query_b0 k n (i : Int) w out = some (insAll (w.drop i) out) := by
  intro n
  induction n with
  | zero => intro i out h; omega
  | succ n ih =>
    intro i out hn hi ho
    rw [S_l12Query_b0, bif_dec]
    by_cases c : i < w.length
    · have kl := insK_le w[i] out out.length
      have il := insE_len w[i] out
      have step : S_l12Query_b1 k (i : Int) w out = some (bif neP w[i] then insE w[i] out else out) := by
        rw [S_l12Query_b1, S_ins_pos (idx_nat c) (by omega) k out.length (by omega) (by omega), Option.bind_some, idx_nat c, Option.bind_some, Option.bind_some, S_l12Query_c40]
        show ((bif neP w[i] then _ else _ : Option _).bind _) = _
        cases neP w[i] with
        | false => rfl
        | true =>
          rw [cond_true, ssub_take kl, Option.bind_some, appn_ok (by simp; omega), Option.bind_some, idx_nat c, Option.bind_some, Option.bind_some, appn_ok (by simp; omega), Option.bind_some, ssub_drop kl, Option.bind_some, appn_ok (by simp; omega)]
          rfl
      rw [if_pos (by omega), step, Option.bind_some, wrap_succ (by omega), ih (i + 1) _ (by omega) (by omega) (by cases neP w[i] <;> simp <;> omega)]
      conv => rhs; rw [List.drop_eq_getElem_cons c, insAll]
    · rw [if_neg (by omega), List.drop_of_length_le (by omega), insAll]
theorem lens_perm {l l' : List (List UInt8)} (h : l.Perm l') : Lib.lens l = Lib.lens l' := by
  induction h with
  | nil => rfl
  | cons x _ ih => rw [lensC, lensC, ih]
  | swap x y l => rw [lensC, lensC, lensC, lensC]; omega
  | trans _ _ ih1 ih2 => exact ih1.trans ih2
theorem lens_filter (f : List UInt8 → Bool) : ∀ l : List (List UInt8), Lib.lens (l.filter f) ≤ Lib.lens l
  | [] => by simp
  | e :: l => by
    have := lens_filter f l
    cases h : f e with
    | true => rw [List.filter_cons_of_pos h, lensC, lensC]; omega
    | false => rw [List.filter_cons_of_neg (by simp [h]), lensC]; omega
def sortQ (q : List UInt8) : List (List UInt8) := ((cutP 38 q []).filter neP).mergeSort fun x y => decide (x ≤ y)
theorem sortQ_perm (q : List UInt8) : (sortQ q).Perm ((cutP 38 q []).filter neP) := List.mergeSort_perm _ _
theorem sortQ_lens (q : List UInt8) : (sortQ q).length ≤ q.length + 1 ∧ Lib.lens (sortQ q) ≤ q.length := by
  have h1 := lens_perm (sortQ_perm q)
  have h2 := (sortQ_perm q).length_eq
  have h3 := lens_filter neP (cutP 38 q [])
  have h4 := List.length_filter_le neP (cutP 38 q [])
  have h5 := cutP_len 38 q []
  have h6 := cutP_sum 38 q []
  simp only [List.length_nil] at h6
  omega
theorem sortQ_ne {q s : List UInt8} (h : s ∈ sortQ q) : s ≠ [] := by
  have := (List.mem_filter.1 ((sortQ_perm q).mem_iff.1 h)).2
  unfold neP at this
  simpa using this
theorem S_q_text {k : Nat} {x : List UInt8} {r : List (List UInt8)} (h : 2 * r.length + Lib.lens (x :: r) < 8589934592) : ∀ (n j : Nat), j ≤ r.length → r.length - j < n →
    S_l12Query_b4 k n (x ++ Lib.joinTail [38] (r.take j)) ((j + 1 : Nat) : Int) (x :: r) = some (x ++ Lib.joinTail [38] r) := by
  have hx : Lib.lens (x :: r) = x.length + Lib.lens r := rfl
  intro n
  induction n with
  | zero => intro j _ h; omega
  | succ n ih =>
    intro j hj hn
    rw [S_l12Query_b4, bif_dec]
    by_cases c : j < r.length
    · have hlen : ((j + 1 : Nat) : Int) < ((x :: r).length : Int) := by simp; omega
      have e1 : decide (((j + 1 : Nat) : Int) > 0) = true := decide_eq_true (by omega)
      have e2 : idx (x :: r) ((j + 1 : Nat) : Int) = some r[j] := by
        rw [idx_nat (by simp; omega)]; simp
      have b1 := Lib.joinTail_take_le [38] r j
      have b2 := Lib.joinTail_length [38] r
      have b3 := Lib.joinTail_take_le [38] r (j + 1)
      have b4 := Lib.joinTail_take_succ [38] r j r[j] (List.getElem?_eq_getElem c)
      have b5 := congrArg List.length b4
      simp only [List.length_append, List.length_cons, List.length_nil] at b2 b5
      rw [if_pos hlen, S_l12Query_b5, S_l12Query_c63, e1, cond_true, cat_ok (by simp; omega), Option.bind_some, Option.bind_some, e2, Option.bind_some, Option.bind_some, cat_ok (by simp; omega), Option.bind_some, Option.bind_some, wrap_succ (by omega)]
      have := ih (j + 1) (by omega) (by omega)
      rw [b4] at this
      rw [← this]
      congr 1
      simp
    · have hlen : ¬ ((j + 1 : Nat) : Int) < ((x :: r).length : Int) := by simp; omega
      rw [if_neg hlen, List.take_of_length_le (by omega)]
theorem S_l12Query_eq {k : Nat} (hk : 1073741824 ≤ k) (q : List UInt8) (h : q.length < 1073740000) : S_l12Query k q = some (Lib.join (sortQ q) [38]) := by
  have hc := cutP_len 38 q []
  obtain ⟨l1, l2⟩ := sortQ_lens q
  have hs := S_l12Split_eq hk q 38 (by omega)
  rw [show (((38 : UInt8).toNat : Nat) : Int) = 38 from rfl] at hs
  have c1 := S_ins_loop (k := k) hk (w := cutP 38 q []) (by omega) k 0 [] (by omega) (by omega) (by simp)
  rw [show (((0 : Nat)) : Int) = 0 from rfl, List.drop_zero, insAll_sort] at c1
  rw [S_l12Query, hs, Option.bind_some, c1, Option.bind_some]
  show ((S_l12Query_b4 k k [] 0 (sortQ q)).bind _) = _
  obtain ⟨k', rfl⟩ : ∃ k', k = k' + 1 := ⟨k - 1, by omega⟩
  cases hsq : sortQ q with
  | nil => rfl
  | cons x r =>
    rw [hsq] at l1 l2
    have hm : Lib.lens (x :: r) = x.length + Lib.lens r := rfl
    simp only [List.length_cons] at l1
    have hb : 2 * r.length + Lib.lens (x :: r) < 8589934592 := by
      have t1 := l1
      have t2 := l2
      clear c1 hs
      omega
    have c2 := S_q_text (k := k' + 1) (x := x) (r := r) hb k' 0 (by omega) (by omega)
    rw [S_l12Query_b4, bif_dec, if_pos (by simp), S_l12Query_b5, S_l12Query_c63, show decide ((0 : Int) > 0) = false from rfl, cond_false, Option.bind_some, show idx (x :: r) (0 : Int) = some x from rfl, Option.bind_some, Option.bind_some, cat_ok (by simp; omega), Option.bind_some, Option.bind_some]
    rw [show IntKind.wrap .i64 ((0 : Int) + 1) = ((0 + 1 : Nat) : Int) by decide, List.nil_append]
    rw [List.take_zero, show Lib.joinTail [38] [] = [] from rfl, List.append_nil] at c2
    rw [c2, Option.bind_some, Lib.join_cons]
theorem dec_len : ∀ (x acc t : List UInt8), dec x acc = some t → t.length ≤ acc.length + x.length
  | [], acc, t, h => by cases h; simp
  | [c], acc, t, h => by
    rw [decA1] at h
    cases hc : (c == 37) with
    | true => rw [hc] at h; cases h
    | false => rw [hc] at h; cases h; simp
  | [c, d], acc, t, h => by
    rw [decA2] at h
    cases hc : (c == 37) with
    | true => rw [hc] at h; cases h
    | false => rw [hc] at h; have := dec_len [d] (acc ++ [c]) t h; simp at this ⊢; omega
  | c :: u :: l :: r, acc, t, h => by
    rw [decA3] at h
    cases hc : (c == 37) with
    | true =>
      rw [hc, cond_true] at h
      cases h2 : (decide (0 ≤ hexV u) && decide (0 ≤ hexV l)) with
      | false => rw [h2] at h; cases h
      | true =>
        rw [h2] at h
        have := dec_len r _ t h
        have ol := outAB_len (hexV u).toNat (hexV l).toNat
        simp at this ⊢; omega
    | false => rw [hc] at h; have := dec_len (u :: l :: r) (acc ++ [c]) t h; simp at this ⊢; omega
theorem decT_len (x : List UInt8) : (decT x).1.length ≤ x.length := by
  unfold decT
  cases h : dec x [] with
  | none => simp
  | some t => have := dec_len x [] t h; simpa using this
def q47 (p : List UInt8) : Bool := p[0]? == some 47
def normT (s : List UInt8) : List UInt8 × Bool :=
  bif !(decT (splitT s).1).2 then ([], false) else bif !(decT (splitT s).2.1).2 then ([], false) else bif !q47 (decT (splitT s).1).1 then ([], false) else
  (bif (sortQ (decT (splitT s).2.1).1).isEmpty then pathT (decT (splitT s).1).1 else pathT (decT (splitT s).1).1 ++ [63] ++ Lib.join (sortQ (decT (splitT s).2.1).1) [38], true)
theorem splitT_len (s : List UInt8) : (splitT s).1.length ≤ s.length ∧ (splitT s).2.1.length ≤ s.length := by
  unfold splitT
  cases firstI (byteP s 63) s.length 0 with
  | none => simp
  | some i => simp; omega
theorem pathT_len (p : List UInt8) : (pathT p).length ≤ 2 * p.length + 1 := by
  obtain ⟨l1, l2⟩ := cutL (x := p.drop 1)
  have := Lib.joinTail_length [47] (cleanL (cutP 47 (p.drop 1) []) [])
  rw [List.length_drop] at l1 l2
  unfold pathT
  rw [this]
  simp only [List.length_cons, List.length_nil]
  omega
theorem joinQ_len (q : List UInt8) : (Lib.join (sortQ q) [38]).length ≤ 2 * q.length + 1 := by
  obtain ⟨l1, l2⟩ := sortQ_lens q
  cases hq : sortQ q with
  | nil => simp [Lib.join_nil]
  | cons x r => rw [hq] at l1 l2; rw [Lib.join_length]; simp at l1 ⊢; omega
theorem join_empty (q : List UInt8) : (Lib.join (sortQ q) [38] == []) = (sortQ q).isEmpty := by
  cases hq : sortQ q with
  | nil => rfl
  | cons x r =>
    have := sortQ_ne (q := q) (s := x) (by rw [hq]; exact .head _)
    rw [Lib.join_cons]
    cases x with
    | nil => exact absurd rfl this
    | cons a b => rfl
theorem S_NormalTarget_eq {k : Nat} (hk : 1073741824 ≤ k) (s : List UInt8) (h : s.length < 134217728) : S_NormalTarget k s = some (normT s) := by
  obtain ⟨s1, s2⟩ := splitT_len s
  have d1 := decT_len (splitT s).1
  have d2 := decT_len (splitT s).2.1
  rw [S_NormalTarget, S_SplitTarget_eq hk s (by omega), Option.bind_some, S_l12Plain_eq hk _ (by omega), Option.bind_some, S_l12Plain_eq hk _ (by omega), Option.bind_some]
  unfold normT
  generalize decT (splitT s).1 = p at d1 ⊢
  generalize decT (splitT s).2.1 = q at d2 ⊢
  obtain ⟨p, b1⟩ := p
  obtain ⟨q, b2⟩ := q
  simp only at d1 d2
  cases b1 <;> cases b2 <;> simp only [Bool.not_true, Bool.not_false, cond_true, cond_false]
  cases p with
  | nil => rfl
  | cons c r =>
    have e0 : (((c :: r).length : Int) == 0) = false := by rw [beq_eq_false_iff_ne]; simp; omega
    have u47 : ((UInt8.toNat c : Int) != 47) = !(c == 47) := by unfold bne; rw [← u8_eq c 47]; rfl
    have hq : q47 (c :: r) = (c == 47) := by unfold q47; simp
    rw [e0, cond_false, show idx (c :: r) (0 : Int) = some c from rfl, Option.bind_some, u47, hq]
    cases (c == 47) with
    | false => rfl
    | true =>
      have pl := pathT_len (c :: r)
      have jl := joinQ_len q
      simp only [Bool.not_true, cond_false]
      rw [S_l12Path_eq hk (c :: r) (by omega) (by simp), Option.bind_some, S_l12Query_eq hk q (by omega), Option.bind_some, join_empty, S_NormalTarget_c50]
      cases (sortQ q).isEmpty with
      | true => rfl
      | false => rw [Bool.not_false, cond_true, cat_ok (by simp; omega), Option.bind_some, cat_ok (by simp; omega)]; rfl
theorem hasPre_47 {k : Nat} (x : List UInt8) : strings_HasPrefix k x ([47] : List UInt8) = some (q47 x) := by
  rw [strings_HasPrefix, internal_stringslite_HasPrefix, bif_dec]
  cases x with
  | nil => rfl
  | cons c r =>
    rw [if_pos (by simp; omega)]
    have : ssub (c :: r) (0 : Int) ((([47] : List UInt8).length : Nat) : Int) = some [c] := by
      have := ssub_take (x := c :: r) (i := 1) (by simp)
      simpa using this
    rw [this, Option.bind_some, Option.bind_some]
    unfold q47
    simp
theorem I_NormalTarget_eq {k : Nat} (hk : 1073741824 ≤ k) (s : List UInt8) (h : s.length < 134217728) : I_NormalTarget k s = some (normT s) := by
  obtain ⟨s1, s2⟩ := splitT_len s
  have d1 := decT_len (splitT s).1
  have d2 := decT_len (splitT s).2.1
  rw [I_NormalTarget, I_SplitTarget_eq s (by omega), Option.bind_some, I_decodedTarget_eq hk _ (by omega), Option.bind_some, I_decodedTarget_eq hk _ (by omega), Option.bind_some]
  unfold normT
  generalize decT (splitT s).1 = p at d1 ⊢
  generalize decT (splitT s).2.1 = q at d2 ⊢
  obtain ⟨p, b1⟩ := p
  obtain ⟨q, b2⟩ := q
  simp only at d1 d2
  cases b1 <;> cases b2 <;> simp only [Bool.not_true, Bool.not_false, cond_true, cond_false]
  rw [hasPre_47, Option.bind_some]
  cases hq : q47 p with
  | false => rfl
  | true =>
    have h0 : 0 < p.length := by
      cases p with
      | nil => simp [q47] at hq
      | cons c r => simp
    have pl := pathT_len p
    have jl := joinQ_len q
    have hc := cutP_len 38 q []
    obtain ⟨l1, l2⟩ := sortQ_lens q
    have fl := List.length_filter_le neP (cutP 38 q [])
    have hso : sortO ((cutP 38 q []).filter neP) = some (sortQ q) := by
      unfold sortO
      rw [decide_eq_true (by omega : ((cutP 38 q []).filter neP).length < 4611686018427387904)]; rfl
    rw [Bool.not_true, cond_false, I_path hk p (by omega) h0]
    rw [strings_Split_eq _ _ (by omega), Option.bind_some, del_eq hk _ (by omega), Option.bind_some, slices_Sort_string, hso, Option.bind_some, I_NormalTarget_c51, bif_dec]
    cases hsq : sortQ q with
    | nil => rw [if_neg (by simp)]; rfl
    | cons x r =>
      rw [hsq] at jl l1
      have hd : (decide ((x :: r).length ≤ 140737488355328) && decide ((Lib.join (x :: r) [38]).length ≤ 140737488355328)) = true := by
        rw [Bool.and_eq_true]; exact ⟨decide_eq_true (by omega), decide_eq_true (by omega)⟩
      rw [if_pos (by simp), strings_Join, joinO, hd, cond_true, Option.bind_some, cat_ok (by simp; omega), Option.bind_some, cat_ok (by simp; omega), Option.bind_some, Option.bind_some]
      simp
def badV (c : UInt8) : Bool := !inR (c.toNat : Int) 32 126 && c != 9
def bvP (x : List UInt8) (i : Nat) : Bool := match x[i]? with | some c => badV c | none => false
def valOK (x : List UInt8) : Bool := (firstI (bvP x) x.length 0).isNone && decide ((x.length : Int) ≤ 200) && (trimT x == x)
def nameOK (x : List UInt8) : Bool := isTok x && (lowT x == x)
def bfP (l : List IField) (i : Nat) : Bool := match l[i]? with | some e => !nameOK e.Name || !valOK e.Value | none => false
def areF (l : List IField) : Bool := (firstI (bfP l) l.length 0).isNone && decide ((l.length : Int) ≤ 24)
theorem u8_ne9 (c : UInt8) : ((UInt8.toNat c : Int) != (9 : Int)) = (c != 9) := by
  have := u8_eq c 9
  unfold bne
  rw [← this]; rfl
theorem I_isFieldValue_eq {k : Nat} (hk : 1073741824 ≤ k) (x : List UInt8) (h : x.length < 1073741824) : I_isFieldValue k x = some (valOK x) := by
  have := find_all (len := x.length) (c := fun i => bif bvP x i then some false else none) (F := fun n i => I_isFieldValue_b0 k n x (x.length : Int) i) (fun n i hi => by
    have hb := UInt8.toNat_lt x[i]
    simp only [I_isFieldValue_b0, idx_nat hi, Option.bind_some, wrap_succ (by omega : i < 9223372036854775807), bif_dec, lt_cast, hi, if_true, bvP, List.getElem?_eq_getElem hi, badV, u8_ne9]
    rw [wrap_id (by omega) (by omega), I_inRange_eq, Option.bind_some]
    cases inR (x[i].toNat : Int) 32 126 <;> cases (x[i] != 9) <;> rfl) (fun n i hi => by
    simp only [I_isFieldValue_b0, bif_dec, lt_cast]
    rw [if_neg (by omega)]) (k := k) (by omega)
  rw [I_isFieldValue, this, findI_first, I_TrimText_eq x h]
  unfold valOK
  cases firstI (bvP x) x.length 0 with
  | none => cases decide ((x.length : Int) ≤ 200) <;> simp [ocOf, oc]
  | some j => simp [ocOf, oc]
def shortF (l : List IField) : Prop := ∀ e ∈ l, e.Name.length < 1073741824 ∧ e.Value.length < 1073741824
theorem I_AreFields_eq {k : Nat} (hk : 1073741824 ≤ k) (l : List IField) (h : l.length < 1073741824) (hs : shortF l) : I_AreFields k l = some (areF l) := by
  have := find_all (len := l.length) (c := fun i => bif bfP l i then some false else none) (F := fun n i => I_AreFields_b0 k n l l (l.length : Int) i) (fun n i hi => by
    obtain ⟨h1, h2⟩ := hs l[i] (List.getElem_mem hi)
    simp only [I_AreFields_b0, idx_nat hi, Option.bind_some, wrap_succ (by omega : i < 9223372036854775807), bif_dec, lt_cast, hi, if_true, bfP, List.getElem?_eq_getElem hi, I_IsToken_eq hk _ h1, I_LowerText_eq hk _ h1, I_isFieldValue_eq hk _ h2, nameOK]
    cases isTok l[i].Name <;> cases (lowT l[i].Name == l[i].Name) <;> cases valOK l[i].Value <;> rfl) (fun n i hi => by
    simp only [I_AreFields_b0, bif_dec, lt_cast]
    rw [if_neg (by omega)]) (k := k) (by omega)
  rw [I_AreFields, this, findI_first]
  unfold areF
  cases firstI (bfP l) l.length 0 <;> simp [ocOf, oc]
def fsz (l : List IField) : Nat := l.length + (l.map fun e => e.Value.length).sum
def nmP (l : List IField) (n : List UInt8) (i : Nat) : Bool := match l[i]? with | some e => e.Name == n | none => false
def hasF (l : List IField) (n : List UInt8) : Bool := l.any fun e => e.Name == n
theorem firstI_any (l : List IField) (n : List UInt8) : (firstI (nmP l n) l.length 0).isSome = hasF l n := by
  unfold hasF
  cases hf : firstI (nmP l n) l.length 0 with
  | some j =>
    obtain ⟨_, h1, h2, _⟩ := firstI_some _ _ _ hf
    have hj : j < l.length := by omega
    simp only [nmP, List.getElem?_eq_getElem hj] at h2
    exact (List.any_eq_true.2 ⟨l[j], List.getElem_mem hj, h2⟩).symm
  | none =>
    have hn := firstI_none _ _ hf
    refine Eq.symm (List.any_eq_false.2 fun e he => ?_)
    obtain ⟨j, hj, rfl⟩ := List.mem_iff_getElem.1 he
    have := hn j (by omega) (by omega)
    simp only [nmP, List.getElem?_eq_getElem hj] at this
    rw [this]; simp
theorem I_hasField_eq {k : Nat} (hk : 1073741824 ≤ k) (l : List IField) (n : List UInt8) (h : l.length < 1073741824) : I_hasField k l n = some (hasF l n) := by
  have := find_all (len := l.length) (c := fun i => bif nmP l n i then some (i : Int) else none) (F := fun m i => slices_IndexFunc_IField_at_I_hasField_1_b0 k m l n (l.length : Int) i) (fun m i hi => by
    simp only [slices_IndexFunc_IField_at_I_hasField_1_b0, I_hasField_1, idx_nat hi, Option.bind_some, wrap_succ (by omega : i < 9223372036854775807), bif_dec, lt_cast, hi, if_true, nmP, List.getElem?_eq_getElem hi]
    cases (l[i].Name == n) <;> rfl) (fun m i hi => by
    simp only [slices_IndexFunc_IField_at_I_hasField_1_b0, bif_dec, lt_cast]
    rw [if_neg (by omega)]) (k := k) (by omega)
  rw [I_hasField, slices_ContainsFunc_IField_at_I_hasField_1, slices_IndexFunc_IField_at_I_hasField_1, this, findI_first, ← firstI_any]
  cases firstI (nmP l n) l.length 0 with
  | none => rfl
  | some j => simp [ocOf, oc]
def clen : List UInt8 := [99, 111, 110, 116, 101, 110, 116, 45, 108, 101, 110, 103, 116, 104]
def bP (p : UInt8 → Bool) (x : List UInt8) (i : Nat) : Bool := match x[i]? with | some c => p c | none => false
def noB (p : UInt8 → Bool) (x : List UInt8) : Bool := (firstI (bP p x) x.length 0).isNone
theorem bP_at {p : UInt8 → Bool} {x : List UInt8} {i : Nat} (h : i < x.length) : bP p x i = p x[i] := by simp only [bP, List.getElem?_eq_getElem h]
structure ReqIn (r : IRequest) : Prop where
  m : r.Method.length < 1073741824
  h : r.Host.length < 1073741824
  t : r.Target.length < 1073741824
  f : fsz r.Fields < 268435456
  s : shortF r.Fields
theorem noB_all (p : UInt8 → Bool) (x : List UInt8) : noB p x = x.all fun c => !p c := by
  unfold noB
  cases hf : firstI (bP p x) x.length 0 with
  | some j =>
    obtain ⟨_, h1, h2, _⟩ := firstI_some _ _ _ hf
    have hj : j < x.length := by omega
    rw [bP_at hj] at h2
    refine Eq.symm (List.all_eq_false.2 ⟨x[j], List.getElem_mem hj, by simp [h2]⟩)
  | none =>
    have hn := firstI_none _ _ hf
    refine Eq.symm (List.all_eq_true.2 fun c hc => ?_)
    obtain ⟨j, hj, rfl⟩ := List.mem_iff_getElem.1 hc
    have := hn j (by omega) (by omega)
    rw [bP_at hj] at this
    rw [this]; rfl
theorem u8_ne (c d : UInt8) : ((UInt8.toNat c : Int) != (UInt8.toNat d : Int)) = (c != d) := by
  have := u8_eq c d
  unfold bne
  rw [← this]
def isLow (c : UInt8) : Bool := inR (c.toNat : Int) 97 122
def badH (c : UInt8) : Bool := !inR (c.toNat : Int) 97 122 && (!inR (c.toNat : Int) 48 57 && (c != 45 && c != 46))
def badT (c : UInt8) : Bool := !inR (c.toNat : Int) 33 126
def hostT : List UInt8 := [104, 111, 115, 116]
def isReq (r : IRequest) : Bool :=
  noB isLow r.Method && noB badH r.Host && noB badT r.Target && isTok r.Method && inR (r.Host.length : Int) 1 40 && inR (r.Target.length : Int) 1 100 && (r.Target.head? == some 47) && areF r.Fields && decide ((r.Fields.length : Int) < 24) && !hasF r.Fields clen && !hasF r.Fields hostT
theorem idx0 {x : List UInt8} (h : inR (x.length : Int) 1 100 = true) : ∃ c, idx x (0 : Int) = some c ∧ x.head? = some c := by
  unfold inR at h
  simp only [Bool.and_eq_true, decide_eq_true_eq] at h
  cases x with
  | nil => simp at h
  | cons c r => exact ⟨c, rfl, rfl⟩
theorem I_isHost_eq {k : Nat} (hk : 1073741824 ≤ k) (x : List UInt8) (h : x.length < 1073741824) : I_isHost k x = some (noB badH x && inR (x.length : Int) 1 40) := by
  have := find_all (len := x.length) (c := fun i => bif bP badH x i then some false else none) (F := fun n i => I_isHost_b0 k n x (x.length : Int) i) (fun n i hi => by
    have hb := UInt8.toNat_lt x[i]
    have e45 : ((UInt8.toNat x[i] : Int) == (45 : Int)) = (x[i] == 45) := u8_eq x[i] 45
    have e46 : ((UInt8.toNat x[i] : Int) == (46 : Int)) = (x[i] == 46) := u8_eq x[i] 46
    simp only [I_isHost_b0, idx_nat hi, Option.bind_some, wrap_succ (by omega : i < 9223372036854775807), bif_dec, lt_cast, hi, if_true, bP_at hi, badH, e45, e46, inR, bne]
    by_cases a1 : 97 ≤ x[i].toNat <;> by_cases a2 : x[i].toNat ≤ 122 <;> by_cases a5 : 48 ≤ x[i].toNat <;> by_cases a6 : x[i].toNat ≤ 57 <;> cases (x[i] == 45) <;> cases (x[i] == 46) <;>
      simp [a1, a2, a5, a6, show ((x[i].toNat : Int) ≥ 97) = (97 ≤ x[i].toNat) from by simp; omega, show ((97 : Int) ≤ (x[i].toNat : Int)) = (97 ≤ x[i].toNat) from by simp; omega, show ((x[i].toNat : Int) ≤ 122) = (x[i].toNat ≤ 122) from by simp; omega, show ((x[i].toNat : Int) ≥ 48) = (48 ≤ x[i].toNat) from by simp; omega, show ((48 : Int) ≤ (x[i].toNat : Int)) = (48 ≤ x[i].toNat) from by simp; omega, show ((x[i].toNat : Int) ≤ 57) = (x[i].toNat ≤ 57) from by simp; omega]) (fun n i hi => by
    simp only [I_isHost_b0, bif_dec, lt_cast]
    rw [if_neg (by omega)]) (k := k) (by omega)
  rw [I_isHost, this, findI_first]
  unfold noB
  cases firstI (bP badH x) x.length 0 <;> simp [ocOf, oc, I_inRange_eq]
theorem tok_asc : ∀ j : Fin 256, (!tokB (UInt8.ofNat j.val) || decide ((UInt8.ofNat j.val).toNat < 128)) = true := by decide +kernel
theorem upp_tab : ∀ j : Fin 256, (Lib.upperB (UInt8.ofNat j.val) == UInt8.ofNat j.val) = !isLow (UInt8.ofNat j.val) := by decide +kernel
theorem upp_eq (c : UInt8) : (Lib.upperB c == c) = !isLow c := by
  have := upp_tab ⟨c.toNat, UInt8.toNat_lt c⟩
  simpa using this
theorem isTok_asc {x : List UInt8} (h : isTok x = true) : (x.all fun c => decide (c.toNat < 128)) = true := by
  unfold isTok at h
  simp only [Bool.and_eq_true] at h
  have hn : noB (fun c => !tokB c) x = true := h.1
  rw [noB_all] at hn
  refine List.all_eq_true.2 fun c hc => ?_
  have h1 := List.all_eq_true.1 hn c hc
  have h2 := tok_asc ⟨c.toNat, UInt8.toNat_lt c⟩
  simp at h1 h2
  simpa [h1] using h2
theorem upp_all : ∀ x : List UInt8, (Lib.toUpperA x == x) = noB isLow x
  | [] => rfl
  | c :: r => by
    have ih := upp_all r
    rw [noB_all] at ih ⊢
    have e : Lib.toUpperA (c :: r) = Lib.upperB c :: Lib.toUpperA r := rfl
    rw [e, List.cons_beq_cons, upp_eq, ih, List.all_cons]
theorem toUpper_ok {k : Nat} {x : List UInt8} (h : isTok x = true) (hl : x.length < 1073741824) : strings_ToUpper k x = some (Lib.toUpperA x) := by
  rw [strings_ToUpper, toUpperO, isTok_asc h, decide_eq_true (by omega)]; rfl
theorem I_IsRequest_eq {k : Nat} (hk : 1073741824 ≤ k) (r : IRequest) (h : ReqIn r) : I_IsRequest k r = some (isReq r) := by
  have hl : r.Fields.length < 1073741824 := by have := h.f; unfold fsz at this; omega
  have hb0 : I_IsRequest_b0 k k (r.Target.length : Int) 0 r.Method r.Host r.Target r.Fields = some (ocOf (bif noB badT r.Target then none else some false)) := by
    have := find_all (len := r.Target.length) (c := fun i => bif bP badT r.Target i then some false else none) (F := fun n i => I_IsRequest_b0 k n (r.Target.length : Int) i r.Method r.Host r.Target r.Fields) (fun n i hi => by
      have hb := UInt8.toNat_lt r.Target[i]
      have := h.t
      simp only [I_IsRequest_b0, idx_nat hi, Option.bind_some, wrap_succ (by omega : i < 9223372036854775807), bif_dec, lt_cast, hi, if_true, bP_at hi, badT]
      rw [wrap_id (by omega) (by omega), I_inRange_eq, Option.bind_some]
      cases inR (r.Target[i].toNat : Int) 33 126 <;> rfl) (fun n i hi => by
      simp only [I_IsRequest_b0, bif_dec, lt_cast]
      rw [if_neg (by omega)]) (k := k) (by have := h.t; omega)
    rw [this, findI_first]
    unfold noB
    cases firstI (bP badT r.Target) r.Target.length 0 <;> rfl
  have hh1 : I_hasField k r.Fields ([104, 111, 115, 116] : List UInt8) = some (hasF r.Fields hostT) := I_hasField_eq hk _ _ hl
  have hh2 : I_hasField k r.Fields ([99, 111, 110, 116, 101, 110, 116, 45, 108, 101, 110, 103, 116, 104] : List UInt8) = some (hasF r.Fields clen) := I_hasField_eq hk _ _ hl
  rw [I_IsRequest, I_IsToken_eq hk _ h.m, Option.bind_some]
  unfold isReq
  cases hm : isTok r.Method with
  | false => simp
  | true =>
    rw [Bool.not_true, cond_false, toUpper_ok hm h.m, Option.bind_some, upp_all, I_isHost_eq hk _ h.h, Option.bind_some]
    cases noB isLow r.Method with
    | false => rfl
    | true =>
      cases noB badH r.Host with
      | false => rfl
      | true =>
        cases inR (r.Host.length : Int) 1 40 with
        | false => simp
        | true =>
          rw [I_inRange_eq, Option.bind_some]
          cases ht : inR (r.Target.length : Int) 1 100 with
          | false => simp
          | true =>
            obtain ⟨c, hc, hd⟩ := idx0 ht
            have e47 : ((UInt8.toNat c : Int) != (47 : Int)) = (c != 47) := u8_ne c 47
            have e47' : (some c == some (47 : UInt8)) = (c == 47) := by cases h : (c == 47) <;> simp_all
            rw [hc, hd, Option.bind_some, e47, e47', hb0, I_AreFields_eq hk _ hl h.s, hh1, hh2]
            unfold bne
            cases (c == 47) <;> cases noB badT r.Target <;> cases areF r.Fields <;> cases decide ((r.Fields.length : Int) < 24) <;> cases hasF r.Fields hostT <;> cases hasF r.Fields clen <;> rfl
def keyT (r : IRequest) : List UInt8 × Bool := bif !(normT r.Target).2 then ([], false) else bif !isReq r then ([], false) else (r.Host ++ (normT r.Target).1, true)
theorem normT_len (s : List UInt8) : (normT s).1.length ≤ 4 * s.length + 3 := by
  obtain ⟨s1, s2⟩ := splitT_len s
  have d1 := decT_len (splitT s).1
  have d2 := decT_len (splitT s).2.1
  have pl := pathT_len (decT (splitT s).1).1
  have jl := joinQ_len (decT (splitT s).2.1).1
  unfold normT
  cases (decT (splitT s).1).2 <;> cases (decT (splitT s).2.1).2 <;> cases q47 (decT (splitT s).1).1 <;> cases (sortQ (decT (splitT s).2.1).1).isEmpty <;> simp <;> omega
theorem I_KeyOf_eq {k : Nat} (hk : 1073741824 ≤ k) (r : IRequest) (h : ReqIn r) (ht : r.Target.length < 134217728) (hh : r.Host.length < 134217728) : I_KeyOf k r = some (keyT r) := by
  have nl := normT_len r.Target
  rw [I_KeyOf, I_NormalTarget_eq hk _ ht, Option.bind_some, I_IsRequest_eq hk r h, Option.bind_some, cat_ok (by omega)]
  unfold keyT
  cases (normT r.Target).2 <;> cases isReq r <;> rfl
theorem I_IsNormalTarget_eq {k : Nat} (hk : 1073741824 ≤ k) (s : List UInt8) (h : s.length < 134217728) : I_IsNormalTarget k s = some ((normT s).2 && ((normT s).1 == s)) := by
  rw [I_IsNormalTarget, I_NormalTarget_eq hk s h, Option.bind_some]
  cases (normT s).2 <;> rfl
theorem cutP_el (b : UInt8) : ∀ (l cur p : List UInt8), p ∈ cutP b l cur → ∀ c ∈ p, c ∈ cur ∨ (c ∈ l ∧ c ≠ b)
  | [], cur, p, h, c, hc => by
    have : p = cur := by simpa [cutP] using h
    exact .inl (this ▸ hc)
  | d :: r, cur, p, h, c, hc => by
    rw [cutP] at h
    cases h3 : (d == b) with
    | true =>
      rw [h3, cond_true] at h
      rcases List.mem_cons.1 h with rfl | h
      · exact .inl hc
      · rcases cutP_el b r [] p h c hc with h' | ⟨h1, h2⟩
        · cases h'
        · exact .inr ⟨.tail _ h1, h2⟩
    | false =>
      rw [h3, cond_false] at h
      rcases cutP_el b r (cur ++ [d]) p h c hc with h' | ⟨h1, h2⟩
      · rcases List.mem_append.1 h' with h' | h'
        · exact .inl h'
        · have : c = d := by simpa using h'
          subst this
          exact .inr ⟨.head _, by simpa using h3⟩
      · exact .inr ⟨.tail _ h1, h2⟩
theorem cutP_one (b : UInt8) : ∀ (p cur : List UInt8), (∀ c ∈ p, c ≠ b) → cutP b p cur = [cur ++ p]
  | [], cur, _ => by rw [cutP, List.append_nil]
  | c :: r, cur, h => by
    rw [cutP, beq_eq_false_iff_ne.2 (h c (.head _)), cond_false, cutP_one b r _ fun d hd => h d (.tail _ hd), List.append_assoc]; rfl
theorem cutP_app (b : UInt8) (rest : List UInt8) : ∀ (p cur : List UInt8), (∀ c ∈ p, c ≠ b) → cutP b (p ++ b :: rest) cur = (cur ++ p) :: cutP b rest []
  | [], cur, _ => by rw [List.nil_append, cutP, BEq.rfl, cond_true, List.append_nil]
  | c :: r, cur, h => by
    rw [List.cons_append, cutP, beq_eq_false_iff_ne.2 (h c (.head _)), cond_false, cutP_app b rest r _ fun d hd => h d (.tail _ hd), List.append_assoc]; rfl
def CurOk (c : Sl1Cur) : Prop := 0 ≤ c.i ∧ c.i ≤ (c.b.length : Int) ∧ c.b.length ≤ 1048576
theorem and255 (n : Int) : 0 ≤ andI .i64 n 255 ∧ andI .i64 n 255 ≤ 255 := by
  have h : (BitVec.ofInt 64 n &&& BitVec.ofInt 64 255).toNat ≤ 255 := by
    rw [BitVec.toNat_and]; exact Nat.le_trans Nat.and_le_right (by decide)
  show 0 ≤ IntKind.wrap .i64 (((BitVec.ofInt 64 n &&& BitVec.ofInt 64 255).toNat : Nat) : Int) ∧ IntKind.wrap .i64 (((BitVec.ofInt 64 n &&& BitVec.ofInt 64 255).toNat : Nat) : Int) ≤ 255
  rw [wrap_id (by omega) (by omega)]; omega
theorem S_l1Byte_tot {k : Nat} {c : Sl1Cur} (h : CurOk c) : ∃ v c', S_l1Byte k c = some (v, c') ∧ (0 ≤ v ∧ v ≤ 255) ∧ CurOk c' := by
  obtain ⟨b, i, hh⟩ := c
  obtain ⟨h1, h2, h3⟩ := h
  obtain ⟨n, rfl⟩ := Int.eq_ofNat_of_zero_le h1
  have h2 : (n : Int) ≤ (b.length : Int) := h2
  have h3 : b.length ≤ 1048576 := h3
  unfold S_l1Byte
  generalize IntKind.wrap .i64 (IntKind.wrap .i64 ((⟨b, (n : Int), hh⟩ : Sl1Cur).h * 6364136223846793005) + 1442695040888963407) = g
  obtain ⟨q1, e1⟩ : ∃ q, shrI .i64 g 33 = some q := ⟨_, rfl⟩
  obtain ⟨q2, e2⟩ : ∃ q, shrI .i64 g 47 = some q := ⟨_, rfl⟩
  rw [e1, Option.bind_some, e2, Option.bind_some, S_l1Byte_c34, bif_dec]
  by_cases c : (n : Int) < (b.length : Int)
  · have e3 : idx b (n : Int) = some b[n] := idx_nat (by omega)
    rw [if_pos c]
    simp only [e3, Option.bind_some]
    refine ⟨_, _, rfl, and255 _, ?_, ?_, h3⟩
    · show 0 ≤ IntKind.wrap .i64 ((n : Int) + 1)
      rw [wrap_succ (by omega)]; omega
    · show IntKind.wrap .i64 ((n : Int) + 1) ≤ (b.length : Int)
      rw [wrap_succ (by omega)]; omega
  · rw [if_neg c, Option.bind_some]
    exact ⟨_, _, rfl, and255 _, h1, h2, h3⟩
theorem md_pos {a n : Int} (h : 0 ≤ a) (hn : 0 < n) : ∃ r, md a n = some r ∧ 0 ≤ r ∧ r < n :=
  ⟨a.tmod n, by unfold md; rw [if_neg (by omega)], Int.tmod_nonneg n h, Int.tmod_lt_of_pos a hn⟩
theorem S_l1Below_tot {k : Nat} {c : Sl1Cur} (h : CurOk c) {n : Int} (hn : 0 < n) : ∃ v c', S_l1Below k c n = some (v, c') ∧ (0 ≤ v ∧ v < n) ∧ CurOk c' := by
  unfold S_l1Below
  rw [bif_dec, if_neg (by omega), bif_dec]
  obtain ⟨v1, c1, e1, ⟨a1, b1⟩, h1⟩ := S_l1Byte_tot (k := k) h
  rw [e1]
  by_cases hs : n ≤ 256
  · rw [if_pos hs, Option.bind_some]
    obtain ⟨r, er, hr⟩ := md_pos a1 hn
    rw [er]
    exact ⟨_, _, rfl, hr, h1⟩
  · rw [if_neg hs, Option.bind_some]
    obtain ⟨v2, c2, e2, ⟨a2, b2⟩, h2⟩ := S_l1Byte_tot (k := k) h1
    obtain ⟨v3, c3, e3, ⟨a3, b3⟩, h3⟩ := S_l1Byte_tot (k := k) h2
    rw [e2, Option.bind_some, e3, Option.bind_some]
    rw [wrap_id (n := v1 * 65536) (by omega) (by omega), wrap_id (n := v2 * 256) (by omega) (by omega), wrap_id (n := v1 * 65536 + v2 * 256) (by omega) (by omega), wrap_id (by omega) (by omega)]
    obtain ⟨r, er, hr⟩ := md_pos (a := v1 * 65536 + v2 * 256 + v3) (by omega) hn
    rw [er]
    exact ⟨_, _, rfl, hr, h3⟩
theorem S_l1Str_tot {k : Nat} {c : Sl1Cur} (h : CurOk c) {l : List (List UInt8)} (h0 : 0 < l.length) : ∃ s c', S_l1Str k c l = some (s, c') ∧ s ∈ l ∧ CurOk c' := by
  unfold S_l1Str
  obtain ⟨v, c1, e1, ⟨a1, b1⟩, h1⟩ := S_l1Below_tot (k := k) h (n := (l.length : Int)) (by omega)
  obtain ⟨m, rfl⟩ := Int.eq_ofNat_of_zero_le a1
  rw [e1, Option.bind_some, idx_nat (by omega), Option.bind_some]
  exact ⟨_, _, rfl, List.getElem_mem _, h1⟩
theorem S_l1Str_len {k : Nat} {c : Sl1Cur} (h : CurOk c) {l : List (List UInt8)} (h0 : 0 < l.length) {n : Nat} (hn : ∀ s ∈ l, s.length ≤ n) : ∃ s c', S_l1Str k c l = some (s, c') ∧ s.length ≤ n ∧ CurOk c' := by
  obtain ⟨s, c', e, hs, h'⟩ := S_l1Str_tot (k := k) h h0
  exact ⟨s, c', e, hn s hs, h'⟩
theorem S_l1New_loop {k : Nat} {x : List Int} (hx : x.length ≤ 1048576) : ∀ (n i : Nat) (s : Int), i ≤ x.length → x.length - i < n → ∃ r, S_l1New_b0 k n x s (i : Int) = some r := by
  intro n
  induction n with
  | zero => intro i s _ h; omega
  | succ n ih =>
    intro i s hi hn
    rw [S_l1New_b0, bif_dec, bif_dec]
    by_cases c : (i : Int) < (x.length : Int)
    · rw [if_pos c]
      by_cases c2 : (i : Int) < 4000
      · rw [if_pos c2, idx_nat (by omega), Option.bind_some, wrap_succ (by omega)]
        exact ih (i + 1) _ (by omega) (by omega)
      · rw [if_neg c2]; exact ⟨_, rfl⟩
    · rw [if_neg c]; exact ⟨_, rfl⟩
theorem S_l1New_tot {k : Nat} (hk : 1073741824 ≤ k) {x : List Int} (hx : x.length ≤ 1048576) : ∃ c, S_l1New k x = some c ∧ CurOk c := by
  unfold S_l1New
  obtain ⟨r, e⟩ := S_l1New_loop (k := k) hx k 0 (IntKind.wrap .i64 ((271091 : Int) + (x.length : Int))) (by omega) (by omega)
  rw [show (((0 : Nat)) : Int) = 0 from rfl] at e
  rw [e, Option.bind_some]
  exact ⟨_, rfl, by show (0 : Int) ≤ 0; omega, by show (0 : Int) ≤ (x.length : Int); omega, hx⟩
theorem wrap_pred {j : Nat} (h : j + 1 ≤ 9223372036854775807) : IntKind.wrap .i64 (((j + 1 : Nat) : Int) - 1) = (j : Int) := by rw [wrap_id (by omega) (by omega)]; omega
theorem L_big_eq {k : Nat} {x : List Int} : L_big k x = some (decide ((x.length : Int) > 1048576)) := rfl
theorem fsz_le {n : Nat} : ∀ {l : List IField}, (∀ e ∈ l, e.Value.length ≤ n) → fsz l ≤ l.length + l.length * n
  | [], _ => by simp [fsz]
  | e :: l, h => by
    have h1 := h e (.head _)
    have h2 := fsz_le (l := l) fun e he => h e (.tail _ he)
    unfold fsz at h2 ⊢
    simp only [List.length_cons, List.map_cons, List.sum_cons, Nat.add_mul, Nat.one_mul] at h2 ⊢
    omega
theorem S_l1Once_tot {k : Nat} {c : Sl1Cur} (h : CurOk c) {n : Int} (hn : 0 < n) : ∃ v c', S_l1Once k c n = some (v, c') ∧ CurOk c' := by
  unfold S_l1Once
  obtain ⟨v, c1, e1, _, h1⟩ := S_l1Below_tot (k := k) h hn
  rw [e1]; exact ⟨_, _, rfl, h1⟩
theorem S_l11Target_tot {k : Nat} {c : Sl1Cur} (h : CurOk c) : ∃ v c', S_l11Target k c = some (v, c') ∧ v.length ≤ 20 ∧ CurOk c' := by
  unfold S_l11Target
  obtain ⟨v, c1, e1, l1, h1⟩ := S_l1Str_len (k := k) h (l := [([47, 97] : List UInt8), ([47, 98] : List UInt8), ([47, 97, 63, 120, 61, 49, 38, 121, 61, 50] : List UInt8), ([47, 97, 63, 121, 61, 50, 38, 120, 61, 49] : List UInt8), ([47, 46, 47, 97] : List UInt8), ([47, 99, 47, 46, 46, 47, 97] : List UInt8), ([47, 37, 54, 49] : List UInt8), ([47, 112] : List UInt8), ([47, 112, 97, 103, 101] : List UInt8), ([47, 108, 97, 110, 103] : List UInt8), ([47, 109, 105, 110, 101] : List UInt8), ([47, 110, 111, 110, 101] : List UInt8), ([47, 98, 105, 103] : List UInt8), ([47, 65] : List UInt8), ([47, 97, 63] : List UInt8)]) (by decide) (n := 20) (by decide)
  rw [e1]; exact ⟨_, _, rfl, l1, h1⟩
theorem dec_acc : ∀ (x acc : List UInt8), dec x acc = (dec x []).map (acc ++ ·)
  | [], acc => by simp [dec]
  | c :: r, acc => by
    cases hc : (c == 37) with
    | false =>
      rw [dec_p _ _ hc, dec_p _ _ hc, dec_acc r (acc ++ [c]), dec_acc r ([] ++ [c])]
      cases dec r [] <;> simp
    | true =>
      match r with
      | [] => rw [dec_s _ _ hc (by simp), dec_s _ _ hc (by simp)]; rfl
      | [d] => rw [dec_s _ _ hc (by simp), dec_s _ _ hc (by simp)]; rfl
      | u :: l :: r =>
        rw [dec_h _ _ hc, dec_h _ _ hc]
        cases (decide (0 ≤ hexV u) && decide (0 ≤ hexV l)) with
        | false => rfl
        | true =>
          rw [cond_true, cond_true, dec_acc r (acc ++ _), dec_acc r ([] ++ _)]
          cases dec r [] <;> simp
  termination_by x => x.length
theorem dec_app (y : List UInt8) : ∀ (x acc t : List UInt8), dec x acc = some t → dec (x ++ y) acc = dec y t
  | [], acc, t, h => by cases h; rfl
  | c :: r, acc, t, h => by
    cases hc : (c == 37) with
    | false =>
      rw [dec_p _ _ hc] at h
      rw [List.cons_append, dec_p _ _ hc, dec_app y r _ t h]
    | true =>
      match r, h with
      | [], h => rw [dec_s _ _ hc (by simp)] at h; cases h
      | [d], h => rw [dec_s _ _ hc (by simp)] at h; cases h
      | u :: l :: r, h =>
        rw [dec_h _ _ hc] at h
        rw [List.cons_append, List.cons_append, List.cons_append, dec_h _ _ hc]
        cases hd : (decide (0 ≤ hexV u) && decide (0 ≤ hexV l)) with
        | false => rw [hd] at h; cases h
        | true =>
          rw [hd, cond_true] at h
          rw [cond_true, dec_app y r _ t h]
  termination_by x => x.length
theorem dec_sep {b : UInt8} (hb : (b == 37) = false) (hv : hexV b < 0) (y : List UInt8) : ∀ (x acc : List UInt8), dec (x ++ b :: y) acc = (dec x acc).bind fun s => dec y (s ++ [b])
  | [], acc => by rw [List.nil_append, dec_p _ _ hb]; rfl
  | c :: r, acc => by
    have hn : decide (0 ≤ hexV b) = false := decide_eq_false (by omega)
    cases hc : (c == 37) with
    | false => rw [List.cons_append, dec_p _ _ hc, dec_p _ _ hc, dec_sep hb hv y r]
    | true =>
      match r with
      | [] =>
        rw [dec_s _ _ hc (by simp)]
        match y with
        | [] => rw [show [c] ++ b :: [] = c :: [b] from rfl, dec_s _ _ hc (by simp)]; rfl
        | l :: y => rw [show [c] ++ b :: (l :: y) = c :: b :: l :: y from rfl, dec_h _ _ hc, hn]; rfl
      | [d] =>
        rw [dec_s _ _ hc (by simp)]
        rw [show [c, d] ++ b :: y = c :: d :: b :: y from rfl, dec_h _ _ hc, hn, Bool.and_false]; rfl
      | u :: l :: r =>
        rw [List.cons_append, List.cons_append, List.cons_append, dec_h _ _ hc, dec_h _ _ hc]
        cases (decide (0 ≤ hexV u) && decide (0 ≤ hexV l)) with
        | false => rfl
        | true => rw [cond_true, cond_true, dec_sep hb hv y r]
  termination_by x => x.length
def Fix (t : List UInt8) : Prop := dec t [] = some t
theorem fix_nil : Fix [] := rfl
theorem fix_app {x y : List UInt8} (hx : Fix x) (hy : Fix y) : Fix (x ++ y) := by
  unfold Fix at *
  rw [dec_app y x [] x hx, dec_acc, hy]; rfl
theorem fix_one {b : UInt8} (hb : (b == 37) = false) : Fix [b] := by unfold Fix; rw [decA1, hb]; rfl
theorem fix_split {b : UInt8} (hb : (b == 37) = false) (hv : hexV b < 0) {x y : List UInt8} (h : Fix (x ++ b :: y)) : Fix x ∧ Fix y := by
  unfold Fix at *
  rw [dec_sep hb hv] at h
  cases hx : dec x [] with
  | none => rw [hx] at h; cases h
  | some s =>
    rw [hx, Option.bind_some, dec_acc] at h
    cases hy : dec y [] with
    | none => rw [hy] at h; cases h
    | some t =>
      rw [hy] at h
      have h' : s ++ [b] ++ t = x ++ b :: y := Option.some.inj h
      have l1 := dec_len x [] s hx
      have l2 := dec_len y [] t hy
      have l3 := congrArg List.length h'
      simp only [List.length_append, List.length_cons, List.length_nil] at l1 l2 l3
      rw [List.append_assoc] at h'
      obtain ⟨e1, e2⟩ := List.append_inj h' (by omega)
      have e3 : t = y := by simpa using e2
      rw [e1, e3]; exact ⟨rfl, rfl⟩
theorem hexN (c : UInt8) (h : decide (0 ≤ hexV c) = true) : (hexV c).toNat < 16 := by
  have := hexV_lt c
  have := of_decide_eq_true h
  omega
theorem out_fix : ∀ a b : Fin 16, dec (outAB a.val b.val) [] = some (outAB a.val b.val) := by decide +kernel
theorem dec_fix : ∀ (x acc t : List UInt8), Fix acc → dec x acc = some t → Fix t
  | [], acc, t, ha, h => by cases h; exact ha
  | c :: r, acc, t, ha, h => by
    cases hc : (c == 37) with
    | false => rw [dec_p _ _ hc] at h; exact dec_fix r _ t (fix_app ha (fix_one hc)) h
    | true =>
      match r, h with
      | [], h => rw [dec_s _ _ hc (by simp)] at h; cases h
      | [d], h => rw [dec_s _ _ hc (by simp)] at h; cases h
      | u :: l :: r, h =>
        rw [dec_h _ _ hc] at h
        cases h1 : decide (0 ≤ hexV u) with
        | false => rw [h1] at h; cases h
        | true =>
          cases h2 : decide (0 ≤ hexV l) with
          | false => rw [h1, h2] at h; cases h
          | true =>
            rw [h1, h2] at h
            exact dec_fix r _ t (fix_app ha (out_fix ⟨_, hexN u h1⟩ ⟨_, hexN l h2⟩)) h
  termination_by x => x.length
theorem dec_all (P : UInt8 → Bool) (hP : ∀ a b : Fin 16, (outAB a.val b.val).all P = true) : ∀ (x acc t : List UInt8), x.all P = true → acc.all P = true → dec x acc = some t → t.all P = true
  | [], acc, t, _, ha, h => by cases h; exact ha
  | c :: r, acc, t, hx, ha, h => by
    rw [List.all_cons, Bool.and_eq_true] at hx
    cases hc : (c == 37) with
    | false => rw [dec_p _ _ hc] at h; exact dec_all P hP r _ t hx.2 (by rw [List.all_append, ha]; simp [hx.1]) h
    | true =>
      cases r with
      | nil => rw [dec_s _ _ hc (by simp)] at h; cases h
      | cons u r1 =>
       cases r1 with
       | nil => rw [dec_s _ _ hc (by simp)] at h; cases h
       | cons l r =>
        rw [dec_h _ _ hc] at h
        have hr : r.all P = true := by have := hx.2; simp only [List.all_cons, Bool.and_eq_true] at this; exact this.2.2
        cases h1 : decide (0 ≤ hexV u) with
        | false => rw [h1] at h; cases h
        | true =>
          cases h2 : decide (0 ≤ hexV l) with
          | false => rw [h1, h2] at h; cases h
          | true =>
            rw [h1, h2] at h
            exact dec_all P hP r _ t hr (by rw [List.all_append, ha, hP ⟨_, hexN u h1⟩ ⟨_, hexN l h2⟩]; rfl) h
  termination_by x => x.length
theorem cutP_fix {b : UInt8} (hb : (b == 37) = false) (hv : hexV b < 0) : ∀ (l cur : List UInt8), Fix (cur ++ l) → ∀ p ∈ cutP b l cur, Fix p
  | [], cur, h, p, hp => by rw [cutP, List.mem_singleton] at hp; subst hp; simpa using h
  | c :: r, cur, h, p, hp => by
    rw [cutP] at hp
    cases hc : (c == b) with
    | true =>
      rw [hc, cond_true] at hp
      have hcb : c = b := by simpa using hc
      subst hcb
      obtain ⟨h1, h2⟩ := fix_split hb hv h
      rcases List.mem_cons.1 hp with rfl | hp
      · exact h1
      · exact cutP_fix hb hv r [] (by simpa using h2) p hp
    | false =>
      rw [hc, cond_false] at hp
      exact cutP_fix hb hv r (cur ++ [c]) (by simpa using h) p hp
theorem cutP_sep (b : UInt8) (y : List UInt8) : ∀ (x cur : List UInt8), cutP b (x ++ b :: y) cur = cutP b x cur ++ cutP b y []
  | [], cur => by rw [List.nil_append, cutP, cutP, beq_self_eq_true, cond_true]; rfl
  | c :: r, cur => by
    rw [List.cons_append, cutP, cutP]
    cases (c == b) with
    | true => rw [cond_true, cond_true, cutP_sep b y r]; rfl
    | false => rw [cond_false, cond_false, cutP_sep b y r]
theorem jt_cons (b : UInt8) (x : List UInt8) (r : List (List UInt8)) : Lib.joinTail [b] (x :: r) = b :: (x ++ Lib.joinTail [b] r) := by simp [Lib.joinTail]
theorem cutP_back (b : UInt8) : ∀ (x : List UInt8) (r : List (List UInt8)), (∀ p ∈ x :: r, ∀ c ∈ p, c ≠ b) → cutP b (x ++ Lib.joinTail [b] r) [] = x :: r
  | x, [], h => by rw [show Lib.joinTail [b] [] = [] from rfl, List.append_nil, cutP_one b x [] (h x (.head _))]; rfl
  | x, y :: r, h => by rw [jt_cons, cutP_app b _ x [] (h x (.head _)), cutP_back b y r fun p hp => h p (.tail _ hp)]; rfl
theorem cutP_sum2 (b : UInt8) : ∀ (l cur : List UInt8), Lib.lens (cutP b l cur) + (cutP b l cur).length = cur.length + l.length + 1
  | [], cur => by rw [cutP, lens_one]; simp
  | c :: r, cur => by
    rw [cutP]
    have h1 := cutP_sum2 b r []
    have h2 := cutP_sum2 b r (cur ++ [c])
    cases (c == b) with
    | true => rw [cond_true, lensC]; simp at h1 ⊢; omega
    | false => rw [cond_false]; simp at h2 ⊢; omega
theorem cutP_none (b : UInt8) {l : List UInt8} {p : List UInt8} (h : p ∈ cutP b l []) : ∀ c ∈ p, c ∈ l ∧ c ≠ b := fun c hc => by
  rcases cutP_el b l [] p h c hc with h | h
  · cases h
  · exact h
def dotP (e : List UInt8) : Bool := e == [46] || e == [46, 46]
theorem cleanE_all (Q : List UInt8 → Prop) (h0 : Q []) (last : Bool) (e : List UInt8) (out : List (List UInt8)) (ho : ∀ p ∈ out, Q p ∧ dotP p = false) (he : Q e) : ∀ p ∈ cleanE last e out, Q p ∧ dotP p = false := fun p hp => by
  have ht : ∀ p ∈ out.take (out.length - 1), Q p ∧ dotP p = false := fun p hp => ho p (List.mem_of_mem_take hp)
  have hn : Q [] ∧ dotP [] = false := ⟨h0, rfl⟩
  unfold cleanE at hp
  cases h1 : e == [46] <;> cases h2 : e == [46, 46] <;> cases last <;> simp only [h1, h2, Bool.not_true, Bool.not_false, Bool.and_true, Bool.true_and, Bool.and_false, Bool.false_and, cond_true, cond_false, List.mem_append, List.mem_singleton] at hp
  case false.false.false => rcases hp with hp | rfl; exact ho p hp; exact ⟨he, by unfold dotP; rw [h1, h2]; rfl⟩
  case false.false.true => rcases hp with hp | rfl; exact ho p hp; exact ⟨he, by unfold dotP; rw [h1, h2]; rfl⟩
  case false.true.false => exact ht p hp
  case false.true.true => rcases hp with hp | rfl; exact ht p hp; exact hn
  case true.false.false => exact ho p hp
  case true.false.true => rcases hp with hp | rfl; exact ho p hp; exact hn
  case true.true.false => exact ht p hp
  case true.true.true => rcases hp with hp | rfl; exact ht p hp; exact hn
theorem cleanL_all (Q : List UInt8 → Prop) (h0 : Q []) : ∀ (l out : List (List UInt8)), (∀ p ∈ out, Q p ∧ dotP p = false) → (∀ p ∈ l, Q p) → ∀ p ∈ cleanL l out, Q p ∧ dotP p = false
  | [], out, ho, _ => ho
  | e :: r, out, ho, hl => by
    rw [cleanL]
    exact cleanL_all Q h0 r _ (cleanE_all Q h0 _ e out ho (hl e (.head _))) fun p hp => hl p (.tail _ hp)
theorem cleanL_id : ∀ (l out : List (List UInt8)), (∀ p ∈ l, dotP p = false) → cleanL l out = out ++ l
  | [], out, _ => by simp [cleanL]
  | e :: r, out, h => by
    have he := h e (.head _)
    unfold dotP at he
    rw [Bool.or_eq_false_iff] at he
    rw [cleanL, cleanE, he.1, he.2]
    simp only [Bool.not_false, Bool.and_self, cond_true]
    rw [cleanL_id r _ fun p hp => h p (.tail _ hp)]
    simp
theorem fix_jt {b : UInt8} (hb : (b == 37) = false) : ∀ {r : List (List UInt8)}, (∀ p ∈ r, Fix p) → Fix (Lib.joinTail [b] r)
  | [], _ => rfl
  | x :: r, h => by
    rw [jt_cons]
    exact fix_app (x := [b]) (fix_one hb) (fix_app (h x (.head _)) (fix_jt hb fun p hp => h p (.tail _ hp)))
theorem all_jt {b : UInt8} {P : UInt8 → Bool} (hb : P b = true) : ∀ {r : List (List UInt8)}, (∀ p ∈ r, p.all P = true) → (Lib.joinTail [b] r).all P = true
  | [], _ => rfl
  | x :: r, h => by
    rw [jt_cons, List.all_cons, List.all_append, hb, h x (.head _), all_jt hb fun p hp => h p (.tail _ hp)]; rfl
theorem cutP_all {b : UInt8} {P : UInt8 → Bool} {l : List UInt8} (h : l.all P = true) {p : List UInt8} (hp : p ∈ cutP b l []) : p.all P = true :=
  List.all_eq_true.2 fun c hc => List.all_eq_true.1 h c ((cutP_none b hp c hc).1)
theorem path_form (p : List UInt8) : ∃ x r, cleanL (cutP 47 (p.drop 1) []) [] = x :: r ∧ pathT p = 47 :: (x ++ Lib.joinTail [47] r) := by
  have hne : cleanL (cutP 47 (p.drop 1) []) [] ≠ [] := cleanL_ne _ _ fun h => by have := cutP_pos 47 (p.drop 1) []; rw [h] at this; cases this
  unfold pathT
  cases h : cleanL (cutP 47 (p.drop 1) []) [] with
  | nil => exact absurd h hne
  | cons x r => exact ⟨x, r, rfl, jt_cons 47 x r⟩
theorem path_parts {Q : List UInt8 → Prop} (h0 : Q []) {p : List UInt8} (h : ∀ e ∈ cutP 47 (p.drop 1) [], Q e) : ∀ e ∈ cleanL (cutP 47 (p.drop 1) []) [], Q e ∧ dotP e = false :=
  cleanL_all Q h0 _ _ (fun e he => by cases he) h
theorem path_twice (p : List UInt8) : pathT (pathT p) = pathT p := by
  obtain ⟨x, r, h1, h2⟩ := path_form p
  have hq := path_parts (p := p) (Q := fun e => ∀ c ∈ e, c ≠ 47) (fun c hc => by cases hc) fun e he c hc => (cutP_none 47 he c hc).2
  rw [h1] at hq
  have hb := cutP_back 47 x r fun e he => (hq e he).1
  rw [h2]
  unfold pathT
  rw [List.drop_succ_cons, List.drop_zero, hb, cleanL_id _ _ fun e he => (hq e he).2, List.nil_append, jt_cons]
theorem path_fix {p : List UInt8} (hp : Fix p) (h47 : q47 p = true) : Fix (pathT p) := by
  cases p with
  | nil => cases h47
  | cons c p =>
    have hc : c = 47 := by unfold q47 at h47; simpa using h47
    subst hc
    have hf := (fix_split (b := 47) (x := []) (y := p) rfl (by decide) hp).2
    have := path_parts (p := 47 :: p) (Q := Fix) fix_nil (fun e he => cutP_fix (b := 47) rfl (by decide) p [] hf e he)
    unfold pathT
    exact fix_jt rfl fun e he => (this e he).1
theorem path_all {P : UInt8 → Bool} (h47 : P 47 = true) {p : List UInt8} (hp : p.all P = true) : (pathT p).all P = true := by
  have hd : (p.drop 1).all P = true := List.all_eq_true.2 fun c hc => List.all_eq_true.1 hp c (List.mem_of_mem_drop hc)
  have := path_parts (p := p) (Q := fun e => e.all P = true) rfl fun e he => cutP_all hd he
  unfold pathT
  exact all_jt h47 fun e he => (this e he).1
theorem path_len {p : List UInt8} (h47 : q47 p = true) : (pathT p).length ≤ p.length := by
  cases p with
  | nil => cases h47
  | cons c p =>
    have h1 := cleanL_len (cutP 47 p []) []
    have h2 := cleanL_lens (cutP 47 p []) []
    have h3 := cutP_sum2 47 p []
    have h4 := Lib.joinTail_length [47] (cleanL (cutP 47 p []) [])
    unfold pathT
    rw [List.drop_succ_cons, List.drop_zero]
    simp [Lib.lens] at h1 h2 h3 h4 ⊢
    omega
theorem path_47 (p : List UInt8) : q47 (pathT p) = true := by
  obtain ⟨x, r, _, h2⟩ := path_form p
  rw [h2]; rfl
theorem sortQ_of {a b : List (List UInt8)} (h : a.Perm b) : (a.mergeSort fun x y => decide (x ≤ y)) = b.mergeSort fun x y => decide (x ≤ y) := by
  have hs : ∀ w : List (List UInt8), (w.mergeSort fun x y => decide (x ≤ y)).Pairwise fun x y => x ≤ y := fun w => by
    have := List.pairwise_mergeSort (le := fun (x y : List UInt8) => decide (x ≤ y)) (fun a b c h3 h4 => by simp only [decide_eq_true_eq] at *; exact List.le_trans h3 h4) (fun a b => by
      simp only [Bool.or_eq_true, decide_eq_true_eq]; exact List.le_total a b) w
    exact this.imp fun h => by simpa using h
  exact List.Perm.eq_of_pairwise (le := fun x y => x ≤ y) (fun a b _ _ h3 h4 => List.le_antisymm h3 h4) (hs a) (hs b) (((List.mergeSort_perm _ _).trans h).trans (List.mergeSort_perm _ _).symm)
theorem sortQ_el {q p : List UInt8} (h : p ∈ sortQ q) : p ∈ cutP 38 q [] := (List.mem_filter.1 ((sortQ_perm q).mem_iff.1 h)).1
theorem sortQ_rot (a b : List UInt8) : sortQ (a ++ 38 :: b) = sortQ (b ++ 38 :: a) := by
  unfold sortQ
  rw [cutP_sep, cutP_sep]
  exact sortQ_of (List.Perm.filter _ List.perm_append_comm)
theorem sortQ_twice (q : List UInt8) : sortQ (Lib.join (sortQ q) [38]) = sortQ q := by
  cases hs : sortQ q with
  | nil => simp [Lib.join_nil, sortQ, cutP, neP]
  | cons x r =>
    have hb := cutP_back 38 x r fun e he c hc => (cutP_none 38 (sortQ_el (q := q) (by rw [hs]; exact he)) c hc).2
    have hf : (x :: r).filter neP = x :: r := List.filter_eq_self.2 fun e he => by
      have := sortQ_ne (q := q) (s := e) (by rw [hs]; exact he)
      unfold neP; simpa using this
    rw [Lib.join_cons]
    conv => lhs; unfold sortQ
    rw [hb, hf, ← hs]
    unfold sortQ
    exact sortQ_of (List.mergeSort_perm _ _)
theorem joinQ_fix {q : List UInt8} (hq : Fix q) : Fix (Lib.join (sortQ q) [38]) := by
  have h : ∀ p ∈ sortQ q, Fix p := fun p hp => cutP_fix (b := 38) rfl (by decide) q [] hq p (sortQ_el hp)
  cases hs : sortQ q with
  | nil => exact fix_nil
  | cons x r =>
    rw [hs] at h
    rw [Lib.join_cons]
    exact fix_app (h x (.head _)) (fix_jt rfl fun p hp => h p (.tail _ hp))
theorem joinQ_all {P : UInt8 → Bool} (hb : P 38 = true) {q : List UInt8} (hq : q.all P = true) : (Lib.join (sortQ q) [38]).all P = true := by
  have h : ∀ p ∈ sortQ q, p.all P = true := fun p hp => cutP_all hq (sortQ_el hp)
  cases hs : sortQ q with
  | nil => rfl
  | cons x r =>
    rw [hs] at h
    rw [Lib.join_cons, List.all_append, h x (.head _), all_jt hb fun p hp => h p (.tail _ hp)]; rfl
theorem joinQ_len2 (q : List UInt8) : (Lib.join (sortQ q) [38]).length ≤ q.length := by
  have h1 := lens_perm (sortQ_perm q)
  have h2 := (sortQ_perm q).length_eq
  have h3 := lens_filter neP (cutP 38 q [])
  have h4 := List.length_filter_le neP (cutP 38 q [])
  have h5 := cutP_sum2 38 q []
  cases hq : sortQ q with
  | nil => simp [Lib.join_nil]
  | cons x r =>
    rw [hq] at h1 h2
    rw [Lib.join_length]
    simp at h2 h5 ⊢
    omega
theorem split_at {x y : List UInt8} (h : ∀ c ∈ x, c ≠ 63) : splitT (x ++ 63 :: y) = (x, y, true) := by
  have hf : firstI (byteP (x ++ 63 :: y) 63) (x ++ 63 :: y).length 0 = some x.length := firstI_unique (by simp) (by simp [byteP]) fun j hj => by
    have := h x[j] (List.getElem_mem hj)
    unfold byteP
    rw [List.getElem?_append_left hj, List.getElem?_eq_getElem hj]
    simpa using this
  unfold splitT
  rw [hf]
  simp
theorem split_no {x : List UInt8} (h : ∀ c ∈ x, c ≠ 63) : splitT x = (x, [], false) := by
  have hf : firstI (byteP x 63) x.length 0 = none := firstI_no fun j hj => by
    have := h x[j] (List.getElem_mem hj)
    unfold byteP
    rw [List.getElem?_eq_getElem hj]
    simpa using this
  unfold splitT
  rw [hf]
theorem split_cases (s : List UInt8) : (∀ c ∈ (splitT s).1, c ≠ 63) ∧ ((splitT s).2.2 = true ∧ s = (splitT s).1 ++ 63 :: (splitT s).2.1 ∨ (splitT s).2.2 = false ∧ s = (splitT s).1 ∧ (splitT s).2.1 = []) := by
  unfold splitT
  cases hf : firstI (byteP s 63) s.length 0 with
  | some i =>
    obtain ⟨_, h1, h2, h3⟩ := firstI_some _ _ _ hf
    have hi : i < s.length := by omega
    have h4 : s[i] = 63 := by rw [byteP_at hi] at h2; simpa using h2
    refine ⟨fun c hc => ?_, .inl ⟨rfl, ?_⟩⟩
    · obtain ⟨j, hj, rfl⟩ := List.mem_iff_getElem.1 hc
      simp only [List.length_take] at hj
      have := h3 j (by omega) (by omega)
      rw [byteP_at (by omega)] at this
      simp only [List.getElem_take]
      simpa using this
    · show s = s.take i ++ 63 :: s.drop (i + 1)
      rw [← h4, List.getElem_cons_drop, List.take_append_drop]
  | none =>
    refine ⟨fun c hc => ?_, .inr ⟨rfl, rfl, rfl⟩⟩
    obtain ⟨j, hj, rfl⟩ := List.mem_iff_getElem.1 hc
    have hj' : j < s.length := hj
    have := firstI_none _ _ hf j (by omega) (by omega)
    rw [byteP_at hj'] at this
    simpa using this
theorem decT_of {x t : List UInt8} (h : dec x [] = some t) : decT x = (t, true) := by unfold decT; rw [h]
theorem decT_no {x : List UInt8} (h : dec x [] = none) : decT x = ([], false) := by unfold decT; rw [h]
def prn (c : UInt8) : Bool := inR (c.toNat : Int) 33 126
theorem out_63 : ∀ a b : Fin 16, (outAB a.val b.val).all (fun c => c != 63) = true := by decide +kernel
theorem out_prn : ∀ a b : Fin 16, (outAB a.val b.val).all prn = true := by decide +kernel
theorem ne63 {x : List UInt8} (h : x.all (fun c => c != 63) = true) : ∀ c ∈ x, c ≠ 63 := fun c hc => by have := List.all_eq_true.1 h c hc; simpa using this
theorem of63 {x : List UInt8} (h : ∀ c ∈ x, c ≠ 63) : x.all (fun c => c != 63) = true := List.all_eq_true.2 fun c hc => by have := h c hc; simpa using this
theorem norm_spec {s : List UInt8} (h : (normT s).2 = true) : ∃ p q, dec (splitT s).1 [] = some p ∧ dec (splitT s).2.1 [] = some q ∧ q47 p = true ∧
    (normT s).1 = bif (sortQ q).isEmpty then pathT p else pathT p ++ 63 :: Lib.join (sortQ q) [38] := by
  unfold normT at h ⊢
  cases hp : dec (splitT s).1 [] with
  | none => rw [decT_no hp] at h; cases h
  | some p =>
    cases hq : dec (splitT s).2.1 [] with
    | none => rw [decT_of hp, decT_no hq] at h; cases h
    | some q =>
      rw [decT_of hp, decT_of hq] at h ⊢
      cases h47 : q47 p with
      | false => rw [h47] at h; cases h
      | true =>
        refine ⟨p, q, rfl, rfl, h47, ?_⟩
        simp
theorem norm_of {s p q : List UInt8} (hp : dec (splitT s).1 [] = some p) (hq : dec (splitT s).2.1 [] = some q) (h47 : q47 p = true) : normT s = (bif (sortQ q).isEmpty then pathT p else pathT p ++ 63 :: Lib.join (sortQ q) [38], true) := by
  unfold normT
  rw [decT_of hp, decT_of hq, h47]
  simp
theorem norm_twice {s : List UInt8} (h : (normT s).2 = true) : normT (normT s).1 = ((normT s).1, true) := by
  obtain ⟨p, q, hp, hq, h47, e⟩ := norm_spec h
  obtain ⟨hx, _⟩ := split_cases s
  have fp : Fix p := dec_fix _ [] p fix_nil hp
  have fq : Fix q := dec_fix _ [] q fix_nil hq
  have np : p.all (fun c => c != 63) = true := dec_all _ out_63 _ [] p (of63 hx) rfl hp
  have nn := ne63 (path_all (P := fun c => c != 63) rfl np)
  have ff := path_fix fp h47
  have fj := joinQ_fix fq
  rw [e]
  cases hs : (sortQ q).isEmpty with
  | true =>
    rw [cond_true]
    have hsp := split_no nn
    rw [norm_of (p := pathT p) (q := []) (by rw [hsp]; exact ff) (by rw [hsp]; rfl) (path_47 p), path_twice]
    simp [sortQ, cutP, neP]
  | false =>
    rw [cond_false]
    have hsp := split_at (y := Lib.join (sortQ q) [38]) nn
    rw [norm_of (p := pathT p) (q := Lib.join (sortQ q) [38]) (by rw [hsp]; exact ff) (by rw [hsp]; exact fj) (path_47 p), path_twice, sortQ_twice, hs]
    rfl
theorem norm_47 {s : List UInt8} (h : (normT s).2 = true) : ∃ r, (normT s).1 = 47 :: r := by
  obtain ⟨p, q, hp, hq, h47, e⟩ := norm_spec h
  obtain ⟨x, r, _, h2⟩ := path_form p
  rw [e, h2]
  cases (sortQ q).isEmpty with
  | true => exact ⟨_, rfl⟩
  | false => exact ⟨_, rfl⟩
theorem norm_len {s : List UInt8} (h : (normT s).2 = true) : (normT s).1.length ≤ s.length := by
  obtain ⟨p, q, hp, hq, h47, e⟩ := norm_spec h
  obtain ⟨_, hc⟩ := split_cases s
  have l1 := dec_len _ _ _ hp
  have l2 := dec_len _ _ _ hq
  have l3 := path_len h47
  have l4 := joinQ_len2 q
  simp only [List.length_nil] at l1 l2
  rw [e]
  cases hs : (sortQ q).isEmpty with
  | true =>
    rw [cond_true]
    rcases hc with ⟨_, hc⟩ | ⟨_, hc, _⟩
    · have := congrArg List.length hc
      simp at this; omega
    · have := congrArg List.length hc
      omega
  | false =>
    rw [cond_false]
    rcases hc with ⟨_, hc⟩ | ⟨_, hc, h0⟩
    · have := congrArg List.length hc
      simp at this ⊢; omega
    · rw [h0] at hq
      have : q = [] := by have : some ([] : List UInt8) = some q := hq; cases this; rfl
      rw [this] at hs
      simp [sortQ, cutP, neP] at hs
theorem norm_prn {s : List UInt8} (h : (normT s).2 = true) (hs : s.all prn = true) : (normT s).1.all prn = true := by
  obtain ⟨p, q, hp, hq, h47, e⟩ := norm_spec h
  obtain ⟨_, hc⟩ := split_cases s
  have hx : (splitT s).1.all prn = true ∧ (splitT s).2.1.all prn = true := by
    rcases hc with ⟨_, hc⟩ | ⟨_, hc, h0⟩
    · rw [hc, List.all_append, List.all_cons, Bool.and_eq_true, Bool.and_eq_true] at hs
      exact ⟨hs.1, hs.2.2⟩
    · rw [h0, ← hc]; exact ⟨hs, rfl⟩
  have ap := path_all (P := prn) (by decide) (dec_all prn out_prn _ [] p hx.1 rfl hp)
  have aq := joinQ_all (P := prn) (by decide) (dec_all prn out_prn _ [] q hx.2 rfl hq)
  rw [e]
  cases (sortQ q).isEmpty with
  | true => exact ap
  | false => rw [cond_false, List.all_append, List.all_cons, ap, aq]; rfl
theorem norm_rot {s f r : List UInt8} (h : (splitT s).2.2 = true) (hy : (splitT s).2.1 = f ++ 38 :: r) : normT ((splitT s).1 ++ 63 :: (r ++ 38 :: f)) = normT s := by
  obtain ⟨hx, _⟩ := split_cases s
  have hd : ∀ a b : List UInt8, dec (a ++ 38 :: b) [] = (dec a []).bind fun t => (dec b []).map (t ++ 38 :: ·) := fun a b => by
    rw [dec_sep (b := 38) rfl (by decide)]
    congr 1
    funext t
    rw [dec_acc]
    cases dec b [] <;> simp
  unfold normT
  rw [split_at hx, hy]
  cases hf : dec f [] with
  | none =>
    have e1 : dec (f ++ 38 :: r) [] = none := by rw [hd, hf]; rfl
    have e2 : dec (r ++ 38 :: f) [] = none := by rw [hd, hf]; cases dec r [] <;> rfl
    rw [decT_no e1, decT_no e2]
  | some tf =>
    cases hr : dec r [] with
    | none =>
      have e1 : dec (f ++ 38 :: r) [] = none := by rw [hd, hf, hr]; rfl
      have e2 : dec (r ++ 38 :: f) [] = none := by rw [hd, hr]; rfl
      rw [decT_no e1, decT_no e2]
    | some tr =>
      have e1 : dec (f ++ 38 :: r) [] = some (tf ++ 38 :: tr) := by rw [hd, hf, hr]; rfl
      have e2 : dec (r ++ 38 :: f) [] = some (tr ++ 38 :: tf) := by rw [hd, hf, hr]; rfl
      rw [decT_of e1, decT_of e2, sortQ_rot tr tf]
theorem S_l5Draw_loop2 {k : Nat} : ∀ (n j : Nat) (r : List IField) (b : List Int) (i h : Int), j < n → r.length + j ≤ 100 → CurOk ⟨b, i, h⟩ → (∀ e ∈ r, e.Name.length ≤ 20 ∧ e.Value.length ≤ 60) →
    ∃ b' i' h' t, S_l5Draw_b0 k n (j : Int) b i h r = some (b', i', h', t) ∧ t.length ≤ r.length + j ∧ CurOk ⟨b', i', h'⟩ ∧ ∀ e ∈ t, e.Name.length ≤ 20 ∧ e.Value.length ≤ 60 := by
  intro n
  induction n with
  | zero => intro j r b i h hj; omega
  | succ n ih =>
    intro j r b i h hj hx hc hr
    rw [S_l5Draw_b0, bif_dec]
    cases j with
    | zero => rw [if_neg (by omega)]; exact ⟨_, _, _, _, rfl, by omega, hc, hr⟩
    | succ j =>
      rw [if_pos (by omega)]
      obtain ⟨s1, c1, e1, l1, h1⟩ := S_l1Str_len (k := k) hc (l := [([97, 99, 99, 101, 112, 116, 45, 108, 97, 110, 103, 117, 97, 103, 101] : List UInt8), ([97] : List UInt8), ([98] : List UInt8), ([99, 97, 99, 104, 101, 45, 99, 111, 110, 116, 114, 111, 108] : List UInt8), ([120, 45, 107] : List UInt8), ([97] : List UInt8)]) (by decide) (n := 20) (by decide)
      rw [e1, Option.bind_some]
      obtain ⟨s2, c2, e2, l2, h2⟩ := S_l1Str_len (k := k) h1 (l := [([] : List UInt8), ([100, 101, 44, 32, 101, 110] : List UInt8), ([110, 111, 45, 99, 97, 99, 104, 101] : List UInt8), ([49] : List UInt8), ([120, 32, 32, 121] : List UInt8), ([109, 97, 120, 45, 97, 103, 101, 61, 53] : List UInt8), ([34, 113, 34] : List UInt8)]) (by decide) (n := 60) (by decide)
      simp only [e2, Option.bind_some]
      rw [appn_ok (by simp only [List.length_cons, List.length_nil]; omega), Option.bind_some, wrap_pred (by omega)]
      obtain ⟨b', i', h', t, e, hl, hc', ht⟩ := ih j (r ++ [⟨s1, s2⟩]) c2.b c2.i c2.h (by omega) (by simp only [List.length_append, List.length_cons, List.length_nil]; omega) h2 (fun e he => by
        rcases List.mem_append.1 he with he | he
        · exact hr e he
        · have : e = ⟨s1, s2⟩ := by simpa using he
          subst this; exact ⟨l1, l2⟩)
      exact ⟨b', i', h', t, e, by simp only [List.length_append, List.length_cons, List.length_nil] at hl; omega, hc', ht⟩
theorem S_l5Draw_tot2 {k : Nat} (hk : 1073741824 ≤ k) {c : Sl1Cur} (h : CurOk c) : ∃ t c', S_l5Draw k c = some (t, c') ∧ CurOk c' ∧ t.length ≤ 5 ∧ ∀ e ∈ t, e.Name.length ≤ 20 ∧ e.Value.length ≤ 60 := by
  unfold S_l5Draw
  obtain ⟨v, c1, e1, ⟨a1, b1⟩, h1⟩ := S_l1Below_tot (k := k) h (n := 6) (by omega)
  obtain ⟨m, rfl⟩ := Int.eq_ofNat_of_zero_le a1
  rw [e1, Option.bind_some]
  obtain ⟨b', i', h', t, e, hl, hc', ht⟩ := S_l5Draw_loop2 (k := k) k m [] c1.b c1.i c1.h (by omega) (by simp only [List.length_nil]; omega) h1 (by simp)
  simp only [e, Option.bind_some]
  exact ⟨t, _, rfl, hc', by simp only [List.length_nil] at hl; omega, ht⟩
theorem S_l11Request_tot2 {k : Nat} (hk : 1073741824 ≤ k) {c : Sl1Cur} (h : CurOk c) : ∃ r c', S_l11Request k c = some (r, c') ∧ CurOk c' ∧ (r.Method.length ≤ 20 ∧ r.Host.length ≤ 20 ∧ r.Target.length ≤ 20) ∧ r.Fields.length ≤ 5 ∧ ∀ e ∈ r.Fields, e.Name.length ≤ 20 ∧ e.Value.length ≤ 60 := by
  unfold S_l11Request
  obtain ⟨v1, c1, e1, l1, h1⟩ := S_l1Str_len (k := k) h (l := [([71, 69, 84] : List UInt8), ([71, 69, 84] : List UInt8), ([71, 69, 84] : List UInt8), ([72, 69, 65, 68] : List UInt8), ([80, 79, 83, 84] : List UInt8), ([103, 101, 116] : List UInt8)]) (by decide) (n := 20) (by decide)
  obtain ⟨v2, c2, e2, l2, h2⟩ := S_l1Str_len (k := k) h1 (l := [([104, 46, 101, 120, 97, 109, 112, 108, 101] : List UInt8), ([104, 46, 101, 120, 97, 109, 112, 108, 101] : List UInt8), ([120] : List UInt8), ([72] : List UInt8)]) (by decide) (n := 20) (by decide)
  obtain ⟨v3, c3, e3, l3, h3⟩ := S_l11Target_tot (k := k) h2
  obtain ⟨v4, c4, e4, h4, n4, l4⟩ := S_l5Draw_tot2 hk h3
  obtain ⟨v5, c5, e5, h5⟩ := S_l1Once_tot (k := k) h4 (n := 12) (by omega)
  simp only [e1, Option.bind_some, e2, e3, e4, e5]
  cases v5 with
  | false => exact ⟨_, _, rfl, h5, ⟨l1, l2, l3⟩, n4, l4⟩
  | true =>
    obtain ⟨v6, c6, e6, l6, h6⟩ := S_l1Str_len (k := k) h5 (l := [([97] : List UInt8), ([47, 97, 32, 98] : List UInt8), ([47, 195, 169] : List UInt8), ([42] : List UInt8)]) (by decide) (n := 20) (by decide)
    have e6' : S_l1Str k (⟨c5.b, c5.i, c5.h⟩ : Sl1Cur) [([97] : List UInt8), ([47, 97, 32, 98] : List UInt8), ([47, 195, 169] : List UInt8), ([42] : List UInt8)] = some (v6, c6) := e6
    simp only [S_l11Request_c16, cond_true, e6', Option.bind_some]
    exact ⟨_, _, rfl, h6, ⟨l1, l2, l6⟩, n4, l4⟩
theorem S_l1Int_tot {k : Nat} {c : Sl1Cur} (h : CurOk c) {l : List Int} (h0 : 0 < l.length) : ∃ v c', S_l1Int k c l = some (v, c') ∧ v ∈ l ∧ CurOk c' := by
  unfold S_l1Int
  obtain ⟨v, c1, e1, ⟨a1, b1⟩, h1⟩ := S_l1Below_tot (k := k) h (n := (l.length : Int)) (by omega)
  obtain ⟨m, rfl⟩ := Int.eq_ofNat_of_zero_le a1
  rw [e1, Option.bind_some, idx_nat (by omega), Option.bind_some]
  exact ⟨_, _, rfl, List.getElem_mem _, h1⟩
theorem bent0 {k : Nat} {c : Sl1Cur} (h : CurOk c) {l : List Int} (hl : l.length ≤ 20) (v : Int) : ∃ b i h' t, S_l1Bent_b0 k v c.b c.i c.h l = some (b, i, h', t) ∧ t.length ≤ 30 ∧ CurOk ⟨b, i, h'⟩ := by
  unfold S_l1Bent_b0 S_l1Bent_c11
  cases v == 0 with
  | true =>
    rw [cond_true]
    unfold S_l1Bent_c15
    rw [bif_dec]
    by_cases c0 : (l.length : Int) > 0
    · rw [if_pos c0]
      obtain ⟨v1, c1, e1, ⟨a1, b1⟩, h1⟩ := S_l1Below_tot (k := k) h (n := (l.length : Int)) (by omega)
      have e1' : S_l1Below k (⟨c.b, c.i, c.h⟩ : Sl1Cur) (l.length : Int) = some (v1, c1) := e1
      obtain ⟨v2, c2, e2, _, h2⟩ := S_l1Below_tot (k := k) h1 (n := 256) (by omega)
      obtain ⟨m, rfl⟩ := Int.eq_ofNat_of_zero_le a1
      simp only [e1', e2, Option.bind_some]
      rw [idx_nat (by omega), Option.bind_some, Option.bind_some, Option.bind_some, Option.bind_some]
      exact ⟨_, _, _, _, rfl, by simp; omega, h2⟩
    · rw [if_neg c0]; exact ⟨_, _, _, _, rfl, (by simp only; omega), h⟩
  | false =>
    rw [cond_false]
    unfold S_l1Bent_c25
    cases v == 1 with
    | true =>
      rw [cond_true, wrap_succ (by omega)]
      obtain ⟨v1, c1, e1, ⟨a1, b1⟩, h1⟩ := S_l1Below_tot (k := k) h (n := ((l.length + 1 : Nat) : Int)) (by omega)
      have e1' : S_l1Below k (⟨c.b, c.i, c.h⟩ : Sl1Cur) ((l.length + 1 : Nat) : Int) = some (v1, c1) := e1
      obtain ⟨m, rfl⟩ := Int.eq_ofNat_of_zero_le a1
      simp only [e1', Option.bind_some]
      rw [ssub_take (by omega)]
      simp only [Option.bind_some]
      exact ⟨_, _, _, _, rfl, by simp; omega, h1⟩
    | false =>
      rw [cond_false]
      unfold S_l1Bent_c34
      cases v == 2 with
      | true =>
        rw [cond_true]
        obtain ⟨v1, c1, e1, _, h1⟩ := S_l1Int_tot (k := k) h (l := [(0 : Int), (32 : Int), (44 : Int), (34 : Int), (255 : Int)]) (by simp)
        have e1' : S_l1Int k (⟨c.b, c.i, c.h⟩ : Sl1Cur) [(0 : Int), (32 : Int), (44 : Int), (34 : Int), (255 : Int)] = some (v1, c1) := e1
        simp only [e1', Option.bind_some]
        rw [appn_ok (by simp only [List.length_cons, List.length_nil]; omega)]
        simp only [Option.bind_some]
        exact ⟨_, _, _, _, rfl, by simp; omega, h1⟩
      | false =>
        rw [cond_false]
        unfold S_l1Bent_c43
        cases v == 3 with
        | false => exact ⟨_, _, _, _, rfl, (by simp only; omega), h⟩
        | true =>
          rw [cond_true]
          unfold S_l1Bent_c47
          rw [bif_dec]
          by_cases c0 : (l.length : Int) > 0
          · rw [if_pos c0]
            obtain ⟨v1, c1, e1, ⟨a1, b1⟩, h1⟩ := S_l1Below_tot (k := k) h (n := (l.length : Int)) (by omega)
            have e1' : S_l1Below k (⟨c.b, c.i, c.h⟩ : Sl1Cur) (l.length : Int) = some (v1, c1) := e1
            obtain ⟨m, rfl⟩ := Int.eq_ofNat_of_zero_le a1
            simp only [e1', Option.bind_some]
            have l1 := List.length_take_le m l
            have l2 : (l.drop (m + 1)).length ≤ l.length := by simp
            rw [ssub_take (by omega), Option.bind_some, appn_ok (by simp only [List.length_nil]; omega), Option.bind_some, wrap_succ (by omega), ssub_drop (by omega), Option.bind_some, appn_ok (by rw [List.nil_append]; omega)]
            simp only [Option.bind_some]
            exact ⟨_, _, _, _, rfl, by simp; omega, h1⟩
          · rw [if_neg c0]; exact ⟨_, _, _, _, rfl, (by simp only; omega), h⟩
theorem S_l1Bent_tot {k : Nat} {c : Sl1Cur} (h : CurOk c) {x : List UInt8} (hx : x.length ≤ 20) : ∃ v c', S_l1Bent k c x = some (v, c') ∧ v.length ≤ 60 ∧ CurOk c' := by
  unfold S_l1Bent
  obtain ⟨v1, c1, e1, _, h1⟩ := S_l1Below_tot (k := k) h (n := 7) (by omega)
  obtain ⟨b, i, h', t, e2, lt, h2⟩ := bent0 (k := k) h1 (l := intsOf x) (by simp [intsOf]; omega) v1
  simp only [e1, e2, Option.bind_some]
  exact ⟨_, _, rfl, by simp [bytesOf]; omega, h2⟩
theorem some_loop {k : Nat} : ∀ (n j : Nat) (x : List UInt8) (b : List Int) (i h : Int), j < n → x.length + 6 * j ≤ 50 → CurOk ⟨b, i, h⟩ →
    ∃ b' i' h' t, S_l12Some_b0 k n x (j : Int) b i h = some (t, b', i', h') ∧ t.length ≤ 50 ∧ CurOk ⟨b', i', h'⟩ := by
  intro n
  induction n with
  | zero => intro j x b i h hj; omega
  | succ n ih =>
    intro j x b i h hj hx hc
    rw [S_l12Some_b0, bif_dec]
    cases j with
    | zero => rw [if_neg (by omega)]; exact ⟨_, _, _, _, rfl, by omega, hc⟩
    | succ j =>
      rw [if_pos (by omega)]
      obtain ⟨s1, c1, e1, l1, h1⟩ := S_l1Str_len (k := k) hc (l := [([47] : List UInt8), ([47, 46] : List UInt8), ([47, 46, 46] : List UInt8), ([47, 97] : List UInt8), ([47, 98, 37, 50, 48, 99] : List UInt8), ([47, 37, 55, 101] : List UInt8), ([37, 50, 102] : List UInt8), ([37, 122, 122] : List UInt8), ([63] : List UInt8), ([38] : List UInt8), ([98, 61, 49] : List UInt8), ([97, 61, 50] : List UInt8), ([37, 51, 68] : List UInt8), ([195, 169] : List UInt8)]) (by decide) (n := 6) (by decide)
      rw [e1, Option.bind_some]
      simp only
      rw [cat_ok (by omega), Option.bind_some, wrap_pred (by omega)]
      exact ih j (x ++ s1) c1.b c1.i c1.h (by omega) (by simp only [List.length_append]; omega) h1
theorem S_l12Some_tot {k : Nat} (hk : 1073741824 ≤ k) {c : Sl1Cur} (h : CurOk c) : ∃ v c', S_l12Some k c = some (v, c') ∧ v.length ≤ 60 ∧ CurOk c' := by
  unfold S_l12Some
  obtain ⟨v1, c1, e1, h1⟩ := S_l1Once_tot (k := k) h (n := 3) (by omega)
  simp only [e1, Option.bind_some]
  cases v1 with
  | true =>
    obtain ⟨v2, c2, e2, l2, h2⟩ := S_l11Target_tot (k := k) h1
    obtain ⟨v3, c3, e3, l3, h3⟩ := S_l1Bent_tot (k := k) h2 l2
    simp only [cond_true, e2, e3, Option.bind_some]
    exact ⟨_, _, rfl, l3, h3⟩
  | false =>
    obtain ⟨v2, c2, e2, ⟨a2, b2⟩, h2⟩ := S_l1Below_tot (k := k) h1 (n := 6) (by omega)
    obtain ⟨m, rfl⟩ := Int.eq_ofNat_of_zero_le a2
    obtain ⟨b', i', h', t, e3, l3, h3⟩ := some_loop (k := k) k m [] c2.b c2.i c2.h (by omega) (by simp only [List.length_nil]; omega) h2
    simp only [cond_false, e2, e3, Option.bind_some]
    rw [cat_ok (by simp; omega), Option.bind_some]
    exact ⟨_, _, rfl, by simp; omega, h3⟩
theorem S_DrawNormalTarget_tot {k : Nat} (hk : 1073741824 ≤ k) {x : List Int} (hx : x.length ≤ 1048576) : ∃ v, S_DrawNormalTarget k x = some v ∧ v.length ≤ 60 := by
  unfold S_DrawNormalTarget
  obtain ⟨c0, e0, h0⟩ := S_l1New_tot hk hx
  obtain ⟨v, c1, e1, l1, h1⟩ := S_l12Some_tot hk h0
  rw [e0, Option.bind_some, e1, Option.bind_some]
  exact ⟨_, rfl, l1⟩
theorem req_small {r : IRequest} (hm : r.Method.length ≤ 60) (hh : r.Host.length ≤ 60) (ht : r.Target.length ≤ 300) (hn : r.Fields.length ≤ 5) (hf : ∀ e ∈ r.Fields, e.Name.length ≤ 20 ∧ e.Value.length ≤ 60) : ReqIn r := by
  have z := fsz_le (l := r.Fields) (n := 60) fun e he => (hf e he).2
  exact ⟨by omega, by omega, by omega, by omega, fun e he => by have := hf e he; omega⟩
theorem S_DrawKeyOf_tot {k : Nat} (hk : 1073741824 ≤ k) {x : List Int} (hx : x.length ≤ 1048576) : ∃ r, S_DrawKeyOf k x = some r ∧ r.Method.length ≤ 60 ∧ r.Host.length ≤ 60 ∧ r.Target.length ≤ 60 ∧ r.Fields.length ≤ 5 ∧ ∀ e ∈ r.Fields, e.Name.length ≤ 20 ∧ e.Value.length ≤ 60 := by
  unfold S_DrawKeyOf
  obtain ⟨c0, e0, h0⟩ := S_l1New_tot hk hx
  obtain ⟨r, c1, e1, h1, ⟨m1, m2, m3⟩, n1, f1⟩ := S_l11Request_tot2 hk h0
  obtain ⟨v2, c2, e2, h2⟩ := S_l1Once_tot (k := k) h1 (n := 3) (by omega)
  simp only [e0, e1, e2, Option.bind_some]
  cases v2 with
  | false => exact ⟨_, rfl, by simp only; omega, by simp only; omega, by simp only; omega, n1, f1⟩
  | true =>
    obtain ⟨v3, c3, e3, l3, h3⟩ := S_l12Some_tot hk h2
    have e3' : S_l12Some k (⟨c2.b, c2.i, c2.h⟩ : Sl1Cur) = some (v3, c3) := e3
    simp only [S_DrawKeyOf_c10, cond_true, e3', Option.bind_some]
    exact ⟨_, rfl, by simp only; omega, by simp only; omega, l3, n1, f1⟩
theorem noB_prn (x : List UInt8) : noB badT x = x.all prn := by
  rw [noB_all]
  congr 1
  funext c
  unfold badT prn
  rw [Bool.not_not]
theorem isReq_t {r : IRequest} (h : isReq r = true) {t : List UInt8} (h1 : noB badT t = true) (h2 : inR (t.length : Int) 1 100 = true) (h3 : (t.head? == some 47) = true) : isReq ⟨r.Method, r.Host, t, r.Fields⟩ = true := by
  unfold isReq at h ⊢
  simp only [Bool.and_eq_true] at h ⊢
  obtain ⟨⟨⟨⟨⟨⟨⟨⟨⟨⟨a1, a2⟩, a3⟩, a4⟩, a5⟩, a6⟩, a7⟩, a8⟩, a9⟩, a10⟩, a11⟩ := h
  exact ⟨⟨⟨⟨⟨⟨⟨⟨⟨⟨a1, a2⟩, h1⟩, a4⟩, a5⟩, h2⟩, h3⟩, a8⟩, a9⟩, a10⟩, a11⟩
theorem isReq_of {r : IRequest} (h : isReq r = true) : noB badT r.Target = true ∧ inR (r.Target.length : Int) 1 100 = true := by
  unfold isReq at h
  simp only [Bool.and_eq_true] at h
  obtain ⟨⟨⟨⟨⟨⟨⟨⟨⟨⟨a1, a2⟩, a3⟩, a4⟩, a5⟩, a6⟩, a7⟩, a8⟩, a9⟩, a10⟩, a11⟩ := h
  exact ⟨a3, a6⟩
theorem key_twice {r : IRequest} (h : (keyT r).2 = true) : keyT ⟨r.Method, r.Host, (normT r.Target).1, r.Fields⟩ = keyT r := by
  unfold keyT at h
  cases hn : (normT r.Target).2 with
  | false => rw [hn] at h; cases h
  | true =>
    cases hr : isReq r with
    | false => rw [hn, hr] at h; cases h
    | true =>
      obtain ⟨q1, q2⟩ := isReq_of hr
      obtain ⟨x, hx⟩ := norm_47 hn
      have hl := norm_len hn
      have hq : isReq ⟨r.Method, r.Host, (normT r.Target).1, r.Fields⟩ = true := isReq_t hr
        (by rw [noB_prn] at q1 ⊢; exact norm_prn hn q1)
        (by
          unfold inR at q2 ⊢
          simp only [Bool.and_eq_true, decide_eq_true_eq] at q2 ⊢
          have : (normT r.Target).1.length = x.length + 1 := by rw [hx]; rfl
          omega)
        (by rw [hx]; rfl)
      unfold keyT
      simp only [norm_twice hn, hn, hq, hr]
theorem rot_pos {k : Nat} {a0 : List Int} {x4 : List UInt8} {x5 : Bool} {x10 y : List UInt8} {x12 : Bool} (hy : y.length < 1073741824) : ∀ (n i : Nat), i ≤ y.length → y.length - i < n →
    ∃ o : Nat, L_FnKeys_b0 k n a0 x4 x5 x10 y x12 (i : Int) = some (o : Int) ∧ o ≤ y.length ∧ (o < y.length → y[o]? = some 38) := by
  intro n
  induction n with
  | zero => intro i _ h; omega
  | succ n ih =>
    intro i hi hn
    rw [L_FnKeys_b0, bif_dec]
    by_cases c : i < y.length
    · have e : ((UInt8.toNat y[i] : Int) != 38) = !(y[i] == 38) := by unfold bne; rw [← u8_eq y[i] 38]; rfl
      rw [if_pos (by omega), idx_nat c, Option.bind_some, e, wrap_succ (by omega)]
      cases h : y[i] == 38 with
      | false => rw [Bool.not_false, cond_true]; exact ih (i + 1) (by omega) (by omega)
      | true => exact ⟨i, rfl, hi, fun _ => by rw [List.getElem?_eq_getElem c]; simpa using h⟩
    · rw [if_neg (by omega)]; exact ⟨i, rfl, hi, fun h => absurd h c⟩
theorem rot_ok {k : Nat} (hk : 1073741824 ≤ k) {a0 : List Int} {s : List UInt8} (hs : s.length ≤ 60) {o : Nat} (hf : (splitT s).2.2 = true) (ho : o < (splitT s).2.1.length) (h38 : (splitT s).2.1[o]? = some 38) :
    L_FnKeys_c88 k a0 (normT s).1 (normT s).2 (splitT s).1 (splitT s).2.1 (o : Int) true = some (.nrm ()) := by
  obtain ⟨l1, l2⟩ := splitT_len s
  have hy : (splitT s).2.1 = (splitT s).2.1.take o ++ 38 :: (splitT s).2.1.drop (o + 1) := by
    have : (splitT s).2.1[o] = 38 := by rw [List.getElem?_eq_getElem ho] at h38; simpa using h38
    rw [← this, List.getElem_cons_drop, List.take_append_drop]
  have hr := norm_rot hf hy
  have t1 := List.length_take_le o (splitT s).2.1
  have t2 : ((splitT s).2.1.drop (o + 1)).length ≤ (splitT s).2.1.length := by simp
  unfold L_FnKeys_c88
  rw [cond_true, cat_ok (by simp only [List.length_cons, List.length_nil]; omega), Option.bind_some, wrap_succ (by omega), ssub_drop (by omega), Option.bind_some,
    cat_ok (by simp only [List.length_append, List.length_cons, List.length_nil]; omega), Option.bind_some,
    cat_ok (by simp only [List.length_append, List.length_cons, List.length_nil]; omega), Option.bind_some, ssub_take (by omega), Option.bind_some,
    cat_ok (by simp only [List.length_append, List.length_cons, List.length_nil]; omega), Option.bind_some]
  have ee : (splitT s).1 ++ [63] ++ (splitT s).2.1.drop (o + 1) ++ [38] ++ (splitT s).2.1.take o = (splitT s).1 ++ 63 :: ((splitT s).2.1.drop (o + 1) ++ 38 :: (splitT s).2.1.take o) := by simp
  rw [ee, I_NormalTarget_eq hk _ (by simp only [List.length_append, List.length_cons]; omega), hr, Option.bind_some]
  simp only [beq_self_eq_true, Bool.not_true, cond_false]
theorem rot_any {k : Nat} (hk : 1073741824 ≤ k) {a0 : List Int} {s : List UInt8} (hs : s.length ≤ 60) {o : Nat} (hf : (splitT s).2.2 = true) (h38 : o < (splitT s).2.1.length → (splitT s).2.1[o]? = some 38) :
    L_FnKeys_c88 k a0 (normT s).1 (normT s).2 (splitT s).1 (splitT s).2.1 (o : Int) (decide ((o : Int) < ((splitT s).2.1.length : Int))) = some (.nrm ()) := by
  by_cases c : o < (splitT s).2.1.length
  · rw [decide_eq_true (by omega), rot_ok hk hs hf c (h38 c)]
  · rw [decide_eq_false (by omega)]; rfl
theorem keys_end {k : Nat} (hk : 1073741824 ≤ k) (a0 : List Int) (ha : a0.length ≤ 1048576) : ((S_DrawKeyOf k a0).bind fun w21 =>
    ((I_KeyOf k w21).bind fun w22 =>
    ((I_NormalTarget k w21.Target).bind fun w23 =>
    ((I_KeyOf k (⟨w21.Method, w21.Host, w23.1, w21.Fields⟩ : IRequest)).bind fun w24 =>
    (bif (!w22.2) then some true else (bif w24.2 then some (w24.1 == w22.1) else some false)))))) = some true := by
  obtain ⟨r, e, m1, m2, m3, m4, m5⟩ := S_DrawKeyOf_tot hk (x := a0) ha
  have nl := normT_len r.Target
  have rq := req_small m1 m2 (by omega) m4 m5
  have rq2 := req_small (r := ⟨r.Method, r.Host, (normT r.Target).1, r.Fields⟩) m1 m2 (by simp only; omega) m4 m5
  rw [e, Option.bind_some, I_KeyOf_eq hk r rq (by omega) (by omega), Option.bind_some, I_NormalTarget_eq hk _ (by omega), Option.bind_some, I_KeyOf_eq hk _ rq2 (by simp only; omega) (by simp only; omega), Option.bind_some]
  cases h : (keyT r).2 with
  | false => rfl
  | true => rw [key_twice h, h]; simp only [Bool.not_true, cond_false, cond_true, beq_self_eq_true]
theorem FnKeys_pure {k : Nat} (hk : 1073741824 ≤ k) (a0 : List Int) (h0 : InL InB a0) : L_FnKeys k a0 = some true := by
  unfold L_FnKeys
  rw [L_big_eq, Option.bind_some, bif_dec]
  by_cases c1 : (a0.length : Int) > 1048576
  · rw [if_pos c1]
  rw [if_neg c1]
  have ha : a0.length ≤ 1048576 := by omega
  obtain ⟨s, e1, l1⟩ := S_DrawNormalTarget_tot hk ha
  obtain ⟨p1, p2⟩ := splitT_len s
  have nl := normT_len s
  have hend := keys_end hk a0 ha
  obtain ⟨o, e2, o1, o2⟩ := rot_pos (k := k) (a0 := a0) (x4 := (normT s).1) (x5 := (normT s).2) (x10 := (splitT s).1) (y := (splitT s).2.1) (x12 := (splitT s).2.2) (by omega) k 0 (by omega) (by omega)
  rw [show (((0 : Nat)) : Int) = 0 from rfl] at e2
  have hf : L_FnKeys_c88 k a0 (normT s).1 (normT s).2 (splitT s).1 (splitT s).2.1 (o : Int) false = some (.nrm ()) := rfl
  rw [e1, Option.bind_some, I_NormalTarget_eq hk s (by omega), Option.bind_some, S_NormalTarget_eq hk s (by omega), Option.bind_some, beq_self_eq_true, Bool.not_true, cond_false, I_NormalTarget_eq hk _ (by omega), Option.bind_some, I_SplitTarget_eq s (by omega), Option.bind_some, e2, Option.bind_some, hf, Option.bind_some]
  have hc : (splitT s).2.2 = true → L_FnKeys_c88 k a0 (normT s).1 (normT s).2 (splitT s).1 (splitT s).2.1 (o : Int) (decide ((o : Int) < ((splitT s).2.1.length : Int))) = some (.nrm ()) := fun h => rot_any hk l1 h o2
  cases hn : (normT s).2 with
  | false =>
    rw [hn] at hc
    rw [cond_false]
    cases h2 : (splitT s).2.2 with
    | false => rw [cond_false]; exact hend
    | true => rw [cond_true, hc h2, Option.bind_some]; exact hend
  | true =>
    rw [hn] at hc
    obtain ⟨r, hr⟩ := norm_47 hn
    have hi : idx (normT s).1 (0 : Int) = some 47 := by rw [hr]; rfl
    rw [cond_true, norm_twice hn]
    simp only
    rw [Bool.not_true, cond_false, beq_self_eq_true, Bool.not_true, cond_false, I_IsNormalTarget_eq hk _ (by omega), norm_twice hn]
    simp only
    rw [beq_self_eq_true, Bool.and_self, Option.bind_some, Bool.not_true, cond_false, hi, Option.bind_some, show (((UInt8.toNat (47 : UInt8) : Nat) : Int) != 47) = false from rfl, cond_false]
    cases h2 : (splitT s).2.2 with
    | false => rw [cond_false]; exact hend
    | true => rw [cond_true, hc h2, Option.bind_some]; exact hend
end
end Go.YtolmhhnhmbiofaaGreatDoor
