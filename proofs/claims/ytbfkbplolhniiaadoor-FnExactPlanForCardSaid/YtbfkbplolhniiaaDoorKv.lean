/- What the functions come to. Nothing is claimed here. -/
import Derived.Test.YtbfkbplolhniiaaDoorKu
import Derived.Lib.AtoiTie
set_option linter.unusedVariables false
set_option linter.unusedSimpArgs false
set_option maxRecDepth 100000
namespace Go.YtbfkbplolhniiaaDoor
open Go Go.RowKit Go.Pv Go.Pu

/-! Text in small letters. -/
def lowB (c : UInt8) : UInt8 := bif decide (65 ≤ c.toNat) && decide (c.toNat ≤ 90) then c + 32 else c
def lowT (s : List UInt8) : List UInt8 := s.map lowB
theorem lowB_add : ∀ j : Fin 256, (65 ≤ j.val ∧ j.val ≤ 90) → IntKind.wrap .u8 ((j.val : Int) + 32) = (((UInt8.ofNat j.val) + 32).toNat : Int) := by decide +kernel
theorem low_wrap (c : UInt8) (h : 65 ≤ c.toNat ∧ c.toNat ≤ 90) : IntKind.wrap .u8 ((c.toNat : Int) + 32) = ((c + 32).toNat : Int) := by
  have := lowB_add ⟨c.toNat, UInt8.toNat_lt c⟩ h
  simpa using this
theorem bytes_ints (s : List UInt8) : bytesOf (intsOf s) = s := by
  unfold bytesOf intsOf
  rw [List.map_map]
  conv => rhs; rw [← List.map_id s]
  refine List.map_congr_left fun c _ => ?_
  simp
theorem ints_len (s : List UInt8) : (intsOf s).length = s.length := by unfold intsOf; simp
theorem ints_idx {s : List UInt8} {i : Nat} (h : i < s.length) : idx (intsOf s) (i : Int) = some (s[i].toNat : Int) := by
  rw [idx_nat (by rw [ints_len]; exact h)]; simp [intsOf]
theorem ints_set (s : List UInt8) (i : Nat) (c : UInt8) : (intsOf s).set i (c.toNat : Int) = intsOf (s.set i c) := by
  unfold intsOf; rw [List.map_set]
theorem low_loop {L : Nat} {F : Nat → Int → List Int → Option (List Int)} (T : ∀ n (i : Nat) (s : List UInt8) (h : i < s.length), s.length = L → F (n + 1) (i : Int) (intsOf s) = F n ((i + 1 : Nat) : Int) (intsOf (s.set i (lowB s[i]))))
    (E : ∀ n (i : Nat) (s : List UInt8), s.length ≤ i → s.length = L → F (n + 1) (i : Int) (intsOf s) = some (intsOf s)) : ∀ (n i : Nat) (s : List UInt8), i ≤ s.length → s.length - i < n → s.length = L → F n (i : Int) (intsOf s) = some (intsOf (s.take i ++ (s.drop i).map lowB)) := by
  intro n
  induction n with
  | zero => intro i s _ h; omega
  | succ n ih =>
    intro i s hi hn hs
    by_cases h : i < s.length
    · rw [T n i s h hs, ih (i + 1) _ (by simp; omega) (by simp; omega) (by simpa using hs)]
      congr 2
      rw [List.drop_eq_getElem_cons h, List.map_cons]
      have e1 : (s.set i (lowB s[i])).take (i + 1) = s.take i ++ [lowB s[i]] := by
        apply List.ext_getElem?
        intro j
        by_cases hj : j < i
        · rw [List.getElem?_take, if_pos (by omega), List.getElem?_set_ne (by omega), List.getElem?_append_left (by simp; omega), List.getElem?_take, if_pos hj]
        · by_cases hj2 : j = i
          · subst hj2
            rw [List.getElem?_take, if_pos (by omega), List.getElem?_set_self h, List.getElem?_append_right (by simp; omega)]
            simp [Nat.min_eq_left (Nat.le_of_lt h)]
          · rw [List.getElem?_take, if_neg (by omega), List.getElem?_eq_none (by simp; omega)]
      have e2 : (s.set i (lowB s[i])).drop (i + 1) = s.drop (i + 1) := by
        apply List.ext_getElem?
        intro j
        rw [List.getElem?_drop, List.getElem?_drop, List.getElem?_set_ne (by omega)]
      rw [e1, e2, List.append_assoc]; rfl
    · rw [E n i s (by omega) hs, List.drop_of_length_le (by omega), List.take_of_length_le (by omega)]; simp
theorem S_LowerText_eq {k : Nat} (hk : 1073741824 ≤ k) (s : List UInt8) (h : s.length < 1073741824) : S_LowerText k s = some (lowT s) := by
  have := low_loop (L := s.length) (F := fun n i r => S_LowerText_b0 k n i r) (fun n i s hi hs => by
    have hb := UInt8.toNat_lt s[i]
    have hlen : ((i : Int) < ((intsOf s).length : Int)) := by rw [ints_len]; omega
    simp only [S_LowerText_b0, bif_dec, hlen, if_true, S_LowerText_b1, ints_idx hi, Option.bind_some, wrap_succ (by omega : i < 9223372036854775807)]
    rw [wrap_id (by omega) (by omega), S_l1In]
    by_cases c1 : 65 ≤ s[i].toNat
    · by_cases c2 : s[i].toNat ≤ 90
      · have e1 : decide ((s[i].toNat : Int) ≥ 65) = true := decide_eq_true (by omega)
        have e2 : decide ((s[i].toNat : Int) ≤ 90) = true := decide_eq_true (by omega)
        have e3 : lowB s[i] = s[i] + 32 := by unfold lowB; rw [decide_eq_true c1, decide_eq_true c2]; rfl
        simp only [e1, e2, S_LowerText_c18, cond_true, Option.bind_some, ints_idx hi, low_wrap _ ⟨c1, c2⟩, Int.toNat_natCast, ints_set, e3]
      · have e1 : decide ((s[i].toNat : Int) ≥ 65) = true := decide_eq_true (by omega)
        have e2 : decide ((s[i].toNat : Int) ≤ 90) = false := decide_eq_false (by omega)
        have e3 : lowB s[i] = s[i] := by unfold lowB; rw [decide_eq_false c2]; simp
        simp only [e1, e2, cond_true, cond_false, Option.bind_some, S_LowerText_c18, e3, List.set_getElem_self]
    · have e1 : decide ((s[i].toNat : Int) ≥ 65) = false := decide_eq_false (by omega)
      have e3 : lowB s[i] = s[i] := by unfold lowB; rw [decide_eq_false c1]; simp
      simp only [e1, cond_false, Option.bind_some, S_LowerText_c18, e3, List.set_getElem_self]) (fun n i s hi _ => by
    have hlen : ¬ ((i : Int) < ((intsOf s).length : Int)) := by rw [ints_len]; omega
    simp only [S_LowerText_b0, bif_dec, hlen, if_false]) k 0 s (by omega) (by omega) rfl
  have h1 : S_LowerText_b0 k k 0 (intsOf s) = some (intsOf (s.take 0 ++ (s.drop 0).map lowB)) := this
  rw [S_LowerText, h1, Option.bind_some, bytes_ints]; simp [lowT]
theorem I_LowerText_eq {k : Nat} (hk : 1073741824 ≤ k) (s : List UInt8) (h : s.length < 1073741824) : I_LowerText k s = some (lowT s) := by
  have := low_loop (L := s.length) (F := fun n i r => I_LowerText_b0 k n (s.length : Int) i r) (fun n i t hi hs => by
    have hb := UInt8.toNat_lt t[i]
    have hlen : ((i : Int) < (s.length : Int)) := by omega
    simp only [I_LowerText_b0, bif_dec, hlen, if_true, I_LowerText_b1, ints_idx hi, Option.bind_some, wrap_succ (by omega : i < 9223372036854775807)]
    by_cases c1 : 65 ≤ t[i].toNat
    · by_cases c2 : t[i].toNat ≤ 90
      · have e1 : ((t[i].toNat : Int) ≥ 65) := by omega
        have e2 : decide ((t[i].toNat : Int) ≤ 90) = true := decide_eq_true (by omega)
        have e3 : lowB t[i] = t[i] + 32 := by unfold lowB; rw [decide_eq_true c1, decide_eq_true c2]; rfl
        simp only [e1, e2, if_true, I_LowerText_c20, cond_true, Option.bind_some, ints_idx hi, low_wrap _ ⟨c1, c2⟩, Int.toNat_natCast, ints_set, e3]
      · have e1 : ((t[i].toNat : Int) ≥ 65) := by omega
        have e2 : decide ((t[i].toNat : Int) ≤ 90) = false := decide_eq_false (by omega)
        have e3 : lowB t[i] = t[i] := by unfold lowB; rw [decide_eq_false c2]; simp
        simp only [e1, e2, if_true, I_LowerText_c20, cond_false, Option.bind_some, e3, List.set_getElem_self]
    · have e1 : ¬ ((t[i].toNat : Int) ≥ 65) := by omega
      have e3 : lowB t[i] = t[i] := by unfold lowB; rw [decide_eq_false c1]; simp
      simp only [e1, if_false, I_LowerText_c20, cond_false, Option.bind_some, e3, List.set_getElem_self]) (fun n i t hi ht => by
    have hlen : ¬ ((i : Int) < (s.length : Int)) := by omega
    simp only [I_LowerText_b0, bif_dec, hlen, if_false]) k 0 s (by omega) (by omega) rfl
  have h1 : I_LowerText_b0 k k (s.length : Int) 0 (intsOf s) = some (intsOf (s.take 0 ++ (s.drop 0).map lowB)) := this
  rw [I_LowerText, ints_len, h1, Option.bind_some, bytes_ints]; simp [lowT]
theorem lowT_len (s : List UInt8) : (lowT s).length = s.length := by unfold lowT; simp
theorem lowB_star : ∀ j : Fin 256, (lowB (UInt8.ofNat j.val) = 42) → UInt8.ofNat j.val = 42 := by decide +kernel
theorem lowT_star (s : List UInt8) : (lowT s == [42]) = (s == [42]) := by
  by_cases h : s = [42]
  · subst h; rfl
  · have h2 : ¬ lowT s = [42] := fun e => by
      cases s with
      | nil => cases e
      | cons c l =>
        cases l with
        | cons d l => simp [lowT] at e
        | nil =>
          simp [lowT] at e
          have := lowB_star ⟨c.toNat, UInt8.toNat_lt c⟩ (by simpa using e)
          simp at this
          exact h (by rw [this])
    rw [beq_eq_false_iff_ne.2 h2, beq_eq_false_iff_ne.2 h]
/-! Text in quotes. -/
def unqL : List UInt8 → List UInt8 → List UInt8 × Option Nat
  | [], acc => (acc, none)
  | [c], acc => bif c == 34 then (acc, some 0) else (acc ++ [c], none)
  | c :: d :: r, acc => bif c == 34 then (acc, some (r.length + 1)) else bif c == 92 then unqL r (acc ++ [d]) else unqL (d :: r) (acc ++ [c])
theorem unqL_q (r acc : List UInt8) {c : UInt8} (h : (c == 34) = true) : unqL (c :: r) acc = (acc, some r.length) := by
  cases r with
  | nil => rw [unqL, h]; rfl
  | cons d r => rw [unqL, h]; rfl
theorem unqL_b (r acc : List UInt8) {c d : UInt8} (h : (c == 34) = false) (h2 : (c == 92) = true) : unqL (c :: d :: r) acc = unqL r (acc ++ [d]) := by rw [unqL, h, h2]; rfl
theorem unqL_e (acc : List UInt8) {c : UInt8} (h : (c == 34) = false) : unqL [c] acc = (acc ++ [c], none) := by rw [unqL, h]; rfl
theorem unqL_p (r acc : List UInt8) {c : UInt8} (h : (c == 34) = false) (h2 : (c == 92) = false) : unqL (c :: r) acc = unqL r (acc ++ [c]) := by
  cases r with
  | nil => rw [unqL_e acc h, unqL]
  | cons d r => rw [unqL, h, h2]; rfl
theorem intsOf_snoc (a : List UInt8) (c : UInt8) : intsOf a ++ [(c.toNat : Int)] = intsOf (a ++ [c]) := by unfold intsOf; simp
def q34 (x : List UInt8) : Bool := x[0]? == some 34
def unqT (x : List UInt8) : List UInt8 × Bool := ((unqL (x.drop 1) []).1, q34 x && ((unqL (x.drop 1) []).2 == some 0))
theorem S_unq_loop {k : Nat} {x : List UInt8} (hx : x.length < 1073741824) : ∀ (n i : Nat) (acc : List UInt8), x.length - i < n → 1 ≤ i → i ≤ x.length + 1 → acc.length ≤ i →
    S_UnquoteText_b0 k n x (i : Int) (intsOf acc) = some (match unqL (x.drop i) acc with | (t, some m) => .oth (t, q34 x && (m == 0)) | (t, none) => .nrm (intsOf t)) := by
  intro n
  induction n with
  | zero => intro i acc h; omega
  | succ n ih =>
    intro i acc hn h1 hi ha
    rw [S_UnquoteText_b0, bif_dec]
    by_cases c : i < x.length
    · have u34 : ((UInt8.toNat x[i] : Int) == 34) = (x[i] == 34) := u8_eq x[i] 34
      have u92 : ((UInt8.toNat x[i] : Int) == 92) = (x[i] == 92) := u8_eq x[i] 92
      have u0 : ((UInt8.toNat (x[0]'(by omega)) : Int) == 34) = (x[0]'(by omega) == 34) := u8_eq _ 34
      have i0 : idx x (0 : Int) = some (x[0]'(by omega)) := idx_nat (i := 0) (by omega)
      have hq : q34 x = (x[0]'(by omega) == 34) := by unfold q34; rw [List.getElem?_eq_getElem (by omega : 0 < x.length)]; rfl
      rw [if_pos (by omega), S_UnquoteText_b1, S_UnquoteText_b2, idx_nat c, Option.bind_some, u34, S_UnquoteText_c19, List.drop_eq_getElem_cons c]
      cases h34 : (x[i] == 34) with
      | true =>
        rw [unqL_q _ _ h34, cond_true, i0, Option.bind_some, u0, hq, bytes_ints, wrap_id (n := (x.length : Int) - 1) (by omega) (by omega)]
        have e : ((i : Int) == (x.length : Int) - 1) = ((x.drop (i + 1)).length == 0) := by
          rw [List.length_drop]
          by_cases h : i + 1 = x.length
          · rw [beq_iff_eq.2 (by omega : (i : Int) = (x.length : Int) - 1), beq_iff_eq.2 (by omega : x.length - (i + 1) = 0)]
          · rw [beq_eq_false_iff_ne.2 (by omega : (i : Int) ≠ (x.length : Int) - 1), beq_eq_false_iff_ne.2 (by omega : x.length - (i + 1) ≠ 0)]
        rw [e]
        cases (x[0]'(by omega) == 34) <;> rfl
      | false =>
        rw [cond_false, idx_nat c, Option.bind_some, u92]
        cases h92 : (x[i] == 92) with
        | false =>
          rw [unqL_p _ _ h34 h92, cond_false, S_UnquoteText_c36, cond_false, idx_nat c, Option.bind_some, appn_ok (by simp [intsOf]; omega), Option.bind_some, intsOf_snoc]
          simp only [Option.bind_some, oc]
          rw [wrap_succ (by omega)]
          exact ih (i + 1) (acc ++ [x[i]]) (by omega) (by omega) (by omega) (by simp; omega)
        | true =>
          rw [cond_true, wrap_succ (by omega)]
          by_cases c2 : i + 1 < x.length
          · rw [decide_eq_true (by omega : ((i + 1 : Nat) : Int) < (x.length : Int)), S_UnquoteText_c36, cond_true, wrap_succ (by omega), idx_nat c2, Option.bind_some, appn_ok (by simp [intsOf]; omega), Option.bind_some, intsOf_snoc, List.drop_eq_getElem_cons c2, unqL_b _ _ h34 h92]
            simp only [Option.bind_some, oc]
            rw [wrap_succ (by omega)]
            exact ih (i + 1 + 1) (acc ++ [x[i + 1]]) (by omega) (by omega) (by omega) (by simp; omega)
          · rw [decide_eq_false (by omega : ¬ ((i + 1 : Nat) : Int) < (x.length : Int)), S_UnquoteText_c36, cond_false, idx_nat c, Option.bind_some, appn_ok (by simp [intsOf]; omega), Option.bind_some, intsOf_snoc, List.drop_of_length_le (by omega : x.length ≤ i + 1), unqL_e _ h34]
            simp only [Option.bind_some, oc]
            rw [wrap_succ (by omega), ih (i + 1) (acc ++ [x[i]]) (by omega) (by omega) (by omega) (by simp; omega), List.drop_of_length_le (by omega : x.length ≤ i + 1), unqL]
    · rw [if_neg (by omega), List.drop_of_length_le (by omega), unqL]
theorem S_UnquoteText_eq {k : Nat} (hk : 1073741824 ≤ k) (x : List UInt8) (h : x.length < 1073741000) : S_UnquoteText k x = some (unqT x) := by
  have := S_unq_loop (k := k) (x := x) (by omega) k 1 [] (by omega) (by omega) (by omega) (by simp)
  rw [show (((1 : Nat)) : Int) = 1 from rfl, show intsOf [] = [] from rfl] at this
  rw [S_UnquoteText, this, Option.bind_some]
  unfold unqT
  cases hu : unqL (x.drop 1) [] with
  | mk t o =>
    cases o with
    | none => simp only [oc, bytes_ints]; cases q34 x <;> rfl
    | some m => simp only [oc]; rfl
theorem I_unq_loop {k : Nat} {x : List UInt8} (hx : x.length < 1073741824) : ∀ (n i : Nat) (acc : List UInt8), x.length - i < n → 1 ≤ i → i ≤ x.length + 1 → acc.length ≤ i →
    ∃ j t, I_UnquoteText_b0 k n x (i : Int) (intsOf acc) = some (j, intsOf t) ∧ t = (unqL (x.drop i) acc).1 ∧ (j == (x.length : Int) - 1) = ((unqL (x.drop i) acc).2 == some 0) := by
  intro n
  induction n with
  | zero => intro i acc h; omega
  | succ n ih =>
    intro i acc hn h1 hi ha
    rw [I_UnquoteText_b0, bif_dec]
    by_cases c : i < x.length
    · have u34 : ((UInt8.toNat x[i] : Int) != 34) = !(x[i] == 34) := by unfold bne; rw [← u8_eq x[i] 34]; rfl
      have u92 : ((UInt8.toNat x[i] : Int) == 92) = (x[i] == 92) := u8_eq x[i] 92
      rw [if_pos (by omega), idx_nat c, Option.bind_some, u34, List.drop_eq_getElem_cons c]
      cases h34 : (x[i] == 34) with
      | true =>
        rw [unqL_q _ _ h34, Bool.not_true, cond_false]
        refine ⟨_, _, rfl, rfl, ?_⟩
        rw [List.length_drop]
        by_cases h : i + 1 = x.length
        · rw [beq_iff_eq.2 (by omega : (i : Int) = (x.length : Int) - 1), show x.length - (i + 1) = 0 by omega]; rfl
        · rw [beq_eq_false_iff_ne.2 (by omega : (i : Int) ≠ (x.length : Int) - 1), beq_eq_false_iff_ne.2 (by simp; omega)]
      | false =>
        rw [Bool.not_false, cond_true, I_UnquoteText_b1, idx_nat c, Option.bind_some, u92]
        cases h92 : (x[i] == 92) with
        | false =>
          rw [unqL_p _ _ h34 h92, cond_false, I_UnquoteText_c27, cond_false, Option.bind_some, idx_nat c, Option.bind_some, appn_ok (by simp [intsOf]; omega), Option.bind_some, Option.bind_some, intsOf_snoc, wrap_succ (by omega)]
          exact ih (i + 1) (acc ++ [x[i]]) (by omega) (by omega) (by omega) (by simp; omega)
        | true =>
          rw [cond_true, wrap_succ (by omega)]
          by_cases c2 : i + 1 < x.length
          · rw [decide_eq_true (by omega : ((i + 1 : Nat) : Int) < (x.length : Int)), I_UnquoteText_c27, cond_true, wrap_succ (by omega), Option.bind_some, idx_nat c2, Option.bind_some, appn_ok (by simp [intsOf]; omega), Option.bind_some, Option.bind_some, intsOf_snoc, List.drop_eq_getElem_cons c2, unqL_b _ _ h34 h92, wrap_succ (by omega)]
            exact ih (i + 1 + 1) (acc ++ [x[i + 1]]) (by omega) (by omega) (by omega) (by simp; omega)
          · rw [decide_eq_false (by omega : ¬ ((i + 1 : Nat) : Int) < (x.length : Int)), I_UnquoteText_c27, cond_false, Option.bind_some, idx_nat c, Option.bind_some, appn_ok (by simp [intsOf]; omega), Option.bind_some, Option.bind_some, intsOf_snoc, List.drop_of_length_le (by omega : x.length ≤ i + 1), unqL_e _ h34, wrap_succ (by omega)]
            have := ih (i + 1) (acc ++ [x[i]]) (by omega) (by omega) (by omega) (by simp; omega)
            rw [List.drop_of_length_le (by omega : x.length ≤ i + 1), unqL] at this
            exact this
    · rw [if_neg (by omega), List.drop_of_length_le (by omega), unqL]
      exact ⟨_, _, rfl, rfl, by rw [beq_eq_false_iff_ne.2 (by omega : (i : Int) ≠ (x.length : Int) - 1)]; rfl⟩
theorem hasPre_q {k : Nat} (x : List UInt8) : strings_HasPrefix k x ([34] : List UInt8) = some (q34 x) := by
  rw [strings_HasPrefix, internal_stringslite_HasPrefix, bif_dec]
  cases x with
  | nil => rfl
  | cons c r =>
    rw [if_pos (by simp; omega)]
    have : ssub (c :: r) (0 : Int) ((([34] : List UInt8).length : Nat) : Int) = some [c] := by
      have := ssub_take (x := c :: r) (i := 1) (by simp)
      simpa using this
    rw [this, Option.bind_some, Option.bind_some]
    unfold q34
    simp
theorem I_UnquoteText_eq {k : Nat} (hk : 1073741824 ≤ k) (x : List UInt8) (h : x.length < 1073741000) : I_UnquoteText k x = some (unqT x) := by
  obtain ⟨j, t, e1, e2, e3⟩ := I_unq_loop (k := k) (x := x) (by omega) k 1 [] (by omega) (by omega) (by omega) (by simp)
  rw [show (((1 : Nat)) : Int) = 1 from rfl, show intsOf [] = [] from rfl] at e1
  rw [I_UnquoteText, e1, Option.bind_some, hasPre_q, Option.bind_some, wrap_id (n := (x.length : Int) - 1) (by omega) (by omega), bytes_ints, e2, e3]
  unfold unqT
  cases q34 x <;> rfl
theorem unqL_len : ∀ (x acc : List UInt8), (unqL x acc).1.length ≤ acc.length + x.length
  | [], acc => by simp [unqL]
  | [c], acc => by
    cases h : (c == 34) with
    | true => rw [unqL_q _ _ h]; simp
    | false => rw [unqL_e _ h]; simp
  | c :: d :: r, acc => by
    cases h : (c == 34) with
    | true => rw [unqL_q _ _ h]; simp
    | false =>
      cases h2 : (c == 92) with
      | true => rw [unqL_b _ _ h h2]; have := unqL_len r (acc ++ [d]); simp at this ⊢; omega
      | false => rw [unqL_p _ _ h h2]; have := unqL_len (d :: r) (acc ++ [c]); simp at this ⊢; omega
theorem unqT_len (x : List UInt8) : (unqT x).1.length ≤ x.length := by
  have := unqL_len (x.drop 1) []
  unfold unqT; simp at this ⊢; omega
/-! Tokens. -/
def mk15 : List UInt8 := [33, 35, 36, 37, 38, 39, 42, 43, 45, 46, 94, 95, 124, 126, 96]
def mk14 : List UInt8 := [33, 35, 36, 37, 38, 39, 42, 43, 45, 46, 94, 95, 124, 126]
def letB (c : UInt8) : Bool := (decide (97 ≤ c.toNat) && decide (c.toNat ≤ 122)) || (decide (65 ≤ c.toNat) && decide (c.toNat ≤ 90)) || (decide (48 ≤ c.toNat) && decide (c.toNat ≤ 57))
def mkP (c : UInt8) (i : Nat) : Bool := match mk15[i]? with | some m => c == m | none => false
def tokB (c : UInt8) : Bool := (firstI (mkP c) 15 0).isSome || letB c
theorem S_l4Letter_eq {k : Nat} (c : UInt8) : S_l4Letter k (c.toNat : Int) = some (letB c) := by
  have hb := UInt8.toNat_lt c
  rw [S_l4Letter, wrap_id (by omega) (by omega)]
  simp only [S_l1In, bif_dec, letB]
  by_cases a1 : 97 ≤ c.toNat <;> by_cases a2 : c.toNat ≤ 122 <;> by_cases a3 : 65 ≤ c.toNat <;> by_cases a4 : c.toNat ≤ 90 <;> by_cases a5 : 48 ≤ c.toNat <;> by_cases a6 : c.toNat ≤ 57 <;>
    simp [a1, a2, a3, a4, a5, a6, show ((c.toNat : Int) ≥ 97) = (97 ≤ c.toNat) from by simp; omega, show ((c.toNat : Int) ≤ 122) = (c.toNat ≤ 122) from by simp; omega, show ((c.toNat : Int) ≥ 65) = (65 ≤ c.toNat) from by simp; omega, show ((c.toNat : Int) ≤ 90) = (c.toNat ≤ 90) from by simp; omega, show ((c.toNat : Int) ≥ 48) = (48 ≤ c.toNat) from by simp; omega, show ((c.toNat : Int) ≤ 57) = (c.toNat ≤ 57) from by simp; omega]
theorem S_l4Token_eq {k : Nat} (hk : 1073741824 ≤ k) (c : UInt8) : S_l4Token k (c.toNat : Int) = some (tokB c) := by
  have := find_all (len := 15) (c := fun i => bif mkP c i then some true else none) (F := fun n i => S_l4Token_b0 k n (c.toNat : Int) i) (fun n i hi => by
    have hl : i < mk15.length := hi
    have e : idx ([33, 35, 36, 37, 38, 39, 42, 43, 45, 46, 94, 95, 124, 126, 96] : List UInt8) (i : Int) = some mk15[i] := idx_nat hl
    have e2 : decide ((i : Int) < 15) = true := decide_eq_true (by omega)
    simp only [S_l4Token_b0, e2, cond_true, e, Option.bind_some, u8_eq, wrap_succ (by omega : i < 9223372036854775807), mkP, List.getElem?_eq_getElem hl]
    cases (c == mk15[i]) <;> rfl) (fun n i hi => by
    have e2 : decide ((i : Int) < 15) = false := decide_eq_false (by omega)
    simp only [S_l4Token_b0, e2, cond_false]) (k := k) (by omega)
  rw [S_l4Token, this, findI_first]
  unfold tokB
  cases firstI (mkP c) 15 0 with
  | none => simp [ocOf, oc, S_l4Letter_eq]
  | some j => simp [ocOf, oc]
theorem tok_tab : ∀ j : Fin 256, tokB (UInt8.ofNat j.val) = (letB (UInt8.ofNat j.val) || decide (Lib.indexByte mk14 (UInt8.ofNat j.val) ≥ 0) || (UInt8.ofNat j.val == 96)) := by decide +kernel
theorem tok_eq (c : UInt8) : tokB c = (letB c || decide (Lib.indexByte mk14 c ≥ 0) || (c == 96)) := by
  have := tok_tab ⟨c.toNat, UInt8.toNat_lt c⟩
  simpa using this
theorem I_isTokenByte_eq {k : Nat} (c : UInt8) : I_isTokenByte k (c.toNat : Int) = some (tokB c) := by
  have hb := UInt8.toNat_lt c
  have hi : strings_IndexByte k [33, 35, 36, 37, 38, 39, 42, 43, 45, 46, 94, 95, 124, 126] (c.toNat : Int) = some (Lib.indexByte mk14 c) := by
    rw [strings_IndexByte, indexByteO, Int.toNat_natCast]; simp [mk14]
  have h96 : ((c.toNat : Int) == 96) = (c == 96) := u8_eq c 96
  rw [I_isTokenByte, hi, h96, tok_eq]
  simp only [Option.bind_some, bif_dec, letB]
  by_cases a1 : 97 ≤ c.toNat <;> by_cases a2 : c.toNat ≤ 122 <;> by_cases a3 : 65 ≤ c.toNat <;> by_cases a4 : c.toNat ≤ 90 <;> by_cases a5 : 48 ≤ c.toNat <;> by_cases a6 : c.toNat ≤ 57 <;> by_cases a7 : Lib.indexByte mk14 c ≥ 0 <;>
    simp [a1, a2, a3, a4, a5, a6, a7, show ((c.toNat : Int) ≥ 97) = (97 ≤ c.toNat) from by simp; omega, show ((c.toNat : Int) ≤ 122) = (c.toNat ≤ 122) from by simp; omega, show ((c.toNat : Int) ≥ 65) = (65 ≤ c.toNat) from by simp; omega, show ((c.toNat : Int) ≤ 90) = (c.toNat ≤ 90) from by simp; omega, show ((c.toNat : Int) ≥ 48) = (48 ≤ c.toNat) from by simp; omega, show ((c.toNat : Int) ≤ 57) = (c.toNat ≤ 57) from by simp; omega]
def ntP (x : List UInt8) (i : Nat) : Bool := match x[i]? with | some c => !tokB c | none => false
def inR (n a b : Int) : Bool := decide (a ≤ n) && decide (n ≤ b)
theorem S_l1In_eq {k : Nat} (n a b : Int) : S_l1In k n a b = some (inR n a b) := by
  rw [S_l1In, bif_dec, inR]
  by_cases h : a ≤ n <;> simp [h]
theorem I_inRange_eq {k : Nat} (n a b : Int) : I_inRange k n a b = some (inR n a b) := by
  rw [I_inRange, bif_dec, inR]
  by_cases h : a ≤ n <;> simp [h]
def isTok (x : List UInt8) : Bool := (firstI (ntP x) x.length 0).isNone && inR (x.length : Int) 1 40
theorem S_IsToken_eq {k : Nat} (hk : 1073741824 ≤ k) (x : List UInt8) (h : x.length < 1073741824) : S_IsToken k x = some (isTok x) := by
  have := find_all (len := x.length) (c := fun i => bif ntP x i then some false else none) (F := fun n i => S_IsToken_b0 k n x i) (fun n i hi => by
    simp only [S_IsToken_b0, idx_nat hi, Option.bind_some, wrap_succ (by omega : i < 9223372036854775807), bif_dec, lt_cast, hi, if_true, ntP, List.getElem?_eq_getElem hi, S_l4Token_eq hk]
    cases tokB x[i] <;> rfl) (fun n i hi => by
    simp only [S_IsToken_b0, bif_dec, lt_cast]
    rw [if_neg (by omega)]) (k := k) (by omega)
  rw [S_IsToken, this, findI_first]
  unfold isTok
  cases firstI (ntP x) x.length 0 <;> simp [ocOf, oc, S_l1In_eq]
theorem I_IsToken_eq {k : Nat} (hk : 1073741824 ≤ k) (x : List UInt8) (h : x.length < 1073741824) : I_IsToken k x = some (isTok x) := by
  have := find_all (len := x.length) (c := fun i => bif ntP x i then some false else none) (F := fun n i => I_IsToken_b0 k n x (x.length : Int) i) (fun n i hi => by
    simp only [I_IsToken_b0, idx_nat hi, Option.bind_some, wrap_succ (by omega : i < 9223372036854775807), bif_dec, lt_cast, hi, if_true, ntP, List.getElem?_eq_getElem hi, I_isTokenByte_eq]
    cases tokB x[i] <;> rfl) (fun n i hi => by
    simp only [I_IsToken_b0, bif_dec, lt_cast]
    rw [if_neg (by omega)]) (k := k) (by omega)
  rw [I_IsToken, this, findI_first]
  unfold isTok
  cases firstI (ntP x) x.length 0 <;> simp [ocOf, oc, I_inRange_eq]
/-! Text without blanks around it. -/
def blank (c : UInt8) : Bool := c == 32 || c == 9
def rtrim (x : List UInt8) : List UInt8 := (x.reverse.dropWhile blank).reverse
def trimT (x : List UInt8) : List UInt8 := rtrim (x.dropWhile blank)
theorem rtrim_cons (e : UInt8) (l : List UInt8) : rtrim (e :: l) = if rtrim l = [] then (if blank e then [] else [e]) else e :: rtrim l := by
  unfold rtrim
  rw [List.reverse_cons, List.dropWhile_append]
  cases h : l.reverse.dropWhile blank with
  | nil => cases hb : blank e <;> simp [List.dropWhile_cons, hb]
  | cons a m => simp
theorem rtrim_snoc (l : List UInt8) (c : UInt8) : rtrim (l ++ [c]) = if blank c then rtrim l else l ++ [c] := by
  unfold rtrim
  rw [List.reverse_append]
  cases hb : blank c <;> simp [List.dropWhile_cons, hb]
theorem trim_comm : ∀ x : List UInt8, rtrim (x.dropWhile blank) = (rtrim x).dropWhile blank
  | [] => rfl
  | e :: l => by
    have ih := trim_comm l
    rw [rtrim_cons, List.dropWhile_cons]
    cases hb : blank e with
    | true =>
      by_cases h : rtrim l = []
      · rw [h] at ih; simp [h, ih]
      · simp [h, List.dropWhile_cons, hb, ih]
    | false =>
      rw [if_neg (by simp), rtrim_cons]
      by_cases h : rtrim l = []
      · simp [h, List.dropWhile_cons, hb]
      · simp [h, List.dropWhile_cons, hb]
theorem trimS_eq (x : List UInt8) : Lib.trimS x [32, 9] = trimT x := by
  have hc : (fun b : UInt8 => ([32, 9] : List UInt8).contains b) = blank := by
    funext b; unfold blank
    simp only [List.contains, List.elem]
    cases h1 : (b == 32) <;> cases h2 : (b == 9) <;> rfl
  unfold Lib.trimS Lib.trimLeftS Lib.trimRightS trimT
  rw [hc, trim_comm]; rfl
theorem rtrim_len (x : List UInt8) : (rtrim x).length ≤ x.length := by
  unfold rtrim
  have := (List.dropWhile_sublist blank (l := x.reverse)).length_le
  simpa using this
theorem trimT_len (x : List UInt8) : (trimT x).length ≤ x.length := by
  have h1 := (List.dropWhile_sublist blank (l := x)).length_le
  have h2 := rtrim_len (x.dropWhile blank)
  unfold trimT; omega
theorem I_TrimText_eq {k : Nat} (x : List UInt8) (h : x.length < 1073741824) : I_TrimText k x = some (trimT x) := by
  have hd : (decide (x.length ≤ 9223372036854775807) && decide (([32, 9] : List UInt8).length < 4294967281) && ([32, 9] : List UInt8).all (fun b => decide (b.toNat < 128))) = true := by
    rw [Bool.and_eq_true, Bool.and_eq_true]; exact ⟨⟨decide_eq_true (by omega), by decide⟩, by decide⟩
  rw [I_TrimText, strings_Trim, trimO, hd, cond_true, trimS_eq]; rfl
theorem S_l4Blank_eq {k : Nat} (c : UInt8) : S_l4Blank k (UInt8.toNat c : Int) = some (blank c) := by
  have h1 := u8_eq c 32
  have h2 := u8_eq c 9
  rw [S_l4Blank, show (32 : Int) = ((32 : UInt8).toNat : Int) from rfl, h1, show (9 : Int) = ((9 : UInt8).toNat : Int) from rfl, h2]
  unfold blank
  cases (c == 32) <;> rfl
theorem S_Trim_1 {k : Nat} : ∀ (n : Nat) (x : List UInt8), x.length < n → x.length < 1073741824 → S_TrimText_b0 k n x = some (x.dropWhile blank) := by
  intro n
  induction n with
  | zero => intro x h; omega
  | succ n ih =>
    intro x h hx
    rw [S_TrimText_b0, bif_dec]
    cases x with
    | nil => rw [if_neg (by simp)]; rfl
    | cons c l =>
      have e : idx (c :: l) (0 : Int) = some c := rfl
      have hs : ssub (c :: l) (1 : Int) ((c :: l).length : Int) = some l := by
        have := ssub_drop (x := c :: l) (i := 1) (by simp)
        simpa using this
      rw [if_pos (by rw [List.length_cons]; omega), e, Option.bind_some, S_l4Blank_eq, Option.bind_some, List.dropWhile_cons]
      cases blank c with
      | true => rw [cond_true, hs, Option.bind_some, ih l (by simp at h; omega) (by simp at hx; omega), if_pos rfl]
      | false => rw [cond_false, if_neg (by simp)]
theorem S_Trim_2 {k : Nat} : ∀ (n : Nat) (x : List UInt8), x.length < n → x.length < 1073741824 → S_TrimText_b2 k n x = some (rtrim x) := by
  intro n
  induction n with
  | zero => intro x h; omega
  | succ n ih =>
    intro x h hx
    rw [S_TrimText_b2, bif_dec]
    rcases List.eq_nil_or_concat x with rfl | ⟨l, c, rfl⟩
    · rw [if_neg (by simp)]; rfl
    · rw [List.concat_eq_append] at *
      have hl : (l ++ [c]).length = l.length + 1 := by simp
      have e1 : IntKind.wrap .i64 (((l ++ [c]).length : Int) - 1) = (l.length : Int) := by rw [wrap_id (by omega) (by omega)]; omega
      have e2 : idx (l ++ [c]) (l.length : Int) = some c := by
        show (l ++ [c])[l.length]? = some c
        simp
      have e3 : ssub (l ++ [c]) (0 : Int) (l.length : Int) = some l := by
        rw [ssub_take (by omega)]; simp
      rw [if_pos (by omega), e1, e2, Option.bind_some, S_l4Blank_eq, Option.bind_some, rtrim_snoc]
      cases blank c with
      | true => rw [cond_true, e3, Option.bind_some, ih l (by omega) (by omega), if_pos rfl]
      | false => rw [cond_false, if_neg (by simp)]
theorem S_TrimText_eq {k : Nat} (hk : 1073741824 ≤ k) (x : List UInt8) (h : x.length < 1073741824) : S_TrimText k x = some (trimT x) := by
  have h1 := (List.dropWhile_sublist blank (l := x)).length_le
  rw [S_TrimText, S_Trim_1 k x (by omega) h, Option.bind_some, S_Trim_2 k _ (by omega) (by omega)]; rfl
/-! A pair at a sign of equality. -/
def pairT (s : List UInt8) : List UInt8 × List UInt8 × Bool := match firstI (byteP s 61) s.length 0 with | some i => (trimT (s.take i), trimT (s.drop (i + 1)), true) | none => (trimT s, [], false)
theorem S_SplitPair_eq {k : Nat} (hk : 1073741824 ≤ k) (s : List UInt8) (h : s.length < 1073741824) : S_SplitPair k s = some (pairT s) := by
  have := find_all (len := s.length) (c := fun i => bif byteP s 61 i then some (trimT (s.take i), trimT (s.drop (i + 1)), true) else none) (F := fun n i => S_SplitPair_b0 k n s i) (fun n i hi => by
    have e : ((UInt8.toNat s[i] : Int) == 61) = (s[i] == 61) := u8_eq s[i] 61
    simp only [S_SplitPair_b0, idx_nat hi, Option.bind_some, wrap_succ (by omega : i < 9223372036854775807), bif_dec, lt_cast, hi, if_true, byteP_at hi, e]
    cases (s[i] == 61) with
    | true => rw [cond_true, cond_true, ssub_take (by omega), Option.bind_some, S_TrimText_eq hk _ (by simp; omega), Option.bind_some, ssub_drop (by omega), Option.bind_some, S_TrimText_eq hk _ (by simp; omega)]; rfl
    | false => rfl) (fun n i hi => by
    simp only [S_SplitPair_b0, bif_dec, lt_cast]
    rw [if_neg (by omega)]) (k := k) (by omega)
  rw [S_SplitPair, this, findI_first, S_TrimText_eq hk s h]
  unfold pairT
  cases firstI (byteP s 61) s.length 0 <;> rfl
theorem I_SplitPair_eq {k : Nat} (s : List UInt8) (h : s.length < 1073741824) : I_SplitPair k s = some (pairT s) := by
  have hd : decide (s.length < 4294967281) = true := by simp; omega
  rw [I_SplitPair, strings_Cut, cutO, hd, cond_true, Option.bind_some, cut_byte]
  unfold pairT
  cases firstI (byteP s 61) s.length 0 with
  | none => simp only; rw [I_TrimText_eq s h, Option.bind_some, I_TrimText_eq [] (by simp)]; rfl
  | some i => simp only; rw [I_TrimText_eq _ (by simp; omega), Option.bind_some, I_TrimText_eq _ (by simp; omega)]; rfl
theorem pairT_len (s : List UInt8) : (pairT s).1.length ≤ s.length ∧ (pairT s).2.1.length ≤ s.length := by
  unfold pairT
  cases firstI (byteP s 61) s.length 0 with
  | none => have := trimT_len s; simp only [List.length_nil]; omega
  | some i =>
    have h1 := trimT_len (s.take i)
    have h2 := trimT_len (s.drop (i + 1))
    simp at h1 h2 ⊢; omega
/-! Lists split. -/
def cutG (b : UInt8) : List UInt8 → Bool → Bool → List UInt8 → List (List UInt8)
  | [], _, _, cur => [cur]
  | c :: r, q, true, cur => cutG b r q false (cur ++ [c])
  | c :: r, q, false, cur => bif q && c == 92 then cutG b r q true (cur ++ [c]) else bif c == 34 then cutG b r (!q) false (cur ++ [c]) else bif !q && c == b then cur :: cutG b r q false [] else cutG b r q false (cur ++ [c])
theorem cutG_mem (b : UInt8) : ∀ (l : List UInt8) (q sk : Bool) (cur p : List UInt8), p ∈ cutG b l q sk cur → p.length ≤ cur.length + l.length
  | [], q, sk, cur, p, h => by
    unfold cutG at h
    have : p = cur := by simpa using h
    rw [this]; omega
  | c :: r, q, true, cur, p, h => by
    have := cutG_mem b r q false (cur ++ [c]) p (by simpa [cutG] using h)
    simp at this ⊢; omega
  | c :: r, q, false, cur, p, h => by
    rw [cutG] at h
    have step : ∀ q' sk', p ∈ cutG b r q' sk' (cur ++ [c]) → p.length ≤ cur.length + (c :: r).length := fun q' sk' h => by
      have := cutG_mem b r q' sk' (cur ++ [c]) p h
      simp at this ⊢; omega
    cases h1 : (q && c == 92) with
    | true => rw [h1] at h; exact step _ _ h
    | false =>
      rw [h1] at h
      cases h2 : (c == 34) with
      | true => rw [h2] at h; exact step _ _ h
      | false =>
        rw [h2] at h
        cases h3 : (!q && c == b) with
        | false => rw [h3] at h; exact step _ _ h
        | true =>
          rw [h3] at h
          simp only [cond_true, cond_false] at h
          rcases List.mem_cons.1 h with rfl | h
          · omega
          · have := cutG_mem b r q false [] p h
            simp at this ⊢; omega
theorem cutG_len (b : UInt8) : ∀ (l : List UInt8) (q sk : Bool) (cur : List UInt8), (cutG b l q sk cur).length ≤ l.length + 1
  | [], q, sk, cur => by simp [cutG]
  | c :: r, q, true, cur => by have := cutG_len b r q false (cur ++ [c]); simp [cutG]; omega
  | c :: r, q, false, cur => by
    rw [cutG]
    have s1 := fun q' sk' cur' => cutG_len b r q' sk' cur'
    cases (q && c == 92) with
    | true => rw [cond_true]; have := s1 q true (cur ++ [c]); simp; omega
    | false =>
      cases (c == 34) with
      | true => rw [cond_false, cond_true]; have := s1 (!q) false (cur ++ [c]); simp; omega
      | false =>
        cases (!q && c == b) with
        | true => rw [cond_false, cond_false, cond_true]; have := s1 q false []; simp; omega
        | false => rw [cond_false, cond_false, cond_false]; have := s1 q false (cur ++ [c]); simp; omega
def sub (x : List UInt8) (f i : Nat) : List UInt8 := (x.take i).drop f
theorem sub_succ {x : List UInt8} {f i : Nat} (hf : f ≤ i) (hi : i < x.length) : sub x f (i + 1) = sub x f i ++ [x[i]] := by
  unfold sub
  have : x.take (i + 1) = x.take i ++ [x[i]] := by rw [List.take_add_one, List.getElem?_eq_getElem hi]; rfl
  rw [this, List.drop_append_of_le_length (by simp; omega)]
theorem sub_self (x : List UInt8) (i : Nat) : sub x i i = [] := by unfold sub; rw [List.drop_eq_nil_iff]; simp; omega
theorem sub_end {x : List UInt8} {f i : Nat} (h : x.length ≤ i) : sub x f i = x.drop f := by unfold sub; rw [List.take_of_length_le h]
theorem ssub_sub {x : List UInt8} {f i : Nat} (h1 : f ≤ i) (h : i ≤ x.length) : ssub x (f : Int) (i : Int) = some (sub x f i) := ssub_mid h1 h
theorem cutG_skip {b : UInt8} {x : List UInt8} {f i : Nat} {q : Bool} (hf : f ≤ i) (hi : i < x.length) : cutG b (x.drop (i + 1)) q true (sub x f i ++ [x[i]]) = cutG b (x.drop (i + 2)) q false (sub x f (i + 2)) := by
  rw [← sub_succ hf hi]
  by_cases h : i + 1 < x.length
  · rw [List.drop_eq_getElem_cons h, cutG, sub_succ (by omega) h]
  · rw [List.drop_of_length_le (by omega), List.drop_of_length_le (by omega), cutG, cutG, sub_end (by omega), sub_end (by omega)]
theorem S_l4Cut_loop {k : Nat} {x : List UInt8} {b : UInt8} (hx : x.length < 1073741824) : ∀ (n i f : Nat) (q : Bool) (r : List (List UInt8)), f ≤ i → f ≤ x.length → x.length + 2 ≤ i + n → i ≤ x.length + 1 → r.length ≤ i →
    ∃ (f' : Nat) (r' : List (List UInt8)), S_l4Cut_b0 k n x (b.toNat : Int) (f : Int) q (i : Int) r = some ((f' : Int), r') ∧ f' ≤ x.length ∧ r'.length ≤ x.length + 1 ∧ r' ++ [x.drop f'] = r ++ cutG b (x.drop i) q false (sub x f i) := by
  intro n
  induction n with
  | zero => intro i f q r _ _ h h2; omega
  | succ n ih =>
    intro i f q r hf hf2 hn hi hr
    rw [S_l4Cut_b0, bif_dec]
    by_cases c : i < x.length
    · have u92 := u8_eq x[i] 92
      have u34 := u8_eq x[i] 34
      have ub := u8_eq x[i] b
      rw [show (((92 : UInt8).toNat : Nat) : Int) = 92 from rfl] at u92
      rw [show (((34 : UInt8).toNat : Nat) : Int) = 34 from rfl] at u34
      rw [if_pos (by omega), List.drop_eq_getElem_cons c, cutG]
      simp only [S_l4Cut_b1, S_l4Cut_b2, idx_nat c, Option.bind_some, S_l4Cut_c16, S_l4Cut_c26, S_l4Cut_c33, u92, u34, ub]
      have plain := fun q' => ih (i + 1) f q' r (by omega) hf2 (by omega) (by omega) (by omega)
      cases q with
      | true =>
        cases h1 : (x[i] == 92) with
        | true =>
          simp only [cond_true, Option.bind_some, Bool.true_and]
          rw [wrap_succ (by omega), wrap_succ (by omega), cutG_skip hf c]
          exact ih (i + 2) f true r (by omega) hf2 (by omega) (by omega) (by omega)
        | false =>
          simp only [cond_true, cond_false, Option.bind_some, Bool.true_and]
          rw [← sub_succ hf c]
          cases h2 : (x[i] == 34) with
          | true => simp only [cond_true, Option.bind_some]; rw [wrap_succ (by omega)]; exact plain false
          | false => simp only [cond_false, Bool.not_true, Option.bind_some, Bool.false_and]; rw [wrap_succ (by omega)]; exact plain true
      | false =>
        simp only [cond_false, Option.bind_some, Bool.false_and]
        cases h2 : (x[i] == 34) with
        | true => simp only [cond_true, Option.bind_some]; rw [wrap_succ (by omega), ← sub_succ hf c]; exact plain true
        | false =>
          simp only [cond_false, Bool.not_false, cond_true, Bool.true_and]
          cases h3 : (x[i] == b) with
          | true =>
            simp only [cond_true]
            rw [ssub_sub hf (by omega), Option.bind_some, appn_ok (by simp; omega)]
            simp only [Option.bind_some]
            rw [wrap_succ (by omega)]
            obtain ⟨f', r', e1, e2, e3, e4⟩ := ih (i + 1) (i + 1) false (r ++ [sub x f i]) (by omega) (by omega) (by omega) (by omega) (by simp; omega)
            rw [sub_self] at e4
            exact ⟨f', r', e1, e2, e3, by rw [e4]; simp⟩
          | false => simp only [cond_false, Option.bind_some]; rw [wrap_succ (by omega), ← sub_succ hf c]; exact plain false
    · rw [if_neg (by omega), List.drop_of_length_le (by omega), cutG, sub_end (by omega)]
      exact ⟨f, r, rfl, hf2, by omega, rfl⟩
theorem S_l4Cut_eq {k : Nat} (hk : 1073741824 ≤ k) (x : List UInt8) (b : UInt8) (h : x.length < 1073741000) : S_l4Cut k x (b.toNat : Int) = some (cutG b x false false []) := by
  obtain ⟨f', r', e1, e2, e3, e4⟩ := S_l4Cut_loop (k := k) (b := b) (show x.length < 1073741824 by omega) k 0 0 false [] (by omega) (by omega) (by omega) (by omega) (by simp)
  rw [show ((0 : Nat) : Int) = 0 from rfl] at e1
  rw [S_l4Cut, e1, Option.bind_some]
  simp only
  rw [ssub_drop e2, Option.bind_some, appn_ok (by simp; omega), e4]
  simp [sub]
def keepF (p : List UInt8) : List (List UInt8) := bif !(trimT p == []) then [trimT p] else []
def splitL (x : List UInt8) : List (List UInt8) := (cutG 44 x false false []).flatMap keepF
theorem keepF_len (p : List UInt8) : (keepF p).length ≤ 1 := by unfold keepF; cases (trimT p == []) <;> simp
theorem keep_len : ∀ l : List (List UInt8), (l.flatMap keepF).length ≤ l.length
  | [] => by simp
  | p :: l => by
    have := keep_len l
    have := keepF_len p
    rw [List.flatMap_cons, List.length_append, List.length_cons]; omega
theorem splitL_len (x : List UInt8) : (splitL x).length ≤ x.length + 1 := by
  have := keep_len (cutG 44 x false false [])
  have := cutG_len 44 x false false []
  unfold splitL; omega
theorem S_SplitList_eq {k : Nat} (hk : 1073741824 ≤ k) (x : List UInt8) (h : x.length < 1073741000) : S_SplitList k x = some (splitL x) := by
  have hc := S_l4Cut_eq hk x 44 h
  rw [show (((44 : UInt8).toNat : Nat) : Int) = 44 from rfl] at hc
  have hm := fun p => cutG_mem 44 x false false [] p
  have hl := cutG_len 44 x false false []
  rw [S_SplitList, hc, Option.bind_some]
  generalize hw : cutG 44 x false false [] = w at hm hl
  have := fold_all (len := w.length) (g := fun j s => s ++ (w[j]?).elim [] keepF) (Inv := fun i s => s.length ≤ i) (F := fun m i s => S_SplitList_b0 k m i w s) (out := id) (fun m i s hi hI => by
    have hp := hm w[i] (List.getElem_mem hi)
    simp only [S_SplitList_b0, bif_dec, lt_cast, hi, if_true, S_SplitList_b1, idx_nat hi, Option.bind_some, S_SplitList_c22, wrap_succ (by omega : i < 9223372036854775807), List.getElem?_eq_getElem hi, Option.elim_some, keepF, S_TrimText_eq hk w[i] (by simp at hp; omega)]
    cases (trimT w[i] == []) with
    | false => simp only [Bool.not_false, cond_true]; rw [appn_ok (by simp; omega)]; exact ⟨rfl, by simp; omega⟩
    | true => simp only [Bool.not_true, cond_false, List.append_nil]; exact ⟨rfl, by omega⟩) (fun m i s hi => by
    simp only [S_SplitList_b0, bif_dec, lt_cast]
    rw [if_neg (by omega)]; rfl) (k := k) (by omega) (s := []) (by simp)
  have h1 : S_SplitList_b0 k k 0 w [] = some (foldI (fun j s => s ++ (w[j]?).elim [] keepF) w.length 0 []) := this.1
  rw [h1, foldI_append (f := keepF) w.length 0 [] (by omega), List.drop_zero, Option.bind_some, splitL, hw]; rfl
theorem keepF_nil : keepF [] = [] := rfl
def tailK (x : List UInt8) (f : Nat) (r : List (List UInt8)) : List (List UInt8) := bif decide (f < x.length) then r ++ keepF (x.drop f) else r
theorem tailK_eq (x : List UInt8) (f : Nat) (r : List (List UInt8)) : tailK x f r = r ++ keepF (x.drop f) := by
  unfold tailK
  by_cases h : f < x.length
  · rw [decide_eq_true h]; rfl
  · rw [decide_eq_false h, List.drop_of_length_le (by omega), keepF_nil, List.append_nil]; rfl
theorem I_SplitList_loop {k : Nat} {x : List UInt8} (hx : x.length < 1073741000) : ∀ (n i f : Nat) (q : Bool) (r : List (List UInt8)), f ≤ i → x.length + 2 ≤ i + n → i ≤ x.length + 1 → r.length ≤ i →
    ∃ (f' : Nat) (r' : List (List UInt8)), I_SplitList_b0 k n x (f : Int) q (i : Int) r = some ((f' : Int), r') ∧ r'.length ≤ x.length + 1 ∧ f' ≤ x.length + 1 ∧ r' ++ keepF (x.drop f') = r ++ (cutG 44 (x.drop i) q false (sub x f i)).flatMap keepF := by
  intro n
  induction n with
  | zero => intro i f q r _ h h2; omega
  | succ n ih =>
    intro i f q r hf hn hi hr
    rw [I_SplitList_b0, bif_dec]
    have add : ∀ p : List UInt8, p.length < 1073741824 → ∀ (x5 : Bool) (x6 : Int), ((I_TrimText k p).bind fun w => (I_SplitList_c53 k x x5 x6 w (!(w == [])) r).bind fun o => some (((IntKind.wrap .i64 (x6 + 1)), x5, x6, o))) = some ((IntKind.wrap .i64 (x6 + 1)), x5, x6, r ++ keepF p) := fun p hp x5 x6 => by
      rw [I_TrimText_eq p hp, Option.bind_some, I_SplitList_c53]
      unfold keepF
      cases (trimT p == []) with
      | false => simp only [Bool.not_false, cond_true]; rw [appn_ok (by simp; omega)]; rfl
      | true => simp only [Bool.not_true, cond_false, List.append_nil]; rfl
    by_cases c0 : i ≤ x.length
    · rw [if_pos (by omega)]
      have hmin : (if x.length < i then ((x.length : Nat) : Int) else (i : Int)) = (i : Int) := by rw [if_neg (by omega)]
      by_cases c : i < x.length
      · have u92 := u8_eq x[i] 92
        have u34 := u8_eq x[i] 34
        have u44 := u8_eq x[i] 44
        rw [show (((92 : UInt8).toNat : Nat) : Int) = 92 from rfl] at u92
        rw [show (((34 : UInt8).toNat : Nat) : Int) = 34 from rfl] at u34
        rw [show (((44 : UInt8).toNat : Nat) : Int) = 44 from rfl] at u44
        rw [List.drop_eq_getElem_cons c, cutG]
        have plain := fun q' => ih (i + 1) f q' r (by omega) (by omega) (by omega) (by omega)
        have une : ((UInt8.toNat x[i] : Int) != 44) = !(x[i] == 44) := by rw [← u44]; rfl
        simp only [I_SplitList_b1, bif_dec, lt_cast, c, if_true, idx_nat c, Option.bind_some, I_SplitList_c32, I_SplitList_c41, u92, u34, une, hmin]
        cases q with
        | true =>
          simp only [cond_true, Bool.true_and]
          cases h2 : (x[i] == 34) with
          | true =>
            have h1 : (x[i] == 92) = false := by
              have e : x[i] = 34 := by simpa using h2
              rw [e]; rfl
            simp only [h1, cond_true, cond_false, Option.bind_some, Bool.not_true]
            rw [wrap_succ (by omega), ← sub_succ hf c]; exact plain false
          | false =>
            simp only [cond_false, Option.bind_some, cond_true, Bool.not_true, Bool.false_and]
            cases h1 : (x[i] == 92) with
            | true =>
              simp only [cond_true, Option.bind_some]
              rw [wrap_succ (by omega), wrap_succ (by omega), cutG_skip hf c]
              exact ih (i + 2) f true r (by omega) (by omega) (by omega) (by omega)
            | false => simp only [cond_false, Option.bind_some]; rw [wrap_succ (by omega), ← sub_succ hf c]; exact plain true
        | false =>
          simp only [cond_false, Bool.false_and, Bool.not_false, Bool.true_and]
          cases h3 : (x[i] == 44) with
          | true =>
            have h2 : (x[i] == 34) = false := by
              have e : x[i] = 44 := by simpa using h3
              rw [e]; rfl
            simp only [h2, Bool.not_true, cond_false, cond_true]
            rw [ssub_sub hf (by omega), Option.bind_some, add (sub x f i) (by unfold sub; simp; omega), Option.bind_some]
            simp only
            rw [wrap_succ (by omega)]
            have hk1 := keepF_len (sub x f i)
            obtain ⟨f', r', e1, e2, e3, e4⟩ := ih (i + 1) (i + 1) false (r ++ keepF (sub x f i)) (by omega) (by omega) (by omega) (by simp; omega)
            rw [sub_self] at e4
            exact ⟨f', r', e1, e2, e3, by rw [e4, List.flatMap_cons, List.append_assoc]⟩
          | false =>
            simp only [Bool.not_false, cond_true, cond_false]
            cases h2 : (x[i] == 34) with
            | true =>
              have h1 : (x[i] == 92) = false := by
                have e : x[i] = 34 := by simpa using h2
                rw [e]; rfl
              simp only [h1, cond_true, cond_false, Option.bind_some]
              rw [wrap_succ (by omega), ← sub_succ hf c]; exact plain true
            | false => simp only [cond_false, Option.bind_some]; rw [wrap_succ (by omega), ← sub_succ hf c]; exact plain false
      · have hil : i = x.length := by omega
        simp only [I_SplitList_b1, bif_dec, lt_cast, c, if_false, hmin]
        rw [ssub_sub hf (by omega), Option.bind_some, add (sub x f i) (by unfold sub; simp; omega), Option.bind_some]
        simp only
        rw [wrap_succ (by omega)]
        have hk1 := keepF_len (sub x f i)
        obtain ⟨f', r', e1, e2, e3, e4⟩ := ih (i + 1) (i + 1) q (r ++ keepF (sub x f i)) (by omega) (by omega) (by omega) (by simp; omega)
        refine ⟨f', r', e1, e2, e3, ?_⟩
        rw [e4, List.drop_of_length_le (by omega), List.drop_of_length_le (by omega), sub_self, cutG, cutG]
        simp [keepF_nil]
    · rw [if_neg (by omega), List.drop_of_length_le (by omega), cutG, sub_end (by omega)]
      exact ⟨f, r, rfl, by omega, by omega, by simp⟩
theorem I_SplitList_eq {k : Nat} (hk : 1073741824 ≤ k) (x : List UInt8) (h : x.length < 1073741000) : I_SplitList k x = some (splitL x) := by
  obtain ⟨f', r', e1, e2, e3, e4⟩ := I_SplitList_loop (k := k) h k 0 0 false [] (by omega) (by omega) (by omega) (by simp)
  rw [show ((0 : Nat) : Int) = 0 from rfl] at e1
  have e5 : sub x 0 0 = [] := sub_self x 0
  rw [List.drop_zero, e5, List.nil_append] at e4
  rw [I_SplitList, e1, Option.bind_some, I_SplitList_c63, splitL, ← e4]
  simp only [bif_dec]
  by_cases c : f' < x.length
  · rw [if_pos (by omega), ssub_drop (by omega), Option.bind_some, I_TrimText_eq _ (by simp; omega), Option.bind_some, I_SplitList_c69]
    unfold keepF
    cases (trimT (x.drop f') == []) with
    | false => simp only [Bool.not_false, cond_true]; rw [appn_ok (by simp; omega)]; rfl
    | true => simp only [Bool.not_true, cond_false, List.append_nil]; rfl
  · rw [if_neg (by omega), List.drop_of_length_le (by omega), keepF_nil, List.append_nil]; rfl
theorem lens_cons (p : List UInt8) (l : List (List UInt8)) : Lib.lens (p :: l) = p.length + Lib.lens l := rfl
theorem cutG_sum (b : UInt8) : ∀ (l : List UInt8) (q sk : Bool) (cur : List UInt8), Lib.lens (cutG b l q sk cur) ≤ cur.length + l.length
  | [], q, sk, cur => by rw [cutG, lens_cons]; simp [Lib.lens]
  | c :: r, q, true, cur => by have := cutG_sum b r q false (cur ++ [c]); rw [cutG]; simp at this ⊢; omega
  | c :: r, q, false, cur => by
    rw [cutG]
    have s1 := fun q' sk' => cutG_sum b r q' sk' (cur ++ [c])
    simp only [List.length_append, List.length_cons, List.length_nil] at s1
    rw [List.length_cons]
    cases (q && c == 92) with
    | true => rw [cond_true]; have := s1 q true; omega
    | false =>
      cases (c == 34) with
      | true => rw [cond_false, cond_true]; have := s1 (!q) false; omega
      | false =>
        cases (!q && c == b) with
        | true => rw [cond_false, cond_false, cond_true, lens_cons]; have := cutG_sum b r q false []; simp at this; omega
        | false => rw [cond_false, cond_false, cond_false]; have := s1 q false; omega
theorem keep_sum : ∀ l : List (List UInt8), Lib.lens (l.flatMap keepF) ≤ Lib.lens l
  | [] => by simp
  | p :: l => by
    have h1 := keep_sum l
    have h2 := trimT_len p
    rw [List.flatMap_cons, lens_cons]
    unfold keepF at h1 ⊢
    cases (trimT p == []) with
    | true => simpa using (by omega : Lib.lens (l.flatMap fun p => bif !(trimT p == []) then [trimT p] else []) ≤ p.length + Lib.lens l)
    | false => simp only [Bool.not_false, cond_true, List.cons_append, List.nil_append, lens_cons]; omega
theorem splitL_sum (x : List UInt8) : Lib.lens (splitL x) ≤ x.length := by
  have h1 := keep_sum (cutG 44 x false false [])
  have h2 := cutG_sum 44 x false false []
  unfold splitL; simp at h2; omega
/-! Lists joined. -/
def joinT (l : List (List UInt8)) : List UInt8 := Lib.join l [44, 32]
theorem joinT_len (l : List (List UInt8)) : (joinT l).length ≤ 2 * l.length + Lib.lens l := by
  cases l with
  | nil => simp [joinT, Lib.join_nil]
  | cons x r => unfold joinT; rw [Lib.join_length]; simp; omega
theorem I_JoinList_eq {k : Nat} (l : List (List UInt8)) (h : 2 * l.length + Lib.lens l < 1073741824) : I_JoinList k l = some (joinT l) := by
  have hl := joinT_len l
  have hd : (decide (l.length ≤ 140737488355328) && decide ((Lib.join l [44, 32]).length ≤ 140737488355328)) = true := by
    rw [Bool.and_eq_true]; exact ⟨decide_eq_true (by omega), decide_eq_true (by unfold joinT at hl; omega)⟩
  rw [I_JoinList, strings_Join, joinO, hd]; rfl
theorem S_JoinList_loop {k : Nat} {x : List UInt8} {r : List (List UInt8)} (h : 2 * r.length + Lib.lens (x :: r) < 1073741824) : ∀ (n j : Nat), j ≤ r.length → r.length - j < n →
    S_JoinList_b0 k n (x :: r) (x ++ Lib.joinTail [44, 32] (r.take j)) ((j + 1 : Nat) : Int) = some (x ++ Lib.joinTail [44, 32] r) := by
  have hx : Lib.lens (x :: r) = x.length + Lib.lens r := rfl
  intro n
  induction n with
  | zero => intro j _ h; omega
  | succ n ih =>
    intro j hj hn
    rw [S_JoinList_b0, bif_dec]
    by_cases c : j < r.length
    · have hlen : ((j + 1 : Nat) : Int) < ((x :: r).length : Int) := by simp; omega
      have e1 : decide (((j + 1 : Nat) : Int) > 0) = true := decide_eq_true (by omega)
      have e2 : idx (x :: r) ((j + 1 : Nat) : Int) = some r[j] := by
        rw [idx_nat (by simp; omega)]; simp
      have b1 := Lib.joinTail_take_le [44, 32] r j
      have b2 := Lib.joinTail_length [44, 32] r
      have b3 := Lib.joinTail_take_le [44, 32] r (j + 1)
      have b4 := Lib.joinTail_take_succ [44, 32] r j r[j] (List.getElem?_eq_getElem c)
      have b5 := congrArg List.length b4
      simp only [List.length_append, List.length_cons, List.length_nil] at b2 b5
      rw [if_pos hlen, S_JoinList_b1, S_JoinList_c12, e1, cond_true, cat_ok (by simp; omega), Option.bind_some, Option.bind_some, e2, Option.bind_some, cat_ok (by simp; omega), Option.bind_some, Option.bind_some, wrap_succ (by omega)]
      have := ih (j + 1) (by omega) (by omega)
      rw [b4] at this
      rw [← this]
      congr 1
      simp
    · have hlen : ¬ ((j + 1 : Nat) : Int) < ((x :: r).length : Int) := by simp; omega
      rw [if_neg hlen, List.take_of_length_le (by omega)]
theorem S_JoinList_eq {k : Nat} (hk : 1073741824 ≤ k) (l : List (List UInt8)) (h : 2 * l.length + Lib.lens l < 1073741824) : S_JoinList k l = some (joinT l) := by
  obtain ⟨n, rfl⟩ : ∃ n, k = n + 1 := ⟨k - 1, by omega⟩
  rw [S_JoinList, S_JoinList_b0, bif_dec]
  cases l with
  | nil => rfl
  | cons x r =>
    have hx : Lib.lens (x :: r) = x.length + Lib.lens r := rfl
    simp only [List.length_cons] at h
    have hlen : (0 : Int) < ((x :: r).length : Int) := by rw [List.length_cons]; omega
    have e2 : idx (x :: r) (0 : Int) = some x := rfl
    have := S_JoinList_loop (k := n + 1) (x := x) (r := r) (by omega) n 0 (by omega) (by omega)
    rw [List.take_zero] at this
    rw [if_pos hlen, S_JoinList_b1, S_JoinList_c12, e2]
    rw [show (decide ((0 : Int) > 0)) = false from rfl, cond_false, Option.bind_some, Option.bind_some, cat_ok (by simp; omega), Option.bind_some, Option.bind_some]
    rw [show IntKind.wrap .i64 ((0 : Int) + 1) = ((0 + 1 : Nat) : Int) from by rw [wrap_id (by omega) (by omega)]; rfl]
    have e3 : Lib.joinTail [44, 32] ([] : List (List UInt8)) = [] := rfl
    rw [e3, List.append_nil] at this
    rw [List.nil_append, this, Option.bind_some, joinT, Lib.join_cons]
/-! A field's values. -/
def valOfF (n : List UInt8) (e : IField) : List (List UInt8) := bif e.Name == n then [e.Value] else []
def valsF (l : List IField) (n : List UInt8) : List (List UInt8) := l.flatMap (valOfF n)
def fsz (l : List IField) : Nat := l.length + (l.map fun e => e.Value.length).sum
theorem valsF_len (n : List UInt8) : ∀ l : List IField, (valsF l n).length ≤ l.length
  | [] => by simp [valsF]
  | e :: l => by
    have := valsF_len n l
    unfold valsF at this ⊢
    rw [List.flatMap_cons, List.length_append]
    have h2 : (valOfF n e).length ≤ 1 := by unfold valOfF; cases (e.Name == n) <;> simp
    rw [List.length_cons]; omega
theorem valsF_lens (n : List UInt8) : ∀ l : List IField, Lib.lens (valsF l n) ≤ (l.map fun e => e.Value.length).sum
  | [] => by simp [valsF, Lib.lens]
  | e :: l => by
    have := valsF_lens n l
    unfold valsF at this ⊢
    rw [List.flatMap_cons]
    unfold valOfF at this ⊢
    cases (e.Name == n) with
    | true => simp only [cond_true, List.cons_append, List.nil_append, List.map_cons, List.sum_cons]; show e.Value.length + Lib.lens _ ≤ _; omega
    | false => simp only [cond_false, List.nil_append, List.map_cons, List.sum_cons]; omega
def getF (l : List IField) (n : List UInt8) : List UInt8 × Bool := (joinT (valsF l n), decide (((valsF l n).length : Int) > 0))
theorem getF_len (l : List IField) (n : List UInt8) : (getF l n).1.length ≤ 2 * fsz l := by
  have h1 := joinT_len (valsF l n)
  have h2 := valsF_len n l
  have h3 := valsF_lens n l
  unfold getF fsz; simp only; omega
theorem S_GetField_eq {k : Nat} (hk : 1073741824 ≤ k) (l : List IField) (n : List UInt8) (h : fsz l < 268435456) : S_GetField k l n = some (getF l n) := by
  have hl : l.length < 268435456 := by unfold fsz at h; omega
  have := fold_all (len := l.length) (g := fun j s => s ++ (l[j]?).elim [] (valOfF n)) (Inv := fun i s => s.length ≤ i) (F := fun m i s => S_GetField_b0 k m l n i s) (out := id) (fun m i s hi hI => by
    simp only [S_GetField_b0, bif_dec, lt_cast, hi, if_true, S_GetField_b1, idx_nat hi, Option.bind_some, S_GetField_c21, wrap_succ (by omega : i < 9223372036854775807), List.getElem?_eq_getElem hi, Option.elim_some, valOfF]
    cases (l[i].Name == n) with
    | true => rw [cond_true, cond_true, appn_ok (by simp; omega)]; exact ⟨rfl, by simp; omega⟩
    | false => rw [cond_false, cond_false, List.append_nil]; exact ⟨rfl, by omega⟩) (fun m i s hi => by
    simp only [S_GetField_b0, bif_dec, lt_cast]
    rw [if_neg (by omega)]; rfl) (k := k) (by omega) (s := []) (by simp)
  have h1 : S_GetField_b0 k k l n 0 [] = some (foldI (fun j s => s ++ (l[j]?).elim [] (valOfF n)) l.length 0 []) := this.1
  have h2 := valsF_len n l
  have h3 := valsF_lens n l
  have hv : foldI (fun j s => s ++ (l[j]?).elim [] (valOfF n)) l.length 0 [] = valsF l n := by
    rw [foldI_append (f := valOfF n) l.length 0 [] (by omega), List.drop_zero]; rfl
  rw [S_GetField, h1, hv, Option.bind_some, S_JoinList_eq hk _ (by unfold fsz at h; omega)]; rfl
theorem I_GetField_eq {k : Nat} (hk : 1073741824 ≤ k) (l : List IField) (n : List UInt8) (h : fsz l < 268435456) : I_GetField k l n = some (getF l n) := by
  have hl : l.length < 268435456 := by unfold fsz at h; omega
  have := fold_all (len := l.length) (g := fun j s => s ++ (l[j]?).elim [] (valOfF n)) (Inv := fun i s => s.length ≤ i) (F := fun m i s => I_GetField_b0 k m n l (l.length : Int) i s) (out := id) (fun m i s hi hI => by
    simp only [I_GetField_b0, bif_dec, lt_cast, hi, if_true, I_GetField_b1, idx_nat hi, Option.bind_some, I_GetField_c19, wrap_succ (by omega : i < 9223372036854775807), List.getElem?_eq_getElem hi, Option.elim_some, valOfF]
    cases (l[i].Name == n) with
    | true => rw [cond_true, cond_true, appn_ok (by simp; omega)]; exact ⟨rfl, by simp; omega⟩
    | false => rw [cond_false, cond_false, List.append_nil]; exact ⟨rfl, by omega⟩) (fun m i s hi => by
    simp only [I_GetField_b0, bif_dec, lt_cast]
    rw [if_neg (by omega)]; rfl) (k := k) (by omega) (s := []) (by simp)
  have h1 : I_GetField_b0 k k n l (l.length : Int) 0 [] = some (foldI (fun j s => s ++ (l[j]?).elim [] (valOfF n)) l.length 0 []) := this.1
  have h2 := valsF_len n l
  have h3 := valsF_lens n l
  have hv : foldI (fun j s => s ++ (l[j]?).elim [] (valOfF n)) l.length 0 [] = valsF l n := by
    rw [foldI_append (f := valOfF n) l.length 0 [] (by omega), List.drop_zero]; rfl
  rw [I_GetField, h1, hv, Option.bind_some, I_JoinList_eq _ (by unfold fsz at h; omega)]; rfl
/-! Cache directives. -/
theorem tok_low_tab : ∀ j : Fin 256, tokB (lowB (UInt8.ofNat j.val)) = tokB (UInt8.ofNat j.val) := by decide +kernel
theorem tok_low (c : UInt8) : tokB (lowB c) = tokB c := by
  have := tok_low_tab ⟨c.toNat, UInt8.toNat_lt c⟩
  simpa using this
theorem isTok_low (x : List UInt8) : isTok (lowT x) = isTok x := by
  unfold isTok
  rw [lowT_len]
  have : firstI (ntP (lowT x)) x.length 0 = firstI (ntP x) x.length 0 := firstI_congr _ _ fun j _ hj => by
    have hj : j < x.length := by omega
    unfold ntP lowT
    rw [List.getElem?_map, List.getElem?_eq_getElem hj, Option.map_some]
    simp only [tok_low]
  rw [this]
def dirV (v : List UInt8) (has : Bool) : Option (List UInt8) := bif has then (bif q34 v then (bif (unqT v).2 then some (unqT v).1 else none) else (bif isTok v then some v else none)) else some v
def dirQ (n : List UInt8) (o : Option (List UInt8)) (has : Bool) : List IDirective := match o with
  | some v => bif isTok n then [(⟨lowT n, v, has⟩ : IDirective)] else []
  | none => []
def dirP (e : List UInt8) : List IDirective := dirQ (pairT e).1 (dirV (pairT e).2.1 (pairT e).2.2) (pairT e).2.2
def parseD (x : List UInt8) : List IDirective := (splitL x).flatMap dirP
theorem dirP_len (e : List UInt8) : (dirP e).length ≤ 1 := by
  unfold dirP dirQ
  cases dirV (pairT e).2.1 (pairT e).2.2 with
  | none => simp
  | some v => simp only; cases isTok (pairT e).1 <;> simp
theorem dirs_len : ∀ l : List (List UInt8), (l.flatMap dirP).length ≤ l.length
  | [] => by simp
  | p :: l => by
    have := dirs_len l
    have := dirP_len p
    rw [List.flatMap_cons, List.length_append, List.length_cons]; omega
theorem parseD_len (x : List UInt8) : (parseD x).length ≤ x.length + 1 := by
  have h1 := dirs_len (splitL x)
  have h2 := splitL_len x
  unfold parseD; omega
theorem dirV_len {v t : List UInt8} {has : Bool} (h : dirV v has = some t) : t.length ≤ v.length := by
  unfold dirV at h
  have hu := unqT_len v
  cases has with
  | false => cases h; omega
  | true =>
    cases hq : q34 v with
    | true =>
      rw [hq] at h
      cases h2 : (unqT v).2 with
      | true => rw [h2] at h; cases h; exact hu
      | false => rw [h2] at h; cases h
    | false =>
      rw [hq] at h
      cases h2 : isTok v with
      | true => rw [h2] at h; cases h; omega
      | false => rw [h2] at h; cases h
theorem q34_cons (c : UInt8) (r : List UInt8) : q34 (c :: r) = (c == 34) := by unfold q34; simp
theorem S_dir {k : Nat} (hk : 1073741824 ≤ k) {x5 : Int} {r3 : List (List UInt8)} {r4 : List IDirective} {n v : List UInt8} {has b : Bool} (hv : v.length < 1073741000) (hb : b = (has && q34 v)) :
    S_ParseDirectives_c45 k x5 v has b r3 r4 (lowT n) v has = some (match dirV v has with | some t => .nrm t | none => .oth ()) := by
  subst hb
  unfold S_ParseDirectives_c45 dirV
  rw [S_UnquoteText_eq hk v hv, S_IsToken_eq hk v (by omega)]
  simp only [Option.bind_some]
  cases has <;> cases q34 v <;> cases (unqT v).2 <;> cases isTok v <;> rfl
theorem S_dpart {k : Nat} (hk : 1073741824 ≤ k) {x5 : Int} {r3 : List (List UInt8)} {r4 : List IDirective} {e : List UInt8} (hi : idx r3 x5 = some e) (he : e.length < 1073741000) (hr : r4.length ≤ 1073741824) : S_ParseDirectives_b1 k x5 r3 r4 = some (r4 ++ dirP e) := by
  obtain ⟨p1, p2⟩ := pairT_len e
  have tl := lowT_len (pairT e).1
  have fin : ∀ {b : Bool} (hb : b = ((pairT e).2.2 && q34 (pairT e).2.1)), ((S_ParseDirectives_c45 k x5 (pairT e).2.1 (pairT e).2.2 b r3 r4 (lowT (pairT e).1) (pairT e).2.1 (pairT e).2.2).bind fun o6 =>
      oc o6 (fun o7 => ((S_IsToken k (lowT (pairT e).1)).bind fun w9 => ((S_ParseDirectives_c63 k x5 w9 r3 r4 (lowT (pairT e).1) o7 (pairT e).2.2).bind fun o10 => some (o10)))) (fun o8 => some (r4))) = some (r4 ++ dirP e) := by
    intro b hb
    rw [S_dir hk (by omega) hb, Option.bind_some]
    unfold dirP dirQ
    cases dirV (pairT e).2.1 (pairT e).2.2 with
    | none => simp only [oc, List.append_nil]
    | some t =>
      simp only [oc, S_IsToken_eq hk _ (show (lowT (pairT e).1).length < 1073741824 by omega), Option.bind_some, isTok_low, S_ParseDirectives_c63]
      cases isTok (pairT e).1 with
      | true => rw [cond_true, cond_true, appn_ok (by simp; omega)]; rfl
      | false => rw [cond_false, cond_false, List.append_nil]; rfl
  rw [S_ParseDirectives_b1, hi, Option.bind_some, Option.bind_some, S_SplitPair_eq hk e (by omega), Option.bind_some, S_LowerText_eq hk _ (by omega), Option.bind_some]
  cases hhas : (pairT e).2.2 with
  | false =>
    rw [cond_false]
    have := fin (b := false) (by rw [hhas]; rfl)
    rw [hhas] at this
    exact this
  | true =>
    rw [cond_true, bif_dec]
    cases hv : (pairT e).2.1 with
    | nil =>
      rw [if_neg (by simp)]
      have := fin (b := false) (by rw [hv]; simp [q34])
      rw [hhas, hv] at this
      exact this
    | cons c t =>
      have u34 : ((UInt8.toNat c : Int) == 34) = (c == 34) := u8_eq c 34
      rw [if_pos (by simp), show idx (c :: t) (0 : Int) = some c from rfl, Option.bind_some, u34]
      have := fin (b := (c == 34)) (by rw [hhas, hv, q34_cons, Bool.true_and])
      rw [hhas, hv] at this
      exact this
theorem I_dir {k : Nat} (hk : 1073741824 ≤ k) {x6 : List UInt8} {x14 x15 : Int} {r3 : List IDirective} {n v : List UInt8} {has b f : Bool} {r13 : List (List UInt8)} (hv : v.length < 1073741000) (hb : b = (has && q34 v)) (hf : f = (!has || isTok v)) :
    ∃ o, I_ParseDirectives_c40 k x6 v f x14 x15 b r3 (lowT n) v has r13 = some o ∧ dirV v has = (bif o.1 then some o.2 else none) := by
  subst hb
  subst hf
  unfold I_ParseDirectives_c40 dirV
  rw [I_UnquoteText_eq hk v hv]
  simp only [Option.bind_some]
  cases has <;> cases q34 v <;> cases h1 : (unqT v).2 <;> cases isTok v <;> exact ⟨_, rfl, by simp [h1]⟩
theorem I_dpart {k : Nat} (hk : 1073741824 ≤ k) {x14 x15 : Int} {r3 : List IDirective} {r13 : List (List UInt8)} {e : List UInt8} (hi : idx r13 x15 = some e) (he : e.length < 1073741000) (hr : r3.length ≤ 1073741824) : I_ParseDirectives_b1 k x14 x15 r3 r13 = some (r3 ++ dirP e) := by
  obtain ⟨p1, p2⟩ := pairT_len e
  have fin : ∀ {b f : Bool} (hb : b = ((pairT e).2.2 && q34 (pairT e).2.1)) (hf : f = (!(pairT e).2.2 || isTok (pairT e).2.1)), ((I_ParseDirectives_c40 k (pairT e).1 (pairT e).2.1 f x14 x15 b r3 (lowT (pairT e).1) (pairT e).2.1 (pairT e).2.2 r13).bind fun o6 =>
      (bif o6.1 then ((I_IsToken k (pairT e).1).bind fun w7 => ((I_ParseDirectives_c51 k x14 x15 w7 r3 (lowT (pairT e).1) o6.2 (pairT e).2.2 r13).bind fun o8 => some (o8))) else ((I_ParseDirectives_c51 k x14 x15 false r3 (lowT (pairT e).1) o6.2 (pairT e).2.2 r13).bind fun o9 => some (o9)))) = some (r3 ++ dirP e) := by
    intro b f hb hf
    obtain ⟨o, e1, e2⟩ := I_dir hk (x6 := (pairT e).1) (x14 := x14) (x15 := x15) (r3 := r3) (n := (pairT e).1) (r13 := r13) (show (pairT e).2.1.length < 1073741000 by omega) hb hf
    rw [e1, Option.bind_some]
    unfold dirP dirQ
    rw [e2]
    cases o.1 with
    | false => simp only [cond_false, I_ParseDirectives_c51, Option.bind_some, List.append_nil]
    | true =>
      simp only [cond_true, I_IsToken_eq hk _ (show (pairT e).1.length < 1073741824 by omega), Option.bind_some, I_ParseDirectives_c51]
      cases isTok (pairT e).1 with
      | true => rw [cond_true, cond_true, appn_ok (by simp; omega)]; rfl
      | false => rw [cond_false, cond_false, List.append_nil]; rfl
  rw [I_ParseDirectives_b1, hi, Option.bind_some, Option.bind_some, I_SplitPair_eq e (by omega), Option.bind_some, I_LowerText_eq (by omega) _ (by omega), Option.bind_some]
  cases hhas : (pairT e).2.2 with
  | false =>
    simp only [Bool.not_false, cond_true, cond_false]
    have := fin (b := false) (f := true) (by rw [hhas]; rfl) (by rw [hhas]; rfl)
    rw [hhas] at this
    exact this
  | true =>
    simp only [Bool.not_true, cond_true, cond_false, hasPre_q, Option.bind_some, I_IsToken_eq hk _ (show (pairT e).2.1.length < 1073741824 by omega)]
    have := fin (b := q34 (pairT e).2.1) (f := isTok (pairT e).2.1) (by rw [hhas, Bool.true_and]) (by rw [hhas]; rfl)
    rw [hhas] at this
    exact this
theorem splitL_mem {x p : List UInt8} (h : p ∈ splitL x) : p.length ≤ x.length := by
  unfold splitL at h
  obtain ⟨y, hy, hp⟩ := List.mem_flatMap.1 h
  have h1 := cutG_mem 44 x false false [] y hy
  have h2 := trimT_len y
  unfold keepF at hp
  cases hc : (trimT y == []) with
  | true => rw [hc] at hp; simp at hp
  | false =>
    rw [hc] at hp
    have : p = trimT y := by simpa using hp
    subst this
    simp at h1; omega
theorem S_ParseDirectives_eq {k : Nat} (hk : 1073741824 ≤ k) (x : List UInt8) (h : x.length < 1073741000) : S_ParseDirectives k x = some (parseD x) := by
  have hl := splitL_len x
  have hm := fun p => splitL_mem (x := x) (p := p)
  rw [S_ParseDirectives, S_SplitList_eq hk x h, Option.bind_some]
  unfold parseD
  generalize splitL x = w at hl hm
  have := fold_all (len := w.length) (g := fun j s => s ++ (w[j]?).elim [] dirP) (Inv := fun i s => s.length ≤ i) (F := fun m i s => S_ParseDirectives_b0 k m i w s) (out := id) (fun m i s hi hI => by
    have hp := hm w[i] (List.getElem_mem hi)
    have hI : s.length ≤ i := hI
    have e1 : (w[i]?).elim [] dirP = dirP w[i] := by rw [List.getElem?_eq_getElem hi, Option.elim_some]
    have hl1 := dirP_len w[i]
    constructor
    · show S_ParseDirectives_b0 k (m + 1) (i : Int) w s = S_ParseDirectives_b0 k m _ w (s ++ (w[i]?).elim [] dirP)
      rw [e1, S_ParseDirectives_b0, bif_dec, if_pos (by omega), S_dpart hk (idx_nat hi) (by omega) (by omega), Option.bind_some, wrap_succ (by omega)]
    · show (s ++ (w[i]?).elim [] dirP).length ≤ _
      rw [e1, List.length_append]; omega) (fun m i s hi => by
    simp only [S_ParseDirectives_b0, bif_dec, lt_cast]
    rw [if_neg (by omega)]; rfl) (k := k) (by omega) (s := []) (by simp)
  have h1 : S_ParseDirectives_b0 k k 0 w [] = some (foldI (fun j s => s ++ (w[j]?).elim [] dirP) w.length 0 []) := this.1
  rw [h1, foldI_append (f := dirP) w.length 0 [] (by omega), List.drop_zero]; rfl
theorem I_ParseDirectives_eq {k : Nat} (hk : 1073741824 ≤ k) (x : List UInt8) (h : x.length < 1073741000) : I_ParseDirectives k x = some (parseD x) := by
  have hl := splitL_len x
  have hm := fun p => splitL_mem (x := x) (p := p)
  rw [I_ParseDirectives, I_SplitList_eq hk x h, Option.bind_some]
  unfold parseD
  generalize splitL x = w at hl hm
  have := fold_all (len := w.length) (g := fun j s => s ++ (w[j]?).elim [] dirP) (Inv := fun i s => s.length ≤ i) (F := fun m i s => I_ParseDirectives_b0 k m (w.length : Int) i s w) (out := id) (fun m i s hi hI => by
    have hp := hm w[i] (List.getElem_mem hi)
    have hI : s.length ≤ i := hI
    have e1 : (w[i]?).elim [] dirP = dirP w[i] := by rw [List.getElem?_eq_getElem hi, Option.elim_some]
    have hl1 := dirP_len w[i]
    constructor
    · show I_ParseDirectives_b0 k (m + 1) (w.length : Int) (i : Int) s w = I_ParseDirectives_b0 k m (w.length : Int) _ (s ++ (w[i]?).elim [] dirP) w
      rw [e1, I_ParseDirectives_b0, bif_dec, if_pos (by omega), I_dpart hk (idx_nat hi) (by omega) (by omega), Option.bind_some, wrap_succ (by omega)]
    · show (s ++ (w[i]?).elim [] dirP).length ≤ _
      rw [e1, List.length_append]; omega) (fun m i s hi => by
    simp only [I_ParseDirectives_b0, bif_dec, lt_cast]
    rw [if_neg (by omega)]; rfl) (k := k) (by omega) (s := []) (by simp)
  have h1 : I_ParseDirectives_b0 k k (w.length : Int) 0 [] w = some (foldI (fun j s => s ++ (w[j]?).elim [] dirP) w.length 0 []) := this.1
  rw [h1, foldI_append (f := dirP) w.length 0 [] (by omega), List.drop_zero]; rfl
/-! Found by name. -/
def dirN (l : List IDirective) (s : List UInt8) (i : Nat) : Bool := match l[i]? with | some e => e.Name == s | none => false
def findD (l : List IDirective) (s : List UInt8) : Option Nat := firstI (dirN l s) l.length 0
theorem S_FindDirective_eq {k : Nat} (hk : 1073741824 ≤ k) (l : List IDirective) (s : List UInt8) (h : l.length < 1073741824) : S_FindDirective k l s = some (oInt (findD l s)) := by
  have := find_all (len := l.length) (c := fun i => bif dirN l s i then some (i : Int) else none) (F := fun n i => S_FindDirective_b0 k n l s i) (fun n i hi => by
    simp only [S_FindDirective_b0, idx_nat hi, Option.bind_some, wrap_succ (by omega : i < 9223372036854775807), bif_dec, lt_cast, hi, if_true, dirN, List.getElem?_eq_getElem hi]
    cases (l[i].Name == s) <;> rfl) (fun n i hi => by
    simp only [S_FindDirective_b0, bif_dec, lt_cast]
    rw [if_neg (by omega)]) (k := k) (by omega)
  rw [S_FindDirective, this, findI_first]
  unfold findD
  cases firstI (dirN l s) l.length 0 <;> rfl
theorem I_FindDirective_eq {k : Nat} (hk : 1073741824 ≤ k) (l : List IDirective) (s : List UInt8) (h : l.length < 1073741824) : I_FindDirective k l s = some (oInt (findD l s)) := by
  have := find_all (len := l.length) (c := fun i => bif dirN l s i then some (i : Int) else none) (F := fun n i => I_FindDirective_b0 k n s l (l.length : Int) i) (fun n i hi => by
    simp only [I_FindDirective_b0, idx_nat hi, Option.bind_some, wrap_succ (by omega : i < 9223372036854775807), bif_dec, lt_cast, hi, if_true, dirN, List.getElem?_eq_getElem hi]
    cases (l[i].Name == s) <;> rfl) (fun n i hi => by
    simp only [I_FindDirective_b0, bif_dec, lt_cast]
    rw [if_neg (by omega)]) (k := k) (by omega)
  rw [I_FindDirective, this, findI_first]
  unfold findD
  cases firstI (dirN l s) l.length 0 <;> rfl
def hasD (l : List IDirective) (s : List UInt8) : Bool := (findD l s).isSome
theorem oInt_ge (o : Option Nat) : decide (oInt o ≥ 0) = o.isSome := by cases o <;> simp [oInt]
theorem oInt_lt (o : Option Nat) : decide (oInt o < 0) = o.isNone := by
  cases o with
  | none => rfl
  | some i => exact decide_eq_false (by show ¬ ((i : Int) < 0); omega)
theorem S_HasDirective_eq {k : Nat} (hk : 1073741824 ≤ k) (l : List IDirective) (s : List UInt8) (h : l.length < 1073741824) : S_HasDirective k l s = some (hasD l s) := by
  rw [S_HasDirective, S_FindDirective_eq hk l s h, Option.bind_some, oInt_ge]; rfl
theorem I_HasDirective_eq {k : Nat} (hk : 1073741824 ≤ k) (l : List IDirective) (s : List UInt8) (h : l.length < 1073741824) : I_HasDirective k l s = some (hasD l s) := by
  rw [I_HasDirective, I_FindDirective_eq hk l s h, Option.bind_some, oInt_ge]; rfl
/-! Seconds. -/
def capS (n : Int) : Int := if n < 2147483648 then n else 2147483648
def secL : List UInt8 → Int → Option Int
  | [], q => some q
  | c :: r, q => bif inR (c.toNat : Int) 48 57 then secL r (capS (10 * q + ((c.toNat : Int) - 48))) else none
theorem capS_in {q : Int} (h : 0 ≤ q) : 0 ≤ capS q ∧ capS q ≤ 2147483648 := by unfold capS; split <;> omega
theorem wrap_digS8 : ∀ j : Fin 256, (48 ≤ j.val ∧ j.val ≤ 57) → IntKind.wrap .u8 ((j.val : Int) - 48) = (j.val : Int) - 48 := by decide +kernel
theorem wrap_digS (c : UInt8) (h : 48 ≤ c.toNat ∧ c.toNat ≤ 57) : IntKind.wrap .u8 ((c.toNat : Int) - 48) = (c.toNat : Int) - 48 := wrap_digS8 ⟨c.toNat, UInt8.toNat_lt c⟩ h
theorem inR_iffS {n a b : Int} : inR n a b = true ↔ a ≤ n ∧ n ≤ b := by unfold inR; simp
theorem S_sec_loop {k : Nat} {w : Int} {x : List UInt8} (hx : x.length < 1073741824) : ∀ (n i : Nat) (q : Int), x.length - i < n → i ≤ x.length → 0 ≤ q → q ≤ 2147483648 →
    S_SecondsOf_b0 k n q x (i : Int) = some (match secL (x.drop i) q with | some r => .nrm r | none => .oth (0, true)) := by
  intro n
  induction n with
  | zero => intro i q h; omega
  | succ n ih =>
    intro i q hn hi h0 h1
    rw [S_SecondsOf_b0, bif_dec]
    by_cases c : i < x.length
    · have hb := UInt8.toNat_lt x[i]
      rw [if_pos (by omega), idx_nat c, Option.bind_some, wrap_id (n := (UInt8.toNat x[i] : Int)) (by omega) (by omega), S_l1In_eq, Option.bind_some, List.drop_eq_getElem_cons c, secL]
      cases hr : inR (x[i].toNat : Int) 48 57 with
      | false => rfl
      | true =>
        obtain ⟨i1, i2⟩ := inR_iffS.1 hr
        have cp := capS_in (q := 10 * q + ((x[i].toNat : Int) - 48)) (by omega)
        rw [Bool.not_true, cond_false, cond_true, Option.bind_some, wrap_digS _ (by omega), wrap_id (n := (x[i].toNat : Int) - 48) (by omega) (by omega), wrap_id (n := 10 * q) (by omega) (by omega), wrap_id (n := 10 * q + ((x[i].toNat : Int) - 48)) (by omega) (by omega), S_Min, bif_dec, wrap_succ (by omega)]
        have e : (if 10 * q + ((x[i].toNat : Int) - 48) < 2147483648 then some (10 * q + ((x[i].toNat : Int) - 48)) else some 2147483648) = some (capS (10 * q + ((x[i].toNat : Int) - 48))) := by unfold capS; split <;> rfl
        rw [e, Option.bind_some]
        exact ih (i + 1) _ (by omega) (by omega) cp.1 cp.2
    · rw [if_neg (by omega), List.drop_of_length_le (by omega), secL]
theorem I_sec_loop {k : Nat} {w : Int} {x : List UInt8} (hx : x.length < 1073741824) : ∀ (n i : Nat) (q : Int), x.length - i < n → i ≤ x.length → 0 ≤ q → q ≤ 2147483648 →
    I_SecondsOf_b0 k n q (x.length : Int) (i : Int) (intsOf x) = some (match secL (x.drop i) q with | some r => .nrm r | none => .oth (0, true)) := by
  intro n
  induction n with
  | zero => intro i q h; omega
  | succ n ih =>
    intro i q hn hi h0 h1
    rw [I_SecondsOf_b0, bif_dec]
    by_cases c : i < x.length
    · have hb := UInt8.toNat_lt x[i]
      rw [if_pos (by omega), ints_idx c, Option.bind_some, Option.bind_some, List.drop_eq_getElem_cons c, secL, bif_dec, bif_dec]
      cases hr : inR (x[i].toNat : Int) 48 57 with
      | false =>
        have hno : ¬ (48 ≤ (x[i].toNat : Int) ∧ (x[i].toNat : Int) ≤ 57) := fun e => by rw [inR_iffS.2 e] at hr; cases hr
        by_cases c1 : (x[i].toNat : Int) < 48
        · rw [if_pos c1]; rfl
        · rw [if_neg c1, if_pos (by omega)]; rfl
      | true =>
        obtain ⟨i1, i2⟩ := inR_iffS.1 hr
        have cp := capS_in (q := 10 * q + ((x[i].toNat : Int) - 48)) (by omega)
        rw [if_neg (by omega), if_neg (by omega), cond_true, wrap_digS _ (by omega), wrap_id (n := (x[i].toNat : Int) - 48) (by omega) (by omega), wrap_id (n := 10 * q) (by omega) (by omega), wrap_id (n := 10 * q + ((x[i].toNat : Int) - 48)) (by omega) (by omega), wrap_succ (by omega)]
        exact ih (i + 1) _ (by omega) (by omega) cp.1 cp.2
    · rw [if_neg (by omega), List.drop_of_length_le (by omega), secL]
def secV (v : List UInt8) : Int := (secL v 0).getD 0
def secOf (l : List IDirective) (s : List UInt8) : Int × Bool := match findD l s with | some i => (secV ((l[i]?.map (·.Value)).getD []), true) | none => (0, false)
def dszOk (l : List IDirective) : Prop := l.length < 1073741824 ∧ ∀ e ∈ l, e.Value.length < 1073741824
theorem findD_lt {l : List IDirective} {s : List UInt8} {i : Nat} (h : findD l s = some i) : i < l.length := firstI_lt h
theorem S_SecondsOf_eq {k : Nat} (hk : 1073741824 ≤ k) (l : List IDirective) (s : List UInt8) (h : dszOk l) : S_SecondsOf k l s = some (secOf l s) := by
  rw [S_SecondsOf, S_FindDirective_eq hk l s h.1, Option.bind_some, oInt_lt]
  unfold secOf
  cases hf : findD l s with
  | none => rfl
  | some i =>
    have hi := findD_lt hf
    have hv := h.2 l[i] (List.getElem_mem hi)
    have := S_sec_loop (k := k) (w := 0) hv k 0 0 (by omega) (by omega) (by omega) (by omega)
    rw [show (((0 : Nat)) : Int) = 0 from rfl, List.drop_zero] at this
    show (bif false then some ((0 : Int), false) else ((idx l (i : Int)).bind _)) = _
    rw [cond_false, idx_nat hi, Option.bind_some, this, Option.bind_some]
    simp only [List.getElem?_eq_getElem hi, Option.map_some, Option.getD_some]
    unfold secV
    cases secL l[i].Value 0 <;> rfl
theorem I_SecondsOf_eq {k : Nat} (hk : 1073741824 ≤ k) (l : List IDirective) (s : List UInt8) (h : dszOk l) : I_SecondsOf k l s = some (secOf l s) := by
  rw [I_SecondsOf, I_FindDirective_eq hk l s h.1, Option.bind_some, oInt_lt]
  unfold secOf
  cases hf : findD l s with
  | none => rfl
  | some i =>
    have hi := findD_lt hf
    have hv := h.2 l[i] (List.getElem_mem hi)
    have := I_sec_loop (k := k) (w := 0) hv k 0 0 (by omega) (by omega) (by omega) (by omega)
    rw [show (((0 : Nat)) : Int) = 0 from rfl, List.drop_zero] at this
    show (bif false then some ((0 : Int), false) else ((idx l (i : Int)).bind _)) = _
    rw [cond_false, idx_nat hi, Option.bind_some, ints_len, this, Option.bind_some]
    simp only [List.getElem?_eq_getElem hi, Option.map_some, Option.getD_some]
    unfold secV
    cases secL l[i].Value 0 <;> rfl
theorem parseD_ok (x : List UInt8) (h : x.length < 1073741000) : dszOk (parseD x) := by
  refine ⟨by have := parseD_len x; omega, fun e he => ?_⟩
  unfold parseD at he
  obtain ⟨y, hy, he⟩ := List.mem_flatMap.1 he
  have hm := splitL_mem hy
  have hp := pairT_len y
  unfold dirP dirQ at he
  cases hd : dirV (pairT y).2.1 (pairT y).2.2 with
  | none => rw [hd] at he; simp at he
  | some v =>
    rw [hd] at he
    simp only at he
    have hl := dirV_len hd
    cases ht : isTok (pairT y).1 with
    | false => rw [ht] at he; simp at he
    | true =>
      rw [ht] at he
      have : e = ⟨lowT (pairT y).1, v, (pairT y).2.2⟩ := by simpa using he
      subst this
      show v.length < _
      omega
/-! The rules of a message. -/
def rulesT (fs : List IField) : List IDirective := parseD (getF fs [99, 97, 99, 104, 101, 45, 99, 111, 110, 116, 114, 111, 108]).1
theorem S_l5Get_eq {k : Nat} (hk : 1073741824 ≤ k) (l : List IField) (n : List UInt8) (h : fsz l < 268435456) : S_l5Get k l n = some (getF l n).1 := by rw [S_l5Get, S_GetField_eq hk l n h]; rfl
theorem S_l19Rules_eq {k : Nat} (hk : 1073741824 ≤ k) (l : List IField) (h : fsz l < 268435456) : S_l19Rules k l = some (rulesT l) := by
  have := getF_len l [99, 97, 99, 104, 101, 45, 99, 111, 110, 116, 114, 111, 108]
  rw [S_l19Rules, S_l5Get_eq hk l _ h, Option.bind_some, S_ParseDirectives_eq hk _ (by omega)]; rfl
theorem I_rulesOf_eq {k : Nat} (hk : 1073741824 ≤ k) (l : List IField) (h : fsz l < 268435456) : I_rulesOf k l = some (rulesT l) := by
  have := getF_len l [99, 97, 99, 104, 101, 45, 99, 111, 110, 116, 114, 111, 108]
  rw [I_rulesOf, I_GetField_eq hk l _ h, Option.bind_some, I_ParseDirectives_eq hk _ (by omega)]; rfl
theorem rulesT_ok (l : List IField) (h : fsz l < 268435456) : dszOk (rulesT l) := by
  have := getF_len l [99, 97, 99, 104, 101, 45, 99, 111, 110, 116, 114, 111, 108]
  exact parseD_ok _ (by omega)
def boundT (l : List IDirective) : Bool := hasD l [109, 117, 115, 116, 45, 114, 101, 118, 97, 108, 105, 100, 97, 116, 101] || hasD l [112, 114, 111, 120, 121, 45, 114, 101, 118, 97, 108, 105, 100, 97, 116, 101] || hasD l [115, 45, 109, 97, 120, 97, 103, 101] || hasD l [110, 111, 45, 99, 97, 99, 104, 101]
theorem S_l22Bound_eq {k : Nat} (hk : 1073741824 ≤ k) (l : List IDirective) (h : l.length < 1073741824) : S_l22Bound k l = some (boundT l) := by
  rw [S_l22Bound]
  simp only [S_HasDirective_eq hk l _ h, Option.bind_some]
  unfold boundT
  cases hasD l [109, 117, 115, 116, 45, 114, 101, 118, 97, 108, 105, 100, 97, 116, 101] <;> cases hasD l [112, 114, 111, 120, 121, 45, 114, 101, 118, 97, 108, 105, 100, 97, 116, 101] <;> cases hasD l [115, 45, 109, 97, 120, 97, 103, 101] <;> rfl
theorem hasAny_step {k : Nat} (hk : 1073741824 ≤ k) {l : List IDirective} (h : l.length < 1073741824) {ns : List (List UInt8)} (hn : ns.length < 1073741824) : ∀ (n i : Nat), i ≤ ns.length → ns.length - i < n →
    I_hasAny_b0 k n l ns (ns.length : Int) (i : Int) = some (bif (ns.drop i).any (hasD l) then .oth true else .nrm ()) := by
  intro n
  induction n with
  | zero => intro i _ h; omega
  | succ n ih =>
    intro i hi hn'
    rw [I_hasAny_b0, bif_dec]
    by_cases c : i < ns.length
    · rw [if_pos (by omega), idx_nat c, Option.bind_some, I_HasDirective_eq hk l _ h, Option.bind_some, List.drop_eq_getElem_cons c, List.any_cons, wrap_succ (by omega), ih (i + 1) (by omega) (by omega)]
      cases hasD l ns[i] <;> rfl
    · rw [if_neg (by omega), List.drop_of_length_le (by omega)]; rfl
theorem I_hasAny_eq {k : Nat} (hk : 1073741824 ≤ k) (l : List IDirective) (ns : List (List UInt8)) (h : l.length < 1073741824) (hn : ns.length < 1073741824) : I_hasAny k l ns = some (ns.any (hasD l)) := by
  have := hasAny_step (k := k) hk h hn k 0 (by omega) (by omega)
  rw [show (((0 : Nat)) : Int) = 0 from rfl, List.drop_zero] at this
  rw [I_hasAny, this, Option.bind_some]
  cases ns.any (hasD l) <;> rfl
theorem I_isBound_eq {k : Nat} (hk : 1073741824 ≤ k) (l : List IDirective) (h : l.length < 1073741824) : I_isBound k l = some (boundT l) := by
  rw [I_isBound, I_hasAny_eq hk l _ h (by simp)]
  simp [boundT, List.any_cons, Bool.or_assoc]
theorem fsz_in : ∀ (x : List LField), fsz (x.map to_LField) ≤ szL sz_LField x
  | [] => by simp [fsz, szL]
  | e :: l => by
    have := fsz_in l
    unfold fsz szL at this ⊢
    simp only [List.map_cons, List.sum_cons, List.length_cons, List.length_map] at this ⊢
    have h1 : (to_LField e).Value.length ≤ sz_LField e := by unfold sz_LField; simp only [to_LField]; omega
    omega
theorem req_in {a : LRequest} (h : sz_LRequest a ≤ 1048576) : fsz (to_LRequest a).Fields ≤ 1048576 ∧ (to_LRequest a).Fields.length < 1073741824 := by
  have h1 := fsz_in a.Fields
  unfold sz_LRequest at h
  have h2 : (to_LRequest a).Fields = a.Fields.map to_LField := rfl
  have h3 : (a.Fields.map to_LField).length ≤ fsz (a.Fields.map to_LField) := by unfold fsz; omega
  rw [h2]; omega
/-! Decimal numerals. -/
def dd (m : Nat) : List UInt8 := if m = 0 then [] else Lib.decDigits m
theorem dd_step {m : Nat} (h : m ≠ 0) : dd m = dd (m / 10) ++ [UInt8.ofNat (48 + m % 10)] := by
  unfold dd
  rw [if_neg h]
  by_cases c : m < 10
  · rw [Lib.decDigits, dif_pos c, if_pos (by omega), Nat.mod_eq_of_lt c]; rfl
  · rw [Lib.decDigits, dif_neg c, if_neg (by omega)]
theorem dd_len (d : Nat) : ∀ m : Nat, m < 10 ^ d → (dd m).length ≤ d := by
  induction d with
  | zero => intro m h; have : m = 0 := by simpa using h
            subst this; simp [dd]
  | succ d ih =>
    intro m h
    by_cases h0 : m = 0
    · subst h0; simp [dd]
    · rw [dd_step h0, List.length_append]
      have := ih (m / 10) (by rw [Nat.pow_succ] at h; omega)
      simp; omega
theorem wrap_digit : ∀ j : Fin 10, bytesOf [IntKind.wrap .u8 (IntKind.wrap .i64 (48 + ((j.val : Nat) : Int)))] = [UInt8.ofNat (48 + j.val)] := by decide +kernel
theorem digit_of (m : Nat) : bytesOf [IntKind.wrap .u8 (IntKind.wrap .i64 (48 + ((m % 10 : Nat) : Int)))] = [UInt8.ofNat (48 + m % 10)] := wrap_digit ⟨m % 10, by omega⟩
theorem itoa_dd (n : Int) : Lib.itoa n = if n = 0 then [48] else if n < 0 then 45 :: dd n.natAbs else dd n.natAbs := by
  unfold Lib.itoa
  by_cases h0 : n = 0
  · subst h0; rw [if_neg (by omega), if_pos rfl, Lib.decDigits]; rfl
  · rw [if_neg h0]
    have hm : ¬ n.natAbs = 0 := by omega
    unfold dd
    rw [if_neg hm]
    by_cases h : n < 0
    · rw [if_pos h, if_pos h]
    · rw [if_neg h, if_neg h, show n.toNat = n.natAbs by omega]
theorem pow19 : (10 : Nat) ^ 19 = 10000000000000000000 := by decide
theorem itoa_len {n : Int} (h1 : -9223372036854775808 ≤ n) (h2 : n ≤ 9223372036854775807) : (Lib.itoa n).length ≤ 20 := by
  have hp := pow19
  have hl := dd_len 19 n.natAbs (by omega)
  rw [itoa_dd]
  split
  · simp
  · split
    · simp; omega
    · omega
/-! Decimal numerals that are read. -/
def pInt (s : List UInt8) : Int × Bool :=
  match (if s.length ≤ 13 then Lib.decNat s else none) with
  | some m => bif decide ((m : Int) ≤ 1000000000000) && (Lib.itoa (m : Int) == s) then ((m : Int), true) else (0, false)
  | none => (0, false)
theorem decFrom_lt : ∀ (l : List UInt8) (acc n : Nat), Lib.decFrom acc l = some n → n < (acc + 1) * 10 ^ l.length
  | [], acc, n, h => by
    simp only [Lib.decFrom, Option.some.injEq] at h
    subst h; simp
  | b :: r, acc, n, h => by
    simp only [Lib.decFrom] at h
    split at h
    · rename_i d hd
      have hd9 : d ≤ 9 := by
        unfold Lib.digitVal at hd
        split at hd
        · cases hd; omega
        · cases hd
      have := decFrom_lt r _ _ h
      rw [List.length_cons, Nat.pow_succ]
      calc n < (acc * 10 + d + 1) * 10 ^ r.length := this
        _ ≤ ((acc + 1) * 10) * 10 ^ r.length := Nat.mul_le_mul_right _ (by omega)
        _ = (acc + 1) * (10 ^ r.length * 10) := by rw [Nat.mul_assoc, Nat.mul_comm 10]
    · cases h
theorem decNat_lt {s : List UInt8} {n : Nat} (h : Lib.decNat s = some n) : n < 10 ^ s.length := by
  unfold Lib.decNat at h
  split at h
  · cases h
  · have := decFrom_lt s 0 n h
    simpa using this
theorem itoa_head (m : Nat) : ∃ c r, Lib.itoa (m : Int) = c :: r ∧ 48 ≤ c.toNat ∧ c.toNat ≤ 57 := by
  rw [itoa_dd]
  have hd : ∀ (f m : Nat), m ≤ f → m ≠ 0 → ∃ c r, dd m = c :: r ∧ 48 ≤ c.toNat ∧ c.toNat ≤ 57 := by
    intro f
    induction f with
    | zero => intro m h1 h2; omega
    | succ f ih =>
      intro m h1 h2
      rw [dd_step h2]
      by_cases h0 : m / 10 = 0
      · rw [h0]
        refine ⟨UInt8.ofNat (48 + m % 10), [], by simp [dd], ?_⟩
        have : (UInt8.ofNat (48 + m % 10)).toNat = 48 + m % 10 := by simp [UInt8.toNat_ofNat]; omega
        rw [this]; omega
      · obtain ⟨c, r, e, b1, b2⟩ := ih (m / 10) (by omega) h0
        exact ⟨c, r ++ [UInt8.ofNat (48 + m % 10)], by rw [e]; rfl, b1, b2⟩
  split
  · exact ⟨48, [], rfl, by decide, by decide⟩
  · rename_i h0
    rw [if_neg (by omega)]
    exact hd m m (Nat.le_refl _) (by omega)
theorem itoa_ne_sign (m : Nat) {c : UInt8} (r : List UInt8) (h : c.toNat < 48) : Lib.itoa (m : Int) ≠ c :: r := by
  obtain ⟨c', r', e, h1, _⟩ := itoa_head m
  rw [e]
  intro he
  simp only [List.cons.injEq] at he
  rw [he.1] at h1; omega
theorem decNat_sign {c : UInt8} (r : List UInt8) (h : c.toNat < 48) : Lib.decNat (c :: r) = none := by
  simp [Lib.decNat, Lib.decFrom, Lib.digitVal, show ¬ 48 ≤ c.toNat by omega]
def notDig (s : List UInt8) (i : Nat) : Bool := match s[i]? with | some c => !inR (c.toNat : Int) 48 57 | none => false
/-! Fields that are right. -/
def badV (c : UInt8) : Bool := !inR (c.toNat : Int) 32 126 && c != 9
def bvP (x : List UInt8) (i : Nat) : Bool := match x[i]? with | some c => badV c | none => false
def valOK (x : List UInt8) : Bool := (firstI (bvP x) x.length 0).isNone && decide ((x.length : Int) ≤ 200) && (trimT x == x)
def nameOK (x : List UInt8) : Bool := isTok x && (lowT x == x)
def bfP (l : List IField) (i : Nat) : Bool := match l[i]? with | some e => !nameOK e.Name || !valOK e.Value | none => false
def areF (l : List IField) : Bool := (firstI (bfP l) l.length 0).isNone && decide ((l.length : Int) ≤ 24)
theorem u8_ne9 (c : UInt8) : ((UInt8.toNat c : Int) != (9 : Int)) = (c != 9) := by
  have := u8_eq c 9
  unfold bne
  rw [← this]; rfl
def shortF (l : List IField) : Prop := ∀ e ∈ l, e.Name.length < 1073741824 ∧ e.Value.length < 1073741824
def nmP (l : List IField) (n : List UInt8) (i : Nat) : Bool := match l[i]? with | some e => e.Name == n | none => false
def hasF (l : List IField) (n : List UInt8) : Bool := l.any fun e => e.Name == n
theorem firstI_any (l : List IField) (n : List UInt8) : (firstI (nmP l n) l.length 0).isSome = hasF l n := by
  unfold hasF
  cases hf : firstI (nmP l n) l.length 0 with
  | some j =>
    obtain ⟨_, h1, h2, _⟩ := firstI_some _ _ _ hf
    have hj : j < l.length := by omega
    simp only [nmP, List.getElem?_eq_getElem hj] at h2
    exact (List.any_eq_true.2 ⟨l[j], List.getElem_mem hj, h2⟩).symm
  | none =>
    have hn := firstI_none _ _ hf
    refine Eq.symm (List.any_eq_false.2 fun e he => ?_)
    obtain ⟨j, hj, rfl⟩ := List.mem_iff_getElem.1 he
    have := hn j (by omega) (by omega)
    simp only [nmP, List.getElem?_eq_getElem hj] at this
    rw [this]; simp
theorem getF_has (n : List UInt8) : ∀ l : List IField, decide (((valsF l n).length : Int) > 0) = hasF l n
  | [] => rfl
  | e :: l => by
    have ih := getF_has n l
    unfold valsF hasF at ih ⊢
    rw [List.flatMap_cons, List.any_cons, List.length_append]
    unfold valOfF at ih ⊢
    cases (e.Name == n) with
    | true => simp only [cond_true, Bool.true_or, List.length_cons, List.length_nil]; exact decide_eq_true (by omega)
    | false => simp only [cond_false, Bool.false_or, List.length_nil, Nat.zero_add]; exact ih
/-! Answers that are right. -/
def clen : List UInt8 := [99, 111, 110, 116, 101, 110, 116, 45, 108, 101, 110, 103, 116, 104]
def isResp (x : IResponse) : Bool := inR x.Code 200 599 && areF x.Fields && decide ((x.Fields.length : Int) < 24) && !hasF x.Fields clen && decide ((x.Body.length : Int) ≤ 600)
theorem short_in {x : List LField} (h : szL sz_LField x ≤ 1048576) : shortF (x.map to_LField) := by
  intro e he
  obtain ⟨y, hy, rfl⟩ := List.mem_map.1 he
  have := sz_mem (g := sz_LField) hy
  have h2 : sz_LField y ≤ 1048576 := by omega
  unfold sz_LField at h2
  simp only [to_LField]; omega
theorem resp_in {a : LResponse} (h : sz_LResponse a ≤ 1048576) : fsz (to_LResponse a).Fields ≤ 1048576 ∧ (to_LResponse a).Fields.length < 1073741824 ∧ shortF (to_LResponse a).Fields ∧ (to_LResponse a).Body.length ≤ 1048576 := by
  have h1 := fsz_in a.Fields
  unfold sz_LResponse at h
  have h2 : (to_LResponse a).Fields = a.Fields.map to_LField := rfl
  have h3 : (a.Fields.map to_LField).length ≤ fsz (a.Fields.map to_LField) := by unfold fsz; omega
  have h4 : (to_LResponse a).Body = a.Body := rfl
  rw [h2, h4]
  exact ⟨by omega, by omega, short_in (by omega), by omega⟩
def ageF (l : List IField) : Int := if 2147483648 < (pInt (getF l [97, 103, 101]).1).1 then 2147483648 else (pInt (getF l [97, 103, 101]).1).1
theorem secOf_has (l : List IDirective) (s : List UInt8) : (secOf l s).2 = (findD l s).isSome := by unfold secOf; cases findD l s <;> rfl
def staleT (a : List IDirective) (over : Int) : Bool := match findD a [109, 97, 120, 45, 115, 116, 97, 108, 101] with
  | some i => !((a[i]?.map (·.Has)).getD false) || decide (over ≤ (secOf a [109, 97, 120, 45, 115, 116, 97, 108, 101]).1)
  | none => false
def askedT (a : List IDirective) (age life : Int) : Bool :=
  !hasD a [110, 111, 45, 99, 97, 99, 104, 101] && (!(secOf a [109, 97, 120, 45, 97, 103, 101]).2 || decide (age ≤ (secOf a [109, 97, 120, 45, 97, 103, 101]).1)) && (!(secOf a [109, 105, 110, 45, 102, 114, 101, 115, 104]).2 || decide (IntKind.wrap .i64 (life - age) ≥ (secOf a [109, 105, 110, 45, 102, 114, 101, 115, 104]).1))
def plan0 (a b : List IDirective) (age life : Int) : Int :=
  bif !askedT a age life || hasD b [110, 111, 45, 99, 97, 99, 104, 101] then 3 else bif decide (age < life) then 1 else bif boundT b || (secOf a [109, 105, 110, 45, 102, 114, 101, 115, 104]).2 then 3 else
  bif staleT a (IntKind.wrap .i64 (age - life)) then 1 else bif (secOf b [115, 116, 97, 108, 101, 45, 119, 104, 105, 108, 101, 45, 114, 101, 118, 97, 108, 105, 100, 97, 116, 101]).2 && decide (IntKind.wrap .i64 (age - life) ≤ (secOf b [115, 116, 97, 108, 101, 45, 119, 104, 105, 108, 101, 45, 114, 101, 118, 97, 108, 105, 100, 97, 116, 101]).1) then 2 else 3
def planT (a b : List IDirective) (age life : Int) : Int := bif (plan0 a b age life == 3) && hasD a [111, 110, 108, 121, 45, 105, 102, 45, 99, 97, 99, 104, 101, 100] then 4 else plan0 a b age life
theorem S_l22Asked_eq {k : Nat} (hk : 1073741824 ≤ k) (a : List IDirective) (age life : Int) (h : dszOk a) : S_l22Asked k a age life = some (askedT a age life) := by
  rw [S_l22Asked, S_SecondsOf_eq hk _ _ h, Option.bind_some, S_SecondsOf_eq hk _ _ h, Option.bind_some, S_HasDirective_eq hk _ _ h.1, Option.bind_some]
  unfold askedT
  cases hasD a [110, 111, 45, 99, 97, 99, 104, 101] <;> cases (secOf a [109, 97, 120, 45, 97, 103, 101]).2 <;> cases decide (age ≤ (secOf a [109, 97, 120, 45, 97, 103, 101]).1) <;> cases (secOf a [109, 105, 110, 45, 102, 114, 101, 115, 104]).2 <;> rfl
theorem S_stale {k : Nat} (a : List IDirective) (over x16 : Int) (x17 : Bool) : S_PlanFor_c60 k 3 over (secOf a [109, 97, 120, 45, 115, 116, 97, 108, 101]).1 (secOf a [109, 97, 120, 45, 115, 116, 97, 108, 101]).2 (oInt (findD a [109, 97, 120, 45, 115, 116, 97, 108, 101])) x16 x17 false a =
    some (bif staleT a over then 1 else bif x17 && decide (over ≤ x16) then 2 else 3) := by
  unfold S_PlanFor_c60 staleT
  rw [secOf_has, cond_false]
  cases hf : findD a [109, 97, 120, 45, 115, 116, 97, 108, 101] with
  | none =>
    simp only [Option.isSome_none, cond_false, S_PlanFor_c66, S_PlanFor_c81, Option.bind_some]
    cases x17 <;> cases decide (over ≤ x16) <;> rfl
  | some i =>
    have hi := findD_lt hf
    simp only [Option.isSome_some, cond_true, oInt, idx_nat hi, Option.bind_some, S_PlanFor_c66, S_PlanFor_c81, List.getElem?_eq_getElem hi, Option.map_some, Option.getD_some]
    cases a[i].Has <;> cases decide (over ≤ (secOf a [109, 97, 120, 45, 115, 116, 97, 108, 101]).1) <;> cases x17 <;> cases decide (over ≤ x16) <;> rfl
theorem S_PlanFor_eq {k : Nat} (hk : 1073741824 ≤ k) (r : IRequest) (x : IResponse) (age life : Int) (h1 : fsz r.Fields < 268435456) (h2 : fsz x.Fields < 268435456) : S_PlanFor k r x age life = some (planT (rulesT r.Fields) (rulesT x.Fields) age life) := by
  have d1 := rulesT_ok _ h1
  have d2 := rulesT_ok _ h2
  rw [S_PlanFor, S_l19Rules_eq hk _ h1, Option.bind_some, S_l19Rules_eq hk _ h2, Option.bind_some]
  generalize rulesT r.Fields = a at d1 ⊢
  generalize rulesT x.Fields = b at d2 ⊢
  rw [S_SecondsOf_eq hk _ _ d1, Option.bind_some, S_FindDirective_eq hk _ _ d1.1, Option.bind_some, S_SecondsOf_eq hk _ _ d2, Option.bind_some, S_SecondsOf_eq hk _ _ d1, Option.bind_some]
  have hb : S_PlanFor_b0 k age life 3 (IntKind.wrap .i64 (age - life)) (secOf a [109, 97, 120, 45, 115, 116, 97, 108, 101]).1 (secOf a [109, 97, 120, 45, 115, 116, 97, 108, 101]).2 (oInt (findD a [109, 97, 120, 45, 115, 116, 97, 108, 101])) (secOf b [115, 116, 97, 108, 101, 45, 119, 104, 105, 108, 101, 45, 114, 101, 118, 97, 108, 105, 100, 97, 116, 101]).1 (secOf b [115, 116, 97, 108, 101, 45, 119, 104, 105, 108, 101, 45, 114, 101, 118, 97, 108, 105, 100, 97, 116, 101]).2 (secOf a [109, 105, 110, 45, 102, 114, 101, 115, 104]).2 a b = some (plan0 a b age life) := by
    rw [S_PlanFor_b0, S_l22Asked_eq hk _ _ _ d1, Option.bind_some, S_HasDirective_eq hk _ _ d2.1]
    simp only [S_PlanFor_c46, S_PlanFor_c56, S_l22Bound_eq hk _ d2.1, Option.bind_some]
    unfold plan0
    cases askedT a age life <;> cases hasD b [110, 111, 45, 99, 97, 99, 104, 101] <;> cases decide (age < life) <;> cases boundT b <;> cases (secOf a [109, 105, 110, 45, 102, 114, 101, 115, 104]).2 <;> first | rfl | (simp only [Bool.not_true, Bool.not_false, cond_true, cond_false, S_stale, Option.bind_some, Bool.or_false, Bool.or_true, Bool.false_or, Bool.true_or]; done) | (simp only [Bool.not_true, Bool.not_false, cond_true, cond_false, Option.bind_some, S_PlanFor_c60, Bool.or_false, Bool.or_true, Bool.false_or, Bool.true_or]; done)
  rw [hb, Option.bind_some, S_HasDirective_eq hk _ _ d1.1]
  unfold planT
  cases (plan0 a b age life == 3) <;> cases hasD a [111, 110, 108, 121, 45, 105, 102, 45, 99, 97, 99, 104, 101, 100] <;> rfl
theorem I_stale {k : Nat} (hk : 1073741824 ≤ k) (a b : List IDirective) (age life : Int) (h : dszOk a) : I_planFor_c63 k a b age life (oInt (findD a [109, 97, 120, 45, 115, 116, 97, 108, 101])) (decide (oInt (findD a [109, 97, 120, 45, 115, 116, 97, 108, 101]) ≥ 0)) =
    some (bif staleT a (IntKind.wrap .i64 (age - life)) then .oth 1 else .nrm ()) := by
  unfold I_planFor_c63 staleT
  rw [oInt_ge, I_SecondsOf_eq hk _ _ h, Option.bind_some]
  cases hf : findD a [109, 97, 120, 45, 115, 116, 97, 108, 101] with
  | none => rfl
  | some i =>
    have hi := findD_lt hf
    simp only [Option.isSome_some, cond_true, oInt, idx_nat hi, Option.bind_some, List.getElem?_eq_getElem hi, Option.map_some, Option.getD_some]
    cases a[i].Has <;> cases decide (IntKind.wrap .i64 (age - life) ≤ (secOf a [109, 97, 120, 45, 115, 116, 97, 108, 101]).1) <;> rfl
theorem dec_lt_le {a b : Int} : decide (a < b) = !decide (b ≤ a) := by
  by_cases c : b ≤ a
  · rw [decide_eq_true c, decide_eq_false (by omega)]; rfl
  · rw [decide_eq_false c, decide_eq_true (by omega)]; rfl
theorem I_planFor_eq {k : Nat} (hk : 1073741824 ≤ k) (a b : List IDirective) (age life : Int) (d1 : dszOk a) (d2 : dszOk b) : I_planFor k a b age life = some (plan0 a b age life) := by
  rw [I_planFor]
  simp only [I_SecondsOf_eq hk _ _ d1, I_SecondsOf_eq hk _ _ d2, I_HasDirective_eq hk _ _ d1.1, I_HasDirective_eq hk _ _ d2.1, I_isBound_eq hk _ d2.1, I_FindDirective_eq hk _ _ d1.1, Option.bind_some, I_stale hk _ _ _ _ d1]
  have e1 : decide ((secOf a [109, 97, 120, 45, 97, 103, 101]).1 < age) = !decide (age ≤ (secOf a [109, 97, 120, 45, 97, 103, 101]).1) := dec_lt_le
  have e2 : decide ((secOf a [109, 105, 110, 45, 102, 114, 101, 115, 104]).1 > IntKind.wrap .i64 (life - age)) = !decide (IntKind.wrap .i64 (life - age) ≥ (secOf a [109, 105, 110, 45, 102, 114, 101, 115, 104]).1) := dec_lt_le
  rw [e1, e2]
  unfold plan0 askedT
  generalize hasD a [110, 111, 45, 99, 97, 99, 104, 101] = b1
  generalize hasD b [110, 111, 45, 99, 97, 99, 104, 101] = b2
  generalize (secOf a [109, 97, 120, 45, 97, 103, 101]).2 = b3
  generalize decide (age ≤ (secOf a [109, 97, 120, 45, 97, 103, 101]).1) = b4
  generalize (secOf a [109, 105, 110, 45, 102, 114, 101, 115, 104]).2 = b5
  generalize decide (IntKind.wrap .i64 (life - age) ≥ (secOf a [109, 105, 110, 45, 102, 114, 101, 115, 104]).1) = b6
  generalize decide (age < life) = b7
  generalize boundT b = b8
  generalize staleT a (IntKind.wrap .i64 (age - life)) = b9
  generalize (secOf b [115, 116, 97, 108, 101, 45, 119, 104, 105, 108, 101, 45, 114, 101, 118, 97, 108, 105, 100, 97, 116, 101]).2 = b10
  generalize decide (IntKind.wrap .i64 (age - life) ≤ (secOf b [115, 116, 97, 108, 101, 45, 119, 104, 105, 108, 101, 45, 114, 101, 118, 97, 108, 105, 100, 97, 116, 101]).1) = b11
  revert b1 b2 b3 b4 b5 b6 b7 b8 b9 b10 b11
  have fin : ∀ b1 b2 b3 b4 b5 b6 b7 b8 b9 b10 b11 : Bool,
    (bif b1 then some (3 : Int) else (bif b3 then (bif (!b4) then some (3 : Int) else (bif b5 then (bif (!b6) then some (3 : Int) else (bif b2 then some (3 : Int) else (bif b7 then some (1 : Int) else (bif b8 then some (3 : Int) else (bif b5 then some (3 : Int) else
      oc (bif b9 then (.oth 1 : Oc Unit Int) else .nrm ()) (fun _ => (bif b10 then (bif b11 then some (2 : Int) else some (3 : Int)) else some (3 : Int))) (fun o => some o)))))) else (bif b2 then some (3 : Int) else (bif b7 then some (1 : Int) else (bif b8 then some (3 : Int) else (bif b5 then some (3 : Int) else
      oc (bif b9 then (.oth 1 : Oc Unit Int) else .nrm ()) (fun _ => (bif b10 then (bif b11 then some (2 : Int) else some (3 : Int)) else some (3 : Int))) (fun o => some o))))))) else
      (bif b5 then (bif (!b6) then some (3 : Int) else (bif b2 then some (3 : Int) else (bif b7 then some (1 : Int) else (bif b8 then some (3 : Int) else (bif b5 then some (3 : Int) else
      oc (bif b9 then (.oth 1 : Oc Unit Int) else .nrm ()) (fun _ => (bif b10 then (bif b11 then some (2 : Int) else some (3 : Int)) else some (3 : Int))) (fun o => some o)))))) else (bif b2 then some (3 : Int) else (bif b7 then some (1 : Int) else (bif b8 then some (3 : Int) else (bif b5 then some (3 : Int) else
      oc (bif b9 then (.oth 1 : Oc Unit Int) else .nrm ()) (fun _ => (bif b10 then (bif b11 then some (2 : Int) else some (3 : Int)) else some (3 : Int))) (fun o => some o)))))))) =
    some (bif !(!b1 && (!b3 || b4) && (!b5 || b6)) || b2 then (3 : Int) else bif b7 then 1 else bif b8 || b5 then 3 else bif b9 then 1 else bif b10 && b11 then 2 else 3) := by
    intro b1 b2 b3 b4 b5 b6 b7 b8 b9 b10 b11
    cases b1 <;> cases b2 <;> cases b3 <;> cases b4 <;> cases b5 <;> cases b6 <;> first | rfl | (cases b7 <;> cases b8 <;> cases b9 <;> cases b10 <;> cases b11 <;> rfl)
  exact fin
theorem I_PlanFor_eq {k : Nat} (hk : 1073741824 ≤ k) (r : IRequest) (x : IResponse) (age life : Int) (h1 : fsz r.Fields < 268435456) (h2 : fsz x.Fields < 268435456) : I_PlanFor k r x age life = some (planT (rulesT r.Fields) (rulesT x.Fields) age life) := by
  have d1 := rulesT_ok _ h1
  have d2 := rulesT_ok _ h2
  rw [I_PlanFor]
  simp only [I_rulesOf_eq hk _ h1, Option.bind_some, I_rulesOf_eq hk _ h2, I_planFor_eq hk _ _ _ _ d1 d2, I_HasDirective_eq hk _ _ d1.1]
  unfold planT
  cases (plan0 (rulesT r.Fields) (rulesT x.Fields) age life == 3) <;> cases hasD (rulesT r.Fields) [111, 110, 108, 121, 45, 105, 102, 45, 99, 97, 99, 104, 101, 100] <;> rfl
theorem FnExactPlanFor_pure {k : Nat} (hk : 1073741824 ≤ k) (a0 : LRequest) (a1 : LResponse) (a2 a3 : Int) (h0 : V_LRequest a0) (h1 : V_LResponse a1) (h2 : InI a2) (h3 : InI a3) : L_FnExactPlanFor k a0 a1 a2 a3 = some true := by
  unfold L_FnExactPlanFor
  rw [L_szRequest_eq hk h0 _ (by omega) (by omega), Option.bind_some, bif_dec]
  by_cases c3 : (sz_LRequest a0 : Int) ≤ 1048576
  case neg => rw [if_neg c3, if_pos (by omega)]
  have c4 : sz_LRequest a0 ≤ 1048576 := by omega
  rw [if_pos c3, if_neg (by omega), L_szResponse_eq hk h1 _ (by omega) (by omega), Option.bind_some, bif_dec]
  by_cases c5 : (sz_LResponse a1 : Int) ≤ 1048576 - sz_LRequest a0
  case neg => rw [if_neg c5, if_pos (by omega)]
  have c6 : sz_LResponse a1 ≤ 1048576 := by omega
  obtain ⟨r1, r2⟩ := req_in c4
  obtain ⟨s1, s2, s3, s4⟩ := resp_in c6
  have f1 : fsz (to_LRequest a0).Fields < 268435456 := by omega
  have f2 : fsz (to_LResponse a1).Fields < 268435456 := by omega
  rw [if_pos c5, if_neg (by omega)]
  simp only [L_toRequest_eq hk a0 c4, L_toResponse_eq hk a1 c6, Option.bind_some, S_PlanFor_eq hk _ _ _ _ f1 f2, I_PlanFor_eq hk _ _ _ _ f1 f2, L_eqRequest_eq hk _ _ r2, L_eqResponse_eq hk _ _ s2, decide_true, Bool.not_true, cond_false, bne_self_eq_false]

end Go.YtbfkbplolhniiaaDoor
