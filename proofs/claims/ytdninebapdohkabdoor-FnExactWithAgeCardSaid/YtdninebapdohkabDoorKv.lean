/- What the functions come to. Nothing is claimed here. -/
import Derived.Test.YtdninebapdohkabDoorKu
set_option linter.unusedVariables false
set_option linter.unusedSimpArgs false
set_option maxRecDepth 100000
namespace Go.YtdninebapdohkabDoor
open Go Go.RowKit Go.Pv Go.Pu

/-! A field set. -/
def stepF (n v : List UInt8) (s : Bool × List IField) (e : IField) : Bool × List IField := bif !(e.Name == n) then (s.1, s.2 ++ [e]) else bif !s.1 then (true, s.2 ++ [⟨n, v⟩]) else s
def setF (l : List IField) (n v : List UInt8) : List IField := bif !(l.foldl (stepF n v) (false, [])).1 then (l.foldl (stepF n v) (false, [])).2 ++ [⟨n, v⟩] else (l.foldl (stepF n v) (false, [])).2
theorem stepF_len (n v : List UInt8) (s : Bool × List IField) (e : IField) : (stepF n v s e).2.length ≤ s.2.length + 1 := by
  unfold stepF
  cases (e.Name == n) <;> cases s.1 <;> simp
theorem foldF_len (n v : List UInt8) : ∀ (l : List IField) (s : Bool × List IField), (l.foldl (stepF n v) s).2.length ≤ s.2.length + l.length
  | [], s => by simp
  | e :: l, s => by
    rw [List.foldl_cons]
    have := foldF_len n v l (stepF n v s e)
    have := stepF_len n v s e
    simp; omega
theorem setF_len (l : List IField) (n v : List UInt8) : (setF l n v).length ≤ l.length + 1 := by
  have := foldF_len n v l (false, [])
  simp at this
  unfold setF
  cases (l.foldl (stepF n v) (false, [])).1 <;> simp <;> omega
theorem S_SetField_eq {k : Nat} (hk : 1073741824 ≤ k) (l : List IField) (n v : List UInt8) (h : l.length < 1073741823) : S_SetField k l n v = some (setF l n v) := by
  have := fold_all (len := l.length) (g := fun j s => (l[j]?).elim s (stepF n v s)) (Inv := fun i s => s.2.length ≤ i) (F := fun m i (s : Bool × List IField) => S_SetField_b0 k m l n v s.1 i s.2) (out := id) (fun m i s hi hI => by
    have hl := stepF_len n v s l[i]
    have ha : ∀ e, app 32 s.2 [e] = some (s.2 ++ [e]) := fun e => appn_ok (by simp; omega)
    simp only [S_SetField_b0, bif_dec, lt_cast, hi, if_true, S_SetField_b1, S_SetField_b2, idx_nat hi, Option.bind_some, S_SetField_c17, S_SetField_c32, wrap_succ (by omega : i < 9223372036854775807), List.getElem?_eq_getElem hi, Option.elim_some, ha]
    refine ⟨?_, by omega⟩
    unfold stepF
    obtain ⟨s1, s2⟩ := s
    cases (l[i].Name == n) <;> cases s1 <;> rfl) (fun m i s hi => by
    simp only [S_SetField_b0, bif_dec, lt_cast]
    rw [if_neg (by omega)]; rfl) (k := k) (by omega) (s := (false, [])) (by simp)
  have h1 : S_SetField_b0 k k l n v false 0 [] = some (foldI (fun j s => (l[j]?).elim s (stepF n v s)) l.length 0 (false, [])) := this.1
  have h2 := foldF_len n v l (false, [])
  rw [S_SetField, h1, foldI_foldl l.length 0 _ (by omega), List.drop_zero, Option.bind_some, S_SetField_c42]
  unfold setF
  simp at h2
  cases (l.foldl (stepF n v) (false, [])).1 with
  | true => rfl
  | false => rw [Bool.not_false, cond_true, cond_true, appn_ok (by simp; omega)]; rfl
theorem I_SetField_eq {k : Nat} (hk : 1073741824 ≤ k) (l : List IField) (n v : List UInt8) (h : l.length < 1073741823) : I_SetField k l n v = some (setF l n v) := by
  have := fold_all (len := l.length) (g := fun j s => (l[j]?).elim s (stepF n v s)) (Inv := fun i s => s.2.length ≤ i) (F := fun m i (s : Bool × List IField) => I_SetField_b0 k m n v s.1 l (l.length : Int) i s.2) (out := id) (fun m i s hi hI => by
    have hl := stepF_len n v s l[i]
    have ha : ∀ e, app 32 s.2 [e] = some (s.2 ++ [e]) := fun e => appn_ok (by simp; omega)
    simp only [I_SetField_b0, bif_dec, lt_cast, hi, if_true, I_SetField_b1, idx_nat hi, Option.bind_some, I_SetField_c21, I_SetField_c27, wrap_succ (by omega : i < 9223372036854775807), List.getElem?_eq_getElem hi, Option.elim_some, ha]
    refine ⟨?_, by omega⟩
    unfold stepF
    obtain ⟨s1, s2⟩ := s
    cases (l[i].Name == n) <;> cases s1 <;> rfl) (fun m i s hi => by
    simp only [I_SetField_b0, bif_dec, lt_cast]
    rw [if_neg (by omega)]; rfl) (k := k) (by omega) (s := (false, [])) (by simp)
  have h1 : I_SetField_b0 k k n v false l (l.length : Int) 0 [] = some (foldI (fun j s => (l[j]?).elim s (stepF n v s)) l.length 0 (false, [])) := this.1
  have h2 := foldF_len n v l (false, [])
  rw [I_SetField, h1, foldI_foldl l.length 0 _ (by omega), List.drop_zero, Option.bind_some, I_SetField_c36]
  unfold setF
  simp at h2
  cases (l.foldl (stepF n v) (false, [])).1 with
  | true => rfl
  | false => rw [Bool.not_false, cond_true, cond_true, appn_ok (by simp; omega)]; rfl
/-! Decimal numerals. -/
def dd (m : Nat) : List UInt8 := if m = 0 then [] else Lib.decDigits m
theorem dd_step {m : Nat} (h : m ≠ 0) : dd m = dd (m / 10) ++ [UInt8.ofNat (48 + m % 10)] := by
  unfold dd
  rw [if_neg h]
  by_cases c : m < 10
  · rw [Lib.decDigits, dif_pos c, if_pos (by omega), Nat.mod_eq_of_lt c]; rfl
  · rw [Lib.decDigits, dif_neg c, if_neg (by omega)]
theorem dd_len (d : Nat) : ∀ m : Nat, m < 10 ^ d → (dd m).length ≤ d := by
  induction d with
  | zero => intro m h; have : m = 0 := by simpa using h
            subst this; simp [dd]
  | succ d ih =>
    intro m h
    by_cases h0 : m = 0
    · subst h0; simp [dd]
    · rw [dd_step h0, List.length_append]
      have := ih (m / 10) (by rw [Nat.pow_succ] at h; omega)
      simp; omega
theorem wrap_digit : ∀ j : Fin 10, bytesOf [IntKind.wrap .u8 (IntKind.wrap .i64 (48 + ((j.val : Nat) : Int)))] = [UInt8.ofNat (48 + j.val)] := by decide +kernel
theorem digit_of (m : Nat) : bytesOf [IntKind.wrap .u8 (IntKind.wrap .i64 (48 + ((m % 10 : Nat) : Int)))] = [UInt8.ofNat (48 + m % 10)] := wrap_digit ⟨m % 10, by omega⟩
theorem S_FormatInt_loop {k : Nat} {a0 : Int} : ∀ (n d : Nat) (x : Int) (s : List UInt8), d < n → x.natAbs < 10 ^ d → -9223372036854775808 ≤ x → x ≤ 9223372036854775807 → s.length + d ≤ 100 →
    S_FormatInt_b0 k n a0 s x = some (dd x.natAbs ++ s) := by
  intro n
  induction n with
  | zero => intro d x s h; omega
  | succ n ih =>
    intro d x s hd hx h1 h2 hs
    rw [S_FormatInt_b0]
    by_cases h0 : x = 0
    · subst h0; simp [dd]
    · have hm : x.natAbs ≠ 0 := by omega
      have hne : (x != 0) = true := by simpa using h0
      obtain ⟨d, rfl⟩ : ∃ d', d = d' + 1 := by
        cases d with
        | zero => simp at hx; omega
        | succ d => exact ⟨d, rfl⟩
      have e1 : md x 10 = some (x.tmod 10) := by simp [md]
      have e2 : dv x 10 = some (x.tdiv 10) := by simp [dv]
      have e3 : S_FormatInt_c16 k a0 s x (x.tmod 10) (decide (x.tmod 10 < 0)) = some ((x.natAbs % 10 : Nat) : Int) := by
        rw [S_FormatInt_c16, bif_dec]
        have ht : x.tmod 10 = if 0 ≤ x then ((x.natAbs % 10 : Nat) : Int) else -((x.natAbs % 10 : Nat) : Int) := by
          split
          · rw [Int.tmod_eq_emod_of_nonneg (by omega)]; omega
          · have : x = -(x.natAbs : Int) := by omega
            rw [this, Int.neg_tmod, Int.tmod_eq_emod_of_nonneg (by omega)]
            simp
        rw [ht]
        split
        · rw [if_neg (by omega)]
        · by_cases hz : x.natAbs % 10 = 0
          · rw [hz]; simp
          · rw [if_pos (by omega), wrap_id (by omega) (by omega)]; simp
      have e4 : (x.tdiv 10).natAbs = x.natAbs / 10 := by rw [Int.natAbs_tdiv]; rfl
      have hb : -9223372036854775808 ≤ x.tdiv 10 ∧ x.tdiv 10 ≤ 9223372036854775807 := by omega
      rw [hne, cond_true, S_FormatInt_b1, e1, Option.bind_some, e3, Option.bind_some, digit_of, cat_ok (by simp; omega), Option.bind_some, Option.bind_some, e2, Option.bind_some, wrap_id (by omega) (by omega),
        ih d _ _ (by omega) (by rw [e4]; rw [Nat.pow_succ] at hx; omega) hb.1 hb.2 (by simp; omega), e4, dd_step hm]
      simp
theorem itoa_dd (n : Int) : Lib.itoa n = if n = 0 then [48] else if n < 0 then 45 :: dd n.natAbs else dd n.natAbs := by
  unfold Lib.itoa
  by_cases h0 : n = 0
  · subst h0; rw [if_neg (by omega), if_pos rfl, Lib.decDigits]; rfl
  · rw [if_neg h0]
    have hm : ¬ n.natAbs = 0 := by omega
    unfold dd
    rw [if_neg hm]
    by_cases h : n < 0
    · rw [if_pos h, if_pos h]
    · rw [if_neg h, if_neg h, show n.toNat = n.natAbs by omega]
theorem pow19 : (10 : Nat) ^ 19 = 10000000000000000000 := by decide
theorem S_FormatInt_eq {k : Nat} (hk : 1073741824 ≤ k) (n : Int) (h1 : -9223372036854775808 ≤ n) (h2 : n ≤ 9223372036854775807) : S_FormatInt k n = some (Lib.itoa n) := by
  have hp := pow19
  have hl := dd_len 19 n.natAbs (by omega)
  rw [S_FormatInt, itoa_dd]
  by_cases h0 : n = 0
  · subst h0; rfl
  · have hne : (n == 0) = false := by simpa using h0
    rw [hne, cond_false, S_FormatInt_loop k 19 n [] (by omega) (by omega) h1 h2 (by simp), Option.bind_some, List.append_nil, if_neg h0, bif_dec]
    by_cases h : n < 0
    · rw [if_pos h, if_pos h, cat_ok (by simp; omega)]; rfl
    · rw [if_neg h, if_neg h]
theorem I_FormatInt_eq {k : Nat} (n : Int) (h1 : -9223372036854775808 ≤ n) (h2 : n ≤ 9223372036854775807) : I_FormatInt k n = some (Lib.itoa n) := by
  have hd : (decide (-9223372036854775808 ≤ n) && decide (n ≤ 9223372036854775807)) = true := by rw [Bool.and_eq_true]; exact ⟨decide_eq_true h1, decide_eq_true h2⟩
  rw [I_FormatInt, strconv_Itoa, itoaO, hd]; rfl
theorem itoa_len {n : Int} (h1 : -9223372036854775808 ≤ n) (h2 : n ≤ 9223372036854775807) : (Lib.itoa n).length ≤ 20 := by
  have hp := pow19
  have hl := dd_len 19 n.natAbs (by omega)
  rw [itoa_dd]
  split
  · simp
  · split
    · simp; omega
    · omega
/-! An answer with its age. -/
def ageOf (n : Int) : Int := if (if 2147483648 < n then 2147483648 else n) > 0 then (if 2147483648 < n then 2147483648 else n) else 0
theorem ageOf_in (n : Int) : 0 ≤ ageOf n ∧ ageOf n ≤ 2147483648 := by unfold ageOf; split <;> split <;> omega
def withAge (x : IResponse) (n : Int) : IResponse := ⟨x.Code, setF x.Fields [97, 103, 101] (Lib.itoa (ageOf n)), x.Body⟩
theorem S_WithAge_eq {k : Nat} (hk : 1073741824 ≤ k) (x : IResponse) (n : Int) (h : x.Fields.length < 1073741823) : S_WithAge k x n = some (withAge x n) := by
  have hm : ((S_Min k n 2147483648).bind fun w2 => S_Max k 0 w2) = some (ageOf n) := by
    unfold S_Min S_Max ageOf
    rw [bif_dec]
    by_cases c : 2147483648 < n
    · simp [c]
    · simp only [c, if_false, Option.bind_some, bif_dec]
      by_cases c2 : n > 0 <;> simp [c2]
  obtain ⟨a1, a2⟩ := ageOf_in n
  have hc : S_l11Copy k x = some x := by
    rw [S_l11Copy, S_l5Copy, appn_ok (by simp; omega)]; rfl
  rw [S_WithAge, hc, Option.bind_some]
  have : ∀ f : Int → Option IResponse, ((S_Min k n 2147483648).bind fun w2 => (S_Max k 0 w2).bind f) = f (ageOf n) := fun f => by
    have h2 : ((S_Min k n 2147483648).bind fun w2 => (S_Max k 0 w2).bind f) = ((S_Min k n 2147483648).bind fun w2 => S_Max k 0 w2).bind f := by
      cases S_Min k n 2147483648 <;> rfl
    rw [h2, hm]; rfl
  rw [this, S_FormatInt_eq hk _ (by omega) (by omega), Option.bind_some, S_SetField_eq hk _ _ _ h]
  rfl
theorem I_WithAge_eq {k : Nat} (hk : 1073741824 ≤ k) (x : IResponse) (n : Int) (h : x.Fields.length < 1073741823) : I_WithAge k x n = some (withAge x n) := by
  obtain ⟨a1, a2⟩ := ageOf_in n
  have e := I_FormatInt_eq (k := k) (ageOf n) (by omega) (by omega)
  unfold ageOf at e
  rw [I_WithAge, e, Option.bind_some, I_SetField_eq hk _ _ _ h]
  rfl
theorem FnExactWithAge_pure {k : Nat} (hk : 1073741824 ≤ k) (a0 : LResponse) (a1 : Int) (h0 : V_LResponse a0) (h1 : InI a1) : L_FnExactWithAge k a0 a1 = some true := by
  unfold L_FnExactWithAge
  rw [L_szResponse_eq hk h0 _ (by omega) (by omega), Option.bind_some, bif_dec]
  by_cases c3 : (sz_LResponse a0 : Int) ≤ 1048576
  case neg => rw [if_neg c3, if_pos (by omega)]
  have c4 : sz_LResponse a0 ≤ 1048576 := by omega
  have hf : (to_LResponse a0).Fields.length ≤ 1048576 := by unfold sz_LResponse szL at c4; simp only [to_LResponse, List.length_map]; omega
  have hf1 : (to_LResponse a0).Fields.length < 1073741823 := by omega
  have hf2 : (to_LResponse a0).Fields.length < 1073741824 := by omega
  have hw : (withAge (to_LResponse a0) a1).Fields.length < 1073741824 := by have := setF_len (to_LResponse a0).Fields [97, 103, 101] (Lib.itoa (ageOf a1)); unfold withAge; simp only; omega
  rw [if_pos c3, if_neg (by omega)]
  simp only [L_toResponse_eq hk a0 c4, Option.bind_some, S_WithAge_eq hk _ _ hf1, I_WithAge_eq hk _ _ hf1, L_eqResponse_eq hk _ _ hw, L_eqResponse_eq hk _ _ hf2, L_markResponse_eq hk _ hf2, L_markResponse_eq hk _ hw, L_heldResponse_eq hk _ hw, decide_true, Bool.not_true, cond_false, bif_dec, bne_self_eq_false]
  rw [if_neg (by omega), if_neg (by omega), if_neg (by omega)]

end Go.YtdninebapdohkabDoor
