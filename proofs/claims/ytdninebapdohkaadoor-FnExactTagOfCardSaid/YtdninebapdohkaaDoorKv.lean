/- What the functions come to. Nothing is claimed here. -/
import Derived.Test.YtdninebapdohkaaDoorKu
set_option linter.unusedVariables false
set_option linter.unusedSimpArgs false
set_option maxRecDepth 100000
namespace Go.YtdninebapdohkaaDoor
open Go Go.RowKit Go.Pv Go.Pu

/-! Decimal numerals. -/
def dd (m : Nat) : List UInt8 := if m = 0 then [] else Lib.decDigits m
theorem dd_step {m : Nat} (h : m ≠ 0) : dd m = dd (m / 10) ++ [UInt8.ofNat (48 + m % 10)] := by
  unfold dd
  rw [if_neg h]
  by_cases c : m < 10
  · rw [Lib.decDigits, dif_pos c, if_pos (by omega), Nat.mod_eq_of_lt c]; rfl
  · rw [Lib.decDigits, dif_neg c, if_neg (by omega)]
theorem dd_len (d : Nat) : ∀ m : Nat, m < 10 ^ d → (dd m).length ≤ d := by
  induction d with
  | zero => intro m h; have : m = 0 := by simpa using h
            subst this; simp [dd]
  | succ d ih =>
    intro m h
    by_cases h0 : m = 0
    · subst h0; simp [dd]
    · rw [dd_step h0, List.length_append]
      have := ih (m / 10) (by rw [Nat.pow_succ] at h; omega)
      simp; omega
theorem wrap_digit : ∀ j : Fin 10, bytesOf [IntKind.wrap .u8 (IntKind.wrap .i64 (48 + ((j.val : Nat) : Int)))] = [UInt8.ofNat (48 + j.val)] := by decide +kernel
theorem digit_of (m : Nat) : bytesOf [IntKind.wrap .u8 (IntKind.wrap .i64 (48 + ((m % 10 : Nat) : Int)))] = [UInt8.ofNat (48 + m % 10)] := wrap_digit ⟨m % 10, by omega⟩
theorem S_FormatInt_loop {k : Nat} {a0 : Int} : ∀ (n d : Nat) (x : Int) (s : List UInt8), d < n → x.natAbs < 10 ^ d → -9223372036854775808 ≤ x → x ≤ 9223372036854775807 → s.length + d ≤ 100 →
    S_FormatInt_b0 k n a0 s x = some (dd x.natAbs ++ s) := by
  intro n
  induction n with
  | zero => intro d x s h; omega
  | succ n ih =>
    intro d x s hd hx h1 h2 hs
    rw [S_FormatInt_b0]
    by_cases h0 : x = 0
    · subst h0; simp [dd]
    · have hm : x.natAbs ≠ 0 := by omega
      have hne : (x != 0) = true := by simpa using h0
      obtain ⟨d, rfl⟩ : ∃ d', d = d' + 1 := by
        cases d with
        | zero => simp at hx; omega
        | succ d => exact ⟨d, rfl⟩
      have e1 : md x 10 = some (x.tmod 10) := by simp [md]
      have e2 : dv x 10 = some (x.tdiv 10) := by simp [dv]
      have e3 : S_FormatInt_c16 k a0 s x (x.tmod 10) (decide (x.tmod 10 < 0)) = some ((x.natAbs % 10 : Nat) : Int) := by
        rw [S_FormatInt_c16, bif_dec]
        have ht : x.tmod 10 = if 0 ≤ x then ((x.natAbs % 10 : Nat) : Int) else -((x.natAbs % 10 : Nat) : Int) := by
          split
          · rw [Int.tmod_eq_emod_of_nonneg (by omega)]; omega
          · have : x = -(x.natAbs : Int) := by omega
            rw [this, Int.neg_tmod, Int.tmod_eq_emod_of_nonneg (by omega)]
            simp
        rw [ht]
        split
        · rw [if_neg (by omega)]
        · by_cases hz : x.natAbs % 10 = 0
          · rw [hz]; simp
          · rw [if_pos (by omega), wrap_id (by omega) (by omega)]; simp
      have e4 : (x.tdiv 10).natAbs = x.natAbs / 10 := by rw [Int.natAbs_tdiv]; rfl
      have hb : -9223372036854775808 ≤ x.tdiv 10 ∧ x.tdiv 10 ≤ 9223372036854775807 := by omega
      rw [hne, cond_true, S_FormatInt_b1, e1, Option.bind_some, e3, Option.bind_some, digit_of, cat_ok (by simp; omega), Option.bind_some, Option.bind_some, e2, Option.bind_some, wrap_id (by omega) (by omega),
        ih d _ _ (by omega) (by rw [e4]; rw [Nat.pow_succ] at hx; omega) hb.1 hb.2 (by simp; omega), e4, dd_step hm]
      simp
theorem itoa_dd (n : Int) : Lib.itoa n = if n = 0 then [48] else if n < 0 then 45 :: dd n.natAbs else dd n.natAbs := by
  unfold Lib.itoa
  by_cases h0 : n = 0
  · subst h0; rw [if_neg (by omega), if_pos rfl, Lib.decDigits]; rfl
  · rw [if_neg h0]
    have hm : ¬ n.natAbs = 0 := by omega
    unfold dd
    rw [if_neg hm]
    by_cases h : n < 0
    · rw [if_pos h, if_pos h]
    · rw [if_neg h, if_neg h, show n.toNat = n.natAbs by omega]
theorem pow19 : (10 : Nat) ^ 19 = 10000000000000000000 := by decide
theorem S_FormatInt_eq {k : Nat} (hk : 1073741824 ≤ k) (n : Int) (h1 : -9223372036854775808 ≤ n) (h2 : n ≤ 9223372036854775807) : S_FormatInt k n = some (Lib.itoa n) := by
  have hp := pow19
  have hl := dd_len 19 n.natAbs (by omega)
  rw [S_FormatInt, itoa_dd]
  by_cases h0 : n = 0
  · subst h0; rfl
  · have hne : (n == 0) = false := by simpa using h0
    rw [hne, cond_false, S_FormatInt_loop k 19 n [] (by omega) (by omega) h1 h2 (by simp), Option.bind_some, List.append_nil, if_neg h0, bif_dec]
    by_cases h : n < 0
    · rw [if_pos h, if_pos h, cat_ok (by simp; omega)]; rfl
    · rw [if_neg h, if_neg h]
theorem I_FormatInt_eq {k : Nat} (n : Int) (h1 : -9223372036854775808 ≤ n) (h2 : n ≤ 9223372036854775807) : I_FormatInt k n = some (Lib.itoa n) := by
  have hd : (decide (-9223372036854775808 ≤ n) && decide (n ≤ 9223372036854775807)) = true := by rw [Bool.and_eq_true]; exact ⟨decide_eq_true h1, decide_eq_true h2⟩
  rw [I_FormatInt, strconv_Itoa, itoaO, hd]; rfl
theorem itoa_len {n : Int} (h1 : -9223372036854775808 ≤ n) (h2 : n ≤ 9223372036854775807) : (Lib.itoa n).length ≤ 20 := by
  have hp := pow19
  have hl := dd_len 19 n.natAbs (by omega)
  rw [itoa_dd]
  split
  · simp
  · split
    · simp; omega
    · omega

theorem FnExactTagOf_pure {k : Nat} (hk : 1073741824 ≤ k) (a0 : Int) (a1 a2 : List UInt8) (h0 : InI a0) (h1 : InS a1) (h2 : InS a2) : L_FnExactTagOf k a0 a1 a2 = some true := by
  unfold L_FnExactTagOf
  obtain ⟨b0, b1⟩ := h0
  rw [bif_dec]
  by_cases c1 : (a1.length : Int) > 1048576
  · rw [if_pos c1]
  rw [if_neg c1, bif_dec]
  by_cases c2 : (a2.length : Int) > 1048576
  · rw [if_pos c2]
  have hl := itoa_len b0 b1
  have e : S_TagOf k a0 a1 a2 = some ⟨false, Lib.itoa a0 ++ [47] ++ a1 ++ [47] ++ a2⟩ := by
    rw [S_TagOf, S_FormatInt_eq hk a0 b0 b1, Option.bind_some, cat_ok (by simp; omega), Option.bind_some, cat_ok (by simp; omega), Option.bind_some, cat_ok (by simp; omega), Option.bind_some, cat_ok (by simp; omega)]; rfl
  have e' : I_TagOf k a0 a1 a2 = some ⟨false, Lib.itoa a0 ++ [47] ++ a1 ++ [47] ++ a2⟩ := by
    rw [I_TagOf, I_FormatInt_eq a0 b0 b1, Option.bind_some, cat_ok (by simp; omega), Option.bind_some, cat_ok (by simp; omega), Option.bind_some, cat_ok (by simp; omega), Option.bind_some, cat_ok (by simp; omega)]; rfl
  rw [if_neg c2, e, Option.bind_some, e', Option.bind_some, L_eqTag]
  simp

end Go.YtdninebapdohkaaDoor
