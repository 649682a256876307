/- What the functions come to. Nothing is claimed here. -/
import Derived.Test.YtilbenelefdihaaKu
set_option linter.unusedVariables false
set_option linter.unusedSimpArgs false
set_option maxRecDepth 100000
namespace Go.Ytilbenelefdihaa
open Go Go.RowKit Go.Pv Go.Pu

theorem S_BodyOf_some (k : Nat) (v : IVersion) (a b : List UInt8) (h0 : v.Text.length ≤ 1048576) (h1 : a.length ≤ 1048576) (h2 : b.length ≤ 1048576) : ∃ r, S_BodyOf k v a b = some r := by
  unfold S_BodyOf S_BodyOf_c11
  cases ha : (a == []) with
  | true =>
    simp only [Bool.not_true, cond_false, Option.bind_some, S_BodyOf_c18]
    cases hb : (b == []) with
    | true => exact ⟨_, rfl⟩
    | false =>
      rw [Bool.not_false, cond_true, cat_ok (by simp; omega), Option.bind_some, cat_ok (by simp; omega)]
      exact ⟨_, rfl⟩
  | false =>
    rw [Bool.not_false, cond_true, cat_ok (by simp; omega), Option.bind_some, cat_ok (by simp; omega), Option.bind_some, cat_ok (by simp; omega)]
    simp only [Option.bind_some, S_BodyOf_c18]
    cases hb : (b == []) with
    | true => exact ⟨_, rfl⟩
    | false =>
      rw [Bool.not_false, cond_true, cat_ok (by simp; omega), Option.bind_some, cat_ok (by simp; omega)]
      exact ⟨_, rfl⟩

theorem FnExactBodyOf_pure {k : Nat} (hk : 1073741824 ≤ k) (a0 : LVersion) (a1 a2 : List UInt8) (h0 : V_LVersion a0) (h1 : InS a1) (h2 : InS a2) : L_FnExactBodyOf k a0 a1 a2 = some true := by
  unfold L_FnExactBodyOf
  rw [bif_dec, bif_dec]
  by_cases c1 : (a1.length : Int) > 1048576
  · rw [if_pos c1]
  by_cases c2 : (a2.length : Int) > 1048576
  · rw [if_neg c1, if_pos c2]
  rw [if_neg c1, if_neg c2, L_szVersion_eq hk h0 _ (by omega) (by omega), Option.bind_some, bif_dec]
  by_cases c3 : (sz_LVersion a0 : Int) ≤ 1048576
  case neg => rw [if_neg c3, if_pos (by omega)]
  rw [if_pos c3, if_neg (by omega), L_toVersion_eq hk _ (by omega), Option.bind_some]
  obtain ⟨r, hr⟩ := S_BodyOf_some k (to_LVersion a0) a1 a2 (by unfold sz_LVersion at c3; unfold to_LVersion; simp; omega) (by omega) (by omega)
  have hr2 : I_BodyOf k (to_LVersion a0) a1 a2 = some r := hr
  rw [hr, Option.bind_some, Option.bind_some, hr2, Option.bind_some]
  simp

end Go.Ytilbenelefdihaa
