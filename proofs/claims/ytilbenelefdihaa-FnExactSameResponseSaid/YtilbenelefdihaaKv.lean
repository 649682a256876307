/- What the functions come to. Nothing is claimed here. -/
import Derived.Test.YtilbenelefdihaaKu
set_option linter.unusedVariables false
set_option linter.unusedSimpArgs false
set_option maxRecDepth 100000
namespace Go.Ytilbenelefdihaa
open Go Go.RowKit Go.Pv Go.Pu

theorem S_SameFields_eq {k : Nat} (hk : 1073741824 ≤ k) (a b : List IField) (h : a.length < 1073741824) : S_SameFields k a b = some (decide (a = b)) :=
  eq_all (F := S_SameFields_b0 k) (f := fun e e' => some ((e.Name == e'.Name) && (e.Value == e'.Value))) (fun _ _ _ _ => rfl) (fun e _ e' _ => by
    obtain ⟨a, b⟩ := e
    obtain ⟨c, d⟩ := e'
    by_cases h1 : a = c <;> by_cases h2 : b = d <;> simp [h1, h2, beq_ne]) (by omega) (by omega)
theorem I_SameFields_eq {k : Nat} (hk : 1073741824 ≤ k) (a b : List IField) (h : a.length < 1073741824) : I_SameFields k a b = some (decide (a = b)) := by
  have : slices_Equal_IField k a b = some (decide (a = b)) :=
    eq_all (F := fun n x y i => slices_Equal_IField_b0 k n x y (x.length : Int) i) (f := fun e e' => some ((e.Name == e'.Name) && (e.Value == e'.Value))) (fun _ _ _ _ => rfl) (fun e _ e' _ => by
      obtain ⟨a, b⟩ := e
      obtain ⟨c, d⟩ := e'
      by_cases h1 : a = c <;> by_cases h2 : b = d <;> simp [h1, h2, beq_ne]) (by omega) (by omega)
  rw [I_SameFields, this]; rfl

theorem FnExactSameResponse_pure {k : Nat} (hk : 1073741824 ≤ k) (a0 a1 : LResponse) (h0 : V_LResponse a0) (h1 : V_LResponse a1) : L_FnExactSameResponse k a0 a1 = some true := by
  unfold L_FnExactSameResponse
  rw [L_szResponse_eq hk h0 _ (by omega) (by omega), Option.bind_some, bif_dec]
  by_cases c3 : (sz_LResponse a0 : Int) ≤ 1048576
  case neg => rw [if_neg c3, if_pos (by omega)]
  rw [if_pos c3, if_neg (by omega), L_szResponse_eq hk h1 _ (by omega) (by omega), Option.bind_some, bif_dec]
  by_cases c4 : (sz_LResponse a1 : Int) ≤ 1048576 - sz_LResponse a0
  case neg => rw [if_neg c4, if_pos (by omega)]
  have hx : (to_LResponse a0).Fields.length < 1073741824 := by unfold sz_LResponse szL at c3; simp [to_LResponse]; omega
  have hy : (to_LResponse a1).Fields.length < 1073741824 := by unfold sz_LResponse szL at c4; simp [to_LResponse]; omega
  rw [if_pos c4, if_neg (by omega)]
  simp only [L_toResponse_eq hk a0 (by omega), L_toResponse_eq hk a1 (by omega), Option.bind_some, S_SameResponse, I_SameResponse, S_SameFields_eq hk _ _ hx, I_SameFields_eq hk _ _ hx, L_eqResponse_eq hk _ _ hx, L_eqResponse_eq hk _ _ hy]
  cases ((to_LResponse a0).Code == (to_LResponse a1).Code) <;> cases (decide ((to_LResponse a0).Fields = (to_LResponse a1).Fields)) <;> simp

end Go.Ytilbenelefdihaa
