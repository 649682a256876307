/- What the laws' own functions come to. Nothing is claimed here. -/
import Derived.Test.YtilbenelefdihaaKf
import Derived.Test.YtilbenelefdihaaPu4
set_option linter.unusedSimpArgs false
set_option linter.unusedVariables false
set_option maxRecDepth 100000
namespace Go.Ytilbenelefdihaa
open Go Go.RowKit Go.Pv Go.Pu

def V_LQuality (a : LQuality) : Prop := InS a.Name ∧ InI a.Q
def sz_LQuality (a : LQuality) : Nat := a.Name.length
def to_LQuality (a : LQuality) : IQuality := ⟨a.Name, a.Q⟩
theorem V_LQuality_of {x : LQuality} (h : ∀ v ∈ X.E 83 x, ∀ d, VV X d v) : V_LQuality x := ⟨(vv_s (h _ (.head _))), (vv_i (h _ (.tail _ (.head _))))⟩
theorem L_toQuality_eq {k : Nat} (hk : 1073741824 ≤ k) (a : LQuality) (h : sz_LQuality a ≤ 1048576) : L_toQuality k a = some (to_LQuality a) := rfl
theorem L_toQualityS_eq {k : Nat} (hk : 1073741824 ≤ k) (a : List (LQuality)) (h : szL sz_LQuality a ≤ 1048576) : L_toQualityS k a = some (a.map to_LQuality) := by
  have h1 : a.length ≤ 1048576 := by unfold szL at h; omega
  rw [L_toQualityS, guardT_self, mks_ok (by omega), Option.bind_some, to_all (F := L_toQualityS_b0 k) (f := (L_toQuality k)) (g := to_LQuality) (fun _ _ _ _ => rfl) (fun e he => L_toQuality_eq hk e (by have := sz_mem (g := sz_LQuality) he; omega)) (by omega) (by omega)]
  rfl
theorem L_szQuality_eq {k : Nat} (hk : 1073741824 ≤ k) {a : LQuality} (h : V_LQuality a) (l : Int) (h0 : 0 ≤ l) (h1 : l ≤ 1048576) : L_szQuality k a l = some (if (sz_LQuality a : Int) ≤ l then l - sz_LQuality a else -1) := by
  unfold V_LQuality InS at h
  unfold sz_LQuality L_szQuality
  have v0 := h.1
  rw [wrap_id (by omega) (by omega), bif_dec]
  by_cases c0 : l - ((a.Name.length : Nat) : Int) < 0
  · rw [if_pos c0, if_neg (by push_cast; omega)]
  rw [if_neg c0]
  rw [if_pos (by push_cast; omega)]
  try exact congrArg some (by first | rfl | (push_cast; omega))
theorem L_szQualityS_eq {k : Nat} (hk : 1073741824 ≤ k) {a : List (LQuality)} (h : InL V_LQuality a) (l : Int) (h0 : 0 ≤ l) (h1 : l ≤ 1048576) : L_szQualityS k a l = some (if (szL sz_LQuality a : Int) ≤ l then l - szL sz_LQuality a else -1) :=
  sz_all (F := L_szQualityS_b0 k) (f := L_szQuality k) (g := sz_LQuality) (fun _ _ _ _ => rfl) (fun e he l h0 h1 => L_szQuality_eq hk (h.2 e he) l h0 h1) h.1 h0 h1 (by omega)
theorem L_eqQuality_eq {k : Nat} (hk : 1073741824 ≤ k) (a b : IQuality) : L_eqQuality k a b = some (decide (a = b)) := by
  obtain ⟨a0, a1⟩ := a
  obtain ⟨b0, b1⟩ := b
  simp only [L_eqQuality, IQuality.mk.injEq]
  by_cases e0 : a0 = b0
  case neg => simp [e0, bne_ne e0, beq_ne e0]
  by_cases e1 : a1 = b1
  case neg => simp [e0, e1, bne_ne e1, beq_ne e1]
  simp [e0, e1]
theorem L_eqQualityS_eq {k : Nat} (hk : 1073741824 ≤ k) (a b : List (IQuality)) (h : a.length < 1073741824) : L_eqQualityS k a b = some (decide (a = b)) := eq_all (F := L_eqQualityS_b0 k) (f := L_eqQuality k) (fun _ _ _ _ => rfl) (fun e _ e' _ => L_eqQuality_eq hk e e') (by omega) (by omega)
end Go.Ytilbenelefdihaa
