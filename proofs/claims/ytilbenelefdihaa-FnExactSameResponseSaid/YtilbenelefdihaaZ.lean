/- The program's SameResponse returns what the reference's SameResponse returns, whatever the arguments; no conditions. -/
import Derived.Test.YtilbenelefdihaaRows
import Derived.Test.YtilbenelefdihaaKp
import Derived.Test.YtilbenelefdihaaKv
namespace Go.Proofs.Ytilbenelefdihaa.fnExactSameResponse
open Go Go.RowKit Go.Pv Go.Pu Go.Ytilbenelefdihaa Go.ChangeShapes Go.WideShapes
set_option linter.unusedVariables false
set_option maxRecDepth 100000
theorem own : ownKnob Try.prog.godebug = none := by kernel_rfl
def fuel : Nat := 1073741824
theorem yes : ∀ x, VA X L_FnExactSameResponse_ar x → L_FnExactSameResponse_f fuel x = some true := fun x hx => FnExactSameResponse_pure (k := fuel) (by unfold fuel; omega) (⟨x.1.1, x.1.2.1, x.1.2.2.1⟩ : LResponse) (⟨x.2.1.1, x.2.1.2.1, x.2.1.2.2.1⟩ : LResponse) ⟨(vv_i (hx.1 _ (.head _))), (vv_l (hx.1 _ (.tail _ (.head _))) (fun x h => V_LField_of h)), (vv_s (hx.1 _ (.tail _ (.tail _ (.head _)))))⟩ ⟨(vv_i (hx.2.1 _ (.head _))), (vv_l (hx.2.1 _ (.tail _ (.head _))) (fun x h => V_LField_of h)), (vv_s (hx.2.1 _ (.tail _ (.tail _ (.head _)))))⟩
theorem els : ∀ e ∈ ([103] : List Nat), ElOK X [103] e := AllP_mem (p := ElOK X [103]) ⟨⟨[.ks, .ks], by kernel_rfl, fun x => ⟨_, rfl, rfl⟩⟩, trivial⟩
theorem lifted (os : Os) (started : os.Started) (H : Type) (enc : TypeId × Value → H) :
    ReturnsInHanded {} Try.checked os 12 .any (Rows.fnExactSameResponseSpec.pre6 enc Try.prog Try.f12 Rows.fnExactSameResponseRow.domain false) (Rows.fnExactSameResponseSpec.post enc Try.prog Try.f12 false true false false) :=
  said_of (C := Try.checked) (fn := Try.f12) (X := X) (els := [103]) (l := L_FnExactSameResponse_ar) (F := L_FnExactSameResponse_f fuel) (vr := L_FnExactSameResponse_vr) (bt := 4) own started (by kernel_rfl) Try.func12 rfl
    (ChangeSpec.witness6 (enc := enc) (C := Try.checked) false ⟨#[], #[.agg #[.int .i64 0, .slice none 0 0, .string ⟨#[]⟩], .agg #[.int .i64 0, .slice none 0 0, .string ⟨#[]⟩]], []⟩ 8 (by kernel_rfl) (by kernel_rfl) (by kernel_rfl) (by kernel_rfl))
    ctx cod els (by kernel_rfl) rfl Try.underlying4 (by kernel_rfl) (by kernel_rfl)
    (fun ds h => match ds, h with | [d0, d1], _ => rfl) (fun _ => rfl) (fun _ => trivial) (L_FnExactSameResponse_ok fuel) yes
theorem over : Rows.fnExactSameResponseRow.holds Try.pinned (OpenSpec.ofChange Rows.fnExactSameResponseSpec) :=
  OpenClaim.holds_of_wide 12 Try.f12 rfl rfl rfl rfl rfl rfl rfl ⟨rfl, rfl, rfl, rfl, rfl⟩ rfl rfl rfl rfl rfl (by kernel_rfl) Try.func12 (by kernel_rfl)
    (of_decide_eq_true (by kernel_rfl)) (by unfold Func.isWrapper; first | (rw [if_pos (by decide +kernel)]; kernel_rfl) | (rw [if_neg (by decide +kernel)]; exact ⟨rfl, rfl⟩))
    (fun os started H enc _ => lifted os started H enc)
end Go.Proofs.Ytilbenelefdihaa.fnExactSameResponse
namespace Go.Proofs.Ytilbenelefdihaa
theorem fnExactSameResponse_holds : Rows.FnExactSameResponseSaid := fnExactSameResponse.over
#print axioms fnExactSameResponse_holds
end Go.Proofs.Ytilbenelefdihaa
