/- The program's MissingSpans returns what the reference's MissingSpans returns, whatever the arguments; no conditions. -/
import Derived.Test.YtilbenelefdihaaRows
import Derived.Test.YtilbenelefdihaaKp
import Derived.Test.YtilbenelefdihaaKv
namespace Go.Proofs.Ytilbenelefdihaa.fnExactMissingSpans
open Go Go.RowKit Go.Pv Go.Pu Go.Ytilbenelefdihaa Go.ChangeShapes Go.WideShapes
set_option linter.unusedVariables false
set_option maxRecDepth 100000
theorem own : ownKnob Try.prog.godebug = none := by kernel_rfl
def fuel : Nat := 1073741824
theorem yes : ∀ x, VA X L_FnExactMissingSpans_ar x → L_FnExactMissingSpans_f fuel x = some true := fun x hx => FnExactMissingSpans_pure (k := fuel) (by unfold fuel; omega) x.1 (⟨x.2.1.1, x.2.1.2.1⟩ : LSpan) (vv_l hx.1 (fun x h => V_LSpan_of h)) ⟨(vv_i (hx.2.1 _ (.head _))), (vv_i (hx.2.1 _ (.tail _ (.head _))))⟩
theorem els : ∀ e ∈ ([34, 39] : List Nat), ElOK X [34, 39] e := AllP_mem (p := ElOK X [34, 39]) ⟨⟨[.ki .i64, .ki .i64], by kernel_rfl, fun x => ⟨_, rfl, rfl⟩⟩, ⟨[.ki .i64, .ki .i64], by kernel_rfl, fun x => ⟨_, rfl, rfl⟩⟩, trivial⟩
theorem lifted (os : Os) (started : os.Started) (H : Type) (enc : TypeId × Value → H) :
    ReturnsInHanded {} Try.checked os 13 .any (Rows.fnExactMissingSpansSpec.pre6 enc Try.prog Try.f13 Rows.fnExactMissingSpansRow.domain false) (Rows.fnExactMissingSpansSpec.post enc Try.prog Try.f13 false true false false) :=
  said_of (C := Try.checked) (fn := Try.f13) (X := X) (els := [34, 39]) (l := L_FnExactMissingSpans_ar) (F := L_FnExactMissingSpans_f fuel) (vr := L_FnExactMissingSpans_vr) (bt := 4) own started (by kernel_rfl) Try.func13 rfl
    (ChangeSpec.witness6 (enc := enc) (C := Try.checked) false ⟨#[], #[.slice none 0 0, .agg #[.int .i64 0, .int .i64 0]], []⟩ 8 (by kernel_rfl) (by kernel_rfl) (by kernel_rfl) (by kernel_rfl))
    ctx cod els (by kernel_rfl) rfl Try.underlying4 (by kernel_rfl) (by kernel_rfl)
    (fun ds h => match ds, h with | [d0, d1], _ => rfl) (fun _ => rfl) (fun _ => trivial) (L_FnExactMissingSpans_ok fuel) yes
theorem over : Rows.fnExactMissingSpansRow.holds Try.pinned (OpenSpec.ofChange Rows.fnExactMissingSpansSpec) :=
  OpenClaim.holds_of_wide 13 Try.f13 rfl rfl rfl rfl rfl rfl rfl ⟨rfl, rfl, rfl, rfl, rfl⟩ rfl rfl rfl rfl rfl (by kernel_rfl) Try.func13 (by kernel_rfl)
    (of_decide_eq_true (by kernel_rfl)) (by unfold Func.isWrapper; first | (rw [if_pos (by decide +kernel)]; kernel_rfl) | (rw [if_neg (by decide +kernel)]; exact ⟨rfl, rfl⟩))
    (fun os started H enc _ => lifted os started H enc)
end Go.Proofs.Ytilbenelefdihaa.fnExactMissingSpans
namespace Go.Proofs.Ytilbenelefdihaa
theorem fnExactMissingSpans_holds : Rows.FnExactMissingSpansSaid := fnExactMissingSpans.over
#print axioms fnExactMissingSpans_holds
end Go.Proofs.Ytilbenelefdihaa
