/- The program's SpansOf returns what the reference's SpansOf returns, whatever the arguments; no conditions. -/
import Derived.Test.YtilbenelefdihaaRows
import Derived.Test.YtilbenelefdihaaKp
import Derived.Test.YtilbenelefdihaaKv
namespace Go.Proofs.Ytilbenelefdihaa.fnExactSpansOf
open Go Go.RowKit Go.Pv Go.Pu Go.Ytilbenelefdihaa Go.ChangeShapes Go.WideShapes
set_option linter.unusedVariables false
set_option maxRecDepth 100000
theorem own : ownKnob Try.prog.godebug = none := by kernel_rfl
def fuel : Nat := 1073741824
theorem yes : ∀ x, VA X L_FnExactSpansOf_ar x → L_FnExactSpansOf_f fuel x = some true := fun x hx => FnExactSpansOf_pure (k := fuel) (by unfold fuel; omega) x.1 (vv_l hx.1 (fun x h => V_LPiece_of h))
theorem els : ∀ e ∈ ([90] : List Nat), ElOK X [90] e := AllP_mem (p := ElOK X [90]) ⟨⟨[.ki .i64, .ks], by kernel_rfl, fun x => ⟨_, rfl, rfl⟩⟩, trivial⟩
theorem lifted (os : Os) (started : os.Started) (H : Type) (enc : TypeId × Value → H) :
    ReturnsInHanded {} Try.checked os 14 .any (Rows.fnExactSpansOfSpec.pre6 enc Try.prog Try.f14 Rows.fnExactSpansOfRow.domain false) (Rows.fnExactSpansOfSpec.post enc Try.prog Try.f14 false true false false) :=
  said_of (C := Try.checked) (fn := Try.f14) (X := X) (els := [90]) (l := L_FnExactSpansOf_ar) (F := L_FnExactSpansOf_f fuel) (vr := L_FnExactSpansOf_vr) (bt := 4) own started (by kernel_rfl) Try.func14 rfl
    (ChangeSpec.witness6 (enc := enc) (C := Try.checked) false ⟨#[], #[.slice none 0 0], []⟩ 8 (by kernel_rfl) (by kernel_rfl) (by kernel_rfl) (by kernel_rfl))
    ctx cod els (by kernel_rfl) rfl Try.underlying4 (by kernel_rfl) (by kernel_rfl)
    (fun ds h => match ds, h with | [d0], _ => rfl) (fun _ => rfl) (fun _ => trivial) (L_FnExactSpansOf_ok fuel) yes
theorem over : Rows.fnExactSpansOfRow.holds Try.pinned (OpenSpec.ofChange Rows.fnExactSpansOfSpec) :=
  OpenClaim.holds_of_wide 14 Try.f14 rfl rfl rfl rfl rfl rfl rfl ⟨rfl, rfl, rfl, rfl, rfl⟩ rfl rfl rfl rfl rfl (by kernel_rfl) Try.func14 (by kernel_rfl)
    (of_decide_eq_true (by kernel_rfl)) (by unfold Func.isWrapper; first | (rw [if_pos (by decide +kernel)]; kernel_rfl) | (rw [if_neg (by decide +kernel)]; exact ⟨rfl, rfl⟩))
    (fun os started H enc _ => lifted os started H enc)
end Go.Proofs.Ytilbenelefdihaa.fnExactSpansOf
namespace Go.Proofs.Ytilbenelefdihaa
theorem fnExactSpansOf_holds : Rows.FnExactSpansOfSaid := fnExactSpansOf.over
#print axioms fnExactSpansOf_holds
end Go.Proofs.Ytilbenelefdihaa
