/- The program's SplitTarget returns what the reference's SplitTarget returns, whatever the arguments; no conditions. -/
import Derived.Test.YtilbenelefdihaaRows
import Derived.Test.YtilbenelefdihaaKp
import Derived.Test.YtilbenelefdihaaKv
namespace Go.Proofs.Ytilbenelefdihaa.fnExactSplitTarget
open Go Go.RowKit Go.Pv Go.Pu Go.Ytilbenelefdihaa Go.ChangeShapes Go.WideShapes
set_option linter.unusedVariables false
set_option maxRecDepth 100000
theorem own : ownKnob Try.prog.godebug = none := by kernel_rfl
def fuel : Nat := 1073741824
theorem yes : ∀ x, VA X L_FnExactSplitTarget_ar x → L_FnExactSplitTarget_f fuel x = some true := fun x hx => FnExactSplitTarget_pure (k := fuel) (by unfold fuel; omega) x.1 (vv_s hx.1)
theorem els : ∀ e ∈ ([] : List Nat), ElOK X [] e := fun e h => by cases h
theorem lifted (os : Os) (started : os.Started) (H : Type) (enc : TypeId × Value → H) :
    ReturnsInHanded {} Try.checked os 11 .any (Rows.fnExactSplitTargetSpec.pre6 enc Try.prog Try.f11 Rows.fnExactSplitTargetRow.domain false) (Rows.fnExactSplitTargetSpec.post enc Try.prog Try.f11 false true false false) :=
  said_of (C := Try.checked) (fn := Try.f11) (X := X) (els := []) (l := L_FnExactSplitTarget_ar) (F := L_FnExactSplitTarget_f fuel) (vr := L_FnExactSplitTarget_vr) (bt := 4) own started (by kernel_rfl) Try.func11 rfl
    (ChangeSpec.witness6 (enc := enc) (C := Try.checked) false ⟨#[], #[.string ⟨#[]⟩], []⟩ 8 (by kernel_rfl) (by kernel_rfl) (by kernel_rfl) (by kernel_rfl))
    ctx cod els (by kernel_rfl) rfl Try.underlying4 (by kernel_rfl) (by kernel_rfl)
    (fun ds h => match ds, h with | [d0], _ => rfl) (fun _ => rfl) (fun W h w' b => maxlen_of (Go.Proofs.cell_of_shapedOpen_int (zero := #[.int .i64 0]) (t := 3) h (of_decide_eq_true (by kernel_rfl)) (by kernel_rfl) rfl (by kernel_rfl) (by kernel_rfl) Try.underlying3) b) (L_FnExactSplitTarget_ok fuel) yes
theorem over : Rows.fnExactSplitTargetRow.holds Try.pinned (OpenSpec.ofChange Rows.fnExactSplitTargetSpec) :=
  OpenClaim.holds_of_wide 11 Try.f11 rfl rfl rfl rfl rfl rfl rfl ⟨rfl, rfl, rfl, rfl, rfl⟩ rfl rfl rfl rfl rfl (by kernel_rfl) Try.func11 (by kernel_rfl)
    (of_decide_eq_true (by kernel_rfl)) (by unfold Func.isWrapper; first | (rw [if_pos (by decide +kernel)]; kernel_rfl) | (rw [if_neg (by decide +kernel)]; exact ⟨rfl, rfl⟩))
    (fun os started H enc _ => lifted os started H enc)
end Go.Proofs.Ytilbenelefdihaa.fnExactSplitTarget
namespace Go.Proofs.Ytilbenelefdihaa
theorem fnExactSplitTarget_holds : Rows.FnExactSplitTargetSaid := fnExactSplitTarget.over
#print axioms fnExactSplitTarget_holds
end Go.Proofs.Ytilbenelefdihaa
