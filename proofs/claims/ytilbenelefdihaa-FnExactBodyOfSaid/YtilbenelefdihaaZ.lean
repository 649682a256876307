/- The program's BodyOf returns what the reference's BodyOf returns, whatever the arguments; no conditions. -/
import Derived.Test.YtilbenelefdihaaRows
import Derived.Test.YtilbenelefdihaaKp
import Derived.Test.YtilbenelefdihaaKv
namespace Go.Proofs.Ytilbenelefdihaa.fnExactBodyOf
open Go Go.RowKit Go.Pv Go.Pu Go.Ytilbenelefdihaa Go.ChangeShapes Go.WideShapes
set_option linter.unusedVariables false
set_option maxRecDepth 100000
theorem own : ownKnob Try.prog.godebug = none := by kernel_rfl
def fuel : Nat := 1073741824
theorem yes : ∀ x, VA X L_FnExactBodyOf_ar x → L_FnExactBodyOf_f fuel x = some true := fun x hx => FnExactBodyOf_pure (k := fuel) (by unfold fuel; omega) (⟨x.1.1, x.1.2.1, x.1.2.2.1⟩ : LVersion) x.2.1 x.2.2.1 ⟨(vv_i (hx.1 _ (.head _))), (vv_s (hx.1 _ (.tail _ (.head _)))), trivial⟩ (vv_s hx.2.1) (vv_s hx.2.2.1)
theorem els : ∀ e ∈ ([] : List Nat), ElOK X [] e := fun e h => by cases h
theorem lifted (os : Os) (started : os.Started) (H : Type) (enc : TypeId × Value → H) :
    ReturnsInHanded {} Try.checked os 5 .any (Rows.fnExactBodyOfSpec.pre6 enc Try.prog Try.f5 Rows.fnExactBodyOfRow.domain false) (Rows.fnExactBodyOfSpec.post enc Try.prog Try.f5 false true false false) :=
  said_of (C := Try.checked) (fn := Try.f5) (X := X) (els := []) (l := L_FnExactBodyOf_ar) (F := L_FnExactBodyOf_f fuel) (vr := L_FnExactBodyOf_vr) (bt := 4) own started (by kernel_rfl) Try.func5 rfl
    (ChangeSpec.witness6 (enc := enc) (C := Try.checked) false ⟨#[], #[.agg #[.int .i64 0, .string ⟨#[]⟩, .bool false], .string ⟨#[]⟩, .string ⟨#[]⟩], []⟩ 8 (by kernel_rfl) (by kernel_rfl) (by kernel_rfl) (by kernel_rfl))
    ctx cod els (by kernel_rfl) rfl Try.underlying4 (by kernel_rfl) (by kernel_rfl)
    (fun ds h => match ds, h with | [d0, d1, d2], _ => rfl) (fun _ => rfl) (fun _ => trivial) (L_FnExactBodyOf_ok fuel) yes
theorem over : Rows.fnExactBodyOfRow.holds Try.pinned (OpenSpec.ofChange Rows.fnExactBodyOfSpec) :=
  OpenClaim.holds_of_wide 5 Try.f5 rfl rfl rfl rfl rfl rfl rfl ⟨rfl, rfl, rfl, rfl, rfl⟩ rfl rfl rfl rfl rfl (by kernel_rfl) Try.func5 (by kernel_rfl)
    (of_decide_eq_true (by kernel_rfl)) (by unfold Func.isWrapper; first | (rw [if_pos (by decide +kernel)]; kernel_rfl) | (rw [if_neg (by decide +kernel)]; exact ⟨rfl, rfl⟩))
    (fun os started H enc _ => lifted os started H enc)
end Go.Proofs.Ytilbenelefdihaa.fnExactBodyOf
namespace Go.Proofs.Ytilbenelefdihaa
theorem fnExactBodyOf_holds : Rows.FnExactBodyOfSaid := fnExactBodyOf.over
#print axioms fnExactBodyOf_holds
end Go.Proofs.Ytilbenelefdihaa
