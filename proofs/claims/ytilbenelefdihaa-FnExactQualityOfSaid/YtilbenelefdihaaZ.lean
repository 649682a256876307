/- The program's QualityOf returns what the reference's QualityOf returns, whatever the arguments; no conditions. -/
import Derived.Test.YtilbenelefdihaaRows
import Derived.Test.YtilbenelefdihaaKp
import Derived.Test.YtilbenelefdihaaKv
namespace Go.Proofs.Ytilbenelefdihaa.fnExactQualityOf
open Go Go.RowKit Go.Pv Go.Pu Go.Ytilbenelefdihaa Go.ChangeShapes Go.WideShapes
set_option linter.unusedVariables false
set_option maxRecDepth 100000
theorem own : ownKnob Try.prog.godebug = none := by kernel_rfl
def fuel : Nat := 1073741824
theorem yes : ∀ x, VA X L_FnExactQualityOf_ar x → L_FnExactQualityOf_f fuel x = some true := fun x hx => FnExactQualityOf_pure (k := fuel) (by unfold fuel; omega) x.1 x.2.1 (vv_l hx.1 (fun x h => V_LQuality_of h)) (vv_s hx.2.1)
theorem els : ∀ e ∈ ([83] : List Nat), ElOK X [83] e := AllP_mem (p := ElOK X [83]) ⟨⟨[.ks, .ki .i64], by kernel_rfl, fun x => ⟨_, rfl, rfl⟩⟩, trivial⟩
theorem lifted (os : Os) (started : os.Started) (H : Type) (enc : TypeId × Value → H) :
    ReturnsInHanded {} Try.checked os 7 .any (Rows.fnExactQualityOfSpec.pre6 enc Try.prog Try.f7 Rows.fnExactQualityOfRow.domain false) (Rows.fnExactQualityOfSpec.post enc Try.prog Try.f7 false true false false) :=
  said_of (C := Try.checked) (fn := Try.f7) (X := X) (els := [83]) (l := L_FnExactQualityOf_ar) (F := L_FnExactQualityOf_f fuel) (vr := L_FnExactQualityOf_vr) (bt := 4) own started (by kernel_rfl) Try.func7 rfl
    (ChangeSpec.witness6 (enc := enc) (C := Try.checked) false ⟨#[], #[.slice none 0 0, .string ⟨#[]⟩], []⟩ 8 (by kernel_rfl) (by kernel_rfl) (by kernel_rfl) (by kernel_rfl))
    ctx cod els (by kernel_rfl) rfl Try.underlying4 (by kernel_rfl) (by kernel_rfl)
    (fun ds h => match ds, h with | [d0, d1], _ => rfl) (fun _ => rfl) (fun _ => trivial) (L_FnExactQualityOf_ok fuel) yes
theorem over : Rows.fnExactQualityOfRow.holds Try.pinned (OpenSpec.ofChange Rows.fnExactQualityOfSpec) :=
  OpenClaim.holds_of_wide 7 Try.f7 rfl rfl rfl rfl rfl rfl rfl ⟨rfl, rfl, rfl, rfl, rfl⟩ rfl rfl rfl rfl rfl (by kernel_rfl) Try.func7 (by kernel_rfl)
    (of_decide_eq_true (by kernel_rfl)) (by unfold Func.isWrapper; first | (rw [if_pos (by decide +kernel)]; kernel_rfl) | (rw [if_neg (by decide +kernel)]; exact ⟨rfl, rfl⟩))
    (fun os started H enc _ => lifted os started H enc)
end Go.Proofs.Ytilbenelefdihaa.fnExactQualityOf
namespace Go.Proofs.Ytilbenelefdihaa
theorem fnExactQualityOf_holds : Rows.FnExactQualityOfSaid := fnExactQualityOf.over
#print axioms fnExactQualityOf_holds
end Go.Proofs.Ytilbenelefdihaa
