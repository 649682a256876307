/- The law FnIntervals is true of every input; no conditions. -/
import Derived.Test.YtolmhhnhmbiofaaRows
import Derived.Test.YtolmhhnhmbiofaaKp
import Derived.Test.YtolmhhnhmbiofaaKv
namespace Go.Proofs.Ytolmhhnhmbiofaa.fnIntervals
open Go Go.RowKit Go.Pv Go.Pu Go.Ytolmhhnhmbiofaa Go.ChangeShapes Go.WideShapes
set_option linter.unusedVariables false
set_option maxRecDepth 100000
theorem own : ownKnob Try.prog.godebug = none := by kernel_rfl
def fuel : Nat := 1073741824
theorem yes : ∀ x, VA X L_FnIntervals_ar x → L_FnIntervals_f fuel x = some true := fun x hx => FnIntervals_pure (k := fuel) (by unfold fuel; omega) x.1 (vv_l hx.1 (fun x h => (vv_b (h _ (.head _)))))
theorem els : ∀ e ∈ ([5] : List Nat), ElOK X [5] e := AllP_mem (p := ElOK X [5]) ⟨⟨[.ki .u8], by kernel_rfl, fun x => ⟨_, rfl, rfl⟩⟩, trivial⟩
theorem lifted (os : Os) (started : os.Started) (H : Type) (enc : TypeId × Value → H) :
    ReturnsInHanded {} Try.checked os 3 .any (Rows.fnIntervalsSpec.pre6 enc Try.prog Try.f3 Rows.fnIntervalsRow.domain false) (Rows.fnIntervalsSpec.post enc Try.prog Try.f3 false true false false) :=
  said_of (C := Try.checked) (fn := Try.f3) (X := X) (els := [5]) (l := L_FnIntervals_ar) (F := L_FnIntervals_f fuel) (vr := L_FnIntervals_vr) (bt := 4) own started (by kernel_rfl) Try.func3 rfl
    (ChangeSpec.witness6 (enc := enc) (C := Try.checked) false ⟨#[], #[.slice none 0 0], []⟩ 8 (by kernel_rfl) (by kernel_rfl) (by kernel_rfl) (by kernel_rfl))
    ctx cod els (by kernel_rfl) rfl Try.underlying4 (by kernel_rfl) (by kernel_rfl)
    (fun ds h => match ds, h with | [d0], _ => rfl) (fun _ => rfl) (fun W h w' b => trivial) (L_FnIntervals_ok fuel) yes
theorem over : Rows.fnIntervalsRow.holds Try.pinned (OpenSpec.ofChange Rows.fnIntervalsSpec) :=
  OpenClaim.holds_of_wide 3 Try.f3 rfl rfl rfl rfl rfl rfl rfl ⟨rfl, rfl, rfl, rfl, rfl⟩ rfl rfl rfl rfl rfl (by kernel_rfl) Try.func3 (by kernel_rfl)
    (of_decide_eq_true (by kernel_rfl)) (by unfold Func.isWrapper; first | (rw [if_pos (by decide +kernel)]; kernel_rfl) | (rw [if_neg (by decide +kernel)]; exact ⟨rfl, rfl⟩))
    (fun os started H enc _ => lifted os started H enc)
end Go.Proofs.Ytolmhhnhmbiofaa.fnIntervals
namespace Go.Proofs.Ytolmhhnhmbiofaa
theorem fnIntervals_holds : Rows.FnIntervalsSaid := fnIntervals.over
#print axioms fnIntervals_holds
end Go.Proofs.Ytolmhhnhmbiofaa
