/- The program's UniteSpans returns what the reference's UniteSpans returns, whatever the arguments; no conditions. -/
import Derived.Test.YtdninebapdohkaaRows
import Derived.Test.YtdninebapdohkaaKp
import Derived.Test.YtdninebapdohkaaKv
namespace Go.Proofs.Ytdninebapdohkaa.fnExactUniteSpans
open Go Go.RowKit Go.Pv Go.Pu Go.Ytdninebapdohkaa Go.ChangeShapes Go.WideShapes
set_option linter.unusedVariables false
set_option maxRecDepth 100000
theorem own : ownKnob Try.prog.godebug = none := by kernel_rfl
def fuel : Nat := 1073741824
theorem yes : ∀ x, VA X L_FnExactUniteSpans_ar x → L_FnExactUniteSpans_f fuel x = some true := fun x hx => FnExactUniteSpans_pure (k := fuel) (by unfold fuel; omega) x.1 (vv_l hx.1 (fun x h => V_LSpan_of h))
theorem els : ∀ e ∈ ([24] : List Nat), ElOK X [24] e := AllP_mem (p := ElOK X [24]) ⟨⟨[.ki .i64, .ki .i64], by kernel_rfl, fun x => ⟨_, rfl, rfl⟩⟩, trivial⟩
theorem lifted (os : Os) (started : os.Started) (H : Type) (enc : TypeId × Value → H) :
    ReturnsInHanded {} Try.checked os 4 .any (Rows.fnExactUniteSpansSpec.pre6 enc Try.prog Try.f4 Rows.fnExactUniteSpansRow.domain false) (Rows.fnExactUniteSpansSpec.post enc Try.prog Try.f4 false true false false) :=
  said_of (C := Try.checked) (fn := Try.f4) (X := X) (els := [24]) (l := L_FnExactUniteSpans_ar) (F := L_FnExactUniteSpans_f fuel) (vr := L_FnExactUniteSpans_vr) (bt := 4) own started (by kernel_rfl) Try.func4 rfl
    (ChangeSpec.witness6 (enc := enc) (C := Try.checked) false ⟨#[], #[.slice none 0 0], []⟩ 8 (by kernel_rfl) (by kernel_rfl) (by kernel_rfl) (by kernel_rfl))
    ctx cod els (by kernel_rfl) rfl Try.underlying4 (by kernel_rfl) (by kernel_rfl)
    (fun ds h => match ds, h with | [d0], _ => rfl) (fun _ => rfl) (fun _ => trivial) (L_FnExactUniteSpans_ok fuel) yes
theorem over : Rows.fnExactUniteSpansRow.holds Try.pinned (OpenSpec.ofChange Rows.fnExactUniteSpansSpec) :=
  OpenClaim.holds_of_wide 4 Try.f4 rfl rfl rfl rfl rfl rfl rfl ⟨rfl, rfl, rfl, rfl, rfl⟩ rfl rfl rfl rfl rfl (by kernel_rfl) Try.func4 (by kernel_rfl)
    (of_decide_eq_true (by kernel_rfl)) (by unfold Func.isWrapper; first | (rw [if_pos (by decide +kernel)]; kernel_rfl) | (rw [if_neg (by decide +kernel)]; exact ⟨rfl, rfl⟩))
    (fun os started H enc _ => lifted os started H enc)
end Go.Proofs.Ytdninebapdohkaa.fnExactUniteSpans
namespace Go.Proofs.Ytdninebapdohkaa
theorem fnExactUniteSpans_holds : Rows.FnExactUniteSpansSaid := fnExactUniteSpans.over
#print axioms fnExactUniteSpans_holds
end Go.Proofs.Ytdninebapdohkaa
