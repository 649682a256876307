/- The program's AddSpan returns what the reference's AddSpan returns, whatever the arguments; no conditions. -/
import Derived.Test.YtdninebapdohkaaRows
import Derived.Test.YtdninebapdohkaaKp
import Derived.Test.YtdninebapdohkaaKv
namespace Go.Proofs.Ytdninebapdohkaa.fnExactAddSpan
open Go Go.RowKit Go.Pv Go.Pu Go.Ytdninebapdohkaa Go.ChangeShapes Go.WideShapes
set_option linter.unusedVariables false
set_option maxRecDepth 100000
theorem own : ownKnob Try.prog.godebug = none := by kernel_rfl
def fuel : Nat := 1073741824
theorem yes : ∀ x, VA X L_FnExactAddSpan_ar x → L_FnExactAddSpan_f fuel x = some true := fun x hx => FnExactAddSpan_pure (k := fuel) (by unfold fuel; omega) x.1 (⟨x.2.1.1, x.2.1.2.1⟩ : LSpan) (vv_l hx.1 (fun x h => V_LSpan_of h)) ⟨(vv_i (hx.2.1 _ (.head _))), (vv_i (hx.2.1 _ (.tail _ (.head _))))⟩
theorem els : ∀ e ∈ ([24] : List Nat), ElOK X [24] e := AllP_mem (p := ElOK X [24]) ⟨⟨[.ki .i64, .ki .i64], by kernel_rfl, fun x => ⟨_, rfl, rfl⟩⟩, trivial⟩
theorem lifted (os : Os) (started : os.Started) (H : Type) (enc : TypeId × Value → H) :
    ReturnsInHanded {} Try.checked os 3 .any (Rows.fnExactAddSpanSpec.pre6 enc Try.prog Try.f3 Rows.fnExactAddSpanRow.domain false) (Rows.fnExactAddSpanSpec.post enc Try.prog Try.f3 false true false false) :=
  said_of (C := Try.checked) (fn := Try.f3) (X := X) (els := [24]) (l := L_FnExactAddSpan_ar) (F := L_FnExactAddSpan_f fuel) (vr := L_FnExactAddSpan_vr) (bt := 4) own started (by kernel_rfl) Try.func3 rfl
    (ChangeSpec.witness6 (enc := enc) (C := Try.checked) false ⟨#[], #[.slice none 0 0, .agg #[.int .i64 0, .int .i64 0]], []⟩ 8 (by kernel_rfl) (by kernel_rfl) (by kernel_rfl) (by kernel_rfl))
    ctx cod els (by kernel_rfl) rfl Try.underlying4 (by kernel_rfl) (by kernel_rfl)
    (fun ds h => match ds, h with | [d0, d1], _ => rfl) (fun _ => rfl) (fun _ => trivial) (L_FnExactAddSpan_ok fuel) yes
theorem over : Rows.fnExactAddSpanRow.holds Try.pinned (OpenSpec.ofChange Rows.fnExactAddSpanSpec) :=
  OpenClaim.holds_of_wide 3 Try.f3 rfl rfl rfl rfl rfl rfl rfl ⟨rfl, rfl, rfl, rfl, rfl⟩ rfl rfl rfl rfl rfl (by kernel_rfl) Try.func3 (by kernel_rfl)
    (of_decide_eq_true (by kernel_rfl)) (by unfold Func.isWrapper; first | (rw [if_pos (by decide +kernel)]; kernel_rfl) | (rw [if_neg (by decide +kernel)]; exact ⟨rfl, rfl⟩))
    (fun os started H enc _ => lifted os started H enc)
end Go.Proofs.Ytdninebapdohkaa.fnExactAddSpan
namespace Go.Proofs.Ytdninebapdohkaa
theorem fnExactAddSpan_holds : Rows.FnExactAddSpanSaid := fnExactAddSpan.over
#print axioms fnExactAddSpan_holds
end Go.Proofs.Ytdninebapdohkaa
