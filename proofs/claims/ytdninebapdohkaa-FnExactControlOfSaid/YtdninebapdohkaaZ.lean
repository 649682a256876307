/- The program's ControlOf returns what the reference's ControlOf returns, whatever the arguments; no conditions. -/
import Derived.Test.YtdninebapdohkaaRows
import Derived.Test.YtdninebapdohkaaKp
import Derived.Test.YtdninebapdohkaaKv
namespace Go.Proofs.Ytdninebapdohkaa.fnExactControlOf
open Go Go.RowKit Go.Pv Go.Pu Go.Ytdninebapdohkaa Go.ChangeShapes Go.WideShapes
set_option linter.unusedVariables false
set_option maxRecDepth 100000
theorem own : ownKnob Try.prog.godebug = none := by kernel_rfl
def fuel : Nat := 1073741824
theorem yes : ∀ x, VA X L_FnExactControlOf_ar x → L_FnExactControlOf_f fuel x = some true := fun x hx => FnExactControlOf_pure (k := fuel) (by unfold fuel; omega) (⟨x.1.1, x.1.2.1, x.1.2.2.1, x.1.2.2.2.1, x.1.2.2.2.2.1, x.1.2.2.2.2.2.1⟩ : LResource) ⟨(vv_s (hx.1 _ (.head _))), (vv_s (hx.1 _ (.tail _ (.head _)))), (vv_s (hx.1 _ (.tail _ (.tail _ (.head _))))), trivial, (vv_l (hx.1 _ (.tail _ (.tail _ (.tail _ (.tail _ (.head _)))))) (fun x h => (vv_s (h _ (.head _))))), (vv_l (hx.1 _ (.tail _ (.tail _ (.tail _ (.tail _ (.tail _ (.head _))))))) (fun x h => V_LVersion_of h))⟩
theorem els : ∀ e ∈ ([9, 122] : List Nat), ElOK X [9, 122] e := AllP_mem (p := ElOK X [9, 122]) ⟨⟨[.ks], by kernel_rfl, fun x => ⟨_, rfl, rfl⟩⟩, ⟨[.ki .i64, .ks, .kb], by kernel_rfl, fun x => ⟨_, rfl, rfl⟩⟩, trivial⟩
theorem lifted (os : Os) (started : os.Started) (H : Type) (enc : TypeId × Value → H) :
    ReturnsInHanded {} Try.checked os 6 .any (Rows.fnExactControlOfSpec.pre6 enc Try.prog Try.f6 Rows.fnExactControlOfRow.domain false) (Rows.fnExactControlOfSpec.post enc Try.prog Try.f6 false true false false) :=
  said_of (C := Try.checked) (fn := Try.f6) (X := X) (els := [9, 122]) (l := L_FnExactControlOf_ar) (F := L_FnExactControlOf_f fuel) (vr := L_FnExactControlOf_vr) (bt := 4) own started (by kernel_rfl) Try.func6 rfl
    (ChangeSpec.witness6 (enc := enc) (C := Try.checked) false ⟨#[], #[.agg #[.string ⟨#[]⟩, .string ⟨#[]⟩, .string ⟨#[]⟩, .bool false, .slice none 0 0, .slice none 0 0]], []⟩ 8 (by kernel_rfl) (by kernel_rfl) (by kernel_rfl) (by kernel_rfl))
    ctx cod els (by kernel_rfl) rfl Try.underlying4 (by kernel_rfl) (by kernel_rfl)
    (fun ds h => match ds, h with | [d0], _ => rfl) (fun _ => rfl) (fun _ => trivial) (L_FnExactControlOf_ok fuel) yes
theorem over : Rows.fnExactControlOfRow.holds Try.pinned (OpenSpec.ofChange Rows.fnExactControlOfSpec) :=
  OpenClaim.holds_of_wide 6 Try.f6 rfl rfl rfl rfl rfl rfl rfl ⟨rfl, rfl, rfl, rfl, rfl⟩ rfl rfl rfl rfl rfl (by kernel_rfl) Try.func6 (by kernel_rfl)
    (of_decide_eq_true (by kernel_rfl)) (by unfold Func.isWrapper; first | (rw [if_pos (by decide +kernel)]; kernel_rfl) | (rw [if_neg (by decide +kernel)]; exact ⟨rfl, rfl⟩))
    (fun os started H enc _ => lifted os started H enc)
end Go.Proofs.Ytdninebapdohkaa.fnExactControlOf
namespace Go.Proofs.Ytdninebapdohkaa
theorem fnExactControlOf_holds : Rows.FnExactControlOfSaid := fnExactControlOf.over
#print axioms fnExactControlOf_holds
end Go.Proofs.Ytdninebapdohkaa
