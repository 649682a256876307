/- The program's FindResource returns what the reference's FindResource returns, whatever the arguments; no conditions. -/
import Derived.Test.YtdninebapdohkaaRows
import Derived.Test.YtdninebapdohkaaKp
import Derived.Test.YtdninebapdohkaaKv
namespace Go.Proofs.Ytdninebapdohkaa.fnExactFindResource
open Go Go.RowKit Go.Pv Go.Pu Go.Ytdninebapdohkaa Go.ChangeShapes Go.WideShapes
set_option linter.unusedVariables false
set_option maxRecDepth 100000
theorem own : ownKnob Try.prog.godebug = none := by kernel_rfl
def fuel : Nat := 1073741824
theorem yes : ∀ x, VA X L_FnExactFindResource_ar x → L_FnExactFindResource_f fuel x = some true := fun x hx => FnExactFindResource_pure (k := fuel) (by unfold fuel; omega) (⟨x.1.1, x.1.2.1⟩ : LOrigin) x.2.1 ⟨(vv_s (hx.1 _ (.head _))), (vv_l (hx.1 _ (.tail _ (.head _))) (fun x h => V_LResource_of h))⟩ (vv_s hx.2.1)
theorem els : ∀ e ∈ ([39, 9, 122] : List Nat), ElOK X [39, 9, 122] e := AllP_mem (p := ElOK X [39, 9, 122]) ⟨⟨[.ks, .ks, .ks, .kb, .kl 9, .kl 122], by kernel_rfl, fun x => ⟨_, rfl, rfl⟩⟩, ⟨[.ks], by kernel_rfl, fun x => ⟨_, rfl, rfl⟩⟩, ⟨[.ki .i64, .ks, .kb], by kernel_rfl, fun x => ⟨_, rfl, rfl⟩⟩, trivial⟩
theorem lifted (os : Os) (started : os.Started) (H : Type) (enc : TypeId × Value → H) :
    ReturnsInHanded {} Try.checked os 8 .any (Rows.fnExactFindResourceSpec.pre6 enc Try.prog Try.f8 Rows.fnExactFindResourceRow.domain false) (Rows.fnExactFindResourceSpec.post enc Try.prog Try.f8 false true false false) :=
  said_of (C := Try.checked) (fn := Try.f8) (X := X) (els := [39, 9, 122]) (l := L_FnExactFindResource_ar) (F := L_FnExactFindResource_f fuel) (vr := L_FnExactFindResource_vr) (bt := 4) own started (by kernel_rfl) Try.func8 rfl
    (ChangeSpec.witness6 (enc := enc) (C := Try.checked) false ⟨#[], #[.agg #[.string ⟨#[]⟩, .slice none 0 0], .string ⟨#[]⟩], []⟩ 8 (by kernel_rfl) (by kernel_rfl) (by kernel_rfl) (by kernel_rfl))
    ctx cod els (by kernel_rfl) rfl Try.underlying4 (by kernel_rfl) (by kernel_rfl)
    (fun ds h => match ds, h with | [d0, d1], _ => rfl) (fun _ => rfl) (fun _ => trivial) (L_FnExactFindResource_ok fuel) yes
theorem over : Rows.fnExactFindResourceRow.holds Try.pinned (OpenSpec.ofChange Rows.fnExactFindResourceSpec) :=
  OpenClaim.holds_of_wide 8 Try.f8 rfl rfl rfl rfl rfl rfl rfl ⟨rfl, rfl, rfl, rfl, rfl⟩ rfl rfl rfl rfl rfl (by kernel_rfl) Try.func8 (by kernel_rfl)
    (of_decide_eq_true (by kernel_rfl)) (by unfold Func.isWrapper; first | (rw [if_pos (by decide +kernel)]; kernel_rfl) | (rw [if_neg (by decide +kernel)]; exact ⟨rfl, rfl⟩))
    (fun os started H enc _ => lifted os started H enc)
end Go.Proofs.Ytdninebapdohkaa.fnExactFindResource
namespace Go.Proofs.Ytdninebapdohkaa
theorem fnExactFindResource_holds : Rows.FnExactFindResourceSaid := fnExactFindResource.over
#print axioms fnExactFindResource_holds
end Go.Proofs.Ytdninebapdohkaa
