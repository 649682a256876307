/- The law FnPieces is true of every input; no conditions. -/
import Derived.Test.YtolmhhnhmbiofaaRows
import Derived.Test.YtolmhhnhmbiofaaKp
import Derived.Test.YtolmhhnhmbiofaaKv
namespace Go.Proofs.Ytolmhhnhmbiofaa.fnPieces
open Go Go.RowKit Go.Pv Go.Pu Go.Ytolmhhnhmbiofaa Go.ChangeShapes Go.WideShapes
set_option linter.unusedVariables false
set_option maxRecDepth 100000
theorem own : ownKnob Try.prog.godebug = none := by kernel_rfl
def fuel : Nat := 1073741824
theorem yes : ∀ x, VA X L_FnPieces_ar x → L_FnPieces_f fuel x = some true := fun x hx => FnPieces_pure (k := fuel) (by unfold fuel; omega) x.1 (vv_l hx.1 (fun x h => (vv_b (h _ (.head _)))))
theorem els : ∀ e ∈ ([5] : List Nat), ElOK X [5] e := AllP_mem (p := ElOK X [5]) ⟨⟨[.ki .u8], by kernel_rfl, fun x => ⟨_, rfl, rfl⟩⟩, trivial⟩
theorem lifted (os : Os) (started : os.Started) (H : Type) (enc : TypeId × Value → H) :
    ReturnsInHanded {} Try.checked os 5 .any (Rows.fnPiecesSpec.pre6 enc Try.prog Try.f5 Rows.fnPiecesRow.domain false) (Rows.fnPiecesSpec.post enc Try.prog Try.f5 false true false false) :=
  said_of (C := Try.checked) (fn := Try.f5) (X := X) (els := [5]) (l := L_FnPieces_ar) (F := L_FnPieces_f fuel) (vr := L_FnPieces_vr) (bt := 4) own started (by kernel_rfl) Try.func5 rfl
    (ChangeSpec.witness6 (enc := enc) (C := Try.checked) false ⟨#[], #[.slice none 0 0], []⟩ 8 (by kernel_rfl) (by kernel_rfl) (by kernel_rfl) (by kernel_rfl))
    ctx cod els (by kernel_rfl) rfl Try.underlying4 (by kernel_rfl) (by kernel_rfl)
    (fun ds h => match ds, h with | [d0], _ => rfl) (fun _ => rfl) (fun W h w' b => trivial) (L_FnPieces_ok fuel) yes
theorem over : Rows.fnPiecesRow.holds Try.pinned (OpenSpec.ofChange Rows.fnPiecesSpec) :=
  OpenClaim.holds_of_wide 5 Try.f5 rfl rfl rfl rfl rfl rfl rfl ⟨rfl, rfl, rfl, rfl, rfl⟩ rfl rfl rfl rfl rfl (by kernel_rfl) Try.func5 (by kernel_rfl)
    (of_decide_eq_true (by kernel_rfl)) (by unfold Func.isWrapper; first | (rw [if_pos (by decide +kernel)]; kernel_rfl) | (rw [if_neg (by decide +kernel)]; exact ⟨rfl, rfl⟩))
    (fun os started H enc _ => lifted os started H enc)
end Go.Proofs.Ytolmhhnhmbiofaa.fnPieces
namespace Go.Proofs.Ytolmhhnhmbiofaa
theorem fnPieces_holds : Rows.FnPiecesSaid := fnPieces.over
#print axioms fnPieces_holds
end Go.Proofs.Ytolmhhnhmbiofaa
