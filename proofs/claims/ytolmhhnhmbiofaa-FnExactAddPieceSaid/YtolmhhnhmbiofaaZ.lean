/- The program's AddPiece returns what the reference's AddPiece returns, whatever the arguments; no conditions. -/
import Derived.Test.YtolmhhnhmbiofaaRows
import Derived.Test.YtolmhhnhmbiofaaKp
import Derived.Test.YtolmhhnhmbiofaaKv
namespace Go.Proofs.Ytolmhhnhmbiofaa.fnExactAddPiece
open Go Go.RowKit Go.Pv Go.Pu Go.Ytolmhhnhmbiofaa Go.ChangeShapes Go.WideShapes
set_option linter.unusedVariables false
set_option maxRecDepth 100000
theorem own : ownKnob Try.prog.godebug = none := by kernel_rfl
def fuel : Nat := 1073741824
theorem yes : ∀ x, VA X L_FnExactAddPiece_ar x → L_FnExactAddPiece_f fuel x = some true := fun x hx => FnExactAddPiece_pure (k := fuel) (by unfold fuel; omega) x.1 x.2.1 (⟨x.2.2.1.1, x.2.2.1.2.1⟩ : LPiece) (vv_l hx.1 (fun x h => V_LPiece_of h)) (vv_i hx.2.1) ⟨(vv_i (hx.2.2.1 _ (.head _))), (vv_s (hx.2.2.1 _ (.tail _ (.head _))))⟩
theorem els : ∀ e ∈ ([37] : List Nat), ElOK X [37] e := AllP_mem (p := ElOK X [37]) ⟨⟨[.ki .i64, .ks], by kernel_rfl, fun x => ⟨_, rfl, rfl⟩⟩, trivial⟩
theorem lifted (os : Os) (started : os.Started) (H : Type) (enc : TypeId × Value → H) :
    ReturnsInHanded {} Try.checked os 4 .any (Rows.fnExactAddPieceSpec.pre6 enc Try.prog Try.f4 Rows.fnExactAddPieceRow.domain false) (Rows.fnExactAddPieceSpec.post enc Try.prog Try.f4 false true false false) :=
  said_of (C := Try.checked) (fn := Try.f4) (X := X) (els := [37]) (l := L_FnExactAddPiece_ar) (F := L_FnExactAddPiece_f fuel) (vr := L_FnExactAddPiece_vr) (bt := 4) own started (by kernel_rfl) Try.func4 rfl
    (ChangeSpec.witness6 (enc := enc) (C := Try.checked) false ⟨#[], #[.slice none 0 0, .int .i64 0, .agg #[.int .i64 0, .string ⟨#[]⟩]], []⟩ 8 (by kernel_rfl) (by kernel_rfl) (by kernel_rfl) (by kernel_rfl))
    ctx cod els (by kernel_rfl) rfl Try.underlying4 (by kernel_rfl) (by kernel_rfl)
    (fun ds h => match ds, h with | [d0, d1, d2], _ => rfl) (fun _ => rfl) (fun W h w' b => trivial) (L_FnExactAddPiece_ok fuel) yes
theorem over : Rows.fnExactAddPieceRow.holds Try.pinned (OpenSpec.ofChange Rows.fnExactAddPieceSpec) :=
  OpenClaim.holds_of_wide 4 Try.f4 rfl rfl rfl rfl rfl rfl rfl ⟨rfl, rfl, rfl, rfl, rfl⟩ rfl rfl rfl rfl rfl (by kernel_rfl) Try.func4 (by kernel_rfl)
    (of_decide_eq_true (by kernel_rfl)) (by unfold Func.isWrapper; first | (rw [if_pos (by decide +kernel)]; kernel_rfl) | (rw [if_neg (by decide +kernel)]; exact ⟨rfl, rfl⟩))
    (fun os started H enc _ => lifted os started H enc)
end Go.Proofs.Ytolmhhnhmbiofaa.fnExactAddPiece
namespace Go.Proofs.Ytolmhhnhmbiofaa
theorem fnExactAddPiece_holds : Rows.FnExactAddPieceSaid := fnExactAddPiece.over
#print axioms fnExactAddPiece_holds
end Go.Proofs.Ytolmhhnhmbiofaa
