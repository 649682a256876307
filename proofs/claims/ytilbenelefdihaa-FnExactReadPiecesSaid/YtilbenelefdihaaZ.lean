/- The program's ReadPieces returns what the reference's ReadPieces returns, whatever the arguments; no conditions. -/
import Derived.Test.YtilbenelefdihaaRows
import Derived.Test.YtilbenelefdihaaKp
import Derived.Test.YtilbenelefdihaaKv
namespace Go.Proofs.Ytilbenelefdihaa.fnExactReadPieces
open Go Go.RowKit Go.Pv Go.Pu Go.Ytilbenelefdihaa Go.ChangeShapes Go.WideShapes
set_option linter.unusedVariables false
set_option maxRecDepth 100000
theorem own : ownKnob Try.prog.godebug = none := by kernel_rfl
def fuel : Nat := 1073741824
theorem yes : ∀ x, VA X L_FnExactReadPieces_ar x → L_FnExactReadPieces_f fuel x = some true := fun x hx => FnExactReadPieces_pure (k := fuel) (by unfold fuel; omega) x.1 (⟨x.2.1.1, x.2.1.2.1⟩ : LSpan) (vv_l hx.1 (fun x h => V_LPiece_of h)) ⟨(vv_i (hx.2.1 _ (.head _))), (vv_i (hx.2.1 _ (.tail _ (.head _))))⟩
theorem els : ∀ e ∈ ([90] : List Nat), ElOK X [90] e := AllP_mem (p := ElOK X [90]) ⟨⟨[.ki .i64, .ks], by kernel_rfl, fun x => ⟨_, rfl, rfl⟩⟩, trivial⟩
theorem lifted (os : Os) (started : os.Started) (H : Type) (enc : TypeId × Value → H) :
    ReturnsInHanded {} Try.checked os 8 .any (Rows.fnExactReadPiecesSpec.pre6 enc Try.prog Try.f8 Rows.fnExactReadPiecesRow.domain false) (Rows.fnExactReadPiecesSpec.post enc Try.prog Try.f8 false true false false) :=
  said_of (C := Try.checked) (fn := Try.f8) (X := X) (els := [90]) (l := L_FnExactReadPieces_ar) (F := L_FnExactReadPieces_f fuel) (vr := L_FnExactReadPieces_vr) (bt := 4) own started (by kernel_rfl) Try.func8 rfl
    (ChangeSpec.witness6 (enc := enc) (C := Try.checked) false ⟨#[], #[.slice none 0 0, .agg #[.int .i64 0, .int .i64 0]], []⟩ 8 (by kernel_rfl) (by kernel_rfl) (by kernel_rfl) (by kernel_rfl))
    ctx cod els (by kernel_rfl) rfl Try.underlying4 (by kernel_rfl) (by kernel_rfl)
    (fun ds h => match ds, h with | [d0, d1], _ => rfl) (fun _ => rfl) (fun _ => trivial) (L_FnExactReadPieces_ok fuel) yes
theorem over : Rows.fnExactReadPiecesRow.holds Try.pinned (OpenSpec.ofChange Rows.fnExactReadPiecesSpec) :=
  OpenClaim.holds_of_wide 8 Try.f8 rfl rfl rfl rfl rfl rfl rfl ⟨rfl, rfl, rfl, rfl, rfl⟩ rfl rfl rfl rfl rfl (by kernel_rfl) Try.func8 (by kernel_rfl)
    (of_decide_eq_true (by kernel_rfl)) (by unfold Func.isWrapper; first | (rw [if_pos (by decide +kernel)]; kernel_rfl) | (rw [if_neg (by decide +kernel)]; exact ⟨rfl, rfl⟩))
    (fun os started H enc _ => lifted os started H enc)
end Go.Proofs.Ytilbenelefdihaa.fnExactReadPieces
namespace Go.Proofs.Ytilbenelefdihaa
theorem fnExactReadPieces_holds : Rows.FnExactReadPiecesSaid := fnExactReadPieces.over
#print axioms fnExactReadPieces_holds
end Go.Proofs.Ytilbenelefdihaa
