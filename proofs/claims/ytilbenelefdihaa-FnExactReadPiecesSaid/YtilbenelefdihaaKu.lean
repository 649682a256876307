/- What the laws' own functions come to. Nothing is claimed here. -/
import Derived.Test.YtilbenelefdihaaKf
import Derived.Test.YtilbenelefdihaaPu4
set_option linter.unusedSimpArgs false
set_option linter.unusedVariables false
set_option maxRecDepth 100000
namespace Go.Ytilbenelefdihaa
open Go Go.RowKit Go.Pv Go.Pu

def V_LPiece (a : LPiece) : Prop := InI a.From ∧ InS a.Data
def sz_LPiece (a : LPiece) : Nat := a.Data.length
def to_LPiece (a : LPiece) : IPiece := ⟨a.From, a.Data⟩
def V_LSpan (a : LSpan) : Prop := InI a.From ∧ InI a.To
def sz_LSpan (a : LSpan) : Nat := 0
def to_LSpan (a : LSpan) : ISpan := ⟨a.From, a.To⟩
theorem V_LPiece_of {x : LPiece} (h : ∀ v ∈ X.E 90 x, ∀ d, VV X d v) : V_LPiece x := ⟨(vv_i (h _ (.head _))), (vv_s (h _ (.tail _ (.head _))))⟩
theorem L_toPiece_eq {k : Nat} (hk : 1073741824 ≤ k) (a : LPiece) (h : sz_LPiece a ≤ 1048576) : L_toPiece k a = some (to_LPiece a) := rfl
theorem L_toPieceS_eq {k : Nat} (hk : 1073741824 ≤ k) (a : List (LPiece)) (h : szL sz_LPiece a ≤ 1048576) : L_toPieceS k a = some (a.map to_LPiece) := by
  have h1 : a.length ≤ 1048576 := by unfold szL at h; omega
  rw [L_toPieceS, guardT_self, mks_ok (by omega), Option.bind_some, to_all (F := L_toPieceS_b0 k) (f := (L_toPiece k)) (g := to_LPiece) (fun _ _ _ _ => rfl) (fun e he => L_toPiece_eq hk e (by have := sz_mem (g := sz_LPiece) he; omega)) (by omega) (by omega)]
  rfl
theorem L_szPiece_eq {k : Nat} (hk : 1073741824 ≤ k) {a : LPiece} (h : V_LPiece a) (l : Int) (h0 : 0 ≤ l) (h1 : l ≤ 1048576) : L_szPiece k a l = some (if (sz_LPiece a : Int) ≤ l then l - sz_LPiece a else -1) := by
  unfold V_LPiece InS at h
  unfold sz_LPiece L_szPiece
  have v0 := h.2
  rw [wrap_id (by omega) (by omega), bif_dec]
  by_cases c0 : l - ((a.Data.length : Nat) : Int) < 0
  · rw [if_pos c0, if_neg (by push_cast; omega)]
  rw [if_neg c0]
  rw [if_pos (by push_cast; omega)]
  try exact congrArg some (by first | rfl | (push_cast; omega))
theorem L_szPieceS_eq {k : Nat} (hk : 1073741824 ≤ k) {a : List (LPiece)} (h : InL V_LPiece a) (l : Int) (h0 : 0 ≤ l) (h1 : l ≤ 1048576) : L_szPieceS k a l = some (if (szL sz_LPiece a : Int) ≤ l then l - szL sz_LPiece a else -1) :=
  sz_all (F := L_szPieceS_b0 k) (f := L_szPiece k) (g := sz_LPiece) (fun _ _ _ _ => rfl) (fun e he l h0 h1 => L_szPiece_eq hk (h.2 e he) l h0 h1) h.1 h0 h1 (by omega)
theorem L_eqPiece_eq {k : Nat} (hk : 1073741824 ≤ k) (a b : IPiece) : L_eqPiece k a b = some (decide (a = b)) := by
  obtain ⟨a0, a1⟩ := a
  obtain ⟨b0, b1⟩ := b
  simp only [L_eqPiece, IPiece.mk.injEq]
  by_cases e0 : a0 = b0
  case neg => simp [e0, bne_ne e0, beq_ne e0]
  by_cases e1 : a1 = b1
  case neg => simp [e0, e1, bne_ne e1, beq_ne e1]
  simp [e0, e1]
theorem L_eqPieceS_eq {k : Nat} (hk : 1073741824 ≤ k) (a b : List (IPiece)) (h : a.length < 1073741824) : L_eqPieceS k a b = some (decide (a = b)) := eq_all (F := L_eqPieceS_b0 k) (f := L_eqPiece k) (fun _ _ _ _ => rfl) (fun e _ e' _ => L_eqPiece_eq hk e e') (by omega) (by omega)
theorem L_toSpan_eq {k : Nat} (hk : 1073741824 ≤ k) (a : LSpan) (h : sz_LSpan a ≤ 1048576) : L_toSpan k a = some (to_LSpan a) := rfl
end Go.Ytilbenelefdihaa
