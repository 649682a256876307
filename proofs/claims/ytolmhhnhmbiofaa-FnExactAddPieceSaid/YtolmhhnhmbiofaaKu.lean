/- What the laws' own functions come to. Nothing is claimed here. -/
import Derived.Test.YtolmhhnhmbiofaaKf
import Derived.Test.YtolmhhnhmbiofaaPu6
set_option linter.unusedSimpArgs false
set_option linter.unusedVariables false
set_option maxRecDepth 100000
namespace Go.Ytolmhhnhmbiofaa
open Go Go.RowKit Go.Pv Go.Pu

def V_LPiece (a : LPiece) : Prop := InI a.From ∧ InS a.Data
def sz_LPiece (a : LPiece) : Nat := a.Data.length
def to_LPiece (a : LPiece) : IPiece := ⟨a.From, a.Data⟩
theorem V_LPiece_of {x : LPiece} (h : ∀ v ∈ X.E 37 x, ∀ d, VV X d v) : V_LPiece x := ⟨(vv_i (h _ (.head _))), (vv_s (h _ (.tail _ (.head _))))⟩
theorem L_toPiece_eq {k : Nat} (hk : 1073741824 ≤ k) (a : LPiece) (h : sz_LPiece a ≤ 1048576) : L_toPiece k a = some (to_LPiece a) := rfl
theorem L_toPieceS_eq {k : Nat} (hk : 1073741824 ≤ k) (a : List (LPiece)) (h : szL sz_LPiece a ≤ 1048576) : L_toPieceS k a = some (a.map to_LPiece) := by
  have h1 : a.length ≤ 1048576 := by unfold szL at h; omega
  rw [L_toPieceS, guardT_self, mks_ok (by omega), Option.bind_some, to_all (F := L_toPieceS_b0 k) (f := (L_toPiece k)) (g := to_LPiece) (fun _ _ _ _ => rfl) (fun e he => L_toPiece_eq hk e (by have := sz_mem (g := sz_LPiece) he; omega)) (by omega) (by omega)]
  rfl
theorem L_szPiece_eq {k : Nat} (hk : 1073741824 ≤ k) {a : LPiece} (h : V_LPiece a) (l : Int) (h0 : 0 ≤ l) (h1 : l ≤ 1048576) : L_szPiece k a l = some (if (sz_LPiece a : Int) ≤ l then l - sz_LPiece a else -1) := by
  unfold V_LPiece InS at h
  unfold sz_LPiece L_szPiece
  have v0 := h.2
  rw [wrap_id (by omega) (by omega), bif_dec]
  by_cases c0 : l - ((a.Data.length : Nat) : Int) < 0
  · rw [if_pos c0, if_neg (by push_cast; omega)]
  rw [if_neg c0]
  rw [if_pos (by push_cast; omega)]
  try exact congrArg some (by first | rfl | (push_cast; omega))
theorem L_szPieceS_eq {k : Nat} (hk : 1073741824 ≤ k) {a : List (LPiece)} (h : InL V_LPiece a) (l : Int) (h0 : 0 ≤ l) (h1 : l ≤ 1048576) : L_szPieceS k a l = some (if (szL sz_LPiece a : Int) ≤ l then l - szL sz_LPiece a else -1) :=
  sz_all (F := L_szPieceS_b0 k) (f := L_szPiece k) (g := sz_LPiece) (fun _ _ _ _ => rfl) (fun e he l h0 h1 => L_szPiece_eq hk (h.2 e he) l h0 h1) h.1 h0 h1 (by omega)
theorem L_eqPiece_eq {k : Nat} (hk : 1073741824 ≤ k) (a b : IPiece) : L_eqPiece k a b = some (decide (a = b)) := by
  obtain ⟨a0, a1⟩ := a
  obtain ⟨b0, b1⟩ := b
  simp only [L_eqPiece, IPiece.mk.injEq]
  by_cases e0 : a0 = b0
  case neg => simp [e0, bne_ne e0, beq_ne e0]
  by_cases e1 : a1 = b1
  case neg => simp [e0, e1, bne_ne e1, beq_ne e1]
  simp [e0, e1]
theorem L_eqPieceS_eq {k : Nat} (hk : 1073741824 ≤ k) (a b : List (IPiece)) (h : a.length < 1073741824) : L_eqPieceS k a b = some (decide (a = b)) := eq_all (F := L_eqPieceS_b0 k) (f := L_eqPiece k) (fun _ _ _ _ => rfl) (fun e he e' _ => L_eqPiece_eq hk e e') (by omega) (by omega)
theorem L_markText_eq {k : Nat} (hk : 1073741824 ≤ k) {m : Int} (h0 : 0 < m) (h1 : m ≤ 1099511627787) : L_markText k m = some (mText m) := markText_all (F := L_markText_b0 k) (fun _ _ _ => rfl) hk h0 h1
def mk_Piece (m : Int) (e : IPiece) : IPiece := ⟨m, mText (m + 1)⟩
theorem L_markPieceS_eq {k : Nat} (hk : 1073741824 ≤ k) (r : List (IPiece)) (h : r.length < 1073741824) : L_markPieceS k r 1 = some (1 + ((2 : Nat) : Int) * (r.length : Int), marks mk_Piece 2 1 r) := by
  rw [L_markPieceS, mark_all (F := L_markPieceS_b0 k) (g := mk_Piece) (c := 2) (fun n m i r h h0 hm hr => ?_) (fun n m i r h => ?_) (by omega) (by omega) (by push_cast; omega) (by omega)]
  · rfl
  · rw [L_markPieceS_b0]
    simp (disch := first | omega | (simp only [List.length_set]; omega)) only [bif_dec, lt_cast, h, if_true, idx_nat h, idx_set, Option.bind_some, wrap_id, Int.toNat_natCast, List.set_set, L_markText_eq hk, md3]
    simp only [mk_Piece, Int.add_assoc, List.getElem_set_self]
    rfl
  · rw [L_markPieceS_b0, bif_dec, if_neg (by omega)]
theorem L_markPieceS_eqm {k : Nat} (hk : 1073741824 ≤ k) (r : List (IPiece)) (h : r.length < 1073741824) (m : Int) (hm0 : 0 < m) (hm1 : m + ((2 : Nat) : Int) * (r.length : Int) ≤ 1099511627776) : L_markPieceS k r m = some (m + ((2 : Nat) : Int) * (r.length : Int), marks mk_Piece 2 m r) := by
  rw [L_markPieceS, mark_all (F := L_markPieceS_b0 k) (g := mk_Piece) (c := 2) (fun n m i r h h0 hm hr => ?_) (fun n m i r h => ?_) (by omega) hm0 hm1 (by omega)]
  · rfl
  · rw [L_markPieceS_b0]
    simp (disch := first | omega | (simp only [List.length_set]; omega)) only [bif_dec, lt_cast, h, if_true, idx_nat h, idx_set, Option.bind_some, wrap_id, Int.toNat_natCast, List.set_set, L_markText_eq hk, md3]
    simp only [mk_Piece, Int.add_assoc, List.getElem_set_self]
    rfl
  · rw [L_markPieceS_b0, bif_dec, if_neg (by omega)]
theorem L_heldPieceS_eq {k : Nat} (hk : 1073741824 ≤ k) (r : List (IPiece)) (h : r.length < 1073741824) : L_heldPieceS k (marks mk_Piece 2 1 r) 1 = some (1 + ((2 : Nat) : Int) * (r.length : Int)) := by
  rw [L_heldPieceS, held_all (F := L_heldPieceS_b0 k) (g := mk_Piece) (c := 2) (fun n x m i h e h0 hm hx he => ?_) (fun n x m i h => ?_) (by omega) (by omega) (by push_cast; omega) (by omega)]
  · rfl
  · rw [L_heldPieceS_b0]
    simp (disch := omega) only [bif_dec, lt_cast, h, if_true, idx_nat h, he, mk_Piece, Option.bind_some, wrap_id, L_markText_eq hk, md3, bne_self_eq_false, cond_false, BEq.rfl, Bool.not_true, Int.add_assoc]
    rfl
  · rw [L_heldPieceS_b0, bif_dec, if_neg (by omega)]
end Go.Ytolmhhnhmbiofaa
