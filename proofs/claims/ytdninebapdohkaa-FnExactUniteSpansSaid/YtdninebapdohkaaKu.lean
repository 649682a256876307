/- What the laws' own functions come to. Nothing is claimed here. -/
import Derived.Test.YtdninebapdohkaaKf
import Derived.Test.YtdninebapdohkaaPu4
set_option linter.unusedSimpArgs false
set_option linter.unusedVariables false
set_option maxRecDepth 100000
namespace Go.Ytdninebapdohkaa
open Go Go.RowKit Go.Pv Go.Pu

def V_LSpan (a : LSpan) : Prop := InI a.From ∧ InI a.To
def sz_LSpan (a : LSpan) : Nat := 0
def to_LSpan (a : LSpan) : ISpan := ⟨a.From, a.To⟩
theorem V_LSpan_of {x : LSpan} (h : ∀ v ∈ X.E 24 x, ∀ d, VV X d v) : V_LSpan x := ⟨(vv_i (h _ (.head _))), (vv_i (h _ (.tail _ (.head _))))⟩
theorem L_toSpan_eq {k : Nat} (hk : 1073741824 ≤ k) (a : LSpan) (h : sz_LSpan a ≤ 1048576) : L_toSpan k a = some (to_LSpan a) := rfl
theorem L_toSpanS_eq {k : Nat} (hk : 1073741824 ≤ k) (a : List (LSpan)) (h : a.length ≤ 1048576) : L_toSpanS k a = some (a.map to_LSpan) := by
  have h1 := h
  rw [L_toSpanS, guardT_self, mks_ok (by omega), Option.bind_some, to_all (F := L_toSpanS_b0 k) (f := (L_toSpan k)) (g := to_LSpan) (fun _ _ _ _ => rfl) (fun e _ => rfl) (by omega) (by omega)]
  rfl
theorem L_szSpanS_eq {k : Nat} (hk : 1073741824 ≤ k) {a : List LSpan} (h : InL V_LSpan a) (l : Int) (h0 : 0 ≤ l) (h1 : l ≤ 1048576) : L_szSpanS k a l = some (if (a.length : Int) ≤ l then l - a.length else -1) := by
  have := h.1
  rw [L_szSpanS, wrap_id (by omega) (by omega), bif_dec]
  by_cases hl : (a.length : Int) ≤ l
  · rw [if_neg (by omega), if_pos hl]
  · rw [if_pos (by omega), if_neg hl]
theorem L_eqSpan_eq {k : Nat} (hk : 1073741824 ≤ k) (a b : ISpan) : L_eqSpan k a b = some (decide (a = b)) := by
  obtain ⟨a0, a1⟩ := a
  obtain ⟨b0, b1⟩ := b
  simp only [L_eqSpan, ISpan.mk.injEq]
  by_cases e0 : a0 = b0
  case neg => simp [e0, bne_ne e0, beq_ne e0]
  by_cases e1 : a1 = b1
  case neg => simp [e0, e1, bne_ne e1, beq_ne e1]
  simp [e0, e1]
theorem L_eqSpanS_eq {k : Nat} (hk : 1073741824 ≤ k) (a b : List (ISpan)) (h : a.length < 1073741824) : L_eqSpanS k a b = some (decide (a = b)) := eq_all (F := L_eqSpanS_b0 k) (f := L_eqSpan k) (fun _ _ _ _ => rfl) (fun e _ e' _ => L_eqSpan_eq hk e e') (by omega) (by omega)
def mk_Span (m : Int) (e : ISpan) : ISpan := ⟨m, (m + 1)⟩
theorem L_markSpanS_eq {k : Nat} (hk : 1073741824 ≤ k) (r : List (ISpan)) (h : r.length < 1073741824) : L_markSpanS k r 1 = some (1 + ((2 : Nat) : Int) * (r.length : Int), marks mk_Span 2 1 r) := by
  rw [L_markSpanS, mark_all (F := L_markSpanS_b0 k) (g := mk_Span) (c := 2) (fun n m i r h h0 hm hr => ?_) (fun n m i r h => ?_) (by omega) (by omega) (by push_cast; omega) (by omega)]
  · rfl
  · rw [L_markSpanS_b0]
    simp (disch := first | omega | (simp only [List.length_set]; omega)) only [bif_dec, lt_cast, h, if_true, idx_nat h, idx_set, Option.bind_some, wrap_id, Int.toNat_natCast, List.set_set, idx_nat, md3]
    simp only [mk_Span, Int.add_assoc, List.getElem_set_self]
    rfl
  · rw [L_markSpanS_b0, bif_dec, if_neg (by omega)]
theorem L_heldSpanS_eq {k : Nat} (hk : 1073741824 ≤ k) (r : List (ISpan)) (h : r.length < 1073741824) : L_heldSpanS k (marks mk_Span 2 1 r) 1 = some (1 + ((2 : Nat) : Int) * (r.length : Int)) := by
  rw [L_heldSpanS, held_all (F := L_heldSpanS_b0 k) (g := mk_Span) (c := 2) (fun n x m i h e h0 hm hx he => ?_) (fun n x m i h => ?_) (by omega) (by omega) (by push_cast; omega) (by omega)]
  · rfl
  · rw [L_heldSpanS_b0]
    simp (disch := omega) only [bif_dec, lt_cast, h, if_true, idx_nat h, he, mk_Span, Option.bind_some, wrap_id, idx_nat, md3, bne_self_eq_false, cond_false, BEq.rfl, Bool.not_true, Int.add_assoc]
    rfl
  · rw [L_heldSpanS_b0, bif_dec, if_neg (by omega)]
end Go.Ytdninebapdohkaa
