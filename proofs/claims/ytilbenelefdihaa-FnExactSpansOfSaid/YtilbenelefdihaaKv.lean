/- What the functions come to. Nothing is claimed here. -/
import Derived.Test.YtilbenelefdihaaKu
set_option linter.unusedVariables false
set_option linter.unusedSimpArgs false
set_option maxRecDepth 100000
namespace Go.Ytilbenelefdihaa
open Go Go.RowKit Go.Pv Go.Pu

/-! Spans of pieces. -/
def spanOf (p : IPiece) : ISpan := ⟨p.From, IntKind.wrap .i64 (p.From + (p.Data.length : Int))⟩
theorem spans_fold (x : List IPiece) : foldI (fun j s => s ++ (x[j]?).elim [] (fun e => [spanOf e])) x.length 0 [] = x.map spanOf := by
  have := foldI_append (x := x) (f := fun e => [spanOf e]) x.length 0 [] (by omega)
  rw [this, List.drop_zero, List.nil_append]
  clear this
  induction x with
  | nil => rfl
  | cons a l ih => rw [List.flatMap_cons, ih]; rfl
theorem S_SpansOf_eq {k : Nat} (hk : 1073741824 ≤ k) (x : List IPiece) (h : x.length < 1073741824) : S_SpansOf k x = some (x.map spanOf) := by
  have := (fold_all (len := x.length) (g := fun j s => s ++ (x[j]?).elim [] (fun e => [spanOf e])) (Inv := fun i s => s.length = i) (F := fun n i s => S_SpansOf_b0 k n x i s) (out := id) (fun n i s hi hs => by
    simp only [S_SpansOf_b0, idx_nat hi, Option.bind_some, wrap_succ (by omega : i < 9223372036854775807), bif_dec, lt_cast, hi, if_true, List.getElem?_eq_getElem hi, Option.elim_some]
    rw [appn_ok (by simp only [List.length_cons, List.length_nil]; omega), Option.bind_some]
    exact ⟨rfl, by simp [hs]⟩) (fun n i s hi => by
    simp only [S_SpansOf_b0, bif_dec, lt_cast]
    rw [if_neg (by omega)]; rfl) (k := k) (by omega) (s := []) rfl).1
  rw [S_SpansOf, this, spans_fold]; rfl
theorem I_SpansOf_eq {k : Nat} (hk : 1073741824 ≤ k) (x : List IPiece) (h : x.length < 1073741824) : I_SpansOf k x = some (x.map spanOf) := by
  have := (fold_all (len := x.length) (g := fun j s => s ++ (x[j]?).elim [] (fun e => [spanOf e])) (Inv := fun i s => s.length = i) (F := fun n i s => I_SpansOf_b0 k n x (x.length : Int) i s) (out := id) (fun n i s hi hs => by
    simp only [I_SpansOf_b0, idx_nat hi, Option.bind_some, wrap_succ (by omega : i < 9223372036854775807), bif_dec, lt_cast, hi, if_true, List.getElem?_eq_getElem hi, Option.elim_some]
    rw [appn_ok (by simp only [List.length_cons, List.length_nil]; omega), Option.bind_some]
    exact ⟨rfl, by simp [hs]⟩) (fun n i s hi => by
    simp only [I_SpansOf_b0, bif_dec, lt_cast]
    rw [if_neg (by omega)]; rfl) (k := k) (by omega) (s := []) rfl).1
  rw [I_SpansOf, this, spans_fold]; rfl

theorem FnExactSpansOf_pure {k : Nat} (hk : 1073741824 ≤ k) (a0 : List LPiece) (h0 : InL V_LPiece a0) : L_FnExactSpansOf k a0 = some true := by
  unfold L_FnExactSpansOf
  rw [L_szPieceS_eq hk h0 _ (by omega) (by omega), Option.bind_some, bif_dec]
  by_cases c3 : (szL sz_LPiece a0 : Int) ≤ 1048576
  case neg => rw [if_neg c3, if_pos (by omega)]
  have hl : a0.length ≤ szL sz_LPiece a0 := by unfold szL; omega
  have hx : (a0.map to_LPiece).length < 1073741824 := by simp; omega
  have hs : ((a0.map to_LPiece).map spanOf).length < 1073741824 := by simp; omega
  rw [if_pos c3, if_neg (by omega)]
  simp only [L_toPieceS_eq hk a0 (by omega), Option.bind_some, S_SpansOf_eq hk _ hx, I_SpansOf_eq hk _ hx, L_eqSpanS_eq hk _ _ hs, L_eqPieceS_eq hk _ _ hx, L_markPieceS_eq hk _ hx, L_markSpanS_eq hk _ hs, L_heldSpanS_eq hk _ hs, decide_true, Bool.not_true, cond_false, bif_dec, bne_self_eq_false]
  rw [if_neg (by omega), if_neg (by omega), if_neg (by omega)]

end Go.Ytilbenelefdihaa
