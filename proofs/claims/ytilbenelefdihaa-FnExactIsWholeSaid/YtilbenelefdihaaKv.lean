/- What the functions come to. Nothing is claimed here. -/
import Derived.Test.YtilbenelefdihaaKu
set_option linter.unusedVariables false
set_option linter.unusedSimpArgs false
set_option maxRecDepth 100000
namespace Go.Ytilbenelefdihaa
open Go Go.RowKit Go.Pv Go.Pu

/-! Spans of pieces. -/
def spanOf (p : IPiece) : ISpan := ⟨p.From, IntKind.wrap .i64 (p.From + (p.Data.length : Int))⟩
theorem spans_fold (x : List IPiece) : foldI (fun j s => s ++ (x[j]?).elim [] (fun e => [spanOf e])) x.length 0 [] = x.map spanOf := by
  have := foldI_append (x := x) (f := fun e => [spanOf e]) x.length 0 [] (by omega)
  rw [this, List.drop_zero, List.nil_append]
  clear this
  induction x with
  | nil => rfl
  | cons a l ih => rw [List.flatMap_cons, ih]; rfl
theorem S_SpansOf_eq {k : Nat} (hk : 1073741824 ≤ k) (x : List IPiece) (h : x.length < 1073741824) : S_SpansOf k x = some (x.map spanOf) := by
  have := (fold_all (len := x.length) (g := fun j s => s ++ (x[j]?).elim [] (fun e => [spanOf e])) (Inv := fun i s => s.length = i) (F := fun n i s => S_SpansOf_b0 k n x i s) (out := id) (fun n i s hi hs => by
    simp only [S_SpansOf_b0, idx_nat hi, Option.bind_some, wrap_succ (by omega : i < 9223372036854775807), bif_dec, lt_cast, hi, if_true, List.getElem?_eq_getElem hi, Option.elim_some]
    rw [appn_ok (by simp only [List.length_cons, List.length_nil]; omega), Option.bind_some]
    exact ⟨rfl, by simp [hs]⟩) (fun n i s hi => by
    simp only [S_SpansOf_b0, bif_dec, lt_cast]
    rw [if_neg (by omega)]; rfl) (k := k) (by omega) (s := []) rfl).1
  rw [S_SpansOf, this, spans_fold]; rfl
theorem I_SpansOf_eq {k : Nat} (hk : 1073741824 ≤ k) (x : List IPiece) (h : x.length < 1073741824) : I_SpansOf k x = some (x.map spanOf) := by
  have := (fold_all (len := x.length) (g := fun j s => s ++ (x[j]?).elim [] (fun e => [spanOf e])) (Inv := fun i s => s.length = i) (F := fun n i s => I_SpansOf_b0 k n x (x.length : Int) i s) (out := id) (fun n i s hi hs => by
    simp only [I_SpansOf_b0, idx_nat hi, Option.bind_some, wrap_succ (by omega : i < 9223372036854775807), bif_dec, lt_cast, hi, if_true, List.getElem?_eq_getElem hi, Option.elim_some]
    rw [appn_ok (by simp only [List.length_cons, List.length_nil]; omega), Option.bind_some]
    exact ⟨rfl, by simp [hs]⟩) (fun n i s hi => by
    simp only [I_SpansOf_b0, bif_dec, lt_cast]
    rw [if_neg (by omega)]; rfl) (k := k) (by omega) (s := []) rfl).1
  rw [I_SpansOf, this, spans_fold]; rfl

/-! Spans that cover. -/
def covP (x : List ISpan) (f t : Int) (i : Nat) : Bool := match x[i]? with | some e => decide (e.From ≤ f) && decide (t ≤ e.To) | none => false
def covB (x : List ISpan) (a : ISpan) : Bool := decide (a.From ≥ a.To) || (firstI (covP x a.From a.To) x.length 0).isSome

theorem S_CoversSpan_eq {k : Nat} (hk : 1073741824 ≤ k) (x : List ISpan) (a : ISpan) (h : x.length < 1073741824) : S_CoversSpan k x a = some (covB x a) := by
  have := find_all (len := x.length) (c := fun i => bif covP x a.From a.To i then some true else none) (F := fun n i => S_CoversSpan_b0 k n x i a.From a.To) (fun n i hi => by
    simp only [S_CoversSpan_b0, idx_nat hi, Option.bind_some, wrap_succ (by omega : i < 9223372036854775807), bif_dec, lt_cast, hi, if_true, covP, List.getElem?_eq_getElem hi]
    by_cases c1 : x[i].From ≤ a.From
    · by_cases c2 : a.To ≤ x[i].To <;> simp [c1, c2]
    · simp [c1]) (fun n i hi => by
    simp only [S_CoversSpan_b0, bif_dec, lt_cast]
    rw [if_neg (by omega)]) (k := k) (by omega)
  rw [S_CoversSpan, this, findI_first]
  unfold covB
  cases firstI (covP x a.From a.To) x.length 0 with
  | none => simp [ocOf, oc]
  | some j => simp [ocOf, oc]

theorem I_CoversSpan_eq {k : Nat} (hk : 1073741824 ≤ k) (x : List ISpan) (a : ISpan) (h : x.length < 1073741824) : I_CoversSpan k x a = some (covB x a) := by
  have := find_all (len := x.length) (c := fun i => bif covP x a.From a.To i then some (i : Int) else none) (F := fun n i => slices_IndexFunc_ISpan_at_I_CoversSpan_1_b0 k n x a.From a.To (x.length : Int) i) (fun n i hi => by
    simp only [slices_IndexFunc_ISpan_at_I_CoversSpan_1_b0, I_CoversSpan_1, idx_nat hi, Option.bind_some, wrap_succ (by omega : i < 9223372036854775807), bif_dec, lt_cast, hi, if_true, covP, List.getElem?_eq_getElem hi]
    by_cases c1 : x[i].From ≤ a.From
    · by_cases c2 : a.To ≤ x[i].To <;> simp [c1, c2]
    · simp [c1]) (fun n i hi => by
    simp only [slices_IndexFunc_ISpan_at_I_CoversSpan_1_b0, bif_dec, lt_cast]
    rw [if_neg (by omega)]) (k := k) (by omega)
  unfold covB
  rw [I_CoversSpan, bif_dec]
  by_cases c : a.From ≥ a.To
  · simp [c]
  · rw [if_neg c, slices_ContainsFunc_ISpan_at_I_CoversSpan_1, slices_IndexFunc_ISpan_at_I_CoversSpan_1, this, findI_first]
    cases firstI (covP x a.From a.To) x.length 0 with
    | none => simp [ocOf, oc, c]
    | some j => simp [ocOf, oc, c]

theorem FnExactIsWhole_pure {k : Nat} (hk : 1073741824 ≤ k) (a0 : List LPiece) (a1 : Int) (h0 : InL V_LPiece a0) (h1 : InI a1) : L_FnExactIsWhole k a0 a1 = some true := by
  unfold L_FnExactIsWhole
  rw [L_szPieceS_eq hk h0 _ (by omega) (by omega), Option.bind_some, bif_dec]
  by_cases c3 : (szL sz_LPiece a0 : Int) ≤ 1048576
  case neg => rw [if_neg c3, if_pos (by omega)]
  have hl : a0.length ≤ szL sz_LPiece a0 := by unfold szL; omega
  have hx : (a0.map to_LPiece).length < 1073741824 := by simp; omega
  have hs : ((a0.map to_LPiece).map spanOf).length < 1073741824 := by simp; omega
  rw [if_pos c3, if_neg (by omega)]
  simp only [L_toPieceS_eq hk a0 (by omega), Option.bind_some, S_IsWhole, I_IsWhole, S_SpansOf_eq hk _ hx, I_SpansOf_eq hk _ hx, S_CoversSpan_eq hk _ _ hs, I_CoversSpan_eq hk _ _ hs, L_eqPieceS_eq hk _ _ hx]
  simp

end Go.Ytilbenelefdihaa
