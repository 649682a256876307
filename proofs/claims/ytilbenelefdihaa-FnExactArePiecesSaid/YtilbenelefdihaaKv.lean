/- What the functions come to. Nothing is claimed here. -/
import Derived.Test.YtilbenelefdihaaKu
set_option linter.unusedVariables false
set_option linter.unusedSimpArgs false
set_option maxRecDepth 100000
namespace Go.Ytilbenelefdihaa
open Go Go.RowKit Go.Pv Go.Pu

/-! Spans of pieces. -/
def spanOf (p : IPiece) : ISpan := ⟨p.From, IntKind.wrap .i64 (p.From + (p.Data.length : Int))⟩
theorem spans_fold (x : List IPiece) : foldI (fun j s => s ++ (x[j]?).elim [] (fun e => [spanOf e])) x.length 0 [] = x.map spanOf := by
  have := foldI_append (x := x) (f := fun e => [spanOf e]) x.length 0 [] (by omega)
  rw [this, List.drop_zero, List.nil_append]
  clear this
  induction x with
  | nil => rfl
  | cons a l ih => rw [List.flatMap_cons, ih]; rfl
theorem S_SpansOf_eq {k : Nat} (hk : 1073741824 ≤ k) (x : List IPiece) (h : x.length < 1073741824) : S_SpansOf k x = some (x.map spanOf) := by
  have := (fold_all (len := x.length) (g := fun j s => s ++ (x[j]?).elim [] (fun e => [spanOf e])) (Inv := fun i s => s.length = i) (F := fun n i s => S_SpansOf_b0 k n x i s) (out := id) (fun n i s hi hs => by
    simp only [S_SpansOf_b0, idx_nat hi, Option.bind_some, wrap_succ (by omega : i < 9223372036854775807), bif_dec, lt_cast, hi, if_true, List.getElem?_eq_getElem hi, Option.elim_some]
    rw [appn_ok (by simp only [List.length_cons, List.length_nil]; omega), Option.bind_some]
    exact ⟨rfl, by simp [hs]⟩) (fun n i s hi => by
    simp only [S_SpansOf_b0, bif_dec, lt_cast]
    rw [if_neg (by omega)]; rfl) (k := k) (by omega) (s := []) rfl).1
  rw [S_SpansOf, this, spans_fold]; rfl
theorem I_SpansOf_eq {k : Nat} (hk : 1073741824 ≤ k) (x : List IPiece) (h : x.length < 1073741824) : I_SpansOf k x = some (x.map spanOf) := by
  have := (fold_all (len := x.length) (g := fun j s => s ++ (x[j]?).elim [] (fun e => [spanOf e])) (Inv := fun i s => s.length = i) (F := fun n i s => I_SpansOf_b0 k n x (x.length : Int) i s) (out := id) (fun n i s hi hs => by
    simp only [I_SpansOf_b0, idx_nat hi, Option.bind_some, wrap_succ (by omega : i < 9223372036854775807), bif_dec, lt_cast, hi, if_true, List.getElem?_eq_getElem hi, Option.elim_some]
    rw [appn_ok (by simp only [List.length_cons, List.length_nil]; omega), Option.bind_some]
    exact ⟨rfl, by simp [hs]⟩) (fun n i s hi => by
    simp only [I_SpansOf_b0, bif_dec, lt_cast]
    rw [if_neg (by omega)]; rfl) (k := k) (by omega) (s := []) rfl).1
  rw [I_SpansOf, this, spans_fold]; rfl

/-! Sets of spans. -/
def badP (x : List ISpan) (i : Nat) : Bool :=
  match x[i]? with
  | none => false
  | some e => decide (e.From < 0) || decide (e.From ≥ e.To) || decide (e.To > 1000000000000) || (decide (0 < i) && match x[i - 1]? with | some q => decide (q.To ≥ e.From) | none => false)
def isSet (x : List ISpan) : Bool := (firstI (badP x) x.length 0).isNone
theorem S_IsSpanSet_eq {k : Nat} (hk : 1073741824 ≤ k) (x : List ISpan) (h : x.length < 1073741824) : S_IsSpanSet k x = some (isSet x) := by
  have := find_all (len := x.length) (c := fun i => bif badP x i then some false else none) (F := fun n i => S_IsSpanSet_b0 k n x i) (fun n i hi => by
    simp only [S_IsSpanSet_b0, idx_nat hi, Option.bind_some, wrap_succ (by omega : i < 9223372036854775807), bif_dec, lt_cast, hi, if_true, badP, List.getElem?_eq_getElem hi]
    by_cases c1 : x[i].From < 0
    · simp [c1]
    by_cases c2 : x[i].From ≥ x[i].To
    · simp [c1, c2]
    by_cases c3 : x[i].To > 1000000000000
    · simp [c1, c2, c3]
    by_cases c4 : 0 < i
    · have e : IntKind.wrap .i64 ((i : Int) - 1) = ((i - 1 : Nat) : Int) := by rw [wrap_id (by omega) (by omega)]; omega
      have hi' : i - 1 < x.length := by omega
      rw [e, idx_nat hi', List.getElem?_eq_getElem hi']
      by_cases c5 : x[i - 1].To ≥ x[i].From <;> simp [c1, c2, c3, c4, c5]
    · simp [c1, c2, c3, c4]) (fun n i hi => by
    simp only [S_IsSpanSet_b0, bif_dec, lt_cast]
    rw [if_neg (by omega)]) (k := k) (by omega)
  rw [S_IsSpanSet, this, findI_first]
  unfold isSet
  cases firstI (badP x) x.length 0 <;> simp [ocOf, oc]
theorem I_IsSpanSet_eq {k : Nat} (hk : 1073741824 ≤ k) (x : List ISpan) (h : x.length < 1073741824) : I_IsSpanSet k x = some (isSet x) := by
  have := find_all (len := x.length) (c := fun i => bif badP x i then some false else none) (F := fun n i => I_IsSpanSet_b0 k n x x (x.length : Int) i) (fun n i hi => by
    simp only [I_IsSpanSet_b0, idx_nat hi, Option.bind_some, wrap_succ (by omega : i < 9223372036854775807), bif_dec, lt_cast, hi, if_true, badP, List.getElem?_eq_getElem hi]
    by_cases c1 : x[i].From < 0
    · simp [c1]
    by_cases c2 : x[i].From ≥ x[i].To
    · simp [c1, c2]
    by_cases c3 : x[i].To > 1000000000000
    · simp [c1, c2, c3]
    by_cases c4 : 0 < i
    · have e : IntKind.wrap .i64 ((i : Int) - 1) = ((i - 1 : Nat) : Int) := by rw [wrap_id (by omega) (by omega)]; omega
      have hi' : i - 1 < x.length := by omega
      rw [e, idx_nat hi', List.getElem?_eq_getElem hi']
      by_cases c5 : x[i - 1].To ≥ x[i].From <;> simp [c1, c2, c3, c4, c5]
    · simp [c1, c2, c3, c4]) (fun n i hi => by
    simp only [I_IsSpanSet_b0, bif_dec, lt_cast]
    rw [if_neg (by omega)]) (k := k) (by omega)
  rw [I_IsSpanSet, this, findI_first]
  unfold isSet
  cases firstI (badP x) x.length 0 <;> simp [ocOf, oc]

def areP (x : List IPiece) (n : Int) : Bool := decide (0 ≤ n) && decide (n ≤ 600) && decide (x.length ≤ 8) && isSet (x.map spanOf) && (match (x.map spanOf).getLast? with | some s => decide (s.To ≤ n) | none => true)
theorem last_idx {x : List ISpan} (h : x.length < 1073741824) (h0 : x ≠ []) : idx x (IntKind.wrap .i64 ((x.length : Int) - 1)) = x.getLast? := by
  have : 0 < x.length := List.length_pos_iff.2 h0
  have e : IntKind.wrap .i64 ((x.length : Int) - 1) = ((x.length - 1 : Nat) : Int) := by rw [wrap_id (by omega) (by omega)]; omega
  rw [e, idx_nat (by omega), List.getLast?_eq_getElem?, List.getElem?_eq_getElem (by omega)]
theorem S_ArePieces_eq {k : Nat} (hk : 1073741824 ≤ k) (x : List IPiece) (n : Int) (h : x.length < 1073741824) : S_ArePieces k x n = some (areP x n) := by
  have hs : (x.map spanOf).length < 1073741824 := by simpa using h
  rw [S_ArePieces, S_SpansOf_eq hk x h, Option.bind_some, S_l1In, bif_dec]
  unfold areP
  by_cases c1 : n ≥ 0
  case neg => simp [c1]
  by_cases c2 : n ≤ 600
  case neg => simp [c1, c2]
  by_cases c3 : x.length ≤ 8
  case neg =>
    have c4 : ¬ ((x.length : Int) ≤ 8) := by omega
    have c5 : (x.length : Int) > 8 := by omega
    simp [c1, c2, c3, c4, c5]
  rw [if_pos c1, Option.bind_some, bifT (by simp [c2]), bifT (by simp; omega), S_IsSpanSet_eq hk _ hs, Option.bind_some]
  cases h4 : isSet (x.map spanOf) with
  | false => simp
  | true =>
    by_cases h5 : x.map spanOf = []
    · simp [h5, c1, c2, c3]
    · rw [cond_true, bifF (by rw [beq_eq_false_iff_ne]; have := List.length_pos_iff.2 h5; omega), last_idx hs h5]
      obtain ⟨s, hs⟩ : ∃ s, (x.map spanOf).getLast? = some s := ⟨_, List.getLast?_eq_some_getLast h5⟩
      simp [hs, c1, c2, c3]
theorem I_ArePieces_eq {k : Nat} (hk : 1073741824 ≤ k) (x : List IPiece) (n : Int) (h : x.length < 1073741824) : I_ArePieces k x n = some (areP x n) := by
  have hs : (x.map spanOf).length < 1073741824 := by simpa using h
  rw [I_ArePieces, I_SpansOf_eq hk x h, Option.bind_some, I_inRange, bif_dec]
  unfold areP
  by_cases c1 : 0 ≤ n
  case neg => simp [c1]
  by_cases c2 : n ≤ 600
  case neg => simp [c1, c2]
  by_cases c3 : x.length ≤ 8
  case neg =>
    have c4 : ¬ ((x.length : Int) ≤ 8) := by omega
    have c5 : (x.length : Int) > 8 := by omega
    simp [c1, c2, c3, c4, c5]
  rw [if_pos c1, Option.bind_some, bifF (by simp [c2]), bifF (by simp; omega), I_IsSpanSet_eq hk _ hs, Option.bind_some]
  cases h4 : isSet (x.map spanOf) with
  | false => simp
  | true =>
    by_cases h5 : x.map spanOf = []
    · simp [h5, c1, c2, c3]
    · rw [Bool.not_true, cond_false, bifF (by rw [beq_eq_false_iff_ne]; have := List.length_pos_iff.2 h5; omega), last_idx hs h5]
      obtain ⟨s, hs⟩ : ∃ s, (x.map spanOf).getLast? = some s := ⟨_, List.getLast?_eq_some_getLast h5⟩
      simp [hs, c1, c2, c3]

theorem FnExactArePieces_pure {k : Nat} (hk : 1073741824 ≤ k) (a0 : List LPiece) (a1 : Int) (h0 : InL V_LPiece a0) (h1 : InI a1) : L_FnExactArePieces k a0 a1 = some true := by
  unfold L_FnExactArePieces
  rw [L_szPieceS_eq hk h0 _ (by omega) (by omega), Option.bind_some, bif_dec]
  by_cases c3 : (szL sz_LPiece a0 : Int) ≤ 1048576
  case neg => rw [if_neg c3, if_pos (by omega)]
  have hl : a0.length ≤ szL sz_LPiece a0 := by unfold szL; omega
  have hx : (a0.map to_LPiece).length < 1073741824 := by simp; omega
  rw [if_pos c3, if_neg (by omega)]
  simp only [L_toPieceS_eq hk a0 (by omega), Option.bind_some, S_ArePieces_eq hk _ _ hx, I_ArePieces_eq hk _ _ hx, L_eqPieceS_eq hk _ _ hx]
  simp

end Go.Ytilbenelefdihaa
