/- What the functions come to. Nothing is claimed here. -/
import Derived.Test.YtilbenelefdihaaKu
set_option linter.unusedVariables false
set_option linter.unusedSimpArgs false
set_option maxRecDepth 100000
namespace Go.Ytilbenelefdihaa
open Go Go.RowKit Go.Pv Go.Pu

/-! Spans that cover. -/
def covP (x : List ISpan) (f t : Int) (i : Nat) : Bool := match x[i]? with | some e => decide (e.From ≤ f) && decide (t ≤ e.To) | none => false
def covB (x : List ISpan) (a : ISpan) : Bool := decide (a.From ≥ a.To) || (firstI (covP x a.From a.To) x.length 0).isSome

theorem S_CoversSpan_eq {k : Nat} (hk : 1073741824 ≤ k) (x : List ISpan) (a : ISpan) (h : x.length < 1073741824) : S_CoversSpan k x a = some (covB x a) := by
  have := find_all (len := x.length) (c := fun i => bif covP x a.From a.To i then some true else none) (F := fun n i => S_CoversSpan_b0 k n x i a.From a.To) (fun n i hi => by
    simp only [S_CoversSpan_b0, idx_nat hi, Option.bind_some, wrap_succ (by omega : i < 9223372036854775807), bif_dec, lt_cast, hi, if_true, covP, List.getElem?_eq_getElem hi]
    by_cases c1 : x[i].From ≤ a.From
    · by_cases c2 : a.To ≤ x[i].To <;> simp [c1, c2]
    · simp [c1]) (fun n i hi => by
    simp only [S_CoversSpan_b0, bif_dec, lt_cast]
    rw [if_neg (by omega)]) (k := k) (by omega)
  rw [S_CoversSpan, this, findI_first]
  unfold covB
  cases firstI (covP x a.From a.To) x.length 0 with
  | none => simp [ocOf, oc]
  | some j => simp [ocOf, oc]

theorem I_CoversSpan_eq {k : Nat} (hk : 1073741824 ≤ k) (x : List ISpan) (a : ISpan) (h : x.length < 1073741824) : I_CoversSpan k x a = some (covB x a) := by
  have := find_all (len := x.length) (c := fun i => bif covP x a.From a.To i then some (i : Int) else none) (F := fun n i => slices_IndexFunc_ISpan_at_I_CoversSpan_1_b0 k n x a.From a.To (x.length : Int) i) (fun n i hi => by
    simp only [slices_IndexFunc_ISpan_at_I_CoversSpan_1_b0, I_CoversSpan_1, idx_nat hi, Option.bind_some, wrap_succ (by omega : i < 9223372036854775807), bif_dec, lt_cast, hi, if_true, covP, List.getElem?_eq_getElem hi]
    by_cases c1 : x[i].From ≤ a.From
    · by_cases c2 : a.To ≤ x[i].To <;> simp [c1, c2]
    · simp [c1]) (fun n i hi => by
    simp only [slices_IndexFunc_ISpan_at_I_CoversSpan_1_b0, bif_dec, lt_cast]
    rw [if_neg (by omega)]) (k := k) (by omega)
  unfold covB
  rw [I_CoversSpan, bif_dec]
  by_cases c : a.From ≥ a.To
  · simp [c]
  · rw [if_neg c, slices_ContainsFunc_ISpan_at_I_CoversSpan_1, slices_IndexFunc_ISpan_at_I_CoversSpan_1, this, findI_first]
    cases firstI (covP x a.From a.To) x.length 0 with
    | none => simp [ocOf, oc, c]
    | some j => simp [ocOf, oc, c]

theorem FnExactCoversSpan_pure {k : Nat} (hk : 1073741824 ≤ k) (a0 : List LSpan) (a1 : LSpan) (h0 : InL V_LSpan a0) (h1 : V_LSpan a1) : L_FnExactCoversSpan k a0 a1 = some true := by
  unfold L_FnExactCoversSpan
  rw [L_szSpanS_eq hk h0 _ (by omega) (by omega), Option.bind_some, bif_dec]
  by_cases c3 : (a0.length : Int) ≤ 1048576
  case neg => rw [if_neg c3, if_pos (by omega)]
  rw [if_pos c3, if_neg (by omega)]
  simp only [L_toSpanS_eq hk a0 (by omega), L_toSpan_eq hk a1 (by simp [sz_LSpan]), Option.bind_some]
  simp only [S_CoversSpan_eq hk _ _ (by simp; omega : (a0.map to_LSpan).length < 1073741824), I_CoversSpan_eq hk _ _ (by simp; omega : (a0.map to_LSpan).length < 1073741824), Option.bind_some]
  simp [L_eqSpanS_eq hk _ _ (by simp; omega : (a0.map to_LSpan).length < 1073741824)]

end Go.Ytilbenelefdihaa
