/- What the functions come to. Nothing is claimed here. -/
import Derived.Test.YtilbenelefdihaaKu
set_option linter.unusedVariables false
set_option linter.unusedSimpArgs false
set_option maxRecDepth 100000
namespace Go.Ytilbenelefdihaa
open Go Go.RowKit Go.Pv Go.Pu

/-! Pieces that are read. -/
def rpP (x : List IPiece) (f t : Int) (i : Nat) : Bool := match x[i]? with | some e => decide (e.From ≤ f) && decide (t ≤ IntKind.wrap .i64 (e.From + (e.Data.length : Int))) | none => false
def rpV (x : List IPiece) (f t : Int) (i : Nat) : List UInt8 × Bool := match x[i]? with | some e => ((e.Data.take (t - e.From).toNat).drop (f - e.From).toNat, true) | none => ([], true)
def rpO (x : List IPiece) (a : ISpan) : List UInt8 × Bool :=
  if a.From ≥ a.To then ([], true) else match firstI (rpP x a.From a.To) x.length 0 with
  | some i => rpV x a.From a.To i
  | none => ([], false)
theorem rp_sub {e : IPiece} {f t : Int} (he : InI e.From) (hl : e.Data.length ≤ 1048576) (hf : InI f) (ht : InI t) (h : f < t) (c1 : e.From ≤ f) (c2 : t ≤ IntKind.wrap .i64 (e.From + (e.Data.length : Int))) :
    ssub e.Data (IntKind.wrap .i64 (f - e.From)) (IntKind.wrap .i64 (t - e.From)) = some ((e.Data.take (t - e.From).toNat).drop (f - e.From).toNat) := by
  unfold InI at *
  have hw : t ≤ e.From + (e.Data.length : Int) := by
    rw [IntKind.wrap_i64] at c2
    omega
  rw [wrap_id (by omega) (by omega), wrap_id (by omega) (by omega), ssub_ok (by omega) (by omega) (by omega)]
theorem S_ReadPieces_eq {k : Nat} (hk : 1073741824 ≤ k) (x : List IPiece) (a : ISpan) (h : x.length < 1073741824) (hx : ∀ e ∈ x, InI e.From ∧ e.Data.length ≤ 1048576) (hf : InI a.From) (ht : InI a.To) : S_ReadPieces k x a = some (rpO x a) := by
  have := find_all (len := x.length) (c := fun i => bif (rpP x a.From a.To i && decide (a.From < a.To)) then some (rpV x a.From a.To i) else none) (F := fun n i => S_ReadPieces_b0 k n x i a.From a.To) (fun n i hi => by
    simp only [S_ReadPieces_b0, idx_nat hi, Option.bind_some, wrap_succ (by omega : i < 9223372036854775807), bif_dec, lt_cast, hi, if_true, rpP, rpV, List.getElem?_eq_getElem hi]
    by_cases c1 : x[i].From ≤ a.From
    · by_cases c0 : a.From < a.To
      · by_cases c2 : a.To ≤ IntKind.wrap .i64 (x[i].From + (x[i].Data.length : Int))
        · obtain ⟨q1, q2⟩ := hx _ (List.getElem_mem hi)
          rw [rp_sub q1 q2 hf ht c0 c1 c2]
          simp [c0, c1, c2]
        · simp [c0, c1, c2]
      · simp [c0, c1]
    · simp [c1]) (fun n i hi => by
    simp only [S_ReadPieces_b0, bif_dec, lt_cast]
    rw [if_neg (by omega)]) (k := k) (by omega)
  rw [S_ReadPieces, this]
  unfold rpO
  by_cases c : a.From ≥ a.To
  · rw [findI_none _ _ (fun j _ _ => by simp [show ¬ a.From < a.To by omega]), if_pos c]
    simp [ocOf, oc, c]
  · rw [findI_congr (c' := fun i => bif rpP x a.From a.To i then some (rpV x a.From a.To i) else none) _ _ (fun j _ _ => by simp [show a.From < a.To by omega]), findI_first, if_neg c]
    cases firstI (rpP x a.From a.To) x.length 0 with
    | none => simp [ocOf, oc, c]
    | some j => simp [ocOf, oc]
theorem I_ReadPieces_eq {k : Nat} (hk : 1073741824 ≤ k) (x : List IPiece) (a : ISpan) (h : x.length < 1073741824) (hx : ∀ e ∈ x, InI e.From ∧ e.Data.length ≤ 1048576) (hf : InI a.From) (ht : InI a.To) : I_ReadPieces k x a = some (rpO x a) := by
  unfold rpO
  rw [I_ReadPieces, bif_dec]
  by_cases c : a.From ≥ a.To
  · rw [if_pos c, if_pos c]
  have c0 : a.From < a.To := by omega
  have := find_all (len := x.length) (c := fun i => bif rpP x a.From a.To i then some (rpV x a.From a.To i) else none) (F := fun n i => I_ReadPieces_b0 k n x (x.length : Int) i a.From a.To) (fun n i hi => by
    simp only [I_ReadPieces_b0, idx_nat hi, Option.bind_some, wrap_succ (by omega : i < 9223372036854775807), bif_dec, lt_cast, hi, if_true, rpP, rpV, List.getElem?_eq_getElem hi]
    by_cases c1 : x[i].From ≤ a.From
    · by_cases c2 : a.To ≤ IntKind.wrap .i64 (x[i].From + (x[i].Data.length : Int))
      · obtain ⟨q1, q2⟩ := hx _ (List.getElem_mem hi)
        rw [rp_sub q1 q2 hf ht c0 c1 c2]
        simp [c1, c2]
      · simp [c1, c2]
    · simp [c1]) (fun n i hi => by
    simp only [I_ReadPieces_b0, bif_dec, lt_cast]
    rw [if_neg (by omega)]) (k := k) (by omega)
  rw [if_neg c, if_neg c, this, findI_first]
  cases firstI (rpP x a.From a.To) x.length 0 with
  | none => simp [ocOf, oc]
  | some j => simp [ocOf, oc]

theorem FnExactReadPieces_pure {k : Nat} (hk : 1073741824 ≤ k) (a0 : List LPiece) (a1 : LSpan) (h0 : InL V_LPiece a0) (h1 : V_LSpan a1) : L_FnExactReadPieces k a0 a1 = some true := by
  unfold L_FnExactReadPieces
  rw [L_szPieceS_eq hk h0 _ (by omega) (by omega), Option.bind_some, bif_dec]
  by_cases c3 : (szL sz_LPiece a0 : Int) ≤ 1048576
  case neg => rw [if_neg c3, if_pos (by omega)]
  have hl : a0.length ≤ szL sz_LPiece a0 := by unfold szL; omega
  have hx : (a0.map to_LPiece).length < 1073741824 := by simp; omega
  have hv : ∀ e ∈ a0.map to_LPiece, InI e.From ∧ e.Data.length ≤ 1048576 := by
    intro e he
    obtain ⟨p, hp, rfl⟩ := List.mem_map.1 he
    have := sz_mem (g := sz_LPiece) hp
    exact ⟨(h0.2 p hp).1, by unfold sz_LPiece at *; unfold to_LPiece; simp only; omega⟩
  rw [if_pos c3, if_neg (by omega)]
  simp only [L_toPieceS_eq hk a0 (by omega), L_toSpan_eq hk a1 (by simp [sz_LSpan]), Option.bind_some, S_ReadPieces_eq hk _ _ hx hv (show InI (to_LSpan a1).From from h1.1) (show InI (to_LSpan a1).To from h1.2), I_ReadPieces_eq hk _ _ hx hv (show InI (to_LSpan a1).From from h1.1) (show InI (to_LSpan a1).To from h1.2), L_eqPieceS_eq hk _ _ hx]
  simp

end Go.Ytilbenelefdihaa
