/- What the laws' own functions come to. Nothing is claimed here. -/
import Derived.Test.YtgdjicnefdnofaaDoorKf
import Derived.Test.YtgdjicnefdnofaaDoorPu5
set_option linter.unusedSimpArgs false
set_option linter.unusedVariables false
set_option maxRecDepth 100000
namespace Go.YtgdjicnefdnofaaDoor
open Go Go.RowKit Go.Pv Go.Pu

theorem L_eqQuality_eq {k : Nat} (hk : 1073741824 ≤ k) (a b : IQuality) : L_eqQuality k a b = some (decide (a = b)) := by
  obtain ⟨a0, a1⟩ := a
  obtain ⟨b0, b1⟩ := b
  simp only [L_eqQuality, IQuality.mk.injEq]
  by_cases e0 : a0 = b0
  case neg => simp [e0, bne_ne e0, beq_ne e0]
  by_cases e1 : a1 = b1
  case neg => simp [e0, e1, bne_ne e1, beq_ne e1]
  simp [e0, e1]
theorem L_eqQualityS_eq {k : Nat} (hk : 1073741824 ≤ k) (a b : List (IQuality)) (h : a.length < 1073741824) : L_eqQualityS k a b = some (decide (a = b)) := eq_all (F := L_eqQualityS_b0 k) (f := L_eqQuality k) (fun _ _ _ _ => rfl) (fun e he e' _ => L_eqQuality_eq hk e e') (by omega) (by omega)
theorem L_markText_eq {k : Nat} (hk : 1073741824 ≤ k) {m : Int} (h0 : 0 < m) (h1 : m ≤ 1099511627787) : L_markText k m = some (mText m) := markText_all (F := L_markText_b0 k) (fun _ _ _ => rfl) hk h0 h1
def mk_Quality (m : Int) (e : IQuality) : IQuality := ⟨mText m, (m + 1)⟩
theorem L_markQualityS_eq {k : Nat} (hk : 1073741824 ≤ k) (r : List (IQuality)) (h : r.length < 1073741824) : L_markQualityS k r 1 = some (1 + ((2 : Nat) : Int) * (r.length : Int), marks mk_Quality 2 1 r) := by
  rw [L_markQualityS, mark_all (F := L_markQualityS_b0 k) (g := mk_Quality) (c := 2) (fun n m i r h h0 hm hr => ?_) (fun n m i r h => ?_) (by omega) (by omega) (by push_cast; omega) (by omega)]
  · rfl
  · rw [L_markQualityS_b0]
    simp (disch := first | omega | (simp only [List.length_set]; omega)) only [bif_dec, lt_cast, h, if_true, idx_nat h, idx_set, Option.bind_some, wrap_id, Int.toNat_natCast, List.set_set, L_markText_eq hk, md3]
    simp only [mk_Quality, Int.add_assoc, List.getElem_set_self]
    rfl
  · rw [L_markQualityS_b0, bif_dec, if_neg (by omega)]
theorem L_markQualityS_eqm {k : Nat} (hk : 1073741824 ≤ k) (r : List (IQuality)) (h : r.length < 1073741824) (m : Int) (hm0 : 0 < m) (hm1 : m + ((2 : Nat) : Int) * (r.length : Int) ≤ 1099511627776) : L_markQualityS k r m = some (m + ((2 : Nat) : Int) * (r.length : Int), marks mk_Quality 2 m r) := by
  rw [L_markQualityS, mark_all (F := L_markQualityS_b0 k) (g := mk_Quality) (c := 2) (fun n m i r h h0 hm hr => ?_) (fun n m i r h => ?_) (by omega) hm0 hm1 (by omega)]
  · rfl
  · rw [L_markQualityS_b0]
    simp (disch := first | omega | (simp only [List.length_set]; omega)) only [bif_dec, lt_cast, h, if_true, idx_nat h, idx_set, Option.bind_some, wrap_id, Int.toNat_natCast, List.set_set, L_markText_eq hk, md3]
    simp only [mk_Quality, Int.add_assoc, List.getElem_set_self]
    rfl
  · rw [L_markQualityS_b0, bif_dec, if_neg (by omega)]
theorem L_heldQualityS_eq {k : Nat} (hk : 1073741824 ≤ k) (r : List (IQuality)) (h : r.length < 1073741824) : L_heldQualityS k (marks mk_Quality 2 1 r) 1 = some (1 + ((2 : Nat) : Int) * (r.length : Int)) := by
  rw [L_heldQualityS, held_all (F := L_heldQualityS_b0 k) (g := mk_Quality) (c := 2) (fun n x m i h e h0 hm hx he => ?_) (fun n x m i h => ?_) (by omega) (by omega) (by push_cast; omega) (by omega)]
  · rfl
  · rw [L_heldQualityS_b0]
    simp (disch := omega) only [bif_dec, lt_cast, h, if_true, idx_nat h, he, mk_Quality, Option.bind_some, wrap_id, L_markText_eq hk, md3, bne_self_eq_false, cond_false, BEq.rfl, Bool.not_true, Int.add_assoc]
    rfl
  · rw [L_heldQualityS_b0, bif_dec, if_neg (by omega)]
end Go.YtgdjicnefdnofaaDoor
