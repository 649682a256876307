/- What the laws' own functions come to. Nothing is claimed here. -/
import Derived.Test.YtolmhhnhmbiofaaDoorKf
import Derived.Test.YtolmhhnhmbiofaaDoorPu6
set_option linter.unusedSimpArgs false
set_option linter.unusedVariables false
set_option maxRecDepth 100000
namespace Go.YtolmhhnhmbiofaaDoor
open Go Go.RowKit Go.Pv Go.Pu

theorem L_eqField_eq {k : Nat} (hk : 1073741824 ≤ k) (a b : IField) : L_eqField k a b = some (decide (a = b)) := by
  obtain ⟨a0, a1⟩ := a
  obtain ⟨b0, b1⟩ := b
  simp only [L_eqField, IField.mk.injEq]
  by_cases e0 : a0 = b0
  case neg => simp [e0, bne_ne e0, beq_ne e0]
  by_cases e1 : a1 = b1
  case neg => simp [e0, e1, bne_ne e1, beq_ne e1]
  simp [e0, e1]
theorem L_eqFieldS_eq {k : Nat} (hk : 1073741824 ≤ k) (a b : List (IField)) (h : a.length < 1073741824) : L_eqFieldS k a b = some (decide (a = b)) := eq_all (F := L_eqFieldS_b0 k) (f := L_eqField k) (fun _ _ _ _ => rfl) (fun e he e' _ => L_eqField_eq hk e e') (by omega) (by omega)
theorem L_eqRequest_eq {k : Nat} (hk : 1073741824 ≤ k) (a b : IRequest) (h0 : a.Fields.length < 1073741824) : L_eqRequest k a b = some (decide (a = b)) := by
  obtain ⟨a0, a1, a2, a3⟩ := a
  obtain ⟨b0, b1, b2, b3⟩ := b
  simp only [L_eqRequest, L_eqFieldS_eq hk _ _ h0, Option.bind_some, IRequest.mk.injEq]
  by_cases e0 : a0 = b0
  case neg => simp [e0, bne_ne e0, beq_ne e0]
  by_cases e1 : a1 = b1
  case neg => simp [e0, e1, bne_ne e1, beq_ne e1]
  by_cases e2 : a2 = b2
  case neg => simp [e0, e1, e2, bne_ne e2, beq_ne e2]
  by_cases e3 : a3 = b3
  case neg => simp [e0, e1, e2, e3, bne_ne e3, beq_ne e3]
  simp [e0, e1, e2, e3]
theorem L_markText_eq {k : Nat} (hk : 1073741824 ≤ k) {m : Int} (h0 : 0 < m) (h1 : m ≤ 1099511627787) : L_markText k m = some (mText m) := markText_all (F := L_markText_b0 k) (fun _ _ _ => rfl) hk h0 h1
def mk_Field (m : Int) (e : IField) : IField := ⟨mText m, mText (m + 1)⟩
theorem L_markFieldS_eq {k : Nat} (hk : 1073741824 ≤ k) (r : List (IField)) (h : r.length < 1073741824) : L_markFieldS k r 1 = some (1 + ((2 : Nat) : Int) * (r.length : Int), marks mk_Field 2 1 r) := by
  rw [L_markFieldS, mark_all (F := L_markFieldS_b0 k) (g := mk_Field) (c := 2) (fun n m i r h h0 hm hr => ?_) (fun n m i r h => ?_) (by omega) (by omega) (by push_cast; omega) (by omega)]
  · rfl
  · rw [L_markFieldS_b0]
    simp (disch := first | omega | (simp only [List.length_set]; omega)) only [bif_dec, lt_cast, h, if_true, idx_nat h, idx_set, Option.bind_some, wrap_id, Int.toNat_natCast, List.set_set, L_markText_eq hk, md3]
    simp only [mk_Field, Int.add_assoc, List.getElem_set_self]
    rfl
  · rw [L_markFieldS_b0, bif_dec, if_neg (by omega)]
theorem L_markFieldS_eqm {k : Nat} (hk : 1073741824 ≤ k) (r : List (IField)) (h : r.length < 1073741824) (m : Int) (hm0 : 0 < m) (hm1 : m + ((2 : Nat) : Int) * (r.length : Int) ≤ 1099511627776) : L_markFieldS k r m = some (m + ((2 : Nat) : Int) * (r.length : Int), marks mk_Field 2 m r) := by
  rw [L_markFieldS, mark_all (F := L_markFieldS_b0 k) (g := mk_Field) (c := 2) (fun n m i r h h0 hm hr => ?_) (fun n m i r h => ?_) (by omega) hm0 hm1 (by omega)]
  · rfl
  · rw [L_markFieldS_b0]
    simp (disch := first | omega | (simp only [List.length_set]; omega)) only [bif_dec, lt_cast, h, if_true, idx_nat h, idx_set, Option.bind_some, wrap_id, Int.toNat_natCast, List.set_set, L_markText_eq hk, md3]
    simp only [mk_Field, Int.add_assoc, List.getElem_set_self]
    rfl
  · rw [L_markFieldS_b0, bif_dec, if_neg (by omega)]
theorem L_heldFieldS_eq {k : Nat} (hk : 1073741824 ≤ k) (r : List (IField)) (h : r.length < 1073741824) : L_heldFieldS k (marks mk_Field 2 1 r) 1 = some (1 + ((2 : Nat) : Int) * (r.length : Int)) := by
  rw [L_heldFieldS, held_all (F := L_heldFieldS_b0 k) (g := mk_Field) (c := 2) (fun n x m i h e h0 hm hx he => ?_) (fun n x m i h => ?_) (by omega) (by omega) (by push_cast; omega) (by omega)]
  · rfl
  · rw [L_heldFieldS_b0]
    simp (disch := omega) only [bif_dec, lt_cast, h, if_true, idx_nat h, he, mk_Field, Option.bind_some, wrap_id, L_markText_eq hk, md3, bne_self_eq_false, cond_false, BEq.rfl, Bool.not_true, Int.add_assoc]
    rfl
  · rw [L_heldFieldS_b0, bif_dec, if_neg (by omega)]
theorem L_markRequest_eq {k : Nat} (hk : 1073741824 ≤ k) (r : IRequest) (h : r.Fields.length < 1073741824) : L_markRequest_f k (r.Method, r.Host, r.Target, r.Fields, ()) 1 = some (1 + ((2 : Nat) : Int) * (r.Fields.length : Int), (r.Method, r.Host, r.Target, marks mk_Field 2 1 r.Fields, ())) := by
  rw [L_markRequest_f, L_markRequest, L_markFieldS_eq hk _ h]; rfl
theorem L_heldRequest_eq {k : Nat} (hk : 1073741824 ≤ k) (r : IRequest) (h : r.Fields.length < 1073741824) : L_heldRequest k (⟨r.Method, r.Host, r.Target, (marks mk_Field 2 1 r.Fields)⟩ : IRequest) 1 = some (1 + ((2 : Nat) : Int) * (r.Fields.length : Int)) := by
  rw [L_heldRequest, L_heldFieldS_eq hk _ h, Option.bind_some, bif_dec, if_neg (by omega)]
end Go.YtolmhhnhmbiofaaDoor
