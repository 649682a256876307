/- What the laws' own functions come to. Nothing is claimed here. -/
import Derived.Test.YtgdjicnefdnofaaDoorKf
import Derived.Test.YtgdjicnefdnofaaDoorPu5
set_option linter.unusedSimpArgs false
set_option linter.unusedVariables false
set_option maxRecDepth 100000
namespace Go.YtgdjicnefdnofaaDoor
open Go Go.RowKit Go.Pv Go.Pu

def V_LField (a : LField) : Prop := InS a.Name ∧ InS a.Value
def sz_LField (a : LField) : Nat := a.Name.length + a.Value.length
def to_LField (a : LField) : IField := ⟨a.Name, a.Value⟩
theorem V_LField_of {x : LField} (h : ∀ v ∈ X.E 85 x, ∀ d, VV X d v) : V_LField x := ⟨(vv_s (h _ (.head _))), (vv_s (h _ (.tail _ (.head _))))⟩
theorem L_eqStringS_eq {k : Nat} (hk : 1073741824 ≤ k) (a b : List (List UInt8)) (h : a.length < 1073741824) : L_eqStringS k a b = some (decide (a = b)) := eq_str (F := L_eqStringS_b0 k) (fun _ _ _ _ => rfl) (by omega) (by omega)
theorem L_toField_eq {k : Nat} (hk : 1073741824 ≤ k) (a : LField) (h : sz_LField a ≤ 1048576) : L_toField k a = some (to_LField a) := rfl
theorem L_toFieldS_eq {k : Nat} (hk : 1073741824 ≤ k) (a : List (LField)) (h : szL sz_LField a ≤ 1048576) : L_toFieldS k a = some (a.map to_LField) := by
  have h1 : a.length ≤ 1048576 := by unfold szL at h; omega
  rw [L_toFieldS, guardT_self, mks_ok (by omega), Option.bind_some, to_all (F := L_toFieldS_b0 k) (f := (L_toField k)) (g := to_LField) (fun _ _ _ _ => rfl) (fun e he => L_toField_eq hk e (by have := sz_mem (g := sz_LField) he; omega)) (by omega) (by omega)]
  rfl
theorem L_szField_eq {k : Nat} (hk : 1073741824 ≤ k) {a : LField} (h : V_LField a) (l : Int) (h0 : 0 ≤ l) (h1 : l ≤ 1048576) : L_szField k a l = some (if (sz_LField a : Int) ≤ l then l - sz_LField a else -1) := by
  unfold V_LField InS at h
  unfold sz_LField L_szField
  have v0 := h.1
  have v1 := h.2
  rw [wrap_id (by omega) (by omega), bif_dec]
  by_cases c0 : l - ((a.Name.length : Nat) : Int) < 0
  · rw [if_pos c0, if_neg (by push_cast; omega)]
  rw [if_neg c0]
  rw [wrap_id (by omega) (by omega), bif_dec]
  by_cases c1 : l - (a.Name.length : Nat) - ((a.Value.length : Nat) : Int) < 0
  · rw [if_pos c1, if_neg (by push_cast; omega)]
  rw [if_neg c1]
  rw [if_pos (by push_cast; omega)]
  try exact congrArg some (by first | rfl | (push_cast; omega))
theorem L_szFieldS_eq {k : Nat} (hk : 1073741824 ≤ k) {a : List (LField)} (h : InL V_LField a) (l : Int) (h0 : 0 ≤ l) (h1 : l ≤ 1048576) : L_szFieldS k a l = some (if (szL sz_LField a : Int) ≤ l then l - szL sz_LField a else -1) :=
  sz_all (F := L_szFieldS_b0 k) (f := L_szField k) (g := sz_LField) (fun _ _ _ _ => rfl) (fun e he l h0 h1 => L_szField_eq hk (h.2 e he) l h0 h1) h.1 h0 h1 (by omega)
theorem L_eqField_eq {k : Nat} (hk : 1073741824 ≤ k) (a b : IField) : L_eqField k a b = some (decide (a = b)) := by
  obtain ⟨a0, a1⟩ := a
  obtain ⟨b0, b1⟩ := b
  simp only [L_eqField, IField.mk.injEq]
  by_cases e0 : a0 = b0
  case neg => simp [e0, bne_ne e0, beq_ne e0]
  by_cases e1 : a1 = b1
  case neg => simp [e0, e1, bne_ne e1, beq_ne e1]
  simp [e0, e1]
theorem L_eqFieldS_eq {k : Nat} (hk : 1073741824 ≤ k) (a b : List (IField)) (h : a.length < 1073741824) : L_eqFieldS k a b = some (decide (a = b)) := eq_all (F := L_eqFieldS_b0 k) (f := L_eqField k) (fun _ _ _ _ => rfl) (fun e he e' _ => L_eqField_eq hk e e') (by omega) (by omega)
theorem L_markText_eq {k : Nat} (hk : 1073741824 ≤ k) {m : Int} (h0 : 0 < m) (h1 : m ≤ 1099511627787) : L_markText k m = some (mText m) := markText_all (F := L_markText_b0 k) (fun _ _ _ => rfl) hk h0 h1
def mk_String (m : Int) (e : List UInt8) : List UInt8 := mText m
theorem L_markStringS_eq {k : Nat} (hk : 1073741824 ≤ k) (r : List (List UInt8)) (h : r.length < 1073741824) : L_markStringS k r 1 = some (1 + ((1 : Nat) : Int) * (r.length : Int), marks mk_String 1 1 r) := by
  rw [L_markStringS, mark_all (F := L_markStringS_b0 k) (g := mk_String) (c := 1) (fun n m i r h h0 hm hr => ?_) (fun n m i r h => ?_) (by omega) (by omega) (by push_cast; omega) (by omega)]
  · rfl
  · rw [L_markStringS_b0]
    simp (disch := first | omega | (simp only [List.length_set]; omega)) only [bif_dec, lt_cast, h, if_true, idx_nat h, idx_set, Option.bind_some, wrap_id, Int.toNat_natCast, List.set_set, L_markText_eq hk, md3]
    simp only [mk_String, Int.add_assoc, List.getElem_set_self]
    rfl
  · rw [L_markStringS_b0, bif_dec, if_neg (by omega)]
theorem L_markStringS_eqm {k : Nat} (hk : 1073741824 ≤ k) (r : List (List UInt8)) (h : r.length < 1073741824) (m : Int) (hm0 : 0 < m) (hm1 : m + ((1 : Nat) : Int) * (r.length : Int) ≤ 1099511627776) : L_markStringS k r m = some (m + ((1 : Nat) : Int) * (r.length : Int), marks mk_String 1 m r) := by
  rw [L_markStringS, mark_all (F := L_markStringS_b0 k) (g := mk_String) (c := 1) (fun n m i r h h0 hm hr => ?_) (fun n m i r h => ?_) (by omega) hm0 hm1 (by omega)]
  · rfl
  · rw [L_markStringS_b0]
    simp (disch := first | omega | (simp only [List.length_set]; omega)) only [bif_dec, lt_cast, h, if_true, idx_nat h, idx_set, Option.bind_some, wrap_id, Int.toNat_natCast, List.set_set, L_markText_eq hk, md3]
    simp only [mk_String, Int.add_assoc, List.getElem_set_self]
    rfl
  · rw [L_markStringS_b0, bif_dec, if_neg (by omega)]
theorem L_heldStringS_eq {k : Nat} (hk : 1073741824 ≤ k) (r : List (List UInt8)) (h : r.length < 1073741824) : L_heldStringS k (marks mk_String 1 1 r) 1 = some (1 + ((1 : Nat) : Int) * (r.length : Int)) := by
  rw [L_heldStringS, held_all (F := L_heldStringS_b0 k) (g := mk_String) (c := 1) (fun n x m i h e h0 hm hx he => ?_) (fun n x m i h => ?_) (by omega) (by omega) (by push_cast; omega) (by omega)]
  · rfl
  · rw [L_heldStringS_b0]
    simp (disch := omega) only [bif_dec, lt_cast, h, if_true, idx_nat h, he, mk_String, Option.bind_some, wrap_id, L_markText_eq hk, md3, bne_self_eq_false, cond_false, BEq.rfl, Bool.not_true, Int.add_assoc]
    rfl
  · rw [L_heldStringS_b0, bif_dec, if_neg (by omega)]
def mk_Field (m : Int) (e : IField) : IField := ⟨mText m, mText (m + 1)⟩
theorem L_markFieldS_eq {k : Nat} (hk : 1073741824 ≤ k) (r : List (IField)) (h : r.length < 1073741824) : L_markFieldS k r 1 = some (1 + ((2 : Nat) : Int) * (r.length : Int), marks mk_Field 2 1 r) := by
  rw [L_markFieldS, mark_all (F := L_markFieldS_b0 k) (g := mk_Field) (c := 2) (fun n m i r h h0 hm hr => ?_) (fun n m i r h => ?_) (by omega) (by omega) (by push_cast; omega) (by omega)]
  · rfl
  · rw [L_markFieldS_b0]
    simp (disch := first | omega | (simp only [List.length_set]; omega)) only [bif_dec, lt_cast, h, if_true, idx_nat h, idx_set, Option.bind_some, wrap_id, Int.toNat_natCast, List.set_set, L_markText_eq hk, md3]
    simp only [mk_Field, Int.add_assoc, List.getElem_set_self]
    rfl
  · rw [L_markFieldS_b0, bif_dec, if_neg (by omega)]
theorem L_markFieldS_eqm {k : Nat} (hk : 1073741824 ≤ k) (r : List (IField)) (h : r.length < 1073741824) (m : Int) (hm0 : 0 < m) (hm1 : m + ((2 : Nat) : Int) * (r.length : Int) ≤ 1099511627776) : L_markFieldS k r m = some (m + ((2 : Nat) : Int) * (r.length : Int), marks mk_Field 2 m r) := by
  rw [L_markFieldS, mark_all (F := L_markFieldS_b0 k) (g := mk_Field) (c := 2) (fun n m i r h h0 hm hr => ?_) (fun n m i r h => ?_) (by omega) hm0 hm1 (by omega)]
  · rfl
  · rw [L_markFieldS_b0]
    simp (disch := first | omega | (simp only [List.length_set]; omega)) only [bif_dec, lt_cast, h, if_true, idx_nat h, idx_set, Option.bind_some, wrap_id, Int.toNat_natCast, List.set_set, L_markText_eq hk, md3]
    simp only [mk_Field, Int.add_assoc, List.getElem_set_self]
    rfl
  · rw [L_markFieldS_b0, bif_dec, if_neg (by omega)]
end Go.YtgdjicnefdnofaaDoor
