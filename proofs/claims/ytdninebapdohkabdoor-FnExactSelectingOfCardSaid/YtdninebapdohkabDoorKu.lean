/- What the laws' own functions come to. Nothing is claimed here. -/
import Derived.Test.YtdninebapdohkabDoorKf
import Derived.Test.YtdninebapdohkabDoorPu5
set_option linter.unusedSimpArgs false
set_option linter.unusedVariables false
set_option maxRecDepth 100000
namespace Go.YtdninebapdohkabDoor
open Go Go.RowKit Go.Pv Go.Pu

def V_LField (a : LField) : Prop := InS a.Name ∧ InS a.Value
def sz_LField (a : LField) : Nat := a.Name.length + a.Value.length
def to_LField (a : LField) : IField := ⟨a.Name, a.Value⟩
def V_LRequest (a : LRequest) : Prop := InS a.Method ∧ InS a.Host ∧ InS a.Target ∧ (InL V_LField) a.Fields
def sz_LRequest (a : LRequest) : Nat := a.Method.length + a.Host.length + a.Target.length + szL sz_LField a.Fields
def to_LRequest (a : LRequest) : IRequest := ⟨a.Method, a.Host, a.Target, (a.Fields.map to_LField)⟩
theorem V_LField_of {x : LField} (h : ∀ v ∈ X.E 93 x, ∀ d, VV X d v) : V_LField x := ⟨(vv_s (h _ (.head _))), (vv_s (h _ (.tail _ (.head _))))⟩
theorem L_toStringS_eq {k : Nat} (hk : 1073741824 ≤ k) (a : List (List UInt8)) (h : szL List.length a ≤ 1048576) : L_toStringS k a = some a := by
  have h1 : a.length ≤ 1048576 := by unfold szL at h; omega
  rw [L_toStringS, guardT_self, mks_ok (by omega), Option.bind_some, to_str (F := L_toStringS_b0 k) (fun _ _ _ _ => rfl) (by omega) (by omega)]
  rfl
theorem L_szStringS_eq {k : Nat} (hk : 1073741824 ≤ k) {a : List (List UInt8)} (h : InL InS a) (l : Int) (h0 : 0 ≤ l) (h1 : l ≤ 1048576) : L_szStringS k a l = some (if (szL List.length a : Int) ≤ l then l - szL List.length a else -1) :=
  sz_str (F := L_szStringS_b0 k) (fun _ _ _ _ => rfl) h.2 h.1 h0 h1 (by omega)
theorem L_eqStringS_eq {k : Nat} (hk : 1073741824 ≤ k) (a b : List (List UInt8)) (h : a.length < 1073741824) : L_eqStringS k a b = some (decide (a = b)) := eq_str (F := L_eqStringS_b0 k) (fun _ _ _ _ => rfl) (by omega) (by omega)
theorem L_toField_eq {k : Nat} (hk : 1073741824 ≤ k) (a : LField) (h : sz_LField a ≤ 1048576) : L_toField k a = some (to_LField a) := rfl
theorem L_toFieldS_eq {k : Nat} (hk : 1073741824 ≤ k) (a : List (LField)) (h : szL sz_LField a ≤ 1048576) : L_toFieldS k a = some (a.map to_LField) := by
  have h1 : a.length ≤ 1048576 := by unfold szL at h; omega
  rw [L_toFieldS, guardT_self, mks_ok (by omega), Option.bind_some, to_all (F := L_toFieldS_b0 k) (f := (L_toField k)) (g := to_LField) (fun _ _ _ _ => rfl) (fun e he => L_toField_eq hk e (by have := sz_mem (g := sz_LField) he; omega)) (by omega) (by omega)]
  rfl
theorem L_szField_eq {k : Nat} (hk : 1073741824 ≤ k) {a : LField} (h : V_LField a) (l : Int) (h0 : 0 ≤ l) (h1 : l ≤ 1048576) : L_szField k a l = some (if (sz_LField a : Int) ≤ l then l - sz_LField a else -1) := by
  unfold V_LField InS at h
  unfold sz_LField L_szField
  have v0 := h.1
  have v1 := h.2
  rw [wrap_id (by omega) (by omega), bif_dec]
  by_cases c0 : l - ((a.Name.length : Nat) : Int) < 0
  · rw [if_pos c0, if_neg (by push_cast; omega)]
  rw [if_neg c0]
  rw [wrap_id (by omega) (by omega), bif_dec]
  by_cases c1 : l - (a.Name.length : Nat) - ((a.Value.length : Nat) : Int) < 0
  · rw [if_pos c1, if_neg (by push_cast; omega)]
  rw [if_neg c1]
  rw [if_pos (by push_cast; omega)]
  try exact congrArg some (by first | rfl | (push_cast; omega))
theorem L_szFieldS_eq {k : Nat} (hk : 1073741824 ≤ k) {a : List (LField)} (h : InL V_LField a) (l : Int) (h0 : 0 ≤ l) (h1 : l ≤ 1048576) : L_szFieldS k a l = some (if (szL sz_LField a : Int) ≤ l then l - szL sz_LField a else -1) :=
  sz_all (F := L_szFieldS_b0 k) (f := L_szField k) (g := sz_LField) (fun _ _ _ _ => rfl) (fun e he l h0 h1 => L_szField_eq hk (h.2 e he) l h0 h1) h.1 h0 h1 (by omega)
theorem L_eqField_eq {k : Nat} (hk : 1073741824 ≤ k) (a b : IField) : L_eqField k a b = some (decide (a = b)) := by
  obtain ⟨a0, a1⟩ := a
  obtain ⟨b0, b1⟩ := b
  simp only [L_eqField, IField.mk.injEq]
  by_cases e0 : a0 = b0
  case neg => simp [e0, bne_ne e0, beq_ne e0]
  by_cases e1 : a1 = b1
  case neg => simp [e0, e1, bne_ne e1, beq_ne e1]
  simp [e0, e1]
theorem L_eqFieldS_eq {k : Nat} (hk : 1073741824 ≤ k) (a b : List (IField)) (h : a.length < 1073741824) : L_eqFieldS k a b = some (decide (a = b)) := eq_all (F := L_eqFieldS_b0 k) (f := L_eqField k) (fun _ _ _ _ => rfl) (fun e he e' _ => L_eqField_eq hk e e') (by omega) (by omega)
theorem L_toRequest_eq {k : Nat} (hk : 1073741824 ≤ k) (a : LRequest) (h : sz_LRequest a ≤ 1048576) : L_toRequest k a = some (to_LRequest a) := by
  unfold sz_LRequest at h
  rw [L_toRequest, L_toFieldS_eq hk a.Fields (by omega), Option.bind_some]
  rfl
theorem L_szRequest_eq {k : Nat} (hk : 1073741824 ≤ k) {a : LRequest} (h : V_LRequest a) (l : Int) (h0 : 0 ≤ l) (h1 : l ≤ 1048576) : L_szRequest k a l = some (if (sz_LRequest a : Int) ≤ l then l - sz_LRequest a else -1) := by
  unfold V_LRequest InS at h
  unfold sz_LRequest L_szRequest
  have v0 := h.1
  have v1 := h.2.1
  have v2 := h.2.2.1
  have v3 := h.2.2.2
  rw [wrap_id (by omega) (by omega), bif_dec]
  by_cases c0 : l - ((a.Method.length : Nat) : Int) < 0
  · rw [if_pos c0, if_neg (by push_cast; omega)]
  rw [if_neg c0]
  rw [wrap_id (by omega) (by omega), bif_dec]
  by_cases c1 : l - (a.Method.length : Nat) - ((a.Host.length : Nat) : Int) < 0
  · rw [if_pos c1, if_neg (by push_cast; omega)]
  rw [if_neg c1]
  rw [wrap_id (by omega) (by omega), bif_dec]
  by_cases c2 : l - (a.Method.length : Nat) - (a.Host.length : Nat) - ((a.Target.length : Nat) : Int) < 0
  · rw [if_pos c2, if_neg (by push_cast; omega)]
  rw [if_neg c2]
  rw [L_szFieldS_eq hk v3 _ (by omega) (by omega), Option.bind_some, bif_dec]
  by_cases c3 : ((szL sz_LField a.Fields : Nat) : Int) ≤ l - (a.Method.length : Nat) - (a.Host.length : Nat) - (a.Target.length : Nat)
  case neg => rw [if_neg c3, if_pos (by omega), if_neg (by push_cast; omega)]
  rw [if_pos c3, if_neg (by omega)]
  rw [if_pos (by push_cast; omega)]
  try exact congrArg some (by first | rfl | (push_cast; omega))
theorem L_eqRequest_eq {k : Nat} (hk : 1073741824 ≤ k) (a b : IRequest) (h0 : a.Fields.length < 1073741824) : L_eqRequest k a b = some (decide (a = b)) := by
  obtain ⟨a0, a1, a2, a3⟩ := a
  obtain ⟨b0, b1, b2, b3⟩ := b
  simp only [L_eqRequest, L_eqFieldS_eq hk _ _ h0, Option.bind_some, IRequest.mk.injEq]
  by_cases e0 : a0 = b0
  case neg => simp [e0, bne_ne e0, beq_ne e0]
  by_cases e1 : a1 = b1
  case neg => simp [e0, e1, bne_ne e1, beq_ne e1]
  by_cases e2 : a2 = b2
  case neg => simp [e0, e1, e2, bne_ne e2, beq_ne e2]
  by_cases e3 : a3 = b3
  case neg => simp [e0, e1, e2, e3, bne_ne e3, beq_ne e3]
  simp [e0, e1, e2, e3]
theorem L_markText_eq {k : Nat} (hk : 1073741824 ≤ k) {m : Int} (h0 : 0 < m) (h1 : m ≤ 1099511627787) : L_markText k m = some (mText m) := markText_all (F := L_markText_b0 k) (fun _ _ _ => rfl) hk h0 h1
def mk_String (m : Int) (e : List UInt8) : List UInt8 := mText m
theorem L_markStringS_eq {k : Nat} (hk : 1073741824 ≤ k) (r : List (List UInt8)) (h : r.length < 1073741824) : L_markStringS k r 1 = some (1 + ((1 : Nat) : Int) * (r.length : Int), marks mk_String 1 1 r) := by
  rw [L_markStringS, mark_all (F := L_markStringS_b0 k) (g := mk_String) (c := 1) (fun n m i r h h0 hm hr => ?_) (fun n m i r h => ?_) (by omega) (by omega) (by push_cast; omega) (by omega)]
  · rfl
  · rw [L_markStringS_b0]
    simp (disch := first | omega | (simp only [List.length_set]; omega)) only [bif_dec, lt_cast, h, if_true, idx_nat h, idx_set, Option.bind_some, wrap_id, Int.toNat_natCast, List.set_set, L_markText_eq hk, md3]
    simp only [mk_String, Int.add_assoc, List.getElem_set_self]
    rfl
  · rw [L_markStringS_b0, bif_dec, if_neg (by omega)]
theorem L_markStringS_eqm {k : Nat} (hk : 1073741824 ≤ k) (r : List (List UInt8)) (h : r.length < 1073741824) (m : Int) (hm0 : 0 < m) (hm1 : m + ((1 : Nat) : Int) * (r.length : Int) ≤ 1099511627776) : L_markStringS k r m = some (m + ((1 : Nat) : Int) * (r.length : Int), marks mk_String 1 m r) := by
  rw [L_markStringS, mark_all (F := L_markStringS_b0 k) (g := mk_String) (c := 1) (fun n m i r h h0 hm hr => ?_) (fun n m i r h => ?_) (by omega) hm0 hm1 (by omega)]
  · rfl
  · rw [L_markStringS_b0]
    simp (disch := first | omega | (simp only [List.length_set]; omega)) only [bif_dec, lt_cast, h, if_true, idx_nat h, idx_set, Option.bind_some, wrap_id, Int.toNat_natCast, List.set_set, L_markText_eq hk, md3]
    simp only [mk_String, Int.add_assoc, List.getElem_set_self]
    rfl
  · rw [L_markStringS_b0, bif_dec, if_neg (by omega)]
def mk_Field (m : Int) (e : IField) : IField := ⟨mText m, mText (m + 1)⟩
theorem L_markFieldS_eq {k : Nat} (hk : 1073741824 ≤ k) (r : List (IField)) (h : r.length < 1073741824) : L_markFieldS k r 1 = some (1 + ((2 : Nat) : Int) * (r.length : Int), marks mk_Field 2 1 r) := by
  rw [L_markFieldS, mark_all (F := L_markFieldS_b0 k) (g := mk_Field) (c := 2) (fun n m i r h h0 hm hr => ?_) (fun n m i r h => ?_) (by omega) (by omega) (by push_cast; omega) (by omega)]
  · rfl
  · rw [L_markFieldS_b0]
    simp (disch := first | omega | (simp only [List.length_set]; omega)) only [bif_dec, lt_cast, h, if_true, idx_nat h, idx_set, Option.bind_some, wrap_id, Int.toNat_natCast, List.set_set, L_markText_eq hk, md3]
    simp only [mk_Field, Int.add_assoc, List.getElem_set_self]
    rfl
  · rw [L_markFieldS_b0, bif_dec, if_neg (by omega)]
theorem L_markFieldS_eqm {k : Nat} (hk : 1073741824 ≤ k) (r : List (IField)) (h : r.length < 1073741824) (m : Int) (hm0 : 0 < m) (hm1 : m + ((2 : Nat) : Int) * (r.length : Int) ≤ 1099511627776) : L_markFieldS k r m = some (m + ((2 : Nat) : Int) * (r.length : Int), marks mk_Field 2 m r) := by
  rw [L_markFieldS, mark_all (F := L_markFieldS_b0 k) (g := mk_Field) (c := 2) (fun n m i r h h0 hm hr => ?_) (fun n m i r h => ?_) (by omega) hm0 hm1 (by omega)]
  · rfl
  · rw [L_markFieldS_b0]
    simp (disch := first | omega | (simp only [List.length_set]; omega)) only [bif_dec, lt_cast, h, if_true, idx_nat h, idx_set, Option.bind_some, wrap_id, Int.toNat_natCast, List.set_set, L_markText_eq hk, md3]
    simp only [mk_Field, Int.add_assoc, List.getElem_set_self]
    rfl
  · rw [L_markFieldS_b0, bif_dec, if_neg (by omega)]
theorem L_heldFieldS_eq {k : Nat} (hk : 1073741824 ≤ k) (r : List (IField)) (h : r.length < 1073741824) : L_heldFieldS k (marks mk_Field 2 1 r) 1 = some (1 + ((2 : Nat) : Int) * (r.length : Int)) := by
  rw [L_heldFieldS, held_all (F := L_heldFieldS_b0 k) (g := mk_Field) (c := 2) (fun n x m i h e h0 hm hx he => ?_) (fun n x m i h => ?_) (by omega) (by omega) (by push_cast; omega) (by omega)]
  · rfl
  · rw [L_heldFieldS_b0]
    simp (disch := omega) only [bif_dec, lt_cast, h, if_true, idx_nat h, he, mk_Field, Option.bind_some, wrap_id, L_markText_eq hk, md3, bne_self_eq_false, cond_false, BEq.rfl, Bool.not_true, Int.add_assoc]
    rfl
  · rw [L_heldFieldS_b0, bif_dec, if_neg (by omega)]
theorem L_markRequest_eq {k : Nat} (hk : 1073741824 ≤ k) (r : IRequest) (h : r.Fields.length < 1073741824) : L_markRequest_f k (r.Method, r.Host, r.Target, r.Fields, ()) 1 = some (1 + ((2 : Nat) : Int) * (r.Fields.length : Int), (r.Method, r.Host, r.Target, marks mk_Field 2 1 r.Fields, ())) := by
  rw [L_markRequest_f, L_markRequest, L_markFieldS_eq hk _ h]; rfl
end Go.YtdninebapdohkabDoor
