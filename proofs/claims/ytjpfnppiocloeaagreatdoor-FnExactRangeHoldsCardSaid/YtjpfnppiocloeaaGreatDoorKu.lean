/- What the laws' own functions come to. Nothing is claimed here. -/
import Derived.Test.YtjpfnppiocloeaaGreatDoorKf
import Derived.Test.YtjpfnppiocloeaaGreatDoorPu6
set_option linter.unusedSimpArgs false
set_option linter.unusedVariables false
set_option maxRecDepth 100000
namespace Go.YtjpfnppiocloeaaGreatDoor
open Go Go.RowKit Go.Pv Go.Pu

def V_LField (a : LField) : Prop := InS a.Name ∧ InS a.Value
def sz_LField (a : LField) : Nat := a.Name.length + a.Value.length
def to_LField (a : LField) : IField := ⟨a.Name, a.Value⟩
def V_LRequest (a : LRequest) : Prop := InS a.Method ∧ InS a.Host ∧ InS a.Target ∧ (InL V_LField) a.Fields
def sz_LRequest (a : LRequest) : Nat := a.Method.length + a.Host.length + a.Target.length + szL sz_LField a.Fields
def to_LRequest (a : LRequest) : IRequest := ⟨a.Method, a.Host, a.Target, (a.Fields.map to_LField)⟩
def V_LResponse (a : LResponse) : Prop := InI a.Code ∧ (InL V_LField) a.Fields ∧ InS a.Body
def sz_LResponse (a : LResponse) : Nat := szL sz_LField a.Fields + a.Body.length
def to_LResponse (a : LResponse) : IResponse := ⟨a.Code, (a.Fields.map to_LField), a.Body⟩
theorem V_LField_of {x : LField} (h : ∀ v ∈ X.E 100 x, ∀ d, VV X d v) : V_LField x := ⟨(vv_s (h _ (.head _))), (vv_s (h _ (.tail _ (.head _))))⟩
theorem L_toField_eq {k : Nat} (hk : 1073741824 ≤ k) (a : LField) (h : sz_LField a ≤ 1048576) : L_toField k a = some (to_LField a) := rfl
theorem L_toFieldS_eq {k : Nat} (hk : 1073741824 ≤ k) (a : List (LField)) (h : szL sz_LField a ≤ 1048576) : L_toFieldS k a = some (a.map to_LField) := by
  have h1 : a.length ≤ 1048576 := by unfold szL at h; omega
  rw [L_toFieldS, guardT_self, mks_ok (by omega), Option.bind_some, to_all (F := L_toFieldS_b0 k) (f := (L_toField k)) (g := to_LField) (fun _ _ _ _ => rfl) (fun e he => L_toField_eq hk e (by have := sz_mem (g := sz_LField) he; omega)) (by omega) (by omega)]
  rfl
theorem L_szField_eq {k : Nat} (hk : 1073741824 ≤ k) {a : LField} (h : V_LField a) (l : Int) (h0 : 0 ≤ l) (h1 : l ≤ 1048576) : L_szField k a l = some (if (sz_LField a : Int) ≤ l then l - sz_LField a else -1) := by
  unfold V_LField InS at h
  unfold sz_LField L_szField
  have v0 := h.1
  have v1 := h.2
  rw [wrap_id (by omega) (by omega), bif_dec]
  by_cases c0 : l - ((a.Name.length : Nat) : Int) < 0
  · rw [if_pos c0, if_neg (by push_cast; omega)]
  rw [if_neg c0]
  rw [wrap_id (by omega) (by omega), bif_dec]
  by_cases c1 : l - (a.Name.length : Nat) - ((a.Value.length : Nat) : Int) < 0
  · rw [if_pos c1, if_neg (by push_cast; omega)]
  rw [if_neg c1]
  rw [if_pos (by push_cast; omega)]
  try exact congrArg some (by first | rfl | (push_cast; omega))
theorem L_szFieldS_eq {k : Nat} (hk : 1073741824 ≤ k) {a : List (LField)} (h : InL V_LField a) (l : Int) (h0 : 0 ≤ l) (h1 : l ≤ 1048576) : L_szFieldS k a l = some (if (szL sz_LField a : Int) ≤ l then l - szL sz_LField a else -1) :=
  sz_all (F := L_szFieldS_b0 k) (f := L_szField k) (g := sz_LField) (fun _ _ _ _ => rfl) (fun e he l h0 h1 => L_szField_eq hk (h.2 e he) l h0 h1) h.1 h0 h1 (by omega)
theorem L_eqField_eq {k : Nat} (hk : 1073741824 ≤ k) (a b : IField) : L_eqField k a b = some (decide (a = b)) := by
  obtain ⟨a0, a1⟩ := a
  obtain ⟨b0, b1⟩ := b
  simp only [L_eqField, IField.mk.injEq]
  by_cases e0 : a0 = b0
  case neg => simp [e0, bne_ne e0, beq_ne e0]
  by_cases e1 : a1 = b1
  case neg => simp [e0, e1, bne_ne e1, beq_ne e1]
  simp [e0, e1]
theorem L_eqFieldS_eq {k : Nat} (hk : 1073741824 ≤ k) (a b : List (IField)) (h : a.length < 1073741824) : L_eqFieldS k a b = some (decide (a = b)) := eq_all (F := L_eqFieldS_b0 k) (f := L_eqField k) (fun _ _ _ _ => rfl) (fun e he e' _ => L_eqField_eq hk e e') (by omega) (by omega)
theorem L_toRequest_eq {k : Nat} (hk : 1073741824 ≤ k) (a : LRequest) (h : sz_LRequest a ≤ 1048576) : L_toRequest k a = some (to_LRequest a) := by
  unfold sz_LRequest at h
  rw [L_toRequest, L_toFieldS_eq hk a.Fields (by omega), Option.bind_some]
  rfl
theorem L_szRequest_eq {k : Nat} (hk : 1073741824 ≤ k) {a : LRequest} (h : V_LRequest a) (l : Int) (h0 : 0 ≤ l) (h1 : l ≤ 1048576) : L_szRequest k a l = some (if (sz_LRequest a : Int) ≤ l then l - sz_LRequest a else -1) := by
  unfold V_LRequest InS at h
  unfold sz_LRequest L_szRequest
  have v0 := h.1
  have v1 := h.2.1
  have v2 := h.2.2.1
  have v3 := h.2.2.2
  rw [wrap_id (by omega) (by omega), bif_dec]
  by_cases c0 : l - ((a.Method.length : Nat) : Int) < 0
  · rw [if_pos c0, if_neg (by push_cast; omega)]
  rw [if_neg c0]
  rw [wrap_id (by omega) (by omega), bif_dec]
  by_cases c1 : l - (a.Method.length : Nat) - ((a.Host.length : Nat) : Int) < 0
  · rw [if_pos c1, if_neg (by push_cast; omega)]
  rw [if_neg c1]
  rw [wrap_id (by omega) (by omega), bif_dec]
  by_cases c2 : l - (a.Method.length : Nat) - (a.Host.length : Nat) - ((a.Target.length : Nat) : Int) < 0
  · rw [if_pos c2, if_neg (by push_cast; omega)]
  rw [if_neg c2]
  rw [L_szFieldS_eq hk v3 _ (by omega) (by omega), Option.bind_some, bif_dec]
  by_cases c3 : ((szL sz_LField a.Fields : Nat) : Int) ≤ l - (a.Method.length : Nat) - (a.Host.length : Nat) - (a.Target.length : Nat)
  case neg => rw [if_neg c3, if_pos (by omega), if_neg (by push_cast; omega)]
  rw [if_pos c3, if_neg (by omega)]
  rw [if_pos (by push_cast; omega)]
  try exact congrArg some (by first | rfl | (push_cast; omega))
theorem L_eqRequest_eq {k : Nat} (hk : 1073741824 ≤ k) (a b : IRequest) (h0 : a.Fields.length < 1073741824) : L_eqRequest k a b = some (decide (a = b)) := by
  obtain ⟨a0, a1, a2, a3⟩ := a
  obtain ⟨b0, b1, b2, b3⟩ := b
  simp only [L_eqRequest, L_eqFieldS_eq hk _ _ h0, Option.bind_some, IRequest.mk.injEq]
  by_cases e0 : a0 = b0
  case neg => simp [e0, bne_ne e0, beq_ne e0]
  by_cases e1 : a1 = b1
  case neg => simp [e0, e1, bne_ne e1, beq_ne e1]
  by_cases e2 : a2 = b2
  case neg => simp [e0, e1, e2, bne_ne e2, beq_ne e2]
  by_cases e3 : a3 = b3
  case neg => simp [e0, e1, e2, e3, bne_ne e3, beq_ne e3]
  simp [e0, e1, e2, e3]
theorem L_toResponse_eq {k : Nat} (hk : 1073741824 ≤ k) (a : LResponse) (h : sz_LResponse a ≤ 1048576) : L_toResponse k a = some (to_LResponse a) := by
  unfold sz_LResponse at h
  rw [L_toResponse, L_toFieldS_eq hk a.Fields (by omega), Option.bind_some]
  rfl
theorem L_szResponse_eq {k : Nat} (hk : 1073741824 ≤ k) {a : LResponse} (h : V_LResponse a) (l : Int) (h0 : 0 ≤ l) (h1 : l ≤ 1048576) : L_szResponse k a l = some (if (sz_LResponse a : Int) ≤ l then l - sz_LResponse a else -1) := by
  unfold V_LResponse InS at h
  unfold sz_LResponse L_szResponse
  have v0 := h.2.1
  have v1 := h.2.2
  rw [L_szFieldS_eq hk v0 _ (by omega) (by omega), Option.bind_some, bif_dec]
  by_cases c0 : ((szL sz_LField a.Fields : Nat) : Int) ≤ l
  case neg => rw [if_neg c0, if_pos (by omega), if_neg (by push_cast; omega)]
  rw [if_pos c0, if_neg (by omega)]
  rw [wrap_id (by omega) (by omega), bif_dec]
  by_cases c1 : l - (szL sz_LField a.Fields : Nat) - ((a.Body.length : Nat) : Int) < 0
  · rw [if_pos c1, if_neg (by push_cast; omega)]
  rw [if_neg c1]
  rw [if_pos (by push_cast; omega)]
  try exact congrArg some (by first | rfl | (push_cast; omega))
theorem L_eqResponse_eq {k : Nat} (hk : 1073741824 ≤ k) (a b : IResponse) (h0 : a.Fields.length < 1073741824) : L_eqResponse k a b = some (decide (a = b)) := by
  obtain ⟨a0, a1, a2⟩ := a
  obtain ⟨b0, b1, b2⟩ := b
  simp only [L_eqResponse, L_eqFieldS_eq hk _ _ h0, Option.bind_some, IResponse.mk.injEq]
  by_cases e0 : a0 = b0
  case neg => simp [e0, bne_ne e0, beq_ne e0]
  by_cases e1 : a1 = b1
  case neg => simp [e0, e1, bne_ne e1, beq_ne e1]
  by_cases e2 : a2 = b2
  case neg => simp [e0, e1, e2, bne_ne e2, beq_ne e2]
  simp [e0, e1, e2]
end Go.YtjpfnppiocloeaaGreatDoor
