/- The types, as Lean has them. Nothing is claimed here. -/
import Derived.Test.YtilbenelefdihaaPv31
import Derived.Test.YtilbenelefdihaaProg
set_option linter.unusedVariables false
set_option linter.unusedSimpArgs false
set_option maxRecDepth 100000
namespace Go.Ytilbenelefdihaa
open Go Go.RowKit Go.Pv
noncomputable section

structure LField where
  Name : List UInt8
  Value : List UInt8
  deriving DecidableEq, Inhabited
structure LResponse where
  Code : Int
  Fields : List LField
  Body : List UInt8
  deriving DecidableEq, Inhabited
structure IField where
  Name : List UInt8
  Value : List UInt8
  deriving DecidableEq, Inhabited
structure IResponse where
  Code : Int
  Fields : List IField
  Body : List UInt8
  deriving DecidableEq, Inhabited
@[reducible] def D (ty : Nat) : Type :=
  match ty with
  | 103 => LField
  | 104 => IField
  | _ => Unit
def tis : List (Nat × TInfo) := [
  (3, ⟨1, 8, false, 10, 0, [], [.t (.int .i64 0)]⟩),
  (4, ⟨1, 1, false, 5, 0, [], [.t (.bool false)]⟩),
  (9, ⟨1, 16, false, 1, 0, [], [.t (.str [])]⟩),
  (62, ⟨1, 24, false, 2, 103, [], [.nil]⟩),
  (64, ⟨3, 48, true, 3, 0, [(0, 3), (1, 62), (2, 9)], [.t (.int .i64 0), .nil, .t (.str [])]⟩),
  (67, ⟨1, 24, false, 2, 104, [], [.nil]⟩),
  (69, ⟨3, 48, true, 3, 0, [(0, 3), (1, 67), (2, 9)], [.t (.int .i64 0), .nil, .t (.str [])]⟩),
  (103, ⟨2, 32, true, 3, 0, [(0, 9), (1, 9)], [.t (.str []), .t (.str [])]⟩),
  (104, ⟨2, 32, true, 3, 0, [(0, 9), (1, 9)], [.t (.str []), .t (.str [])]⟩)]
def szOf (t : Nat) : Nat := (Pv.look tis t default).size
def R_103 (x : LField) : List T := [.str x.Name, .str x.Value]
def R_104 (x : IField) : List T := [.str x.Name, .str x.Value]
def Rw (ty : Nat) : D ty → List T :=
  match ty with
  | 103 => R_103
  | 104 => R_104
  | _ => fun _ => []
def E_103 (x : LField) : List (V D) := [.str x.Name, .str x.Value]
def E_104 (x : IField) : List (V D) := [.str x.Name, .str x.Value]
def Ew (ty : Nat) : D ty → List (V D) :=
  match ty with
  | 103 => E_103
  | 104 => E_104
  | _ => fun _ => []
def D_103 (l : List (V D)) : Option (LField) := oC l fun v0 l => oS v0 fun x0 => oC l fun v1 l => oS v1 fun x1 => oN l (some (⟨x0, x1⟩ : LField))
def D_104 (l : List (V D)) : Option (IField) := oC l fun v0 l => oS v0 fun x0 => oC l fun v1 l => oS v1 fun x1 => oN l (some (⟨x0, x1⟩ : IField))
def Dw (ty : Nat) : List (V D) → Option (D ty) :=
  match ty with
  | 103 => D_103
  | 104 => D_104
  | _ => fun _ => none
def ofB (ty : Nat) : List Int → Option (List (D ty)) :=
  match ty with
  | _ => fun _ => none
def toB (ty : Nat) : List (D ty) → Option (List Int) :=
  match ty with
  | _ => fun _ => none
def cels : List (Nat × List Nat) := [(103, [0, 0]), (104, [0, 0])]
abbrev P : Program := Go.Proofs.Try.prog
def gi (w : World) : Prop := True
def X : CT D := ⟨mkC P gi tis [] [104], Rw, Ew, Dw, ofB, toB, cels⟩
theorem mixed : P.follows .mixedOrders = true := by kernel_rfl
theorem ctx : CtxOK P X.C := ctx_okB (by kernel_rfl) (by kernel_rfl) (by kernel_rfl)
theorem dec_103 : ∀ {l : List (V D)} {x : LField}, D_103 l = some x → l.map X.er = R_103 x := by
  intro l x h
  unfold D_103 at h
  obtain ⟨v0, l0, e0, h0⟩ := oC_ok h
  obtain ⟨x0, f0, h0x⟩ := oS_ok h0
  obtain ⟨v1, l1, e1, h1⟩ := oC_ok h0x
  obtain ⟨x1, f1, h1x⟩ := oS_ok h1
  obtain ⟨e2, hl⟩ := oN_ok h1x
  simp only [Option.some.injEq] at hl
  subst hl
  subst f1
  subst f0
  subst e2
  subst e1
  subst e0
  rfl
theorem dec_104 : ∀ {l : List (V D)} {x : IField}, D_104 l = some x → l.map X.er = R_104 x := by
  intro l x h
  unfold D_104 at h
  obtain ⟨v0, l0, e0, h0⟩ := oC_ok h
  obtain ⟨x0, f0, h0x⟩ := oS_ok h0
  obtain ⟨v1, l1, e1, h1⟩ := oC_ok h0x
  obtain ⟨x1, f1, h1x⟩ := oS_ok h1
  obtain ⟨e2, hl⟩ := oN_ok h1x
  simp only [Option.some.injEq] at hl
  subst hl
  subst f1
  subst f0
  subst e2
  subst e1
  subst e0
  rfl
theorem codE (ty : Nat) (x : D ty) : (X.E ty x).map X.er = X.R ty x := by
  by_cases h103 : ty = 103
  · subst h103
    rfl
  by_cases h104 : ty = 104
  · subst h104
    rfl
  show (Ew ty x).map X.er = Rw ty x
  simp [Ew, Rw, h103, h104]
theorem codD (ty : Nat) (l : List (V D)) (x : D ty) (h : X.dec ty l = some x) : l.map X.er = X.R ty x := by
  by_cases h103 : ty = 103
  · subst h103
    exact dec_103 h
  by_cases h104 : ty = 104
  · subst h104
    exact dec_104 h
  have h : Dw ty l = some x := h
  simp [Dw, h103, h104] at h
theorem codO (ty : Nat) (l : List Int) (r : List (D ty)) (h : X.ofB ty l = some r) : r.map (X.R ty) = rowsI .u8 l := by
  by_cases h103 : ty = 103
  · subst h103
    cases h
  by_cases h104 : ty = 104
  · subst h104
    cases h
  have h : ofB ty l = some r := h
  simp [ofB, h103, h104] at h
theorem codT (ty : Nat) (l : List (D ty)) (r : List Int) (h : X.toB ty l = some r) : l.map (X.R ty) = rowsI .u8 r := by
  by_cases h103 : ty = 103
  · subst h103
    cases h
  by_cases h104 : ty = 104
  · subst h104
    cases h
  have h : toB ty l = some r := h
  simp [toB, h103, h104] at h
theorem codS (ty : Nat) (h : scalTy X ty = true) (x : D ty) : ∀ t ∈ X.R ty x, t.scalar = true := by
  by_cases h103 : ty = 103
  · subst h103
    intro t ht
    have ht : t ∈ R_103 x := ht
    simp only [R_103, List.mem_cons, List.not_mem_nil, or_false] at ht
    rcases ht with rfl | rfl <;> rfl
  by_cases h104 : ty = 104
  · subst h104
    intro t ht
    have ht : t ∈ R_104 x := ht
    simp only [R_104, List.mem_cons, List.not_mem_nil, or_false] at ht
    rcases ht with rfl | rfl <;> rfl
  exfalso
  rcases look_key (rfl : Pv.look cels ty [1] = Pv.look cels ty [1]) with h1 | h1
  · have h : (Pv.look cels ty [1]).all (fun e => Nat.beq e 0) = true := h
    rw [h1] at h; cases h
  · simp only [cels, List.mem_cons, List.not_mem_nil, or_false, Prod.mk.injEq] at h1 <;> omega
theorem cod : CodOK X := ⟨codE, codD, codO, codT, codS⟩

end
end Go.Ytilbenelefdihaa
