/- The types, as Lean has them. Nothing is claimed here. -/
import Derived.Test.YtilbenelefdihaaPv32
import Derived.Test.YtilbenelefdihaaProg
set_option linter.unusedVariables false
set_option linter.unusedSimpArgs false
set_option maxRecDepth 100000
namespace Go.Ytilbenelefdihaa
open Go Go.RowKit Go.Pv
noncomputable section


@[reducible] def D (ty : Nat) : Type :=
  match ty with
  | _ => Unit
def tis : List (Nat × TInfo) := [
  (3, ⟨1, 8, false, 10, 0, [], [.t (.int .i64 0)]⟩),
  (4, ⟨1, 1, false, 5, 0, [], [.t (.bool false)]⟩),
  (5, ⟨1, 1, false, 15, 0, [], [.t (.int .u8 0)]⟩),
  (9, ⟨1, 16, false, 1, 0, [], [.t (.str [])]⟩)]
def szOf (t : Nat) : Nat := (Pv.look tis t default).size
def Rw (ty : Nat) : D ty → List T :=
  match ty with
  | _ => fun _ => []
def Ew (ty : Nat) : D ty → List (V D) :=
  match ty with
  | _ => fun _ => []
def Dw (ty : Nat) : List (V D) → Option (D ty) :=
  match ty with
  | _ => fun _ => none
def ofB (ty : Nat) : List Int → Option (List (D ty)) :=
  match ty with
  | _ => fun _ => none
def toB (ty : Nat) : List (D ty) → Option (List Int) :=
  match ty with
  | _ => fun _ => none
def cels : List (Nat × List Nat) := []
abbrev P : Program := Go.Proofs.Try.prog
def gi (w : World) : Prop := ∃ m, w.cell? ⟨0, 0, none⟩ = some (.int .i64 m)
def X : CT D := ⟨mkC P gi tis [] [], Rw, Ew, Dw, ofB, toB, cels⟩
theorem mixed : P.follows .mixedOrders = true := by kernel_rfl
theorem ctx : CtxOK P X.C := ctx_okB (by kernel_rfl) (by kernel_rfl) (by kernel_rfl)
theorem codE (ty : Nat) (x : D ty) : (X.E ty x).map X.er = X.R ty x := by
  show (Ew ty x).map X.er = Rw ty x
  simp [Ew, Rw, ]
theorem codD (ty : Nat) (l : List (V D)) (x : D ty) (h : X.dec ty l = some x) : l.map X.er = X.R ty x := by
  have h : Dw ty l = some x := h
  simp [Dw, ] at h
theorem codO (ty : Nat) (l : List Int) (r : List (D ty)) (h : X.ofB ty l = some r) : r.map (X.R ty) = rowsI .u8 l := by
  have h : ofB ty l = some r := h
  simp [ofB, ] at h
theorem codT (ty : Nat) (l : List (D ty)) (r : List Int) (h : X.toB ty l = some r) : l.map (X.R ty) = rowsI .u8 r := by
  have h : toB ty l = some r := h
  simp [toB, ] at h
theorem codS (ty : Nat) (h : scalTy X ty = true) (x : D ty) : ∀ t ∈ X.R ty x, t.scalar = true := by
  exfalso
  rcases look_key (rfl : Pv.look cels ty [1] = Pv.look cels ty [1]) with h1 | h1
  · have h : (Pv.look cels ty [1]).all (fun e => Nat.beq e 0) = true := h
    rw [h1] at h; cases h
  · simp only [cels, List.mem_cons, List.not_mem_nil, or_false, Prod.mk.injEq] at h1 <;> omega
theorem cod : CodOK X := ⟨codE, codD, codO, codT, codS⟩

end
end Go.Ytilbenelefdihaa
