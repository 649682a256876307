/- The types, as Lean has them. Nothing is claimed here. -/
import Derived.Test.YtilbenelefdihaaPv31
import Derived.Test.YtilbenelefdihaaProg
set_option linter.unusedVariables false
set_option linter.unusedSimpArgs false
set_option maxRecDepth 100000
namespace Go.Ytilbenelefdihaa
open Go Go.RowKit Go.Pv
noncomputable section

structure LPiece where
  From : Int
  Data : List UInt8
  deriving DecidableEq, Inhabited
structure LSpan where
  From : Int
  To : Int
  deriving DecidableEq, Inhabited
structure IPiece where
  From : Int
  Data : List UInt8
  deriving DecidableEq, Inhabited
structure ISpan where
  From : Int
  To : Int
  deriving DecidableEq, Inhabited
@[reducible] def D (ty : Nat) : Type :=
  match ty with
  | 90 => LPiece
  | 91 => IPiece
  | _ => Unit
def tis : List (Nat × TInfo) := [
  (3, ⟨1, 8, false, 10, 0, [], [.t (.int .i64 0)]⟩),
  (4, ⟨1, 1, false, 5, 0, [], [.t (.bool false)]⟩),
  (9, ⟨1, 16, false, 1, 0, [], [.t (.str [])]⟩),
  (34, ⟨2, 16, true, 3, 0, [(0, 3), (1, 3)], [.t (.int .i64 0), .t (.int .i64 0)]⟩),
  (39, ⟨2, 16, true, 3, 0, [(0, 3), (1, 3)], [.t (.int .i64 0), .t (.int .i64 0)]⟩),
  (50, ⟨1, 24, false, 2, 90, [], [.nil]⟩),
  (54, ⟨1, 24, false, 2, 91, [], [.nil]⟩),
  (90, ⟨2, 24, true, 3, 0, [(0, 3), (1, 9)], [.t (.int .i64 0), .t (.str [])]⟩),
  (91, ⟨2, 24, true, 3, 0, [(0, 3), (1, 9)], [.t (.int .i64 0), .t (.str [])]⟩)]
def szOf (t : Nat) : Nat := (Pv.look tis t default).size
def R_90 (x : LPiece) : List T := [.int .i64 x.From, .str x.Data]
def R_91 (x : IPiece) : List T := [.int .i64 x.From, .str x.Data]
def Rw (ty : Nat) : D ty → List T :=
  match ty with
  | 90 => R_90
  | 91 => R_91
  | _ => fun _ => []
def E_90 (x : LPiece) : List (V D) := [.int .i64 x.From, .str x.Data]
def E_91 (x : IPiece) : List (V D) := [.int .i64 x.From, .str x.Data]
def Ew (ty : Nat) : D ty → List (V D) :=
  match ty with
  | 90 => E_90
  | 91 => E_91
  | _ => fun _ => []
def D_90 (l : List (V D)) : Option (LPiece) := oC l fun v0 l => oI .i64 v0 fun x0 => oC l fun v1 l => oS v1 fun x1 => oN l (some (⟨x0, x1⟩ : LPiece))
def D_91 (l : List (V D)) : Option (IPiece) := oC l fun v0 l => oI .i64 v0 fun x0 => oC l fun v1 l => oS v1 fun x1 => oN l (some (⟨x0, x1⟩ : IPiece))
def Dw (ty : Nat) : List (V D) → Option (D ty) :=
  match ty with
  | 90 => D_90
  | 91 => D_91
  | _ => fun _ => none
def ofB (ty : Nat) : List Int → Option (List (D ty)) :=
  match ty with
  | _ => fun _ => none
def toB (ty : Nat) : List (D ty) → Option (List Int) :=
  match ty with
  | _ => fun _ => none
def cels : List (Nat × List Nat) := [(90, [0, 0]), (91, [0, 0])]
abbrev P : Program := Go.Proofs.Try.prog
def gi (w : World) : Prop := True
def X : CT D := ⟨mkC P gi tis [] [], Rw, Ew, Dw, ofB, toB, cels⟩
theorem mixed : P.follows .mixedOrders = true := by kernel_rfl
theorem ctx : CtxOK P X.C := ctx_okB (by kernel_rfl) (by kernel_rfl) (by kernel_rfl)
theorem dec_90 : ∀ {l : List (V D)} {x : LPiece}, D_90 l = some x → l.map X.er = R_90 x := by
  intro l x h
  unfold D_90 at h
  obtain ⟨v0, l0, e0, h0⟩ := oC_ok h
  obtain ⟨x0, f0, h0x⟩ := oI_ok h0
  obtain ⟨v1, l1, e1, h1⟩ := oC_ok h0x
  obtain ⟨x1, f1, h1x⟩ := oS_ok h1
  obtain ⟨e2, hl⟩ := oN_ok h1x
  simp only [Option.some.injEq] at hl
  subst hl
  subst f1
  subst f0
  subst e2
  subst e1
  subst e0
  rfl
theorem dec_91 : ∀ {l : List (V D)} {x : IPiece}, D_91 l = some x → l.map X.er = R_91 x := by
  intro l x h
  unfold D_91 at h
  obtain ⟨v0, l0, e0, h0⟩ := oC_ok h
  obtain ⟨x0, f0, h0x⟩ := oI_ok h0
  obtain ⟨v1, l1, e1, h1⟩ := oC_ok h0x
  obtain ⟨x1, f1, h1x⟩ := oS_ok h1
  obtain ⟨e2, hl⟩ := oN_ok h1x
  simp only [Option.some.injEq] at hl
  subst hl
  subst f1
  subst f0
  subst e2
  subst e1
  subst e0
  rfl
theorem codE (ty : Nat) (x : D ty) : (X.E ty x).map X.er = X.R ty x := by
  by_cases h90 : ty = 90
  · subst h90
    rfl
  by_cases h91 : ty = 91
  · subst h91
    rfl
  show (Ew ty x).map X.er = Rw ty x
  simp [Ew, Rw, h90, h91]
theorem codD (ty : Nat) (l : List (V D)) (x : D ty) (h : X.dec ty l = some x) : l.map X.er = X.R ty x := by
  by_cases h90 : ty = 90
  · subst h90
    exact dec_90 h
  by_cases h91 : ty = 91
  · subst h91
    exact dec_91 h
  have h : Dw ty l = some x := h
  simp [Dw, h90, h91] at h
theorem codO (ty : Nat) (l : List Int) (r : List (D ty)) (h : X.ofB ty l = some r) : r.map (X.R ty) = rowsI .u8 l := by
  by_cases h90 : ty = 90
  · subst h90
    cases h
  by_cases h91 : ty = 91
  · subst h91
    cases h
  have h : ofB ty l = some r := h
  simp [ofB, h90, h91] at h
theorem codT (ty : Nat) (l : List (D ty)) (r : List Int) (h : X.toB ty l = some r) : l.map (X.R ty) = rowsI .u8 r := by
  by_cases h90 : ty = 90
  · subst h90
    cases h
  by_cases h91 : ty = 91
  · subst h91
    cases h
  have h : toB ty l = some r := h
  simp [toB, h90, h91] at h
theorem codS (ty : Nat) (h : scalTy X ty = true) (x : D ty) : ∀ t ∈ X.R ty x, t.scalar = true := by
  by_cases h90 : ty = 90
  · subst h90
    intro t ht
    have ht : t ∈ R_90 x := ht
    simp only [R_90, List.mem_cons, List.not_mem_nil, or_false] at ht
    rcases ht with rfl | rfl <;> rfl
  by_cases h91 : ty = 91
  · subst h91
    intro t ht
    have ht : t ∈ R_91 x := ht
    simp only [R_91, List.mem_cons, List.not_mem_nil, or_false] at ht
    rcases ht with rfl | rfl <;> rfl
  exfalso
  rcases look_key (rfl : Pv.look cels ty [1] = Pv.look cels ty [1]) with h1 | h1
  · have h : (Pv.look cels ty [1]).all (fun e => Nat.beq e 0) = true := h
    rw [h1] at h; cases h
  · simp only [cels, List.mem_cons, List.not_mem_nil, or_false, Prod.mk.injEq] at h1 <;> omega
theorem cod : CodOK X := ⟨codE, codD, codO, codT, codS⟩

end
end Go.Ytilbenelefdihaa
