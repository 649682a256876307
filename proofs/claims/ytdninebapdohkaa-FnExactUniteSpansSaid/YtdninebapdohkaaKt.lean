/- The types, as Lean has them. Nothing is claimed here. -/
import Derived.Test.YtdninebapdohkaaPv31
import Derived.Test.YtdninebapdohkaaProg
set_option linter.unusedVariables false
set_option linter.unusedSimpArgs false
set_option maxRecDepth 100000
namespace Go.Ytdninebapdohkaa
open Go Go.RowKit Go.Pv
noncomputable section

structure LSpan where
  From : Int
  To : Int
  deriving DecidableEq, Inhabited
structure ISpan where
  From : Int
  To : Int
  deriving DecidableEq, Inhabited
@[reducible] def D (ty : Nat) : Type :=
  match ty with
  | 24 => LSpan
  | 29 => ISpan
  | _ => Unit
def tis : List (Nat × TInfo) := [
  (3, ⟨1, 8, false, 10, 0, [], [.t (.int .i64 0)]⟩),
  (4, ⟨1, 1, false, 5, 0, [], [.t (.bool false)]⟩),
  (22, ⟨1, 24, false, 2, 24, [], [.nil]⟩),
  (24, ⟨2, 16, true, 3, 0, [(0, 3), (1, 3)], [.t (.int .i64 0), .t (.int .i64 0)]⟩),
  (26, ⟨1, 24, false, 2, 29, [], [.nil]⟩),
  (29, ⟨2, 16, true, 3, 0, [(0, 3), (1, 3)], [.t (.int .i64 0), .t (.int .i64 0)]⟩)]
def szOf (t : Nat) : Nat := (Pv.look tis t default).size
def R_24 (x : LSpan) : List T := [.int .i64 x.From, .int .i64 x.To]
def R_29 (x : ISpan) : List T := [.int .i64 x.From, .int .i64 x.To]
def Rw (ty : Nat) : D ty → List T :=
  match ty with
  | 24 => R_24
  | 29 => R_29
  | _ => fun _ => []
def E_24 (x : LSpan) : List (V D) := [.int .i64 x.From, .int .i64 x.To]
def E_29 (x : ISpan) : List (V D) := [.int .i64 x.From, .int .i64 x.To]
def Ew (ty : Nat) : D ty → List (V D) :=
  match ty with
  | 24 => E_24
  | 29 => E_29
  | _ => fun _ => []
def D_24 (l : List (V D)) : Option (LSpan) := oC l fun v0 l => oI .i64 v0 fun x0 => oC l fun v1 l => oI .i64 v1 fun x1 => oN l (some (⟨x0, x1⟩ : LSpan))
def D_29 (l : List (V D)) : Option (ISpan) := oC l fun v0 l => oI .i64 v0 fun x0 => oC l fun v1 l => oI .i64 v1 fun x1 => oN l (some (⟨x0, x1⟩ : ISpan))
def Dw (ty : Nat) : List (V D) → Option (D ty) :=
  match ty with
  | 24 => D_24
  | 29 => D_29
  | _ => fun _ => none
def ofB (ty : Nat) : List Int → Option (List (D ty)) :=
  match ty with
  | _ => fun _ => none
def toB (ty : Nat) : List (D ty) → Option (List Int) :=
  match ty with
  | _ => fun _ => none
def cels : List (Nat × List Nat) := [(24, [0, 0]), (29, [0, 0])]
abbrev P : Program := Go.Proofs.Try.prog
def gi (w : World) : Prop := True
def X : CT D := ⟨mkC P gi tis [17] [], Rw, Ew, Dw, ofB, toB, cels⟩
theorem mixed : P.follows .mixedOrders = true := by kernel_rfl
theorem ctx : CtxOK P X.C := ctx_okB (by kernel_rfl) (by kernel_rfl) (by kernel_rfl)
theorem dec_24 : ∀ {l : List (V D)} {x : LSpan}, D_24 l = some x → l.map X.er = R_24 x := by
  intro l x h
  unfold D_24 at h
  obtain ⟨v0, l0, e0, h0⟩ := oC_ok h
  obtain ⟨x0, f0, h0x⟩ := oI_ok h0
  obtain ⟨v1, l1, e1, h1⟩ := oC_ok h0x
  obtain ⟨x1, f1, h1x⟩ := oI_ok h1
  obtain ⟨e2, hl⟩ := oN_ok h1x
  simp only [Option.some.injEq] at hl
  subst hl
  subst f1
  subst f0
  subst e2
  subst e1
  subst e0
  rfl
theorem dec_29 : ∀ {l : List (V D)} {x : ISpan}, D_29 l = some x → l.map X.er = R_29 x := by
  intro l x h
  unfold D_29 at h
  obtain ⟨v0, l0, e0, h0⟩ := oC_ok h
  obtain ⟨x0, f0, h0x⟩ := oI_ok h0
  obtain ⟨v1, l1, e1, h1⟩ := oC_ok h0x
  obtain ⟨x1, f1, h1x⟩ := oI_ok h1
  obtain ⟨e2, hl⟩ := oN_ok h1x
  simp only [Option.some.injEq] at hl
  subst hl
  subst f1
  subst f0
  subst e2
  subst e1
  subst e0
  rfl
theorem codE (ty : Nat) (x : D ty) : (X.E ty x).map X.er = X.R ty x := by
  by_cases h24 : ty = 24
  · subst h24
    rfl
  by_cases h29 : ty = 29
  · subst h29
    rfl
  show (Ew ty x).map X.er = Rw ty x
  simp [Ew, Rw, h24, h29]
theorem codD (ty : Nat) (l : List (V D)) (x : D ty) (h : X.dec ty l = some x) : l.map X.er = X.R ty x := by
  by_cases h24 : ty = 24
  · subst h24
    exact dec_24 h
  by_cases h29 : ty = 29
  · subst h29
    exact dec_29 h
  have h : Dw ty l = some x := h
  simp [Dw, h24, h29] at h
theorem codO (ty : Nat) (l : List Int) (r : List (D ty)) (h : X.ofB ty l = some r) : r.map (X.R ty) = rowsI .u8 l := by
  by_cases h24 : ty = 24
  · subst h24
    cases h
  by_cases h29 : ty = 29
  · subst h29
    cases h
  have h : ofB ty l = some r := h
  simp [ofB, h24, h29] at h
theorem codT (ty : Nat) (l : List (D ty)) (r : List Int) (h : X.toB ty l = some r) : l.map (X.R ty) = rowsI .u8 r := by
  by_cases h24 : ty = 24
  · subst h24
    cases h
  by_cases h29 : ty = 29
  · subst h29
    cases h
  have h : toB ty l = some r := h
  simp [toB, h24, h29] at h
theorem codS (ty : Nat) (h : scalTy X ty = true) (x : D ty) : ∀ t ∈ X.R ty x, t.scalar = true := by
  by_cases h24 : ty = 24
  · subst h24
    intro t ht
    have ht : t ∈ R_24 x := ht
    simp only [R_24, List.mem_cons, List.not_mem_nil, or_false] at ht
    rcases ht with rfl | rfl <;> rfl
  by_cases h29 : ty = 29
  · subst h29
    intro t ht
    have ht : t ∈ R_29 x := ht
    simp only [R_29, List.mem_cons, List.not_mem_nil, or_false] at ht
    rcases ht with rfl | rfl <;> rfl
  exfalso
  rcases look_key (rfl : Pv.look cels ty [1] = Pv.look cels ty [1]) with h1 | h1
  · have h : (Pv.look cels ty [1]).all (fun e => Nat.beq e 0) = true := h
    rw [h1] at h; cases h
  · simp only [cels, List.mem_cons, List.not_mem_nil, or_false, Prod.mk.injEq] at h1 <;> omega
theorem cod : CodOK X := ⟨codE, codD, codO, codT, codS⟩

end
end Go.Ytdninebapdohkaa
