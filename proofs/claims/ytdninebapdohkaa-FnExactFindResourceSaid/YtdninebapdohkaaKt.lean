/- The types, as Lean has them. Nothing is claimed here. -/
import Derived.Test.YtdninebapdohkaaPv31
import Derived.Test.YtdninebapdohkaaProg
set_option linter.unusedVariables false
set_option linter.unusedSimpArgs false
set_option maxRecDepth 100000
namespace Go.Ytdninebapdohkaa
open Go Go.RowKit Go.Pv
noncomputable section

structure LVersion where
  At : Int
  Text : List UInt8
  Gone : Bool
  deriving DecidableEq, Inhabited
structure LResource where
  Target : List UInt8
  Control : List UInt8
  Keys : List UInt8
  Private : Bool
  Langs : List (List UInt8)
  Versions : List LVersion
  deriving DecidableEq, Inhabited
structure LOrigin where
  Host : List UInt8
  Resources : List LResource
  deriving DecidableEq, Inhabited
structure IVersion where
  At : Int
  Text : List UInt8
  Gone : Bool
  deriving DecidableEq, Inhabited
structure IResource where
  Target : List UInt8
  Control : List UInt8
  Keys : List UInt8
  Private : Bool
  Langs : List (List UInt8)
  Versions : List IVersion
  deriving DecidableEq, Inhabited
structure IOrigin where
  Host : List UInt8
  Resources : List IResource
  deriving DecidableEq, Inhabited
@[reducible] def D (ty : Nat) : Type :=
  match ty with
  | 9 => List UInt8
  | 122 => LVersion
  | 39 => LResource
  | 94 => IVersion
  | 44 => IResource
  | _ => Unit
def tis : List (Nat × TInfo) := [
  (3, ⟨1, 8, false, 10, 0, [], [.t (.int .i64 0)]⟩),
  (4, ⟨1, 1, false, 5, 0, [], [.t (.bool false)]⟩),
  (9, ⟨1, 16, false, 1, 0, [], [.t (.str [])]⟩),
  (36, ⟨1, 24, false, 2, 9, [], [.nil]⟩),
  (37, ⟨1, 24, false, 2, 122, [], [.nil]⟩),
  (39, ⟨6, 104, true, 3, 0, [(0, 9), (1, 9), (2, 9), (3, 4), (4, 36), (5, 37)], [.t (.str []), .t (.str []), .t (.str []), .t (.bool false), .nil, .nil]⟩),
  (42, ⟨1, 24, false, 2, 94, [], [.nil]⟩),
  (44, ⟨6, 104, true, 3, 0, [(0, 9), (1, 9), (2, 9), (3, 4), (4, 36), (5, 42)], [.t (.str []), .t (.str []), .t (.str []), .t (.bool false), .nil, .nil]⟩),
  (58, ⟨1, 24, false, 2, 39, [], [.nil]⟩),
  (60, ⟨2, 40, true, 3, 0, [(0, 9), (1, 58)], [.t (.str []), .nil]⟩),
  (63, ⟨1, 24, false, 2, 44, [], [.nil]⟩),
  (65, ⟨2, 40, true, 3, 0, [(0, 9), (1, 63)], [.t (.str []), .nil]⟩),
  (94, ⟨3, 32, true, 3, 0, [(0, 3), (1, 9), (2, 4)], [.t (.int .i64 0), .t (.str []), .t (.bool false)]⟩),
  (111, ⟨1, 8, false, 8, 0, [], [.gone]⟩),
  (122, ⟨3, 32, true, 3, 0, [(0, 3), (1, 9), (2, 4)], [.t (.int .i64 0), .t (.str []), .t (.bool false)]⟩)]
def szOf (t : Nat) : Nat := (Pv.look tis t default).size
def R_9 (x : List UInt8) : List T := [.str x]
def R_122 (x : LVersion) : List T := [.int .i64 x.At, .str x.Text, .bool x.Gone]
def R_39 (x : LResource) : List T := [.str x.Target, .str x.Control, .str x.Keys, .bool x.Private, .sl (szOf 9) (x.Langs.map R_9), .sl (szOf 122) (x.Versions.map R_122)]
def R_94 (x : IVersion) : List T := [.int .i64 x.At, .str x.Text, .bool x.Gone]
def R_44 (x : IResource) : List T := [.str x.Target, .str x.Control, .str x.Keys, .bool x.Private, .sl (szOf 9) (x.Langs.map R_9), .sl (szOf 94) (x.Versions.map R_94)]
def Rw (ty : Nat) : D ty → List T :=
  match ty with
  | 9 => R_9
  | 122 => R_122
  | 39 => R_39
  | 94 => R_94
  | 44 => R_44
  | _ => fun _ => []
def E_9 (x : List UInt8) : List (V D) := [.str x]
def E_122 (x : LVersion) : List (V D) := [.int .i64 x.At, .str x.Text, .bool x.Gone]
def E_39 (x : LResource) : List (V D) := [.str x.Target, .str x.Control, .str x.Keys, .bool x.Private, .sl 9 x.Langs, .sl 122 x.Versions]
def E_94 (x : IVersion) : List (V D) := [.int .i64 x.At, .str x.Text, .bool x.Gone]
def E_44 (x : IResource) : List (V D) := [.str x.Target, .str x.Control, .str x.Keys, .bool x.Private, .sl 9 x.Langs, .sl 94 x.Versions]
def Ew (ty : Nat) : D ty → List (V D) :=
  match ty with
  | 9 => E_9
  | 122 => E_122
  | 39 => E_39
  | 94 => E_94
  | 44 => E_44
  | _ => fun _ => []
def D_9 (l : List (V D)) : Option (List UInt8) := oC l fun v0 l => oS v0 fun x0 => oN l (some x0)
def D_122 (l : List (V D)) : Option (LVersion) := oC l fun v0 l => oI .i64 v0 fun x0 => oC l fun v1 l => oS v1 fun x1 => oC l fun v2 l => oB v2 fun x2 => oN l (some (⟨x0, x1, x2⟩ : LVersion))
def D_39 (l : List (V D)) : Option (LResource) := oC l fun v0 l => oS v0 fun x0 => oC l fun v1 l => oS v1 fun x1 => oC l fun v2 l => oS v2 fun x2 => oC l fun v3 l => oB v3 fun x3 => oC l fun v4 l => oL 9 v4 fun x4 => oC l fun v5 l => oL 122 v5 fun x5 => oN l (some (⟨x0, x1, x2, x3, x4, x5⟩ : LResource))
def D_94 (l : List (V D)) : Option (IVersion) := oC l fun v0 l => oI .i64 v0 fun x0 => oC l fun v1 l => oS v1 fun x1 => oC l fun v2 l => oB v2 fun x2 => oN l (some (⟨x0, x1, x2⟩ : IVersion))
def D_44 (l : List (V D)) : Option (IResource) := oC l fun v0 l => oS v0 fun x0 => oC l fun v1 l => oS v1 fun x1 => oC l fun v2 l => oS v2 fun x2 => oC l fun v3 l => oB v3 fun x3 => oC l fun v4 l => oL 9 v4 fun x4 => oC l fun v5 l => oL 94 v5 fun x5 => oN l (some (⟨x0, x1, x2, x3, x4, x5⟩ : IResource))
def Dw (ty : Nat) : List (V D) → Option (D ty) :=
  match ty with
  | 9 => D_9
  | 122 => D_122
  | 39 => D_39
  | 94 => D_94
  | 44 => D_44
  | _ => fun _ => none
def ofB (ty : Nat) : List Int → Option (List (D ty)) :=
  match ty with
  | _ => fun _ => none
def toB (ty : Nat) : List (D ty) → Option (List Int) :=
  match ty with
  | _ => fun _ => none
def cels : List (Nat × List Nat) := [(9, [0]), (122, [0, 0, 0]), (39, [0, 0, 0, 0, 9, 122]), (94, [0, 0, 0]), (44, [0, 0, 0, 0, 9, 94])]
abbrev P : Program := Go.Proofs.Try.prog
def gi (w : World) : Prop := True
def X : CT D := ⟨mkC P gi tis [] [], Rw, Ew, Dw, ofB, toB, cels⟩
theorem mixed : P.follows .mixedOrders = true := by kernel_rfl
theorem ctx : CtxOK P X.C := ctx_okB (by kernel_rfl) (by kernel_rfl) (by kernel_rfl)
theorem dec_9 : ∀ {l : List (V D)} {x : List UInt8}, D_9 l = some x → l.map X.er = R_9 x := by
  intro l x h
  unfold D_9 at h
  obtain ⟨v0, l0, e0, h0⟩ := oC_ok h
  obtain ⟨x0, f0, h0x⟩ := oS_ok h0
  obtain ⟨e1, hl⟩ := oN_ok h0x
  simp only [Option.some.injEq] at hl
  subst hl
  subst f0
  subst e1
  subst e0
  rfl
theorem dec_122 : ∀ {l : List (V D)} {x : LVersion}, D_122 l = some x → l.map X.er = R_122 x := by
  intro l x h
  unfold D_122 at h
  obtain ⟨v0, l0, e0, h0⟩ := oC_ok h
  obtain ⟨x0, f0, h0x⟩ := oI_ok h0
  obtain ⟨v1, l1, e1, h1⟩ := oC_ok h0x
  obtain ⟨x1, f1, h1x⟩ := oS_ok h1
  obtain ⟨v2, l2, e2, h2⟩ := oC_ok h1x
  obtain ⟨x2, f2, h2x⟩ := oB_ok h2
  obtain ⟨e3, hl⟩ := oN_ok h2x
  simp only [Option.some.injEq] at hl
  subst hl
  subst f2
  subst f1
  subst f0
  subst e3
  subst e2
  subst e1
  subst e0
  rfl
theorem dec_39 : ∀ {l : List (V D)} {x : LResource}, D_39 l = some x → l.map X.er = R_39 x := by
  intro l x h
  unfold D_39 at h
  obtain ⟨v0, l0, e0, h0⟩ := oC_ok h
  obtain ⟨x0, f0, h0x⟩ := oS_ok h0
  obtain ⟨v1, l1, e1, h1⟩ := oC_ok h0x
  obtain ⟨x1, f1, h1x⟩ := oS_ok h1
  obtain ⟨v2, l2, e2, h2⟩ := oC_ok h1x
  obtain ⟨x2, f2, h2x⟩ := oS_ok h2
  obtain ⟨v3, l3, e3, h3⟩ := oC_ok h2x
  obtain ⟨x3, f3, h3x⟩ := oB_ok h3
  obtain ⟨v4, l4, e4, h4⟩ := oC_ok h3x
  obtain ⟨x4, f4, h4x⟩ := oL_ok h4
  obtain ⟨v5, l5, e5, h5⟩ := oC_ok h4x
  obtain ⟨x5, f5, h5x⟩ := oL_ok h5
  obtain ⟨e6, hl⟩ := oN_ok h5x
  simp only [Option.some.injEq] at hl
  subst hl
  subst f5
  subst f4
  subst f3
  subst f2
  subst f1
  subst f0
  subst e6
  subst e5
  subst e4
  subst e3
  subst e2
  subst e1
  subst e0
  rfl
theorem dec_94 : ∀ {l : List (V D)} {x : IVersion}, D_94 l = some x → l.map X.er = R_94 x := by
  intro l x h
  unfold D_94 at h
  obtain ⟨v0, l0, e0, h0⟩ := oC_ok h
  obtain ⟨x0, f0, h0x⟩ := oI_ok h0
  obtain ⟨v1, l1, e1, h1⟩ := oC_ok h0x
  obtain ⟨x1, f1, h1x⟩ := oS_ok h1
  obtain ⟨v2, l2, e2, h2⟩ := oC_ok h1x
  obtain ⟨x2, f2, h2x⟩ := oB_ok h2
  obtain ⟨e3, hl⟩ := oN_ok h2x
  simp only [Option.some.injEq] at hl
  subst hl
  subst f2
  subst f1
  subst f0
  subst e3
  subst e2
  subst e1
  subst e0
  rfl
theorem dec_44 : ∀ {l : List (V D)} {x : IResource}, D_44 l = some x → l.map X.er = R_44 x := by
  intro l x h
  unfold D_44 at h
  obtain ⟨v0, l0, e0, h0⟩ := oC_ok h
  obtain ⟨x0, f0, h0x⟩ := oS_ok h0
  obtain ⟨v1, l1, e1, h1⟩ := oC_ok h0x
  obtain ⟨x1, f1, h1x⟩ := oS_ok h1
  obtain ⟨v2, l2, e2, h2⟩ := oC_ok h1x
  obtain ⟨x2, f2, h2x⟩ := oS_ok h2
  obtain ⟨v3, l3, e3, h3⟩ := oC_ok h2x
  obtain ⟨x3, f3, h3x⟩ := oB_ok h3
  obtain ⟨v4, l4, e4, h4⟩ := oC_ok h3x
  obtain ⟨x4, f4, h4x⟩ := oL_ok h4
  obtain ⟨v5, l5, e5, h5⟩ := oC_ok h4x
  obtain ⟨x5, f5, h5x⟩ := oL_ok h5
  obtain ⟨e6, hl⟩ := oN_ok h5x
  simp only [Option.some.injEq] at hl
  subst hl
  subst f5
  subst f4
  subst f3
  subst f2
  subst f1
  subst f0
  subst e6
  subst e5
  subst e4
  subst e3
  subst e2
  subst e1
  subst e0
  rfl
theorem codE (ty : Nat) (x : D ty) : (X.E ty x).map X.er = X.R ty x := by
  by_cases h9 : ty = 9
  · subst h9
    rfl
  by_cases h122 : ty = 122
  · subst h122
    rfl
  by_cases h39 : ty = 39
  · subst h39
    rfl
  by_cases h94 : ty = 94
  · subst h94
    rfl
  by_cases h44 : ty = 44
  · subst h44
    rfl
  show (Ew ty x).map X.er = Rw ty x
  simp [Ew, Rw, h9, h122, h39, h94, h44]
theorem codD (ty : Nat) (l : List (V D)) (x : D ty) (h : X.dec ty l = some x) : l.map X.er = X.R ty x := by
  by_cases h9 : ty = 9
  · subst h9
    exact dec_9 h
  by_cases h122 : ty = 122
  · subst h122
    exact dec_122 h
  by_cases h39 : ty = 39
  · subst h39
    exact dec_39 h
  by_cases h94 : ty = 94
  · subst h94
    exact dec_94 h
  by_cases h44 : ty = 44
  · subst h44
    exact dec_44 h
  have h : Dw ty l = some x := h
  simp [Dw, h9, h122, h39, h94, h44] at h
theorem codO (ty : Nat) (l : List Int) (r : List (D ty)) (h : X.ofB ty l = some r) : r.map (X.R ty) = rowsI .u8 l := by
  by_cases h9 : ty = 9
  · subst h9
    cases h
  by_cases h122 : ty = 122
  · subst h122
    cases h
  by_cases h39 : ty = 39
  · subst h39
    cases h
  by_cases h94 : ty = 94
  · subst h94
    cases h
  by_cases h44 : ty = 44
  · subst h44
    cases h
  have h : ofB ty l = some r := h
  simp [ofB, h9, h122, h39, h94, h44] at h
theorem codT (ty : Nat) (l : List (D ty)) (r : List Int) (h : X.toB ty l = some r) : l.map (X.R ty) = rowsI .u8 r := by
  by_cases h9 : ty = 9
  · subst h9
    cases h
  by_cases h122 : ty = 122
  · subst h122
    cases h
  by_cases h39 : ty = 39
  · subst h39
    cases h
  by_cases h94 : ty = 94
  · subst h94
    cases h
  by_cases h44 : ty = 44
  · subst h44
    cases h
  have h : toB ty l = some r := h
  simp [toB, h9, h122, h39, h94, h44] at h
theorem codS (ty : Nat) (h : scalTy X ty = true) (x : D ty) : ∀ t ∈ X.R ty x, t.scalar = true := by
  by_cases h9 : ty = 9
  · subst h9
    intro t ht
    have ht : t ∈ R_9 x := ht
    simp only [R_9, List.mem_cons, List.not_mem_nil, or_false] at ht
    rcases ht with rfl <;> rfl
  by_cases h122 : ty = 122
  · subst h122
    intro t ht
    have ht : t ∈ R_122 x := ht
    simp only [R_122, List.mem_cons, List.not_mem_nil, or_false] at ht
    rcases ht with rfl | rfl | rfl <;> rfl
  by_cases h39 : ty = 39
  · subst h39
    have : scalTy X 39 = false := by kernel_rfl
    rw [this] at h; cases h
  by_cases h94 : ty = 94
  · subst h94
    intro t ht
    have ht : t ∈ R_94 x := ht
    simp only [R_94, List.mem_cons, List.not_mem_nil, or_false] at ht
    rcases ht with rfl | rfl | rfl <;> rfl
  by_cases h44 : ty = 44
  · subst h44
    have : scalTy X 44 = false := by kernel_rfl
    rw [this] at h; cases h
  exfalso
  rcases look_key (rfl : Pv.look cels ty [1] = Pv.look cels ty [1]) with h1 | h1
  · have h : (Pv.look cels ty [1]).all (fun e => Nat.beq e 0) = true := h
    rw [h1] at h; cases h
  · simp only [cels, List.mem_cons, List.not_mem_nil, or_false, Prod.mk.injEq] at h1 <;> omega
theorem cod : CodOK X := ⟨codE, codD, codO, codT, codS⟩

end
end Go.Ytdninebapdohkaa
