/- The types, as Lean has them. Nothing is claimed here. -/
import Derived.Test.YtbfkbplolhniiaaGreatDoorPv35
import Derived.Test.YtbfkbplolhniiaaGreatDoorProg
set_option linter.unusedVariables false
set_option linter.unusedSimpArgs false
set_option maxRecDepth 100000
namespace Go.YtbfkbplolhniiaaGreatDoor
open Go Go.RowKit Go.Pv
noncomputable section

structure LVersion where
  At : Int
  Text : List UInt8
  Gone : Bool
  deriving DecidableEq, Inhabited
structure LResource where
  Target : List UInt8
  Control : List UInt8
  Keys : List UInt8
  Private : Bool
  Langs : List (List UInt8)
  Versions : List LVersion
  deriving DecidableEq, Inhabited
structure LField where
  Name : List UInt8
  Value : List UInt8
  deriving DecidableEq, Inhabited
structure LRequest where
  Method : List UInt8
  Host : List UInt8
  Target : List UInt8
  Fields : List LField
  deriving DecidableEq, Inhabited
structure IVersion where
  At : Int
  Text : List UInt8
  Gone : Bool
  deriving DecidableEq, Inhabited
structure IResource where
  Target : List UInt8
  Control : List UInt8
  Keys : List UInt8
  Private : Bool
  Langs : List (List UInt8)
  Versions : List IVersion
  deriving DecidableEq, Inhabited
structure IField where
  Name : List UInt8
  Value : List UInt8
  deriving DecidableEq, Inhabited
structure IRequest where
  Method : List UInt8
  Host : List UInt8
  Target : List UInt8
  Fields : List IField
  deriving DecidableEq, Inhabited
structure IQuality where
  Name : List UInt8
  Q : Int
  deriving DecidableEq, Inhabited
@[reducible] def D (ty : Nat) : Type :=
  match ty with
  | 9 => List UInt8
  | 117 => LVersion
  | 120 => LField
  | 128 => IVersion
  | 130 => IField
  | 164 => IQuality
  | 5 => Int
  | _ => Unit
def tis : List (Nat × TInfo) := [
  (3, ⟨1, 8, false, 10, 0, [], [.t (.int .i64 0)]⟩),
  (4, ⟨1, 1, false, 5, 0, [], [.t (.bool false)]⟩),
  (5, ⟨1, 1, false, 15, 0, [], [.t (.int .u8 0)]⟩),
  (9, ⟨1, 16, false, 1, 0, [], [.t (.str [])]⟩),
  (22, ⟨1, 24, false, 2, 9, [], [.nil]⟩),
  (23, ⟨1, 24, false, 2, 117, [], [.nil]⟩),
  (25, ⟨6, 104, true, 3, 0, [(0, 9), (1, 9), (2, 9), (3, 4), (4, 22), (5, 23)], [.t (.str []), .t (.str []), .t (.str []), .t (.bool false), .nil, .nil]⟩),
  (26, ⟨1, 24, false, 2, 120, [], [.nil]⟩),
  (28, ⟨4, 72, true, 3, 0, [(0, 9), (1, 9), (2, 9), (3, 26)], [.t (.str []), .t (.str []), .t (.str []), .nil]⟩),
  (33, ⟨1, 24, false, 2, 128, [], [.nil]⟩),
  (35, ⟨6, 104, true, 3, 0, [(0, 9), (1, 9), (2, 9), (3, 4), (4, 22), (5, 33)], [.t (.str []), .t (.str []), .t (.str []), .t (.bool false), .nil, .nil]⟩),
  (37, ⟨1, 24, false, 2, 130, [], [.nil]⟩),
  (39, ⟨4, 72, true, 3, 0, [(0, 9), (1, 9), (2, 9), (3, 37)], [.t (.str []), .t (.str []), .t (.str []), .nil]⟩),
  (117, ⟨3, 32, true, 3, 0, [(0, 3), (1, 9), (2, 4)], [.t (.int .i64 0), .t (.str []), .t (.bool false)]⟩),
  (120, ⟨2, 32, true, 3, 0, [(0, 9), (1, 9)], [.t (.str []), .t (.str [])]⟩),
  (121, ⟨1, 24, false, 2, 164, [], [.nil]⟩),
  (128, ⟨3, 32, true, 3, 0, [(0, 3), (1, 9), (2, 4)], [.t (.int .i64 0), .t (.str []), .t (.bool false)]⟩),
  (130, ⟨2, 32, true, 3, 0, [(0, 9), (1, 9)], [.t (.str []), .t (.str [])]⟩),
  (157, ⟨1, 24, false, 2, 5, [], [.nil]⟩),
  (164, ⟨2, 24, true, 3, 0, [(0, 9), (1, 3)], [.t (.str []), .t (.int .i64 0)]⟩)]
def szOf (t : Nat) : Nat := (Pv.look tis t default).size
def R_9 (x : List UInt8) : List T := [.str x]
def R_117 (x : LVersion) : List T := [.int .i64 x.At, .str x.Text, .bool x.Gone]
def R_120 (x : LField) : List T := [.str x.Name, .str x.Value]
def R_128 (x : IVersion) : List T := [.int .i64 x.At, .str x.Text, .bool x.Gone]
def R_130 (x : IField) : List T := [.str x.Name, .str x.Value]
def R_164 (x : IQuality) : List T := [.str x.Name, .int .i64 x.Q]
def R_5 (x : Int) : List T := [.int .u8 x]
def Rw (ty : Nat) : D ty → List T :=
  match ty with
  | 9 => R_9
  | 117 => R_117
  | 120 => R_120
  | 128 => R_128
  | 130 => R_130
  | 164 => R_164
  | 5 => R_5
  | _ => fun _ => []
def E_9 (x : List UInt8) : List (V D) := [.str x]
def E_117 (x : LVersion) : List (V D) := [.int .i64 x.At, .str x.Text, .bool x.Gone]
def E_120 (x : LField) : List (V D) := [.str x.Name, .str x.Value]
def E_128 (x : IVersion) : List (V D) := [.int .i64 x.At, .str x.Text, .bool x.Gone]
def E_130 (x : IField) : List (V D) := [.str x.Name, .str x.Value]
def E_164 (x : IQuality) : List (V D) := [.str x.Name, .int .i64 x.Q]
def E_5 (x : Int) : List (V D) := [.int .u8 x]
def Ew (ty : Nat) : D ty → List (V D) :=
  match ty with
  | 9 => E_9
  | 117 => E_117
  | 120 => E_120
  | 128 => E_128
  | 130 => E_130
  | 164 => E_164
  | 5 => E_5
  | _ => fun _ => []
def D_9 (l : List (V D)) : Option (List UInt8) := oC l fun v0 l => oS v0 fun x0 => oN l (some x0)
def D_117 (l : List (V D)) : Option (LVersion) := oC l fun v0 l => oI .i64 v0 fun x0 => oC l fun v1 l => oS v1 fun x1 => oC l fun v2 l => oB v2 fun x2 => oN l (some (⟨x0, x1, x2⟩ : LVersion))
def D_120 (l : List (V D)) : Option (LField) := oC l fun v0 l => oS v0 fun x0 => oC l fun v1 l => oS v1 fun x1 => oN l (some (⟨x0, x1⟩ : LField))
def D_128 (l : List (V D)) : Option (IVersion) := oC l fun v0 l => oI .i64 v0 fun x0 => oC l fun v1 l => oS v1 fun x1 => oC l fun v2 l => oB v2 fun x2 => oN l (some (⟨x0, x1, x2⟩ : IVersion))
def D_130 (l : List (V D)) : Option (IField) := oC l fun v0 l => oS v0 fun x0 => oC l fun v1 l => oS v1 fun x1 => oN l (some (⟨x0, x1⟩ : IField))
def D_164 (l : List (V D)) : Option (IQuality) := oC l fun v0 l => oS v0 fun x0 => oC l fun v1 l => oI .i64 v1 fun x1 => oN l (some (⟨x0, x1⟩ : IQuality))
def D_5 (l : List (V D)) : Option (Int) := oC l fun v0 l => oI .u8 v0 fun x0 => oN l (some x0)
def Dw (ty : Nat) : List (V D) → Option (D ty) :=
  match ty with
  | 9 => D_9
  | 117 => D_117
  | 120 => D_120
  | 128 => D_128
  | 130 => D_130
  | 164 => D_164
  | 5 => D_5
  | _ => fun _ => none
def ofB (ty : Nat) : List Int → Option (List (D ty)) :=
  match ty with
  | 5 => fun l => some l
  | _ => fun _ => none
def toB (ty : Nat) : List (D ty) → Option (List Int) :=
  match ty with
  | 5 => fun l => some l
  | _ => fun _ => none
def cels : List (Nat × List Nat) := [(9, [0]), (117, [0, 0, 0]), (120, [0, 0]), (128, [0, 0, 0]), (130, [0, 0]), (164, [0, 0]), (5, [0])]
abbrev P : Program := Go.Proofs.Tryz.prog
def gi (w : World) : Prop := (∃ m, w.cell? ⟨5, 0, none⟩ = some (.int .i64 m))
def X : CT D := ⟨mkC P gi tis [] [] [] [] [], Rw, Ew, Dw, ofB, toB, cels⟩
theorem mixed : P.follows .mixedOrders = true := by kernel_rfl
theorem ctx : CtxOK P X.C := ctx_okB (by kernel_rfl) (by kernel_rfl) (by kernel_rfl)
theorem dec_9 : ∀ {l : List (V D)} {x : List UInt8}, D_9 l = some x → l.map X.er = R_9 x := by
  intro l x h
  unfold D_9 at h
  obtain ⟨v0, l0, e0, h0⟩ := oC_ok h
  obtain ⟨x0, f0, h0x⟩ := oS_ok h0
  obtain ⟨e1, hl⟩ := oN_ok h0x
  simp only [Option.some.injEq] at hl
  subst hl
  subst f0
  subst e1
  subst e0
  rfl
theorem dec_117 : ∀ {l : List (V D)} {x : LVersion}, D_117 l = some x → l.map X.er = R_117 x := by
  intro l x h
  unfold D_117 at h
  obtain ⟨v0, l0, e0, h0⟩ := oC_ok h
  obtain ⟨x0, f0, h0x⟩ := oI_ok h0
  obtain ⟨v1, l1, e1, h1⟩ := oC_ok h0x
  obtain ⟨x1, f1, h1x⟩ := oS_ok h1
  obtain ⟨v2, l2, e2, h2⟩ := oC_ok h1x
  obtain ⟨x2, f2, h2x⟩ := oB_ok h2
  obtain ⟨e3, hl⟩ := oN_ok h2x
  simp only [Option.some.injEq] at hl
  subst hl
  subst f2
  subst f1
  subst f0
  subst e3
  subst e2
  subst e1
  subst e0
  rfl
theorem dec_120 : ∀ {l : List (V D)} {x : LField}, D_120 l = some x → l.map X.er = R_120 x := by
  intro l x h
  unfold D_120 at h
  obtain ⟨v0, l0, e0, h0⟩ := oC_ok h
  obtain ⟨x0, f0, h0x⟩ := oS_ok h0
  obtain ⟨v1, l1, e1, h1⟩ := oC_ok h0x
  obtain ⟨x1, f1, h1x⟩ := oS_ok h1
  obtain ⟨e2, hl⟩ := oN_ok h1x
  simp only [Option.some.injEq] at hl
  subst hl
  subst f1
  subst f0
  subst e2
  subst e1
  subst e0
  rfl
theorem dec_128 : ∀ {l : List (V D)} {x : IVersion}, D_128 l = some x → l.map X.er = R_128 x := by
  intro l x h
  unfold D_128 at h
  obtain ⟨v0, l0, e0, h0⟩ := oC_ok h
  obtain ⟨x0, f0, h0x⟩ := oI_ok h0
  obtain ⟨v1, l1, e1, h1⟩ := oC_ok h0x
  obtain ⟨x1, f1, h1x⟩ := oS_ok h1
  obtain ⟨v2, l2, e2, h2⟩ := oC_ok h1x
  obtain ⟨x2, f2, h2x⟩ := oB_ok h2
  obtain ⟨e3, hl⟩ := oN_ok h2x
  simp only [Option.some.injEq] at hl
  subst hl
  subst f2
  subst f1
  subst f0
  subst e3
  subst e2
  subst e1
  subst e0
  rfl
theorem dec_130 : ∀ {l : List (V D)} {x : IField}, D_130 l = some x → l.map X.er = R_130 x := by
  intro l x h
  unfold D_130 at h
  obtain ⟨v0, l0, e0, h0⟩ := oC_ok h
  obtain ⟨x0, f0, h0x⟩ := oS_ok h0
  obtain ⟨v1, l1, e1, h1⟩ := oC_ok h0x
  obtain ⟨x1, f1, h1x⟩ := oS_ok h1
  obtain ⟨e2, hl⟩ := oN_ok h1x
  simp only [Option.some.injEq] at hl
  subst hl
  subst f1
  subst f0
  subst e2
  subst e1
  subst e0
  rfl
theorem dec_164 : ∀ {l : List (V D)} {x : IQuality}, D_164 l = some x → l.map X.er = R_164 x := by
  intro l x h
  unfold D_164 at h
  obtain ⟨v0, l0, e0, h0⟩ := oC_ok h
  obtain ⟨x0, f0, h0x⟩ := oS_ok h0
  obtain ⟨v1, l1, e1, h1⟩ := oC_ok h0x
  obtain ⟨x1, f1, h1x⟩ := oI_ok h1
  obtain ⟨e2, hl⟩ := oN_ok h1x
  simp only [Option.some.injEq] at hl
  subst hl
  subst f1
  subst f0
  subst e2
  subst e1
  subst e0
  rfl
theorem dec_5 : ∀ {l : List (V D)} {x : Int}, D_5 l = some x → l.map X.er = R_5 x := by
  intro l x h
  unfold D_5 at h
  obtain ⟨v0, l0, e0, h0⟩ := oC_ok h
  obtain ⟨x0, f0, h0x⟩ := oI_ok h0
  obtain ⟨e1, hl⟩ := oN_ok h0x
  simp only [Option.some.injEq] at hl
  subst hl
  subst f0
  subst e1
  subst e0
  rfl
theorem codE (ty : Nat) (x : D ty) : (X.E ty x).map X.er = X.R ty x := by
  by_cases h9 : ty = 9
  · subst h9
    rfl
  by_cases h117 : ty = 117
  · subst h117
    rfl
  by_cases h120 : ty = 120
  · subst h120
    rfl
  by_cases h128 : ty = 128
  · subst h128
    rfl
  by_cases h130 : ty = 130
  · subst h130
    rfl
  by_cases h164 : ty = 164
  · subst h164
    rfl
  by_cases h5 : ty = 5
  · subst h5
    rfl
  show (Ew ty x).map X.er = Rw ty x
  simp [Ew, Rw, h9, h117, h120, h128, h130, h164, h5]
theorem codD (ty : Nat) (l : List (V D)) (x : D ty) (h : X.dec ty l = some x) : l.map X.er = X.R ty x := by
  by_cases h9 : ty = 9
  · subst h9
    exact dec_9 h
  by_cases h117 : ty = 117
  · subst h117
    exact dec_117 h
  by_cases h120 : ty = 120
  · subst h120
    exact dec_120 h
  by_cases h128 : ty = 128
  · subst h128
    exact dec_128 h
  by_cases h130 : ty = 130
  · subst h130
    exact dec_130 h
  by_cases h164 : ty = 164
  · subst h164
    exact dec_164 h
  by_cases h5 : ty = 5
  · subst h5
    exact dec_5 h
  have h : Dw ty l = some x := h
  simp [Dw, h9, h117, h120, h128, h130, h164, h5] at h
theorem codO (ty : Nat) (l : List Int) (r : List (D ty)) (h : X.ofB ty l = some r) : r.map (X.R ty) = rowsI .u8 l := by
  by_cases h9 : ty = 9
  · subst h9
    cases h
  by_cases h117 : ty = 117
  · subst h117
    cases h
  by_cases h120 : ty = 120
  · subst h120
    cases h
  by_cases h128 : ty = 128
  · subst h128
    cases h
  by_cases h130 : ty = 130
  · subst h130
    cases h
  by_cases h164 : ty = 164
  · subst h164
    cases h
  by_cases h5 : ty = 5
  · subst h5
    have h : some l = some r := h
    simp only [Option.some.injEq] at h
    subst h
    rfl
  have h : ofB ty l = some r := h
  simp [ofB, h9, h117, h120, h128, h130, h164, h5] at h
theorem codT (ty : Nat) (l : List (D ty)) (r : List Int) (h : X.toB ty l = some r) : l.map (X.R ty) = rowsI .u8 r := by
  by_cases h9 : ty = 9
  · subst h9
    cases h
  by_cases h117 : ty = 117
  · subst h117
    cases h
  by_cases h120 : ty = 120
  · subst h120
    cases h
  by_cases h128 : ty = 128
  · subst h128
    cases h
  by_cases h130 : ty = 130
  · subst h130
    cases h
  by_cases h164 : ty = 164
  · subst h164
    cases h
  by_cases h5 : ty = 5
  · subst h5
    have h : some l = some r := h
    simp only [Option.some.injEq] at h
    subst h
    rfl
  have h : toB ty l = some r := h
  simp [toB, h9, h117, h120, h128, h130, h164, h5] at h
theorem codS (ty : Nat) (h : scalTy X ty = true) (x : D ty) : ∀ t ∈ X.R ty x, t.scalar = true := by
  by_cases h9 : ty = 9
  · subst h9
    intro t ht
    have ht : t ∈ R_9 x := ht
    simp only [R_9, List.mem_cons, List.not_mem_nil, or_false] at ht
    rcases ht with rfl <;> rfl
  by_cases h117 : ty = 117
  · subst h117
    intro t ht
    have ht : t ∈ R_117 x := ht
    simp only [R_117, List.mem_cons, List.not_mem_nil, or_false] at ht
    rcases ht with rfl | rfl | rfl <;> rfl
  by_cases h120 : ty = 120
  · subst h120
    intro t ht
    have ht : t ∈ R_120 x := ht
    simp only [R_120, List.mem_cons, List.not_mem_nil, or_false] at ht
    rcases ht with rfl | rfl <;> rfl
  by_cases h128 : ty = 128
  · subst h128
    intro t ht
    have ht : t ∈ R_128 x := ht
    simp only [R_128, List.mem_cons, List.not_mem_nil, or_false] at ht
    rcases ht with rfl | rfl | rfl <;> rfl
  by_cases h130 : ty = 130
  · subst h130
    intro t ht
    have ht : t ∈ R_130 x := ht
    simp only [R_130, List.mem_cons, List.not_mem_nil, or_false] at ht
    rcases ht with rfl | rfl <;> rfl
  by_cases h164 : ty = 164
  · subst h164
    intro t ht
    have ht : t ∈ R_164 x := ht
    simp only [R_164, List.mem_cons, List.not_mem_nil, or_false] at ht
    rcases ht with rfl | rfl <;> rfl
  by_cases h5 : ty = 5
  · subst h5
    intro t ht
    have ht : t ∈ R_5 x := ht
    simp only [R_5, List.mem_cons, List.not_mem_nil, or_false] at ht
    rcases ht with rfl <;> rfl
  exfalso
  rcases look_key (rfl : Pv.look cels ty [1] = Pv.look cels ty [1]) with h1 | h1
  · have h : (Pv.look cels ty [1]).all (fun e => Nat.beq e 0) = true := h
    rw [h1] at h; cases h
  · simp only [cels, List.mem_cons, List.not_mem_nil, or_false, Prod.mk.injEq] at h1 <;> omega
theorem cod : CodOK X := ⟨codE, codD, codO, codT, codS⟩

end
end Go.YtbfkbplolhniiaaGreatDoor
