/- Functions over lists. Nothing is claimed here. -/
import Derived.Test.YtilbenelefdihaaKt
set_option linter.unusedVariables false
set_option linter.unusedSimpArgs false
set_option maxRecDepth 100000
namespace Go.Ytilbenelefdihaa
open Go Go.RowKit Go.Pv
noncomputable section

/-! loop.example/g03012/laws.szPiece -/
noncomputable def L_szPiece (k : Nat) (a0 : LPiece) (a1 : Int) : Option (Int) :=
    (bif (decide ((IntKind.wrap .i64 (a1 - (a0.Data.length : Int))) < (0 : Int))) then some (-1 : Int)
    else some (IntKind.wrap .i64 (a1 - (a0.Data.length : Int))))
/-! loop.example/g03012/laws.szPieceS -/
noncomputable def L_szPieceS_b0 (k : Nat) : Nat → (List LPiece) → Int → Int → Option (Oc (Int) (Int))
  | 0, _, _, _ => none
  | n + 1, x0, x1, x5 =>
    (bif (decide (x5 < (x0.length : Int))) then ((idx x0 x5).bind fun e1 =>
    ((L_szPiece k e1 x1).bind fun w2 =>
    (bif (decide (w2 < (0 : Int))) then some (.oth ((-1 : Int)))
    else L_szPieceS_b0 k n x0 w2 (IntKind.wrap .i64 (x5 + (1 : Int))))))
    else some (.nrm x1))
noncomputable def L_szPieceS (k : Nat) (a0 : List LPiece) (a1 : Int) : Option (Int) :=
    (bif (decide ((IntKind.wrap .i64 (a1 - (a0.length : Int))) < (0 : Int))) then some (-1 : Int)
    else ((L_szPieceS_b0 k k a0 (IntKind.wrap .i64 (a1 - (a0.length : Int))) (0 : Int)).bind fun o3 =>
    oc o3 (fun o4 => some o4)
    (fun o5 => some o5)))
/-! loop.example/g03012/laws.toPiece -/
noncomputable def L_toPiece (k : Nat) (a0 : LPiece) : Option (IPiece) :=
    some (⟨a0.From, a0.Data⟩ : IPiece)
/-! loop.example/g03012/laws.toPieceS -/
noncomputable def L_toPieceS_b0 (k : Nat) : Nat → (List LPiece) → Int → (List IPiece) → Option ((List IPiece))
  | 0, _, _, _ => none
  | n + 1, x0, x4, r3 =>
    (bif (decide (x4 < (x0.length : Int))) then ((idx x0 x4).bind fun e2 =>
    ((L_toPiece k e2).bind fun w3 =>
    ((idx r3 x4).bind fun _ =>
    ((idx r3 x4).bind fun e4 =>
    L_toPieceS_b0 k n x0 (IntKind.wrap .i64 (x4 + (1 : Int))) ((r3).set (x4).toNat w3)))))
    else some (r3))
noncomputable def L_toPieceS (k : Nat) (a0 : List LPiece) : Option ((List IPiece)) :=
    (guardT ((a0.length : Int) == (a0.length : Int)) <| (mks 24 (a0.length : Int) (⟨(0 : Int), ([] : List UInt8)⟩ : IPiece)).bind fun u1 =>
    ((L_toPieceS_b0 k k a0 (0 : Int) u1).bind fun o5 =>
    some o5))
/-! loop.example/g03012/spec.SpansOf -/
noncomputable def S_SpansOf_b0 (k : Nat) : Nat → (List IPiece) → Int → (List ISpan) → Option ((List ISpan))
  | 0, _, _, _ => none
  | n + 1, x0, x4, r3 =>
    (bif (decide (x4 < (x0.length : Int))) then ((idx x0 x4).bind fun e1 =>
    ((idx x0 x4).bind fun e2 =>
    ((idx x0 x4).bind fun e3 =>
    ((app 16 r3 ([(⟨e1.From, (IntKind.wrap .i64 (e2.From + (e3.Data.length : Int)))⟩ : ISpan)] : List ISpan)).bind fun u4 =>
    S_SpansOf_b0 k n x0 (IntKind.wrap .i64 (x4 + (1 : Int))) u4))))
    else some (r3))
noncomputable def S_SpansOf (k : Nat) (a0 : List IPiece) : Option ((List ISpan)) :=
    ((S_SpansOf_b0 k k a0 (0 : Int) ([] : List ISpan)).bind fun o5 =>
    some o5)
/-! loop.example/g03012/spec.CoversSpan -/
noncomputable def S_CoversSpan_b0 (k : Nat) : Nat → (List ISpan) → Int → Int → Int → Option (Oc (Unit) (Bool))
  | 0, _, _, _, _ => none
  | n + 1, x0, x5, y3_0, y3_1 =>
    (bif (decide (x5 < (x0.length : Int))) then ((idx x0 x5).bind fun e1 =>
    (bif (decide (e1.From ≤ y3_0)) then ((idx x0 x5).bind fun e2 =>
    (bif (decide (y3_1 ≤ e2.To)) then some (.oth (true))
    else S_CoversSpan_b0 k n x0 (IntKind.wrap .i64 (x5 + (1 : Int))) y3_0 y3_1)) else S_CoversSpan_b0 k n x0 (IntKind.wrap .i64 (x5 + (1 : Int))) y3_0 y3_1))
    else some (.nrm ()))
noncomputable def S_CoversSpan (k : Nat) (a0 : List ISpan) (a1 : ISpan) : Option (Bool) :=
    ((S_CoversSpan_b0 k k a0 (0 : Int) a1.From a1.To).bind fun o3 =>
    oc o3 (fun o4 => some (decide (a1.From ≥ a1.To)))
    (fun o5 => some o5))
/-! loop.example/g03012/spec.IsWhole -/
noncomputable def S_IsWhole (k : Nat) (a0 : List IPiece) (a1 : Int) : Option (Bool) :=
    ((S_SpansOf k a0).bind fun w1 =>
    ((S_CoversSpan k w1 (⟨(0 : Int), a1⟩ : ISpan)).bind fun w2 =>
    some w2))
/-! loop.example/g03012/impl.SpansOf -/
noncomputable def I_SpansOf_b0 (k : Nat) : Nat → (List IPiece) → Int → Int → (List ISpan) → Option ((List ISpan))
  | 0, _, _, _, _ => none
  | n + 1, x7, x8, x9, r3 =>
    (bif (decide (x9 < x8)) then ((idx x7 x9).bind fun e1 =>
    ((app 16 r3 ([(⟨e1.From, (IntKind.wrap .i64 (e1.From + (e1.Data.length : Int)))⟩ : ISpan)] : List ISpan)).bind fun u2 =>
    I_SpansOf_b0 k n x7 x8 (IntKind.wrap .i64 (x9 + (1 : Int))) u2))
    else some (r3))
noncomputable def I_SpansOf (k : Nat) (a0 : List IPiece) : Option ((List ISpan)) :=
    ((I_SpansOf_b0 k k a0 (a0.length : Int) (0 : Int) ([] : List ISpan)).bind fun o3 =>
    some o3)
/-! loop.example/g03012/impl.CoversSpan$1 -/
noncomputable def I_CoversSpan_1 (k : Nat) (a0 : ISpan) (f0_0 : Int) (f0_1 : Int) : Option (Bool) :=
    (bif (decide (a0.From ≤ f0_0)) then some (decide (f0_1 ≤ a0.To)) else some false)
/-! slices.IndexFunc[[]loop.example/g03012/impl.Span,loop.example/g03012/impl.Span] -/
noncomputable def slices_IndexFunc_ISpan_at_I_CoversSpan_1_b0 (k : Nat) : Nat → (List ISpan) → Int → Int → Int → Int → Option (Oc (Unit) (Int))
  | 0, _, _, _, _, _ => none
  | n + 1, x0, x1_0_0, x1_0_1, x7, x8 =>
    (bif (decide (x8 < x7)) then ((idx x0 x8).bind fun e1 =>
    ((I_CoversSpan_1 k e1 x1_0_0 x1_0_1).bind fun w2 =>
    (bif w2 then some (.oth (x8))
    else slices_IndexFunc_ISpan_at_I_CoversSpan_1_b0 k n x0 x1_0_0 x1_0_1 x7 (IntKind.wrap .i64 (x8 + (1 : Int))))))
    else some (.nrm ()))
noncomputable def slices_IndexFunc_ISpan_at_I_CoversSpan_1 (k : Nat) (a0 : List ISpan) (a1_0_0 : Int) (a1_0_1 : Int) : Option (Int) :=
    ((slices_IndexFunc_ISpan_at_I_CoversSpan_1_b0 k k a0 a1_0_0 a1_0_1 (a0.length : Int) (0 : Int)).bind fun o3 =>
    oc o3 (fun o4 => some (-1 : Int))
    (fun o5 => some o5))
/-! slices.ContainsFunc[[]loop.example/g03012/impl.Span,loop.example/g03012/impl.Span] -/
noncomputable def slices_ContainsFunc_ISpan_at_I_CoversSpan_1 (k : Nat) (a0 : List ISpan) (a1_0_0 : Int) (a1_0_1 : Int) : Option (Bool) :=
    ((slices_IndexFunc_ISpan_at_I_CoversSpan_1 k a0 a1_0_0 a1_0_1).bind fun w1 =>
    some (decide (w1 ≥ (0 : Int))))
/-! loop.example/g03012/impl.CoversSpan -/
noncomputable def I_CoversSpan (k : Nat) (a0 : List ISpan) (a1 : ISpan) : Option (Bool) :=
    (bif (decide (a1.From ≥ a1.To)) then some true
    else ((slices_ContainsFunc_ISpan_at_I_CoversSpan_1 k a0 a1.From a1.To).bind fun w1 =>
    some w1))
/-! loop.example/g03012/impl.IsWhole -/
noncomputable def I_IsWhole (k : Nat) (a0 : List IPiece) (a1 : Int) : Option (Bool) :=
    ((I_SpansOf k a0).bind fun w1 =>
    ((I_CoversSpan k w1 (⟨(0 : Int), a1⟩ : ISpan)).bind fun w2 =>
    some w2))
/-! loop.example/g03012/laws.eqPiece -/
noncomputable def L_eqPiece (k : Nat) (a0 : IPiece) (a1 : IPiece) : Option (Bool) :=
    (bif (a0.From != a1.From) then some false
    else (bif (!(a0.Data == a1.Data)) then some false
    else some true))
/-! loop.example/g03012/laws.eqPieceS -/
noncomputable def L_eqPieceS_b0 (k : Nat) : Nat → (List IPiece) → (List IPiece) → Int → Option (Oc (Unit) (Bool))
  | 0, _, _, _ => none
  | n + 1, x0, x1, x5 =>
    (bif (decide (x5 < (x0.length : Int))) then ((idx x0 x5).bind fun e1 =>
    ((idx x1 x5).bind fun e2 =>
    ((L_eqPiece k e1 e2).bind fun w3 =>
    (bif (!w3) then some (.oth (false))
    else L_eqPieceS_b0 k n x0 x1 (IntKind.wrap .i64 (x5 + (1 : Int)))))))
    else some (.nrm ()))
noncomputable def L_eqPieceS (k : Nat) (a0 : List IPiece) (a1 : List IPiece) : Option (Bool) :=
    (bif ((a0.length : Int) != (a1.length : Int)) then some false
    else ((L_eqPieceS_b0 k k a0 a1 (0 : Int)).bind fun o4 =>
    oc o4 (fun o5 => some true)
    (fun o6 => some o6)))
/-! loop.example/g03012/laws.FnExactIsWhole -/
noncomputable def L_FnExactIsWhole (k : Nat) (a0 : List LPiece) (a1 : Int) : Option (Bool) :=
    ((L_szPieceS k a0 (1048576 : Int)).bind fun w1 =>
    (bif (decide (w1 < (0 : Int))) then some true
    else ((L_toPieceS k a0).bind fun w2 =>
    ((S_IsWhole k w2 a1).bind fun w3 =>
    ((L_toPieceS k a0).bind fun w4 =>
    ((I_IsWhole k w4 a1).bind fun w5 =>
    (bif (!(w5 == w3)) then some false
    else ((L_toPieceS k a0).bind fun w6 =>
    ((L_eqPieceS k w4 w6).bind fun w7 =>
    (bif (!w7) then some false
    else some true))))))))))

end
end Go.Ytilbenelefdihaa
