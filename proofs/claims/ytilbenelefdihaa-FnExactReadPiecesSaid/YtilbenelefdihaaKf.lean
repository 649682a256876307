/- Functions over lists. Nothing is claimed here. -/
import Derived.Test.YtilbenelefdihaaKt
set_option linter.unusedVariables false
set_option linter.unusedSimpArgs false
set_option maxRecDepth 100000
namespace Go.Ytilbenelefdihaa
open Go Go.RowKit Go.Pv
noncomputable section

/-! loop.example/g03012/laws.szPiece -/
noncomputable def L_szPiece (k : Nat) (a0 : LPiece) (a1 : Int) : Option (Int) :=
    (bif (decide ((IntKind.wrap .i64 (a1 - (a0.Data.length : Int))) < (0 : Int))) then some (-1 : Int)
    else some (IntKind.wrap .i64 (a1 - (a0.Data.length : Int))))
/-! loop.example/g03012/laws.szPieceS -/
noncomputable def L_szPieceS_b0 (k : Nat) : Nat → (List LPiece) → Int → Int → Option (Oc (Int) (Int))
  | 0, _, _, _ => none
  | n + 1, x0, x1, x5 =>
    (bif (decide (x5 < (x0.length : Int))) then ((idx x0 x5).bind fun e1 =>
    ((L_szPiece k e1 x1).bind fun w2 =>
    (bif (decide (w2 < (0 : Int))) then some (.oth ((-1 : Int)))
    else L_szPieceS_b0 k n x0 w2 (IntKind.wrap .i64 (x5 + (1 : Int))))))
    else some (.nrm x1))
noncomputable def L_szPieceS (k : Nat) (a0 : List LPiece) (a1 : Int) : Option (Int) :=
    (bif (decide ((IntKind.wrap .i64 (a1 - (a0.length : Int))) < (0 : Int))) then some (-1 : Int)
    else ((L_szPieceS_b0 k k a0 (IntKind.wrap .i64 (a1 - (a0.length : Int))) (0 : Int)).bind fun o3 =>
    oc o3 (fun o4 => some o4)
    (fun o5 => some o5)))
/-! loop.example/g03012/laws.toPiece -/
noncomputable def L_toPiece (k : Nat) (a0 : LPiece) : Option (IPiece) :=
    some (⟨a0.From, a0.Data⟩ : IPiece)
/-! loop.example/g03012/laws.toPieceS -/
noncomputable def L_toPieceS_b0 (k : Nat) : Nat → (List LPiece) → Int → (List IPiece) → Option ((List IPiece))
  | 0, _, _, _ => none
  | n + 1, x0, x4, r3 =>
    (bif (decide (x4 < (x0.length : Int))) then ((idx x0 x4).bind fun e2 =>
    ((L_toPiece k e2).bind fun w3 =>
    ((idx r3 x4).bind fun _ =>
    ((idx r3 x4).bind fun e4 =>
    L_toPieceS_b0 k n x0 (IntKind.wrap .i64 (x4 + (1 : Int))) ((r3).set (x4).toNat w3)))))
    else some (r3))
noncomputable def L_toPieceS (k : Nat) (a0 : List LPiece) : Option ((List IPiece)) :=
    (guardT ((a0.length : Int) == (a0.length : Int)) <| (mks 24 (a0.length : Int) (⟨(0 : Int), ([] : List UInt8)⟩ : IPiece)).bind fun u1 =>
    ((L_toPieceS_b0 k k a0 (0 : Int) u1).bind fun o5 =>
    some o5))
/-! loop.example/g03012/laws.toSpan -/
noncomputable def L_toSpan (k : Nat) (a0 : LSpan) : Option (ISpan) :=
    some (⟨a0.From, a0.To⟩ : ISpan)
/-! loop.example/g03012/spec.ReadPieces -/
noncomputable def S_ReadPieces_b0 (k : Nat) : Nat → (List IPiece) → Int → Int → Int → Option (Oc (Unit) ((List UInt8) × Bool))
  | 0, _, _, _, _ => none
  | n + 1, x0, x6, y3_0, y3_1 =>
    (bif (decide (x6 < (x0.length : Int))) then ((idx x0 x6).bind fun e1 =>
    (bif (decide (e1.From ≤ y3_0)) then (bif (decide (y3_0 < y3_1)) then (bif (decide (y3_1 ≤ (IntKind.wrap .i64 (e1.From + (e1.Data.length : Int))))) then ((ssub e1.Data (IntKind.wrap .i64 (y3_0 - e1.From)) (IntKind.wrap .i64 (y3_1 - e1.From))).bind fun t2 =>
    some (.oth ((t2, true))))
    else S_ReadPieces_b0 k n x0 (IntKind.wrap .i64 (x6 + (1 : Int))) y3_0 y3_1) else S_ReadPieces_b0 k n x0 (IntKind.wrap .i64 (x6 + (1 : Int))) y3_0 y3_1) else S_ReadPieces_b0 k n x0 (IntKind.wrap .i64 (x6 + (1 : Int))) y3_0 y3_1))
    else some (.nrm ()))
noncomputable def S_ReadPieces (k : Nat) (a0 : List IPiece) (a1 : ISpan) : Option ((List UInt8) × Bool) :=
    ((S_ReadPieces_b0 k k a0 (0 : Int) a1.From a1.To).bind fun o3 =>
    oc o3 (fun o4 => some (([] : List UInt8), (decide (a1.From ≥ a1.To))))
    (fun o5 => some o5))
/-! loop.example/g03012/impl.ReadPieces -/
noncomputable def I_ReadPieces_b0 (k : Nat) : Nat → (List IPiece) → Int → Int → Int → Int → Option (Oc (Unit) ((List UInt8) × Bool))
  | 0, _, _, _, _, _ => none
  | n + 1, x13, x14, x15, y3_0, y3_1 =>
    (bif (decide (x15 < x14)) then ((idx x13 x15).bind fun e1 =>
    (bif (decide (e1.From ≤ y3_0)) then (bif (decide (y3_1 ≤ (IntKind.wrap .i64 (e1.From + (e1.Data.length : Int))))) then ((ssub e1.Data (IntKind.wrap .i64 (y3_0 - e1.From)) (IntKind.wrap .i64 (y3_1 - e1.From))).bind fun t2 =>
    some (.oth ((t2, true))))
    else I_ReadPieces_b0 k n x13 x14 (IntKind.wrap .i64 (x15 + (1 : Int))) y3_0 y3_1) else I_ReadPieces_b0 k n x13 x14 (IntKind.wrap .i64 (x15 + (1 : Int))) y3_0 y3_1))
    else some (.nrm ()))
noncomputable def I_ReadPieces (k : Nat) (a0 : List IPiece) (a1 : ISpan) : Option ((List UInt8) × Bool) :=
    (bif (decide (a1.From ≥ a1.To)) then some (([] : List UInt8), true)
    else ((I_ReadPieces_b0 k k a0 (a0.length : Int) (0 : Int) a1.From a1.To).bind fun o3 =>
    oc o3 (fun o4 => some (([] : List UInt8), false))
    (fun o5 => some o5)))
/-! loop.example/g03012/laws.eqPiece -/
noncomputable def L_eqPiece (k : Nat) (a0 : IPiece) (a1 : IPiece) : Option (Bool) :=
    (bif (a0.From != a1.From) then some false
    else (bif (!(a0.Data == a1.Data)) then some false
    else some true))
/-! loop.example/g03012/laws.eqPieceS -/
noncomputable def L_eqPieceS_b0 (k : Nat) : Nat → (List IPiece) → (List IPiece) → Int → Option (Oc (Unit) (Bool))
  | 0, _, _, _ => none
  | n + 1, x0, x1, x5 =>
    (bif (decide (x5 < (x0.length : Int))) then ((idx x0 x5).bind fun e1 =>
    ((idx x1 x5).bind fun e2 =>
    ((L_eqPiece k e1 e2).bind fun w3 =>
    (bif (!w3) then some (.oth (false))
    else L_eqPieceS_b0 k n x0 x1 (IntKind.wrap .i64 (x5 + (1 : Int)))))))
    else some (.nrm ()))
noncomputable def L_eqPieceS (k : Nat) (a0 : List IPiece) (a1 : List IPiece) : Option (Bool) :=
    (bif ((a0.length : Int) != (a1.length : Int)) then some false
    else ((L_eqPieceS_b0 k k a0 a1 (0 : Int)).bind fun o4 =>
    oc o4 (fun o5 => some true)
    (fun o6 => some o6)))
/-! loop.example/g03012/laws.FnExactReadPieces -/
noncomputable def L_FnExactReadPieces (k : Nat) (a0 : List LPiece) (a1 : LSpan) : Option (Bool) :=
    ((L_szPieceS k a0 (1048576 : Int)).bind fun w1 =>
    (bif (decide (w1 < (0 : Int))) then some true
    else ((L_toPieceS k a0).bind fun w2 =>
    ((L_toSpan k a1).bind fun w3 =>
    ((S_ReadPieces k w2 w3).bind fun w4 =>
    ((L_toPieceS k a0).bind fun w5 =>
    ((L_toSpan k a1).bind fun w6 =>
    ((I_ReadPieces k w5 w6).bind fun w7 =>
    (bif (!(w7.1 == w4.1)) then some false else (bif (!(w7.2 == w4.2)) then some false
    else ((L_toPieceS k a0).bind fun w8 =>
    ((L_eqPieceS k w5 w8).bind fun w9 =>
    (bif (!w9) then some false
    else some true)))))))))))))

end
end Go.Ytilbenelefdihaa
