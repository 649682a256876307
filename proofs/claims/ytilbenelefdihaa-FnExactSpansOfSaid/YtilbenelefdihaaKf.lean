/- Functions over lists. Nothing is claimed here. -/
import Derived.Test.YtilbenelefdihaaKt
set_option linter.unusedVariables false
set_option linter.unusedSimpArgs false
set_option maxRecDepth 100000
namespace Go.Ytilbenelefdihaa
open Go Go.RowKit Go.Pv
noncomputable section

/-! loop.example/g03012/laws.szPiece -/
noncomputable def L_szPiece (k : Nat) (a0 : LPiece) (a1 : Int) : Option (Int) :=
    (bif (decide ((IntKind.wrap .i64 (a1 - (a0.Data.length : Int))) < (0 : Int))) then some (-1 : Int)
    else some (IntKind.wrap .i64 (a1 - (a0.Data.length : Int))))
/-! loop.example/g03012/laws.szPieceS -/
noncomputable def L_szPieceS_b0 (k : Nat) : Nat → (List LPiece) → Int → Int → Option (Oc (Int) (Int))
  | 0, _, _, _ => none
  | n + 1, x0, x1, x5 =>
    (bif (decide (x5 < (x0.length : Int))) then ((idx x0 x5).bind fun e1 =>
    ((L_szPiece k e1 x1).bind fun w2 =>
    (bif (decide (w2 < (0 : Int))) then some (.oth ((-1 : Int)))
    else L_szPieceS_b0 k n x0 w2 (IntKind.wrap .i64 (x5 + (1 : Int))))))
    else some (.nrm x1))
noncomputable def L_szPieceS (k : Nat) (a0 : List LPiece) (a1 : Int) : Option (Int) :=
    (bif (decide ((IntKind.wrap .i64 (a1 - (a0.length : Int))) < (0 : Int))) then some (-1 : Int)
    else ((L_szPieceS_b0 k k a0 (IntKind.wrap .i64 (a1 - (a0.length : Int))) (0 : Int)).bind fun o3 =>
    oc o3 (fun o4 => some o4)
    (fun o5 => some o5)))
/-! loop.example/g03012/laws.toPiece -/
noncomputable def L_toPiece (k : Nat) (a0 : LPiece) : Option (IPiece) :=
    some (⟨a0.From, a0.Data⟩ : IPiece)
/-! loop.example/g03012/laws.toPieceS -/
noncomputable def L_toPieceS_b0 (k : Nat) : Nat → (List LPiece) → Int → (List IPiece) → Option ((List IPiece))
  | 0, _, _, _ => none
  | n + 1, x0, x4, r3 =>
    (bif (decide (x4 < (x0.length : Int))) then ((idx x0 x4).bind fun e2 =>
    ((L_toPiece k e2).bind fun w3 =>
    ((idx r3 x4).bind fun _ =>
    ((idx r3 x4).bind fun e4 =>
    L_toPieceS_b0 k n x0 (IntKind.wrap .i64 (x4 + (1 : Int))) ((r3).set (x4).toNat w3)))))
    else some (r3))
noncomputable def L_toPieceS (k : Nat) (a0 : List LPiece) : Option ((List IPiece)) :=
    (guardT ((a0.length : Int) == (a0.length : Int)) <| (mks 24 (a0.length : Int) (⟨(0 : Int), ([] : List UInt8)⟩ : IPiece)).bind fun u1 =>
    ((L_toPieceS_b0 k k a0 (0 : Int) u1).bind fun o5 =>
    some o5))
/-! loop.example/g03012/spec.SpansOf -/
noncomputable def S_SpansOf_b0 (k : Nat) : Nat → (List IPiece) → Int → (List ISpan) → Option ((List ISpan))
  | 0, _, _, _ => none
  | n + 1, x0, x4, r3 =>
    (bif (decide (x4 < (x0.length : Int))) then ((idx x0 x4).bind fun e1 =>
    ((idx x0 x4).bind fun e2 =>
    ((idx x0 x4).bind fun e3 =>
    ((app 16 r3 ([(⟨e1.From, (IntKind.wrap .i64 (e2.From + (e3.Data.length : Int)))⟩ : ISpan)] : List ISpan)).bind fun u4 =>
    S_SpansOf_b0 k n x0 (IntKind.wrap .i64 (x4 + (1 : Int))) u4))))
    else some (r3))
noncomputable def S_SpansOf (k : Nat) (a0 : List IPiece) : Option ((List ISpan)) :=
    ((S_SpansOf_b0 k k a0 (0 : Int) ([] : List ISpan)).bind fun o5 =>
    some o5)
/-! loop.example/g03012/impl.SpansOf -/
noncomputable def I_SpansOf_b0 (k : Nat) : Nat → (List IPiece) → Int → Int → (List ISpan) → Option ((List ISpan))
  | 0, _, _, _, _ => none
  | n + 1, x7, x8, x9, r3 =>
    (bif (decide (x9 < x8)) then ((idx x7 x9).bind fun e1 =>
    ((app 16 r3 ([(⟨e1.From, (IntKind.wrap .i64 (e1.From + (e1.Data.length : Int)))⟩ : ISpan)] : List ISpan)).bind fun u2 =>
    I_SpansOf_b0 k n x7 x8 (IntKind.wrap .i64 (x9 + (1 : Int))) u2))
    else some (r3))
noncomputable def I_SpansOf (k : Nat) (a0 : List IPiece) : Option ((List ISpan)) :=
    ((I_SpansOf_b0 k k a0 (a0.length : Int) (0 : Int) ([] : List ISpan)).bind fun o3 =>
    some o3)
/-! loop.example/g03012/laws.eqSpan -/
noncomputable def L_eqSpan (k : Nat) (a0 : ISpan) (a1 : ISpan) : Option (Bool) :=
    (bif (a0.From != a1.From) then some false
    else (bif (a0.To != a1.To) then some false
    else some true))
/-! loop.example/g03012/laws.eqSpanS -/
noncomputable def L_eqSpanS_b0 (k : Nat) : Nat → (List ISpan) → (List ISpan) → Int → Option (Oc (Unit) (Bool))
  | 0, _, _, _ => none
  | n + 1, x0, x1, x5 =>
    (bif (decide (x5 < (x0.length : Int))) then ((idx x0 x5).bind fun e1 =>
    ((idx x1 x5).bind fun e2 =>
    ((L_eqSpan k e1 e2).bind fun w3 =>
    (bif (!w3) then some (.oth (false))
    else L_eqSpanS_b0 k n x0 x1 (IntKind.wrap .i64 (x5 + (1 : Int)))))))
    else some (.nrm ()))
noncomputable def L_eqSpanS (k : Nat) (a0 : List ISpan) (a1 : List ISpan) : Option (Bool) :=
    (bif ((a0.length : Int) != (a1.length : Int)) then some false
    else ((L_eqSpanS_b0 k k a0 a1 (0 : Int)).bind fun o4 =>
    oc o4 (fun o5 => some true)
    (fun o6 => some o6)))
/-! loop.example/g03012/laws.eqPiece -/
noncomputable def L_eqPiece (k : Nat) (a0 : IPiece) (a1 : IPiece) : Option (Bool) :=
    (bif (a0.From != a1.From) then some false
    else (bif (!(a0.Data == a1.Data)) then some false
    else some true))
/-! loop.example/g03012/laws.eqPieceS -/
noncomputable def L_eqPieceS_b0 (k : Nat) : Nat → (List IPiece) → (List IPiece) → Int → Option (Oc (Unit) (Bool))
  | 0, _, _, _ => none
  | n + 1, x0, x1, x5 =>
    (bif (decide (x5 < (x0.length : Int))) then ((idx x0 x5).bind fun e1 =>
    ((idx x1 x5).bind fun e2 =>
    ((L_eqPiece k e1 e2).bind fun w3 =>
    (bif (!w3) then some (.oth (false))
    else L_eqPieceS_b0 k n x0 x1 (IntKind.wrap .i64 (x5 + (1 : Int)))))))
    else some (.nrm ()))
noncomputable def L_eqPieceS (k : Nat) (a0 : List IPiece) (a1 : List IPiece) : Option (Bool) :=
    (bif ((a0.length : Int) != (a1.length : Int)) then some false
    else ((L_eqPieceS_b0 k k a0 a1 (0 : Int)).bind fun o4 =>
    oc o4 (fun o5 => some true)
    (fun o6 => some o6)))
/-! loop.example/g03012/laws.markText -/
noncomputable def L_markText_b0 (k : Nat) : Nat → Int → (List UInt8) → Option ((List UInt8))
  | 0, _, _ => none
  | n + 1, x0, x3 =>
    (bif (decide (x0 > (0 : Int))) then ((md x0 (10 : Int)).bind fun q1 =>
    ((cat (bytesOf ([(IntKind.wrap .u8 (IntKind.wrap .i64 ((48 : Int) + q1)))] : List Int)) x3).bind fun t2 =>
    ((dv x0 (10 : Int)).bind fun q3 =>
    L_markText_b0 k n (IntKind.wrap .i64 q3) t2)))
    else some (x3))
noncomputable def L_markText (k : Nat) (a0 : Int) : Option ((List UInt8)) :=
    (bif (decide (a0 ≤ (0 : Int))) then some ([109, 48] : List UInt8)
    else ((L_markText_b0 k k a0 ([] : List UInt8)).bind fun o4 =>
    ((cat ([109] : List UInt8) o4).bind fun t5 =>
    some t5)))
/-! loop.example/g03012/laws.markPieceS -/
noncomputable def L_markPieceS_b0 (k : Nat) : Nat → Int → Int → (List IPiece) → Option (Int × (List IPiece))
  | 0, _, _, _ => none
  | n + 1, x1, x5, r0 =>
    (bif (decide (x5 < (r0.length : Int))) then ((idx r0 x5).bind fun _ =>
    ((idx r0 x5).bind fun e1 =>
    ((L_markText k (IntKind.wrap .i64 (x1 + (1 : Int)))).bind fun w2 =>
    ((idx ((r0).set (x5).toNat (⟨x1, e1.Data⟩ : IPiece)) x5).bind fun _ =>
    ((idx ((r0).set (x5).toNat (⟨x1, e1.Data⟩ : IPiece)) x5).bind fun e3 =>
    L_markPieceS_b0 k n (IntKind.wrap .i64 ((IntKind.wrap .i64 (x1 + (1 : Int))) + (1 : Int))) (IntKind.wrap .i64 (x5 + (1 : Int))) ((((r0).set (x5).toNat (⟨x1, e1.Data⟩ : IPiece))).set (x5).toNat (⟨e3.From, w2⟩ : IPiece)))))))
    else some ((x1, r0)))
noncomputable def L_markPieceS (k : Nat) (a0 : List IPiece) (a1 : Int) : Option (Int × (List IPiece)) :=
    ((L_markPieceS_b0 k k a1 (0 : Int) a0).bind fun o4 =>
    some (o4.1, o4.2))
/-! loop.example/g03012/laws.markSpanS -/
noncomputable def L_markSpanS_b0 (k : Nat) : Nat → Int → Int → (List ISpan) → Option (Int × (List ISpan))
  | 0, _, _, _ => none
  | n + 1, x1, x5, r0 =>
    (bif (decide (x5 < (r0.length : Int))) then ((idx r0 x5).bind fun _ =>
    ((idx r0 x5).bind fun e1 =>
    ((idx ((r0).set (x5).toNat (⟨x1, e1.To⟩ : ISpan)) x5).bind fun _ =>
    ((idx ((r0).set (x5).toNat (⟨x1, e1.To⟩ : ISpan)) x5).bind fun e2 =>
    L_markSpanS_b0 k n (IntKind.wrap .i64 ((IntKind.wrap .i64 (x1 + (1 : Int))) + (1 : Int))) (IntKind.wrap .i64 (x5 + (1 : Int))) ((((r0).set (x5).toNat (⟨x1, e1.To⟩ : ISpan))).set (x5).toNat (⟨e2.From, (IntKind.wrap .i64 (x1 + (1 : Int)))⟩ : ISpan))))))
    else some ((x1, r0)))
noncomputable def L_markSpanS (k : Nat) (a0 : List ISpan) (a1 : Int) : Option (Int × (List ISpan)) :=
    ((L_markSpanS_b0 k k a1 (0 : Int) a0).bind fun o3 =>
    some (o3.1, o3.2))
/-! loop.example/g03012/laws.heldSpanS -/
noncomputable def L_heldSpanS_b0 (k : Nat) : Nat → (List ISpan) → Int → Int → Option (Oc (Int) (Int))
  | 0, _, _, _ => none
  | n + 1, x0, x1, x5 =>
    (bif (decide (x5 < (x0.length : Int))) then ((idx x0 x5).bind fun e1 =>
    (bif (e1.From != x1) then some (.oth ((-1 : Int)))
    else ((idx x0 x5).bind fun e2 =>
    (bif (e2.To != (IntKind.wrap .i64 (x1 + (1 : Int)))) then some (.oth ((-1 : Int)))
    else L_heldSpanS_b0 k n x0 (IntKind.wrap .i64 ((IntKind.wrap .i64 (x1 + (1 : Int))) + (1 : Int))) (IntKind.wrap .i64 (x5 + (1 : Int)))))))
    else some (.nrm x1))
noncomputable def L_heldSpanS (k : Nat) (a0 : List ISpan) (a1 : Int) : Option (Int) :=
    ((L_heldSpanS_b0 k k a0 a1 (0 : Int)).bind fun o3 =>
    oc o3 (fun o4 => some o4)
    (fun o5 => some o5))
/-! loop.example/g03012/laws.FnExactSpansOf -/
noncomputable def L_FnExactSpansOf (k : Nat) (a0 : List LPiece) : Option (Bool) :=
    ((L_szPieceS k a0 (1048576 : Int)).bind fun w1 =>
    (bif (decide (w1 < (0 : Int))) then some true
    else ((L_toPieceS k a0).bind fun w2 =>
    ((S_SpansOf k w2).bind fun w3 =>
    ((L_toPieceS k a0).bind fun w4 =>
    ((I_SpansOf k w4).bind fun w5 =>
    ((L_eqSpanS k w5 w3).bind fun w6 =>
    (bif (!w6) then some false
    else ((L_toPieceS k a0).bind fun w7 =>
    ((L_eqPieceS k w4 w7).bind fun w8 =>
    (bif (!w8) then some false
    else ((L_markPieceS k w4 (1 : Int)).bind fun w9 =>
    (bif (decide (w9.1 < (0 : Int))) then some false else ((L_eqSpanS k w5 w3).bind fun w10 =>
    (bif (!w10) then some false
    else ((L_markSpanS k w5 (1 : Int)).bind fun w11 =>
    ((L_heldSpanS k w11.2 (1 : Int)).bind fun w12 =>
    (bif (decide (w12 < (0 : Int))) then some false
    else (bif (w12 != w11.1) then some false
    else ((L_toPieceS k a0).bind fun w13 =>
    ((I_SpansOf k w13).bind fun w14 =>
    ((L_eqSpanS k w14 w3).bind fun w15 =>
    (bif (!w15) then some false
    else ((L_heldSpanS k w11.2 (1 : Int)).bind fun w16 =>
    (bif (decide (w16 < (0 : Int))) then some false
    else (bif (w16 != w11.1) then some false
    else some true))))))))))))))))))))))))))

end
end Go.Ytilbenelefdihaa
