/- Functions over lists. Nothing is claimed here. -/
import Derived.Test.YtolmhhnhmbiofaaKt
set_option linter.unusedVariables false
set_option linter.unusedSimpArgs false
set_option maxRecDepth 100000
namespace Go.Ytolmhhnhmbiofaa
open Go Go.RowKit Go.Pv
noncomputable section

/-! loop.example/g03012/laws.big -/
noncomputable def L_big (k : Nat) (a0 : List Int) : Option (Bool) :=
    some (decide ((a0.length : Int) > (1048576 : Int)))
/-! loop.example/g03012/spec.l1New -/
noncomputable def S_l1New_b0 (k : Nat) : Nat → (List Int) → Int → Int → Option (Int)
  | 0, _, _, _ => none
  | n + 1, x0, x3, x4 =>
    (bif (decide (x4 < (x0.length : Int))) then (bif (decide (x4 < (4000 : Int))) then ((idx x0 x4).bind fun e1 =>
    S_l1New_b0 k n x0 (andI .i64 (IntKind.wrap .i64 ((IntKind.wrap .i64 ((IntKind.wrap .i64 (x3 * (139 : Int))) + (IntKind.wrap .i64 e1))) + (11 : Int))) (1073741823 : Int)) (IntKind.wrap .i64 (x4 + (1 : Int))))
    else some (x3)) else some (x3))
noncomputable def S_l1New (k : Nat) (a0 : List Int) : Option (Sl1Cur) :=
    ((S_l1New_b0 k k a0 (IntKind.wrap .i64 ((271091 : Int) + (a0.length : Int))) (0 : Int)).bind fun o2 =>
    some (⟨a0, (0 : Int), o2⟩ : Sl1Cur))
/-! loop.example/g03012/spec.l1Byte -/
noncomputable def S_l1Byte_c34 (k : Nat) (x3 : Int) (x34 : Bool) (y700000_0 : List Int) (y700000_1 : Int) (y700000_2 : Int) : Option (Int × Int) :=
    (bif x34 then ((idx y700000_0 y700000_1).bind fun e3 =>
    some (((andI .i64 (IntKind.wrap .i64 (x3 + (IntKind.wrap .i64 e3))) (255 : Int)), (IntKind.wrap .i64 (y700000_1 + (1 : Int))))))
    else some ((x3, y700000_1)))
noncomputable def S_l1Byte (k : Nat) (a0 : Sl1Cur) : Option (Int × Sl1Cur) :=
    ((shrI .i64 (IntKind.wrap .i64 ((IntKind.wrap .i64 (a0.h * (6364136223846793005 : Int))) + (1442695040888963407 : Int))) (33 : Int)).bind fun q1 =>
    ((shrI .i64 (IntKind.wrap .i64 ((IntKind.wrap .i64 (a0.h * (6364136223846793005 : Int))) + (1442695040888963407 : Int))) (47 : Int)).bind fun q2 =>
    ((S_l1Byte_c34 k (andI .i64 (xorI .i64 q1 q2) (255 : Int)) (decide (a0.i < (a0.b.length : Int))) a0.b a0.i (IntKind.wrap .i64 ((IntKind.wrap .i64 (a0.h * (6364136223846793005 : Int))) + (1442695040888963407 : Int)))).bind fun o4 =>
    some (o4.1, (⟨a0.b, o4.2, (IntKind.wrap .i64 ((IntKind.wrap .i64 (a0.h * (6364136223846793005 : Int))) + (1442695040888963407 : Int)))⟩ : Sl1Cur)))))
/-! loop.example/g03012/spec.l1Below -/
noncomputable def S_l1Below (k : Nat) (a0 : Sl1Cur) (a1 : Int) : Option (Int × Sl1Cur) :=
    (bif (decide (a1 ≤ (0 : Int))) then some ((0 : Int), a0)
    else (bif (decide (a1 ≤ (256 : Int))) then ((S_l1Byte k a0).bind fun w1 =>
    ((md w1.1 a1).bind fun q2 =>
    some (q2, w1.2)))
    else ((S_l1Byte k a0).bind fun w3 =>
    ((S_l1Byte k w3.2).bind fun w4 =>
    ((S_l1Byte k w4.2).bind fun w5 =>
    ((md (IntKind.wrap .i64 ((IntKind.wrap .i64 ((IntKind.wrap .i64 (w3.1 * (65536 : Int))) + (IntKind.wrap .i64 (w4.1 * (256 : Int))))) + w5.1)) a1).bind fun q6 =>
    some (q6, w5.2)))))))
/-! loop.example/g03012/spec.Min -/
noncomputable def S_Min (k : Nat) (a0 : Int) (a1 : Int) : Option (Int) :=
    (bif (decide (a1 < a0)) then some a1
    else some a0)
/-! loop.example/g03012/spec.l10Piece -/
noncomputable def S_l10Piece (k : Nat) (a0 : Sl1Cur) : Option (IPiece × Sl1Cur) :=
    ((S_l1Below k a0 (20 : Int)).bind fun w1 =>
    ((S_l1Below k w1.2 (7 : Int)).bind fun w2 =>
    ((S_Min k (20 : Int) (IntKind.wrap .i64 ((IntKind.wrap .i64 (w1.1 + (1 : Int))) + w2.1))).bind fun w3 =>
    ((ssub ([84, 104, 101, 32, 113, 117, 105, 99, 107, 32, 98, 114, 111, 119, 110, 32, 102, 111, 120, 46] : List UInt8) w1.1 w3).bind fun t4 =>
    some ((⟨w1.1, t4⟩ : IPiece), w2.2)))))
/-! loop.example/g03012/spec.SpansOf -/
noncomputable def S_SpansOf_b0 (k : Nat) : Nat → (List IPiece) → Int → (List ISpan) → Option ((List ISpan))
  | 0, _, _, _ => none
  | n + 1, x0, x4, r3 =>
    (bif (decide (x4 < (x0.length : Int))) then ((idx x0 x4).bind fun e1 =>
    ((idx x0 x4).bind fun e2 =>
    ((idx x0 x4).bind fun e3 =>
    ((app 16 r3 ([(⟨e1.From, (IntKind.wrap .i64 (e2.From + (e3.Data.length : Int)))⟩ : ISpan)] : List ISpan)).bind fun u4 =>
    S_SpansOf_b0 k n x0 (IntKind.wrap .i64 (x4 + (1 : Int))) u4))))
    else some (r3))
noncomputable def S_SpansOf (k : Nat) (a0 : List IPiece) : Option ((List ISpan)) :=
    ((S_SpansOf_b0 k k a0 (0 : Int) ([] : List ISpan)).bind fun o5 =>
    some o5)
/-! loop.example/g03012/spec.l1In -/
noncomputable def S_l1In (k : Nat) (a0 : Int) (a1 : Int) (a2 : Int) : Option (Bool) :=
    (bif (decide (a0 ≥ a1)) then some (decide (a0 ≤ a2)) else some false)
/-! loop.example/g03012/spec.IsSpanSet -/
noncomputable def S_IsSpanSet_b0 (k : Nat) : Nat → (List ISpan) → Int → Option (Oc (Unit) (Bool))
  | 0, _, _ => none
  | n + 1, x0, x3 =>
    (bif (decide (x3 < (x0.length : Int))) then ((idx x0 x3).bind fun e1 =>
    (bif (decide (e1.From < (0 : Int))) then some (.oth (false)) else ((idx x0 x3).bind fun e2 =>
    ((idx x0 x3).bind fun e3 =>
    (bif (decide (e2.From ≥ e3.To)) then some (.oth (false)) else ((idx x0 x3).bind fun e4 =>
    (bif (decide (e4.To > (1000000000000 : Int))) then some (.oth (false)) else (bif (decide (x3 > (0 : Int))) then ((idx x0 (IntKind.wrap .i64 (x3 - (1 : Int)))).bind fun e5 =>
    ((idx x0 x3).bind fun e6 =>
    (bif (decide (e5.To ≥ e6.From)) then some (.oth (false))
    else S_IsSpanSet_b0 k n x0 (IntKind.wrap .i64 (x3 + (1 : Int)))))) else S_IsSpanSet_b0 k n x0 (IntKind.wrap .i64 (x3 + (1 : Int)))))))))))
    else some (.nrm ()))
noncomputable def S_IsSpanSet (k : Nat) (a0 : List ISpan) : Option (Bool) :=
    ((S_IsSpanSet_b0 k k a0 (0 : Int)).bind fun o7 =>
    oc o7 (fun o8 => some true)
    (fun o9 => some o9))
/-! loop.example/g03012/spec.ArePieces -/
noncomputable def S_ArePieces (k : Nat) (a0 : List IPiece) (a1 : Int) : Option (Bool) :=
    ((S_SpansOf k a0).bind fun w1 =>
    ((S_l1In k a1 (0 : Int) (600 : Int)).bind fun w2 =>
    (bif w2 then (bif (decide ((a0.length : Int) ≤ (8 : Int))) then ((S_IsSpanSet k w1).bind fun w3 =>
    (bif w3 then (bif ((w1.length : Int) == (0 : Int)) then some true else ((idx w1 (IntKind.wrap .i64 ((w1.length : Int) - (1 : Int)))).bind fun _ =>
    ((idx w1 (IntKind.wrap .i64 ((w1.length : Int) - (1 : Int)))).bind fun e4 =>
    some (decide (e4.To ≤ a1))))) else some false)) else some false) else some false)))
/-! loop.example/g03012/spec.l10Byte -/
noncomputable def S_l10Byte_b0 (k : Nat) : Nat → (List IPiece) → Int → Int → Option (Oc (Unit) (Int))
  | 0, _, _, _ => none
  | n + 1, x0, x1, x5 =>
    (bif (decide (x5 < (x0.length : Int))) then ((idx x0 x5).bind fun e1 =>
    (bif (decide (e1.From ≤ x1)) then ((idx x0 x5).bind fun e2 =>
    ((idx x0 x5).bind fun e3 =>
    (bif (decide (x1 < (IntKind.wrap .i64 (e2.From + (e3.Data.length : Int))))) then ((idx x0 x5).bind fun e4 =>
    ((idx x0 x5).bind fun e5 =>
    ((idx e4.Data (IntKind.wrap .i64 (x1 - e5.From))).bind fun c6 =>
    some (.oth ((IntKind.wrap .i64 (UInt8.toNat c6 : Int)))))))
    else S_l10Byte_b0 k n x0 x1 (IntKind.wrap .i64 (x5 + (1 : Int)))))) else S_l10Byte_b0 k n x0 x1 (IntKind.wrap .i64 (x5 + (1 : Int)))))
    else some (.nrm ()))
noncomputable def S_l10Byte (k : Nat) (a0 : List IPiece) (a1 : Int) : Option (Int) :=
    ((S_l10Byte_b0 k k a0 a1 (0 : Int)).bind fun o7 =>
    oc o7 (fun o8 => some (-1 : Int))
    (fun o9 => some o9))
/-! loop.example/g03012/spec.Max -/
noncomputable def S_Max (k : Nat) (a0 : Int) (a1 : Int) : Option (Int) :=
    (bif (decide (a1 > a0)) then some a1
    else some a0)
/-! loop.example/g03012/spec.AddSpan -/
noncomputable def S_AddSpan_c46 (k : Nat) (x0 : List ISpan) (x6 : Int) (x46 : Bool) (y3_0 : Int) (y3_1 : Int) (r5 : List ISpan) : Option ((List ISpan)) :=
    (bif x46 then ((idx x0 x6).bind fun e7 =>
    ((app 16 r5 ([e7] : List ISpan)).bind fun u8 =>
    some (u8)))
    else some (r5))
noncomputable def S_AddSpan_b1 (k : Nat) (x0 : List ISpan) (x6 : Int) (y3_0 : Int) (y3_1 : Int) (r5 : List ISpan) : Option ((List ISpan)) :=
    ((idx x0 x6).bind fun e6 =>
    ((S_AddSpan_c46 k x0 x6 (decide (e6.To < y3_0)) y3_0 y3_1 r5).bind fun o7 =>
    some (o7)))
noncomputable def S_AddSpan_b0 (k : Nat) : Nat → (List ISpan) → Int → Int → Int → (List ISpan) → Option ((List ISpan))
  | 0, _, _, _, _, _ => none
  | n + 1, x0, x6, y3_0, y3_1, r5 =>
    (bif (decide (x6 < (x0.length : Int))) then ((S_AddSpan_b1 k x0 x6 y3_0 y3_1 r5).bind fun o6 =>
    S_AddSpan_b0 k n x0 (IntKind.wrap .i64 (x6 + (1 : Int))) y3_0 y3_1 o6)
    else some (r5))
noncomputable def S_AddSpan_c77 (k : Nat) (x0 : List ISpan) (x7 : Int) (x77 : Bool) (y3_0 : Int) (y3_1 : Int) (r5 : List ISpan) : Option (Int × Int) :=
    (bif x77 then ((idx x0 x7).bind fun e10 =>
    ((S_Min k y3_0 e10.From).bind fun w11 =>
    ((idx x0 x7).bind fun e12 =>
    ((S_Max k y3_1 e12.To).bind fun w13 =>
    some ((w11, w13))))))
    else some ((y3_0, y3_1)))
noncomputable def S_AddSpan_b3 (k : Nat) (x0 : List ISpan) (x7 : Int) (y3_0 : Int) (y3_1 : Int) (r5 : List ISpan) : Option (Int × Int) :=
    ((idx x0 x7).bind fun e8 =>
    (bif (decide (e8.To ≥ y3_0)) then ((idx x0 x7).bind fun e9 =>
    ((S_AddSpan_c77 k x0 x7 (decide (e9.From ≤ y3_1)) y3_0 y3_1 r5).bind fun o10 =>
    some ((o10.1, o10.2)))) else ((S_AddSpan_c77 k x0 x7 false y3_0 y3_1 r5).bind fun o11 =>
    some ((o11.1, o11.2)))))
noncomputable def S_AddSpan_b2 (k : Nat) : Nat → (List ISpan) → Int → Int → Int → (List ISpan) → Option (Int × Int)
  | 0, _, _, _, _, _ => none
  | n + 1, x0, x7, y3_0, y3_1, r5 =>
    (bif (decide (x7 < (x0.length : Int))) then ((S_AddSpan_b3 k x0 x7 y3_0 y3_1 r5).bind fun o8 =>
    S_AddSpan_b2 k n x0 (IntKind.wrap .i64 (x7 + (1 : Int))) o8.1 o8.2 r5)
    else some ((y3_0, y3_1)))
noncomputable def S_AddSpan_c112 (k : Nat) (x0 : List ISpan) (x8 : Int) (x112 : Bool) (y3_0 : Int) (y3_1 : Int) (r5 : List ISpan) : Option ((List ISpan)) :=
    (bif x112 then ((idx x0 x8).bind fun e12 =>
    ((app 16 r5 ([e12] : List ISpan)).bind fun u13 =>
    some (u13)))
    else some (r5))
noncomputable def S_AddSpan_b5 (k : Nat) (x0 : List ISpan) (x8 : Int) (y3_0 : Int) (y3_1 : Int) (r5 : List ISpan) : Option ((List ISpan)) :=
    ((idx x0 x8).bind fun e11 =>
    ((S_AddSpan_c112 k x0 x8 (decide (e11.From > y3_1)) y3_0 y3_1 r5).bind fun o12 =>
    some (o12)))
noncomputable def S_AddSpan_b4 (k : Nat) : Nat → (List ISpan) → Int → Int → Int → (List ISpan) → Option ((List ISpan))
  | 0, _, _, _, _, _ => none
  | n + 1, x0, x8, y3_0, y3_1, r5 =>
    (bif (decide (x8 < (x0.length : Int))) then ((S_AddSpan_b5 k x0 x8 y3_0 y3_1 r5).bind fun o11 =>
    S_AddSpan_b4 k n x0 (IntKind.wrap .i64 (x8 + (1 : Int))) y3_0 y3_1 o11)
    else some (r5))
noncomputable def S_AddSpan (k : Nat) (a0 : List ISpan) (a1 : ISpan) : Option ((List ISpan)) :=
    ((S_IsSpanSet k a0).bind fun w1 =>
    (bif (!w1) then ((app 16 ([] : List ISpan) a0).bind fun u2 =>
    some u2) else (bif (decide (a1.From < (0 : Int))) then ((app 16 ([] : List ISpan) a0).bind fun u3 =>
    some u3) else (bif (decide (a1.From ≥ a1.To)) then ((app 16 ([] : List ISpan) a0).bind fun u4 =>
    some u4) else (bif (decide (a1.To > (1000000000000 : Int))) then ((app 16 ([] : List ISpan) a0).bind fun u5 =>
    some u5)
    else ((S_AddSpan_b0 k k a0 (0 : Int) a1.From a1.To ([] : List ISpan)).bind fun o7 =>
    ((S_AddSpan_b2 k k a0 (0 : Int) a1.From a1.To o7).bind fun o9 =>
    ((app 16 o7 ([(⟨o9.1, o9.2⟩ : ISpan)] : List ISpan)).bind fun u10 =>
    ((S_AddSpan_b4 k k a0 (0 : Int) o9.1 o9.2 u10).bind fun o12 =>
    some o12)))))))))
/-! loop.example/g03012/spec.AddPiece -/
noncomputable def S_AddPiece_b0 (k : Nat) : Nat → (List IPiece) → Int → Int → Int → (List UInt8) → (List IPiece) → Option (Oc (Unit) ((List IPiece) × Bool))
  | 0, _, _, _, _, _, _ => none
  | n + 1, x0, x9, x10, y5_0, y5_1, r8 =>
    (bif (decide (x10 < x9)) then ((S_l10Byte k x0 x10).bind fun w3 =>
    (bif (decide (w3 ≥ (0 : Int))) then ((idx y5_1 (IntKind.wrap .i64 (x10 - y5_0))).bind fun c4 =>
    (bif (w3 != (IntKind.wrap .i64 (UInt8.toNat c4 : Int))) then some (.oth ((r8, false)))
    else S_AddPiece_b0 k n x0 x9 (IntKind.wrap .i64 (x10 + (1 : Int))) y5_0 y5_1 r8)) else S_AddPiece_b0 k n x0 x9 (IntKind.wrap .i64 (x10 + (1 : Int))) y5_0 y5_1 r8))
    else some (.nrm ()))
noncomputable def S_AddPiece_c122 (k : Nat) (x0 : List IPiece) (x14 : Int) (x16 : Int) (x17 : Int) (x122 : Bool) (y5_0 : Int) (y5_1 : List UInt8) (r12 : List ISpan) (r13 : List IPiece) (r15 : List Int) : Option (Int) :=
    (bif x122 then ((idx y5_1 (IntKind.wrap .i64 (x16 - y5_0))).bind fun c13 =>
    some ((IntKind.wrap .i64 (UInt8.toNat c13 : Int))))
    else some (x17))
noncomputable def S_AddPiece_b5 (k : Nat) (x0 : List IPiece) (x14 : Int) (x16 : Int) (y5_0 : Int) (y5_1 : List UInt8) (r12 : List ISpan) (r13 : List IPiece) (r15 : List Int) : Option ((List Int)) :=
    ((S_l10Byte k x0 x16).bind fun w12 =>
    ((S_AddPiece_c122 k x0 x14 x16 w12 (decide (w12 < (0 : Int))) y5_0 y5_1 r12 r13 r15).bind fun o13 =>
    ((app 1 r15 ([(IntKind.wrap .u8 o13)] : List Int)).bind fun u14 =>
    some (u14))))
noncomputable def S_AddPiece_b4 (k : Nat) : Nat → (List IPiece) → Int → Int → Int → (List UInt8) → (List ISpan) → (List IPiece) → (List Int) → Option ((List Int))
  | 0, _, _, _, _, _, _, _, _ => none
  | n + 1, x0, x14, x16, y5_0, y5_1, r12, r13, r15 =>
    ((idx r12 x14).bind fun _ =>
    ((idx r12 x14).bind fun e11 =>
    (bif (decide (x16 < e11.To)) then ((S_AddPiece_b5 k x0 x14 x16 y5_0 y5_1 r12 r13 r15).bind fun o12 =>
    S_AddPiece_b4 k n x0 x14 (IntKind.wrap .i64 (x16 + (1 : Int))) y5_0 y5_1 r12 r13 o12)
    else some (r15))))
noncomputable def S_AddPiece_b2 (k : Nat) : Nat → (List IPiece) → Int → Int → (List UInt8) → (List ISpan) → (List IPiece) → Option ((List IPiece))
  | 0, _, _, _, _, _, _ => none
  | n + 1, x0, x14, y5_0, y5_1, r12, r13 =>
    (bif (decide (x14 < (r12.length : Int))) then ((idx r12 x14).bind fun _ =>
    ((idx r12 x14).bind fun e10 =>
    ((S_AddPiece_b4 k k x0 x14 e10.From y5_0 y5_1 r12 r13 ([] : List Int)).bind fun o11 =>
    ((idx r12 x14).bind fun _ =>
    ((idx r12 x14).bind fun e12 =>
    ((app 24 r13 ([(⟨e12.From, (bytesOf o11)⟩ : IPiece)] : List IPiece)).bind fun u13 =>
    S_AddPiece_b2 k n x0 (IntKind.wrap .i64 (x14 + (1 : Int))) y5_0 y5_1 r12 u13))))))
    else some (r13))
noncomputable def S_AddPiece (k : Nat) (a0 : List IPiece) (a1 : Int) (a2 : IPiece) : Option ((List IPiece) × Bool) :=
    ((app 24 ([] : List IPiece) a0).bind fun u1 =>
    ((S_ArePieces k a0 a1).bind fun w2 =>
    (bif (!w2) then some (u1, false) else (bif (decide (a2.From < (0 : Int))) then some (u1, false) else (bif ((a2.Data.length : Int) == (0 : Int)) then some (u1, false) else (bif (decide ((a2.Data.length : Int) > a1)) then some (u1, false) else (bif (decide (a2.From > (IntKind.wrap .i64 (a1 - (a2.Data.length : Int))))) then some (u1, false)
    else ((S_AddPiece_b0 k k a0 (IntKind.wrap .i64 (a2.From + (a2.Data.length : Int))) a2.From a2.From a2.Data u1).bind fun o5 =>
    oc o5 (fun o6 => ((S_SpansOf k a0).bind fun w8 =>
    ((S_AddSpan k w8 (⟨a2.From, (IntKind.wrap .i64 (a2.From + (a2.Data.length : Int)))⟩ : ISpan)).bind fun w9 =>
    (bif (decide ((w9.length : Int) > (8 : Int))) then some (u1, false)
    else ((S_AddPiece_b2 k k a0 (0 : Int) a2.From a2.Data w9 ([] : List IPiece)).bind fun o14 =>
    some (o14, true))))))
    (fun o7 => some o7)))))))))
/-! loop.example/g03012/spec.l1Once -/
noncomputable def S_l1Once (k : Nat) (a0 : Sl1Cur) (a1 : Int) : Option (Bool × Sl1Cur) :=
    ((S_l1Below k a0 a1).bind fun w1 =>
    some ((w1.1 == (0 : Int)), w1.2))
/-! loop.example/g03012/spec.l10Draw -/
noncomputable def S_l10Draw_b0 (k : Nat) : Nat → Int → (List Int) → Int → Int → (List IPiece) → Option ((List Int) × Int × Int × (List IPiece))
  | 0, _, _, _, _, _ => none
  | n + 1, x4, y700000_0, y700000_1, y700000_2, r3 =>
    (bif (decide (x4 > (0 : Int))) then ((S_l10Piece k (⟨y700000_0, y700000_1, y700000_2⟩ : Sl1Cur)).bind fun w2 =>
    ((S_AddPiece k r3 (20 : Int) w2.1).bind fun w3 =>
    S_l10Draw_b0 k n (IntKind.wrap .i64 (x4 - (1 : Int))) w2.2.b w2.2.i w2.2.h w3.1))
    else some ((y700000_0, y700000_1, y700000_2, r3)))
noncomputable def S_l10Draw_c20 (k : Nat) (x20 : Bool) (y700000_0 : List Int) (y700000_1 : Int) (y700000_2 : Int) (r3 : List IPiece) : Option ((List Int) × Int × Int × (List IPiece)) :=
    (bif x20 then ((S_l10Piece k (⟨y700000_0, y700000_1, y700000_2⟩ : Sl1Cur)).bind fun w6 =>
    ((app 24 r3 ([w6.1] : List IPiece)).bind fun u7 =>
    some ((w6.2.b, w6.2.i, w6.2.h, u7))))
    else some ((y700000_0, y700000_1, y700000_2, r3)))
noncomputable def S_l10Draw (k : Nat) (a0 : Sl1Cur) : Option ((List IPiece) × Sl1Cur) :=
    ((S_l1Below k a0 (5 : Int)).bind fun w1 =>
    ((S_l10Draw_b0 k k w1.1 w1.2.b w1.2.i w1.2.h ([] : List IPiece)).bind fun o4 =>
    ((S_l1Once k (⟨o4.1, o4.2.1, o4.2.2.1⟩ : Sl1Cur) (9 : Int)).bind fun w5 =>
    ((S_l10Draw_c20 k w5.1 w5.2.b w5.2.i w5.2.h o4.2.2.2).bind fun o8 =>
    some (o8.2.2.2, (⟨o8.1, o8.2.1, o8.2.2.1⟩ : Sl1Cur))))))
/-! loop.example/g03012/spec.l1Int -/
noncomputable def S_l1Int (k : Nat) (a0 : Sl1Cur) (a1 : List Int) : Option (Int × Sl1Cur) :=
    ((S_l1Below k a0 (a1.length : Int)).bind fun w1 =>
    ((idx a1 w1.1).bind fun e2 =>
    some (e2, w1.2)))
/-! loop.example/g03012/spec.l1Odd -/
noncomputable def S_l1Odd (k : Nat) (a0 : Sl1Cur) : Option (Int × Sl1Cur) :=
    ((S_l1Int k a0 ([(-1 : Int), (0 : Int), (1 : Int), (2 : Int), (255 : Int), (256 : Int), (65535 : Int), (2147483647 : Int), (2147483648 : Int), (4294967295 : Int), (4294967296 : Int), (-2147483648 : Int), (9223372036854775807 : Int), (-9223372036854775808 : Int)] : List Int)).bind fun w1 =>
    some (w1.1, w1.2))
/-! loop.example/g03012/spec.DrawAddPiece -/
noncomputable def S_DrawAddPiece_c19 (k : Nat) (x19 : Bool) (y4_0 : Int) (y4_1 : List UInt8) (y9_0 : List Int) (y9_1 : Int) (y9_2 : Int) (r6 : List IPiece) (y7_0 : Int) (y7_1 : List UInt8) : Option ((List Int) × Int × Int × Int) :=
    (bif x19 then ((S_l1Odd k (⟨y9_0, y9_1, y9_2⟩ : Sl1Cur)).bind fun w5 =>
    some ((w5.2.b, w5.2.i, w5.2.h, w5.1)))
    else some ((y9_0, y9_1, y9_2, y7_0)))
noncomputable def S_DrawAddPiece_c16 (k : Nat) (x15 : Int) (x16 : Bool) (y4_0 : Int) (y4_1 : List UInt8) (y9_0 : List Int) (y9_1 : Int) (y9_2 : Int) (r6 : List IPiece) (y7_0 : Int) (y7_1 : List UInt8) : Option ((List Int) × Int × Int × Int × (List UInt8)) :=
    (bif x16 then some ((y9_0, y9_1, y9_2, y7_0, ([122, 122] : List UInt8)))
    else ((S_DrawAddPiece_c19 k (x15 == (1 : Int)) y4_0 y4_1 y9_0 y9_1 y9_2 r6 y7_0 y7_1).bind fun o5 =>
    some ((o5.1, o5.2.1, o5.2.2.1, o5.2.2.2, y7_1))))
noncomputable def S_DrawAddPiece_b0 (k : Nat) (x15 : Int) (y4_0 : Int) (y4_1 : List UInt8) (y9_0 : List Int) (y9_1 : Int) (y9_2 : Int) (r6 : List IPiece) (y7_0 : Int) (y7_1 : List UInt8) : Option ((List Int) × Int × Int × Int × (List UInt8)) :=
    ((S_DrawAddPiece_c16 k x15 (x15 == (0 : Int)) y4_0 y4_1 y9_0 y9_1 y9_2 r6 y7_0 y7_1).bind fun o5 =>
    some ((o5.1, o5.2.1, o5.2.2.1, o5.2.2.2.1, o5.2.2.2.2)))
noncomputable def S_DrawAddPiece (k : Nat) (a0 : List Int) : Option ((List IPiece) × Int × IPiece) :=
    ((S_l1New k a0).bind fun w1 =>
    ((S_l10Draw k w1).bind fun w2 =>
    ((S_l10Piece k w2.2).bind fun w3 =>
    ((S_l1Below k w3.2 (6 : Int)).bind fun w4 =>
    ((S_DrawAddPiece_b0 k w4.1 (0 : Int) ([] : List UInt8) w4.2.b w4.2.i w4.2.h w2.1 w3.1.From w3.1.Data).bind fun o6 =>
    ((S_l1Int k (⟨o6.1, o6.2.1, o6.2.2.1⟩ : Sl1Cur) ([(20 : Int), (20 : Int), (20 : Int), (15 : Int)] : List Int)).bind fun w7 =>
    some (w2.1, w7.1, (⟨o6.2.2.2.1, o6.2.2.2.2⟩ : IPiece))))))))
/-! loop.example/g03012/impl.SpansOf -/
noncomputable def I_SpansOf_b0 (k : Nat) : Nat → (List IPiece) → Int → Int → (List ISpan) → Option ((List ISpan))
  | 0, _, _, _, _ => none
  | n + 1, x7, x8, x9, r3 =>
    (bif (decide (x9 < x8)) then ((idx x7 x9).bind fun e1 =>
    ((app 16 r3 ([(⟨e1.From, (IntKind.wrap .i64 (e1.From + (e1.Data.length : Int)))⟩ : ISpan)] : List ISpan)).bind fun u2 =>
    I_SpansOf_b0 k n x7 x8 (IntKind.wrap .i64 (x9 + (1 : Int))) u2))
    else some (r3))
noncomputable def I_SpansOf (k : Nat) (a0 : List IPiece) : Option ((List ISpan)) :=
    ((I_SpansOf_b0 k k a0 (a0.length : Int) (0 : Int) ([] : List ISpan)).bind fun o3 =>
    some o3)
/-! loop.example/g03012/impl.inRange -/
noncomputable def I_inRange (k : Nat) (a0 : Int) (a1 : Int) (a2 : Int) : Option (Bool) :=
    (bif (decide (a1 ≤ a0)) then some (decide (a0 ≤ a2)) else some false)
/-! loop.example/g03012/impl.IsSpanSet -/
noncomputable def I_IsSpanSet_b0 (k : Nat) : Nat → (List ISpan) → (List ISpan) → Int → Int → Option (Oc (Unit) (Bool))
  | 0, _, _, _, _ => none
  | n + 1, x0, x5, x6, x7 =>
    (bif (decide (x7 < x6)) then ((idx x5 x7).bind fun e1 =>
    (bif (decide (e1.From < (0 : Int))) then some (.oth (false)) else (bif (decide (e1.From ≥ e1.To)) then some (.oth (false)) else (bif (decide (e1.To > (1000000000000 : Int))) then some (.oth (false)) else (bif (decide (x7 > (0 : Int))) then ((idx x0 (IntKind.wrap .i64 (x7 - (1 : Int)))).bind fun e2 =>
    (bif (decide (e2.To ≥ e1.From)) then some (.oth (false))
    else I_IsSpanSet_b0 k n x0 x5 x6 (IntKind.wrap .i64 (x7 + (1 : Int))))) else I_IsSpanSet_b0 k n x0 x5 x6 (IntKind.wrap .i64 (x7 + (1 : Int))))))))
    else some (.nrm ()))
noncomputable def I_IsSpanSet (k : Nat) (a0 : List ISpan) : Option (Bool) :=
    ((I_IsSpanSet_b0 k k a0 a0 (a0.length : Int) (0 : Int)).bind fun o3 =>
    oc o3 (fun o4 => some true)
    (fun o5 => some o5))
/-! loop.example/g03012/impl.ArePieces -/
noncomputable def I_ArePieces (k : Nat) (a0 : List IPiece) (a1 : Int) : Option (Bool) :=
    ((I_SpansOf k a0).bind fun w1 =>
    ((I_inRange k a1 (0 : Int) (600 : Int)).bind fun w2 =>
    (bif (!w2) then some false else (bif (decide ((a0.length : Int) > (8 : Int))) then some false else ((I_IsSpanSet k w1).bind fun w3 =>
    (bif (!w3) then some false
    else (bif ((w1.length : Int) == (0 : Int)) then some true else ((idx w1 (IntKind.wrap .i64 ((w1.length : Int) - (1 : Int)))).bind fun _ =>
    ((idx w1 (IntKind.wrap .i64 ((w1.length : Int) - (1 : Int)))).bind fun e4 =>
    some (decide (e4.To ≤ a1)))))))))))
/-! slices.Clone[[]loop.example/g03012/impl.Piece,loop.example/g03012/impl.Piece] -/
noncomputable def slices_Clone_IPiece (k : Nat) (a0 : List IPiece) : Option ((List IPiece)) :=
    app 24 [] a0
/-! loop.example/g03012/impl.CoversSpan$1 -/
noncomputable def I_CoversSpan_1 (k : Nat) (a0 : ISpan) (f0_0 : Int) (f0_1 : Int) : Option (Bool) :=
    (bif (decide (a0.From ≤ f0_0)) then some (decide (f0_1 ≤ a0.To)) else some false)
/-! slices.IndexFunc[[]loop.example/g03012/impl.Span,loop.example/g03012/impl.Span] -/
noncomputable def slices_IndexFunc_ISpan_at_I_CoversSpan_1_b0 (k : Nat) : Nat → (List ISpan) → Int → Int → Int → Int → Option (Oc (Unit) (Int))
  | 0, _, _, _, _, _ => none
  | n + 1, x0, x1_0_0, x1_0_1, x7, x8 =>
    (bif (decide (x8 < x7)) then ((idx x0 x8).bind fun e1 =>
    ((I_CoversSpan_1 k e1 x1_0_0 x1_0_1).bind fun w2 =>
    (bif w2 then some (.oth (x8))
    else slices_IndexFunc_ISpan_at_I_CoversSpan_1_b0 k n x0 x1_0_0 x1_0_1 x7 (IntKind.wrap .i64 (x8 + (1 : Int))))))
    else some (.nrm ()))
noncomputable def slices_IndexFunc_ISpan_at_I_CoversSpan_1 (k : Nat) (a0 : List ISpan) (a1_0_0 : Int) (a1_0_1 : Int) : Option (Int) :=
    ((slices_IndexFunc_ISpan_at_I_CoversSpan_1_b0 k k a0 a1_0_0 a1_0_1 (a0.length : Int) (0 : Int)).bind fun o3 =>
    oc o3 (fun o4 => some (-1 : Int))
    (fun o5 => some o5))
/-! slices.ContainsFunc[[]loop.example/g03012/impl.Span,loop.example/g03012/impl.Span] -/
noncomputable def slices_ContainsFunc_ISpan_at_I_CoversSpan_1 (k : Nat) (a0 : List ISpan) (a1_0_0 : Int) (a1_0_1 : Int) : Option (Bool) :=
    ((slices_IndexFunc_ISpan_at_I_CoversSpan_1 k a0 a1_0_0 a1_0_1).bind fun w1 =>
    some (decide (w1 ≥ (0 : Int))))
/-! loop.example/g03012/impl.CoversSpan -/
noncomputable def I_CoversSpan (k : Nat) (a0 : List ISpan) (a1 : ISpan) : Option (Bool) :=
    (bif (decide (a1.From ≥ a1.To)) then some true
    else ((slices_ContainsFunc_ISpan_at_I_CoversSpan_1 k a0 a1.From a1.To).bind fun w1 =>
    some w1))
/-! slices.Clone[[]loop.example/g03012/impl.Span,loop.example/g03012/impl.Span] -/
noncomputable def slices_Clone_ISpan (k : Nat) (a0 : List ISpan) : Option ((List ISpan)) :=
    app 16 [] a0
/-! loop.example/g03012/impl.AddSpan -/
noncomputable def I_AddSpan_b0 (k : Nat) : Nat → (List ISpan) → Int → Int → Int → (List ISpan) → Option (Int × (List ISpan))
  | 0, _, _, _, _, _ => none
  | n + 1, x0, x6, y3_0, y3_1, r5 =>
    (bif (decide (x6 < (x0.length : Int))) then ((idx x0 x6).bind fun e6 =>
    (bif (decide (e6.To < y3_0)) then ((idx x0 x6).bind fun e7 =>
    ((app 16 r5 ([e7] : List ISpan)).bind fun u8 =>
    I_AddSpan_b0 k n x0 (IntKind.wrap .i64 (x6 + (1 : Int))) y3_0 y3_1 u8))
    else some ((x6, r5)))) else some ((x6, r5)))
noncomputable def I_AddSpan_b2 (k : Nat) : Nat → (List ISpan) → Int → Int → Int → (List ISpan) → Option (Int × Int × Int)
  | 0, _, _, _, _, _ => none
  | n + 1, x0, x6, y3_0, y3_1, r5 =>
    (bif (decide (x6 < (x0.length : Int))) then ((idx x0 x6).bind fun e10 =>
    (bif (decide (e10.From ≤ y3_1)) then ((idx x0 x6).bind fun e11 =>
    ((idx x0 x6).bind fun e12 =>
    I_AddSpan_b2 k n x0 (IntKind.wrap .i64 (x6 + (1 : Int))) (if e11.From < y3_0 then e11.From else y3_0) (if e12.To > y3_1 then e12.To else y3_1) r5))
    else some ((x6, y3_0, y3_1)))) else some ((x6, y3_0, y3_1)))
noncomputable def I_AddSpan (k : Nat) (a0 : List ISpan) (a1 : ISpan) : Option ((List ISpan)) :=
    ((I_IsSpanSet k a0).bind fun w1 =>
    (bif (!w1) then ((slices_Clone_ISpan k a0).bind fun w2 =>
    some w2) else (bif (decide (a1.From ≥ a1.To)) then ((slices_Clone_ISpan k a0).bind fun w3 =>
    some w3) else (bif (decide (a1.From < (0 : Int))) then ((slices_Clone_ISpan k a0).bind fun w4 =>
    some w4) else (bif (decide (a1.To > (1000000000000 : Int))) then ((slices_Clone_ISpan k a0).bind fun w5 =>
    some w5)
    else ((I_AddSpan_b0 k k a0 (0 : Int) a1.From a1.To ([] : List ISpan)).bind fun o9 =>
    ((I_AddSpan_b2 k k a0 o9.1 a1.From a1.To o9.2).bind fun o13 =>
    ((app 16 o9.2 ([(⟨o13.2.1, o13.2.2⟩ : ISpan)] : List ISpan)).bind fun u14 =>
    ((ssub a0 o13.1 (a0.length : Int)).bind fun t15 =>
    ((app 16 u14 t15).bind fun u16 =>
    some u16))))))))))
/-! loop.example/g03012/impl.AddPiece -/
noncomputable def I_AddPiece_b0 (k : Nat) : Nat → (List IPiece) → (List IPiece) → Int → Int → Int → (List UInt8) → (List Int) → Option ((List Int))
  | 0, _, _, _, _, _, _, _ => none
  | n + 1, x0, x44, x45, x46, y5_0, y5_1, r8 =>
    (bif (decide (x46 < x45)) then ((idx x44 x46).bind fun e7 =>
    ((ssub r8 e7.From (r8.length : Int)).bind fun _ =>
    I_AddPiece_b0 k n x0 x44 x45 (IntKind.wrap .i64 (x46 + (1 : Int))) y5_0 y5_1 (overR r8 (Int.toNat e7.From) (intsOf e7.Data))))
    else some (r8))
noncomputable def I_AddPiece_b2 (k : Nat) : Nat → (List IPiece) → Int → Int → Int → (List UInt8) → (List Int) → Option (Oc ((List Int)) ((List IPiece) × Bool))
  | 0, _, _, _, _, _, _ => none
  | n + 1, x0, x60, x61, y5_0, y5_1, r8 =>
    (bif (decide (x61 < x60)) then ((I_SpansOf k x0).bind fun w10 =>
    ((I_CoversSpan k w10 (⟨(IntKind.wrap .i64 (y5_0 + x61)), (IntKind.wrap .i64 ((IntKind.wrap .i64 (y5_0 + x61)) + (1 : Int)))⟩ : ISpan)).bind fun w11 =>
    (bif w11 then ((idx r8 (IntKind.wrap .i64 (y5_0 + x61))).bind fun _ =>
    ((idx r8 (IntKind.wrap .i64 (y5_0 + x61))).bind fun e12 =>
    ((idx y5_1 x61).bind fun c13 =>
    (bif (e12 != (UInt8.toNat c13 : Int)) then ((slices_Clone_IPiece k x0).bind fun w14 =>
    some (.oth ((w14, false))))
    else ((idx y5_1 x61).bind fun c15 =>
    ((idx r8 (IntKind.wrap .i64 (y5_0 + x61))).bind fun _ =>
    ((idx r8 (IntKind.wrap .i64 (y5_0 + x61))).bind fun e16 =>
    I_AddPiece_b2 k n x0 x60 (IntKind.wrap .i64 (x61 + (1 : Int))) y5_0 y5_1 ((r8).set ((IntKind.wrap .i64 (y5_0 + x61))).toNat (UInt8.toNat c15 : Int))))))))) else ((idx y5_1 x61).bind fun c17 =>
    ((idx r8 (IntKind.wrap .i64 (y5_0 + x61))).bind fun _ =>
    ((idx r8 (IntKind.wrap .i64 (y5_0 + x61))).bind fun e18 =>
    I_AddPiece_b2 k n x0 x60 (IntKind.wrap .i64 (x61 + (1 : Int))) y5_0 y5_1 ((r8).set ((IntKind.wrap .i64 (y5_0 + x61))).toNat (UInt8.toNat c17 : Int))))))))
    else some (.nrm r8))
noncomputable def I_AddPiece_b4 (k : Nat) : Nat → (List IPiece) → (List Int) → Int → Int → (List IPiece) → (List ISpan) → Option ((List IPiece))
  | 0, _, _, _, _, _, _ => none
  | n + 1, x0, x8, x109, x110, r13, r108 =>
    (bif (decide (x110 < x109)) then ((idx r108 x110).bind fun _ =>
    ((idx r108 x110).bind fun e24 =>
    ((ssub x8 e24.From e24.To).bind fun t25 =>
    ((app 24 r13 ([(⟨e24.From, (bytesOf t25)⟩ : IPiece)] : List IPiece)).bind fun u26 =>
    I_AddPiece_b4 k n x0 x8 x109 (IntKind.wrap .i64 (x110 + (1 : Int))) u26 r108))))
    else some (r13))
noncomputable def I_AddPiece (k : Nat) (a0 : List IPiece) (a1 : Int) (a2 : IPiece) : Option ((List IPiece) × Bool) :=
    ((I_ArePieces k a0 a1).bind fun w1 =>
    (bif (!w1) then ((slices_Clone_IPiece k a0).bind fun w2 =>
    some (w2, false)) else (bif (a2.Data == ([] : List UInt8)) then ((slices_Clone_IPiece k a0).bind fun w3 =>
    some (w3, false)) else (bif (decide (a2.From < (0 : Int))) then ((slices_Clone_IPiece k a0).bind fun w4 =>
    some (w4, false)) else (bif (decide (a2.From > (IntKind.wrap .i64 (a1 - (a2.Data.length : Int))))) then ((slices_Clone_IPiece k a0).bind fun w5 =>
    some (w5, false))
    else (guardT (a1 == a1) <| (mks 1 a1 (0 : Int)).bind fun u6 =>
    ((I_AddPiece_b0 k k a0 a0 (a0.length : Int) (0 : Int) a2.From a2.Data u6).bind fun o9 =>
    ((I_AddPiece_b2 k k a0 (a2.Data.length : Int) (0 : Int) a2.From a2.Data o9).bind fun o19 =>
    oc o19 (fun o20 => ((I_SpansOf k a0).bind fun w22 =>
    ((I_AddSpan k w22 (⟨a2.From, (IntKind.wrap .i64 (a2.From + (a2.Data.length : Int)))⟩ : ISpan)).bind fun w23 =>
    ((I_AddPiece_b4 k k a0 o20 (w23.length : Int) (0 : Int) ([] : List IPiece) w23).bind fun o27 =>
    (bif (decide ((o27.length : Int) > (8 : Int))) then ((slices_Clone_IPiece k a0).bind fun w28 =>
    some (w28, false))
    else some (o27, true))))))
    (fun o21 => some o21)))))))))
/-! loop.example/g03012/impl.ReadPieces -/
noncomputable def I_ReadPieces_b0 (k : Nat) : Nat → (List IPiece) → Int → Int → Int → Int → Option (Oc (Unit) ((List UInt8) × Bool))
  | 0, _, _, _, _, _ => none
  | n + 1, x13, x14, x15, y3_0, y3_1 =>
    (bif (decide (x15 < x14)) then ((idx x13 x15).bind fun e1 =>
    (bif (decide (e1.From ≤ y3_0)) then (bif (decide (y3_1 ≤ (IntKind.wrap .i64 (e1.From + (e1.Data.length : Int))))) then ((ssub e1.Data (IntKind.wrap .i64 (y3_0 - e1.From)) (IntKind.wrap .i64 (y3_1 - e1.From))).bind fun t2 =>
    some (.oth ((t2, true))))
    else I_ReadPieces_b0 k n x13 x14 (IntKind.wrap .i64 (x15 + (1 : Int))) y3_0 y3_1) else I_ReadPieces_b0 k n x13 x14 (IntKind.wrap .i64 (x15 + (1 : Int))) y3_0 y3_1))
    else some (.nrm ()))
noncomputable def I_ReadPieces (k : Nat) (a0 : List IPiece) (a1 : ISpan) : Option ((List UInt8) × Bool) :=
    (bif (decide (a1.From ≥ a1.To)) then some (([] : List UInt8), true)
    else ((I_ReadPieces_b0 k k a0 (a0.length : Int) (0 : Int) a1.From a1.To).bind fun o3 =>
    oc o3 (fun o4 => some (([] : List UInt8), false))
    (fun o5 => some o5)))
/-! loop.example/g03012/impl.SpanSize -/
noncomputable def I_SpanSize_b0 (k : Nat) : Nat → Int → (List ISpan) → Int → Int → Option (Int)
  | 0, _, _, _, _ => none
  | n + 1, x3, x6, x7, x8 =>
    (bif (decide (x8 < x7)) then ((idx x6 x8).bind fun e1 =>
    I_SpanSize_b0 k n (IntKind.wrap .i64 (x3 + (IntKind.wrap .i64 (e1.To - e1.From)))) x6 x7 (IntKind.wrap .i64 (x8 + (1 : Int))))
    else some (x3))
noncomputable def I_SpanSize (k : Nat) (a0 : List ISpan) : Option (Int) :=
    ((I_SpanSize_b0 k k (0 : Int) a0 (a0.length : Int) (0 : Int)).bind fun o2 =>
    some o2)
/-! loop.example/g03012/laws.samePieces -/
noncomputable def L_samePieces_b0 (k : Nat) : Nat → (List IPiece) → (List IPiece) → Int → Option (Oc (Unit) (Bool))
  | 0, _, _, _ => none
  | n + 1, x0, x1, x5 =>
    (bif (decide (x5 < (x0.length : Int))) then ((idx x0 x5).bind fun e1 =>
    ((idx x1 x5).bind fun e2 =>
    (bif (!((e1.From == e2.From) && (e1.Data == e2.Data))) then some (.oth (false))
    else L_samePieces_b0 k n x0 x1 (IntKind.wrap .i64 (x5 + (1 : Int))))))
    else some (.nrm ()))
noncomputable def L_samePieces (k : Nat) (a0 : List IPiece) (a1 : List IPiece) : Option (Bool) :=
    (bif ((a0.length : Int) != (a1.length : Int)) then some false
    else ((L_samePieces_b0 k k a0 a1 (0 : Int)).bind fun o3 =>
    oc o3 (fun o4 => some true)
    (fun o5 => some o5)))
/-! loop.example/g03012/impl.IsWhole -/
noncomputable def I_IsWhole (k : Nat) (a0 : List IPiece) (a1 : Int) : Option (Bool) :=
    ((I_SpansOf k a0).bind fun w1 =>
    ((I_CoversSpan k w1 (⟨(0 : Int), a1⟩ : ISpan)).bind fun w2 =>
    some w2))
/-! loop.example/g03012/laws.FnPieces -/
noncomputable def L_FnPieces_b0 (k : Nat) : Nat → Int → Int → (List IPiece) → Int → (List UInt8) → (List IPiece) → Option (Oc (Unit) (Bool))
  | 0, _, _, _, _, _, _ => none
  | n + 1, x4, x10, r3, y5_0, y5_1, r6 =>
    (bif (decide (x10 < (r3.length : Int))) then ((idx r3 x10).bind fun _ =>
    ((idx r3 x10).bind fun e8 =>
    ((idx r3 x10).bind fun _ =>
    ((idx r3 x10).bind fun e9 =>
    ((idx r3 x10).bind fun _ =>
    ((idx r3 x10).bind fun e10 =>
    ((I_ReadPieces k r6 (⟨e8.From, (IntKind.wrap .i64 (e9.From + (e10.Data.length : Int)))⟩ : ISpan)).bind fun w11 =>
    (bif (!w11.2) then some (.oth (false)) else ((idx r3 x10).bind fun _ =>
    ((idx r3 x10).bind fun e12 =>
    (bif (!(w11.1 == e12.Data)) then some (.oth (false))
    else L_FnPieces_b0 k n x4 (IntKind.wrap .i64 (x10 + (1 : Int))) r3 y5_0 y5_1 r6)))))))))))
    else some (.nrm ()))
noncomputable def L_FnPieces_b2 (k : Nat) : Nat → Int → Bool → Int → (List IPiece) → (List IPiece) → (List IPiece) → Option (Bool × (List IPiece))
  | 0, _, _, _, _, _, _ => none
  | n + 1, x4, x14, x15, r3, r6, r13 =>
    (bif (decide (x15 < (r3.length : Int))) then (bif x14 then ((idx r3 x15).bind fun _ =>
    ((idx r3 x15).bind fun e17 =>
    ((I_AddPiece k r13 x4 e17).bind fun w18 =>
    L_FnPieces_b2 k n x4 w18.2 (IntKind.wrap .i64 (x15 + (1 : Int))) r3 r6 w18.1)))
    else some ((x14, r13))) else some ((x14, r13)))
noncomputable def L_FnPieces (k : Nat) (a0 : List Int) : Option (Bool) :=
    ((L_big k a0).bind fun w1 =>
    (bif w1 then some true
    else ((S_DrawAddPiece k a0).bind fun w2 =>
    ((I_AddPiece k w2.1 w2.2.1 w2.2.2).bind fun w3 =>
    (bif (!w3.2) then some ((w3.1.length : Int) == (w2.1.length : Int))
    else ((I_ReadPieces k w3.1 (⟨w2.2.2.From, (IntKind.wrap .i64 (w2.2.2.From + (w2.2.2.Data.length : Int)))⟩ : ISpan)).bind fun w4 =>
    (bif (!w4.2) then some false else (bif (!(w4.1 == w2.2.2.Data)) then some false else ((S_ArePieces k w3.1 w2.2.1).bind fun w5 =>
    (bif (!w5) then some false else ((I_SpansOf k w3.1).bind fun w6 =>
    ((I_SpanSize k w6).bind fun w7 =>
    (bif (decide (w7 > w2.2.1)) then some false
    else ((L_FnPieces_b0 k k w2.2.1 (0 : Int) w2.1 w2.2.2.From w2.2.2.Data w3.1).bind fun o13 =>
    oc o13 (fun o14 => ((I_AddPiece k [] w2.2.1 w2.2.2).bind fun w16 =>
    ((L_FnPieces_b2 k k w2.2.1 w16.2 (0 : Int) w2.1 w3.1 w16.1).bind fun o19 =>
    (bif o19.1 then ((L_samePieces k o19.2 w3.1).bind fun w20 =>
    (bif (!w20) then some false
    else ((I_IsWhole k w3.1 w2.2.1).bind fun w21 =>
    ((I_SpansOf k w3.1).bind fun w22 =>
    ((I_SpanSize k w22).bind fun w23 =>
    some (w21 == (w23 == w2.2.1))))))) else ((I_IsWhole k w3.1 w2.2.1).bind fun w24 =>
    ((I_SpansOf k w3.1).bind fun w25 =>
    ((I_SpanSize k w25).bind fun w26 =>
    some (w24 == (w26 == w2.2.1)))))))))
    (fun o15 => some o15)))))))))))))))

end
end Go.Ytolmhhnhmbiofaa
