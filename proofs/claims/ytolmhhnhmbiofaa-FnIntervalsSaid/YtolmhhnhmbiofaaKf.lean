/- Functions over lists. Nothing is claimed here. -/
import Derived.Test.YtolmhhnhmbiofaaKt
set_option linter.unusedVariables false
set_option linter.unusedSimpArgs false
set_option maxRecDepth 100000
namespace Go.Ytolmhhnhmbiofaa
open Go Go.RowKit Go.Pv
noncomputable section

/-! loop.example/g03012/laws.big -/
noncomputable def L_big (k : Nat) (a0 : List Int) : Option (Bool) :=
    some (decide ((a0.length : Int) > (1048576 : Int)))
/-! loop.example/g03012/spec.l1New -/
noncomputable def S_l1New_b0 (k : Nat) : Nat → (List Int) → Int → Int → Option (Int)
  | 0, _, _, _ => none
  | n + 1, x0, x3, x4 =>
    (bif (decide (x4 < (x0.length : Int))) then (bif (decide (x4 < (4000 : Int))) then ((idx x0 x4).bind fun e1 =>
    S_l1New_b0 k n x0 (andI .i64 (IntKind.wrap .i64 ((IntKind.wrap .i64 ((IntKind.wrap .i64 (x3 * (139 : Int))) + (IntKind.wrap .i64 e1))) + (11 : Int))) (1073741823 : Int)) (IntKind.wrap .i64 (x4 + (1 : Int))))
    else some (x3)) else some (x3))
noncomputable def S_l1New (k : Nat) (a0 : List Int) : Option (Sl1Cur) :=
    ((S_l1New_b0 k k a0 (IntKind.wrap .i64 ((271091 : Int) + (a0.length : Int))) (0 : Int)).bind fun o2 =>
    some (⟨a0, (0 : Int), o2⟩ : Sl1Cur))
/-! loop.example/g03012/spec.l1Byte -/
noncomputable def S_l1Byte_c34 (k : Nat) (x3 : Int) (x34 : Bool) (y700000_0 : List Int) (y700000_1 : Int) (y700000_2 : Int) : Option (Int × Int) :=
    (bif x34 then ((idx y700000_0 y700000_1).bind fun e3 =>
    some (((andI .i64 (IntKind.wrap .i64 (x3 + (IntKind.wrap .i64 e3))) (255 : Int)), (IntKind.wrap .i64 (y700000_1 + (1 : Int))))))
    else some ((x3, y700000_1)))
noncomputable def S_l1Byte (k : Nat) (a0 : Sl1Cur) : Option (Int × Sl1Cur) :=
    ((shrI .i64 (IntKind.wrap .i64 ((IntKind.wrap .i64 (a0.h * (6364136223846793005 : Int))) + (1442695040888963407 : Int))) (33 : Int)).bind fun q1 =>
    ((shrI .i64 (IntKind.wrap .i64 ((IntKind.wrap .i64 (a0.h * (6364136223846793005 : Int))) + (1442695040888963407 : Int))) (47 : Int)).bind fun q2 =>
    ((S_l1Byte_c34 k (andI .i64 (xorI .i64 q1 q2) (255 : Int)) (decide (a0.i < (a0.b.length : Int))) a0.b a0.i (IntKind.wrap .i64 ((IntKind.wrap .i64 (a0.h * (6364136223846793005 : Int))) + (1442695040888963407 : Int)))).bind fun o4 =>
    some (o4.1, (⟨a0.b, o4.2, (IntKind.wrap .i64 ((IntKind.wrap .i64 (a0.h * (6364136223846793005 : Int))) + (1442695040888963407 : Int)))⟩ : Sl1Cur)))))
/-! loop.example/g03012/spec.l1Below -/
noncomputable def S_l1Below (k : Nat) (a0 : Sl1Cur) (a1 : Int) : Option (Int × Sl1Cur) :=
    (bif (decide (a1 ≤ (0 : Int))) then some ((0 : Int), a0)
    else (bif (decide (a1 ≤ (256 : Int))) then ((S_l1Byte k a0).bind fun w1 =>
    ((md w1.1 a1).bind fun q2 =>
    some (q2, w1.2)))
    else ((S_l1Byte k a0).bind fun w3 =>
    ((S_l1Byte k w3.2).bind fun w4 =>
    ((S_l1Byte k w4.2).bind fun w5 =>
    ((md (IntKind.wrap .i64 ((IntKind.wrap .i64 ((IntKind.wrap .i64 (w3.1 * (65536 : Int))) + (IntKind.wrap .i64 (w4.1 * (256 : Int))))) + w5.1)) a1).bind fun q6 =>
    some (q6, w5.2)))))))
/-! loop.example/g03012/spec.l9Span -/
noncomputable def S_l9Span (k : Nat) (a0 : Sl1Cur) : Option (ISpan × Sl1Cur) :=
    ((S_l1Below k a0 (16 : Int)).bind fun w1 =>
    ((S_l1Below k w1.2 (6 : Int)).bind fun w2 =>
    some ((⟨w1.1, (IntKind.wrap .i64 (w1.1 + w2.1))⟩ : ISpan), w2.2)))
/-! loop.example/g03012/spec.IsSpanSet -/
noncomputable def S_IsSpanSet_b0 (k : Nat) : Nat → (List ISpan) → Int → Option (Oc (Unit) (Bool))
  | 0, _, _ => none
  | n + 1, x0, x3 =>
    (bif (decide (x3 < (x0.length : Int))) then ((idx x0 x3).bind fun e1 =>
    (bif (decide (e1.From < (0 : Int))) then some (.oth (false)) else ((idx x0 x3).bind fun e2 =>
    ((idx x0 x3).bind fun e3 =>
    (bif (decide (e2.From ≥ e3.To)) then some (.oth (false)) else ((idx x0 x3).bind fun e4 =>
    (bif (decide (e4.To > (1000000000000 : Int))) then some (.oth (false)) else (bif (decide (x3 > (0 : Int))) then ((idx x0 (IntKind.wrap .i64 (x3 - (1 : Int)))).bind fun e5 =>
    ((idx x0 x3).bind fun e6 =>
    (bif (decide (e5.To ≥ e6.From)) then some (.oth (false))
    else S_IsSpanSet_b0 k n x0 (IntKind.wrap .i64 (x3 + (1 : Int)))))) else S_IsSpanSet_b0 k n x0 (IntKind.wrap .i64 (x3 + (1 : Int)))))))))))
    else some (.nrm ()))
noncomputable def S_IsSpanSet (k : Nat) (a0 : List ISpan) : Option (Bool) :=
    ((S_IsSpanSet_b0 k k a0 (0 : Int)).bind fun o7 =>
    oc o7 (fun o8 => some true)
    (fun o9 => some o9))
/-! loop.example/g03012/spec.Min -/
noncomputable def S_Min (k : Nat) (a0 : Int) (a1 : Int) : Option (Int) :=
    (bif (decide (a1 < a0)) then some a1
    else some a0)
/-! loop.example/g03012/spec.Max -/
noncomputable def S_Max (k : Nat) (a0 : Int) (a1 : Int) : Option (Int) :=
    (bif (decide (a1 > a0)) then some a1
    else some a0)
/-! loop.example/g03012/spec.AddSpan -/
noncomputable def S_AddSpan_c46 (k : Nat) (x0 : List ISpan) (x6 : Int) (x46 : Bool) (y3_0 : Int) (y3_1 : Int) (r5 : List ISpan) : Option ((List ISpan)) :=
    (bif x46 then ((idx x0 x6).bind fun e7 =>
    ((app 16 r5 ([e7] : List ISpan)).bind fun u8 =>
    some (u8)))
    else some (r5))
noncomputable def S_AddSpan_b1 (k : Nat) (x0 : List ISpan) (x6 : Int) (y3_0 : Int) (y3_1 : Int) (r5 : List ISpan) : Option ((List ISpan)) :=
    ((idx x0 x6).bind fun e6 =>
    ((S_AddSpan_c46 k x0 x6 (decide (e6.To < y3_0)) y3_0 y3_1 r5).bind fun o7 =>
    some (o7)))
noncomputable def S_AddSpan_b0 (k : Nat) : Nat → (List ISpan) → Int → Int → Int → (List ISpan) → Option ((List ISpan))
  | 0, _, _, _, _, _ => none
  | n + 1, x0, x6, y3_0, y3_1, r5 =>
    (bif (decide (x6 < (x0.length : Int))) then ((S_AddSpan_b1 k x0 x6 y3_0 y3_1 r5).bind fun o6 =>
    S_AddSpan_b0 k n x0 (IntKind.wrap .i64 (x6 + (1 : Int))) y3_0 y3_1 o6)
    else some (r5))
noncomputable def S_AddSpan_c77 (k : Nat) (x0 : List ISpan) (x7 : Int) (x77 : Bool) (y3_0 : Int) (y3_1 : Int) (r5 : List ISpan) : Option (Int × Int) :=
    (bif x77 then ((idx x0 x7).bind fun e10 =>
    ((S_Min k y3_0 e10.From).bind fun w11 =>
    ((idx x0 x7).bind fun e12 =>
    ((S_Max k y3_1 e12.To).bind fun w13 =>
    some ((w11, w13))))))
    else some ((y3_0, y3_1)))
noncomputable def S_AddSpan_b3 (k : Nat) (x0 : List ISpan) (x7 : Int) (y3_0 : Int) (y3_1 : Int) (r5 : List ISpan) : Option (Int × Int) :=
    ((idx x0 x7).bind fun e8 =>
    (bif (decide (e8.To ≥ y3_0)) then ((idx x0 x7).bind fun e9 =>
    ((S_AddSpan_c77 k x0 x7 (decide (e9.From ≤ y3_1)) y3_0 y3_1 r5).bind fun o10 =>
    some ((o10.1, o10.2)))) else ((S_AddSpan_c77 k x0 x7 false y3_0 y3_1 r5).bind fun o11 =>
    some ((o11.1, o11.2)))))
noncomputable def S_AddSpan_b2 (k : Nat) : Nat → (List ISpan) → Int → Int → Int → (List ISpan) → Option (Int × Int)
  | 0, _, _, _, _, _ => none
  | n + 1, x0, x7, y3_0, y3_1, r5 =>
    (bif (decide (x7 < (x0.length : Int))) then ((S_AddSpan_b3 k x0 x7 y3_0 y3_1 r5).bind fun o8 =>
    S_AddSpan_b2 k n x0 (IntKind.wrap .i64 (x7 + (1 : Int))) o8.1 o8.2 r5)
    else some ((y3_0, y3_1)))
noncomputable def S_AddSpan_c112 (k : Nat) (x0 : List ISpan) (x8 : Int) (x112 : Bool) (y3_0 : Int) (y3_1 : Int) (r5 : List ISpan) : Option ((List ISpan)) :=
    (bif x112 then ((idx x0 x8).bind fun e12 =>
    ((app 16 r5 ([e12] : List ISpan)).bind fun u13 =>
    some (u13)))
    else some (r5))
noncomputable def S_AddSpan_b5 (k : Nat) (x0 : List ISpan) (x8 : Int) (y3_0 : Int) (y3_1 : Int) (r5 : List ISpan) : Option ((List ISpan)) :=
    ((idx x0 x8).bind fun e11 =>
    ((S_AddSpan_c112 k x0 x8 (decide (e11.From > y3_1)) y3_0 y3_1 r5).bind fun o12 =>
    some (o12)))
noncomputable def S_AddSpan_b4 (k : Nat) : Nat → (List ISpan) → Int → Int → Int → (List ISpan) → Option ((List ISpan))
  | 0, _, _, _, _, _ => none
  | n + 1, x0, x8, y3_0, y3_1, r5 =>
    (bif (decide (x8 < (x0.length : Int))) then ((S_AddSpan_b5 k x0 x8 y3_0 y3_1 r5).bind fun o11 =>
    S_AddSpan_b4 k n x0 (IntKind.wrap .i64 (x8 + (1 : Int))) y3_0 y3_1 o11)
    else some (r5))
noncomputable def S_AddSpan (k : Nat) (a0 : List ISpan) (a1 : ISpan) : Option ((List ISpan)) :=
    ((S_IsSpanSet k a0).bind fun w1 =>
    (bif (!w1) then ((app 16 ([] : List ISpan) a0).bind fun u2 =>
    some u2) else (bif (decide (a1.From < (0 : Int))) then ((app 16 ([] : List ISpan) a0).bind fun u3 =>
    some u3) else (bif (decide (a1.From ≥ a1.To)) then ((app 16 ([] : List ISpan) a0).bind fun u4 =>
    some u4) else (bif (decide (a1.To > (1000000000000 : Int))) then ((app 16 ([] : List ISpan) a0).bind fun u5 =>
    some u5)
    else ((S_AddSpan_b0 k k a0 (0 : Int) a1.From a1.To ([] : List ISpan)).bind fun o7 =>
    ((S_AddSpan_b2 k k a0 (0 : Int) a1.From a1.To o7).bind fun o9 =>
    ((app 16 o7 ([(⟨o9.1, o9.2⟩ : ISpan)] : List ISpan)).bind fun u10 =>
    ((S_AddSpan_b4 k k a0 (0 : Int) o9.1 o9.2 u10).bind fun o12 =>
    some o12)))))))))
/-! loop.example/g03012/spec.l1Once -/
noncomputable def S_l1Once (k : Nat) (a0 : Sl1Cur) (a1 : Int) : Option (Bool × Sl1Cur) :=
    ((S_l1Below k a0 a1).bind fun w1 =>
    some ((w1.1 == (0 : Int)), w1.2))
/-! loop.example/g03012/spec.l9Set -/
noncomputable def S_l9Set_b0 (k : Nat) : Nat → Int → (List Int) → Int → Int → (List ISpan) → Option ((List Int) × Int × Int × (List ISpan))
  | 0, _, _, _, _, _ => none
  | n + 1, x4, y700000_0, y700000_1, y700000_2, r3 =>
    (bif (decide (x4 > (0 : Int))) then ((S_l9Span k (⟨y700000_0, y700000_1, y700000_2⟩ : Sl1Cur)).bind fun w2 =>
    ((S_AddSpan k r3 w2.1).bind fun w3 =>
    S_l9Set_b0 k n (IntKind.wrap .i64 (x4 - (1 : Int))) w2.2.b w2.2.i w2.2.h w3))
    else some ((y700000_0, y700000_1, y700000_2, r3)))
noncomputable def S_l9Set_c17 (k : Nat) (x17 : Bool) (y700000_0 : List Int) (y700000_1 : Int) (y700000_2 : Int) (r3 : List ISpan) : Option ((List Int) × Int × Int × (List ISpan)) :=
    (bif x17 then ((S_l9Span k (⟨y700000_0, y700000_1, y700000_2⟩ : Sl1Cur)).bind fun w6 =>
    ((app 16 r3 ([w6.1] : List ISpan)).bind fun u7 =>
    some ((w6.2.b, w6.2.i, w6.2.h, u7))))
    else some ((y700000_0, y700000_1, y700000_2, r3)))
noncomputable def S_l9Set (k : Nat) (a0 : Sl1Cur) : Option ((List ISpan) × Sl1Cur) :=
    ((S_l1Below k a0 (5 : Int)).bind fun w1 =>
    ((S_l9Set_b0 k k w1.1 w1.2.b w1.2.i w1.2.h ([] : List ISpan)).bind fun o4 =>
    ((S_l1Once k (⟨o4.1, o4.2.1, o4.2.2.1⟩ : Sl1Cur) (9 : Int)).bind fun w5 =>
    ((S_l9Set_c17 k w5.1 w5.2.b w5.2.i w5.2.h o4.2.2.2).bind fun o8 =>
    some (o8.2.2.2, (⟨o8.1, o8.2.1, o8.2.2.1⟩ : Sl1Cur))))))
/-! loop.example/g03012/spec.l1Int -/
noncomputable def S_l1Int (k : Nat) (a0 : Sl1Cur) (a1 : List Int) : Option (Int × Sl1Cur) :=
    ((S_l1Below k a0 (a1.length : Int)).bind fun w1 =>
    ((idx a1 w1.1).bind fun e2 =>
    some (e2, w1.2)))
/-! loop.example/g03012/spec.l1Odd -/
noncomputable def S_l1Odd (k : Nat) (a0 : Sl1Cur) : Option (Int × Sl1Cur) :=
    ((S_l1Int k a0 ([(-1 : Int), (0 : Int), (1 : Int), (2 : Int), (255 : Int), (256 : Int), (65535 : Int), (2147483647 : Int), (2147483648 : Int), (4294967295 : Int), (4294967296 : Int), (-2147483648 : Int), (9223372036854775807 : Int), (-9223372036854775808 : Int)] : List Int)).bind fun w1 =>
    some (w1.1, w1.2))
/-! loop.example/g03012/spec.DrawAddSpan -/
noncomputable def S_DrawAddSpan_c14 (k : Nat) (x14 : Bool) (y3_0 : Int) (y3_1 : Int) (y8_0 : List Int) (y8_1 : Int) (y8_2 : Int) (r5 : List ISpan) (y6_0 : Int) (y6_1 : Int) : Option (Int) :=
    (bif x14 then ((S_l1Odd k (⟨y8_0, y8_1, y8_2⟩ : Sl1Cur)).bind fun w5 =>
    some (w5.1))
    else some (y6_0))
noncomputable def S_DrawAddSpan (k : Nat) (a0 : List Int) : Option ((List ISpan) × ISpan) :=
    ((S_l1New k a0).bind fun w1 =>
    ((S_l9Set k w1).bind fun w2 =>
    ((S_l9Span k w2.2).bind fun w3 =>
    ((S_l1Once k w3.2 (9 : Int)).bind fun w4 =>
    ((S_DrawAddSpan_c14 k w4.1 (0 : Int) (0 : Int) w4.2.b w4.2.i w4.2.h w2.1 w3.1.From w3.1.To).bind fun o6 =>
    some (w2.1, (⟨o6, w3.1.To⟩ : ISpan)))))))
/-! loop.example/g03012/impl.IsSpanSet -/
noncomputable def I_IsSpanSet_b0 (k : Nat) : Nat → (List ISpan) → (List ISpan) → Int → Int → Option (Oc (Unit) (Bool))
  | 0, _, _, _, _ => none
  | n + 1, x0, x5, x6, x7 =>
    (bif (decide (x7 < x6)) then ((idx x5 x7).bind fun e1 =>
    (bif (decide (e1.From < (0 : Int))) then some (.oth (false)) else (bif (decide (e1.From ≥ e1.To)) then some (.oth (false)) else (bif (decide (e1.To > (1000000000000 : Int))) then some (.oth (false)) else (bif (decide (x7 > (0 : Int))) then ((idx x0 (IntKind.wrap .i64 (x7 - (1 : Int)))).bind fun e2 =>
    (bif (decide (e2.To ≥ e1.From)) then some (.oth (false))
    else I_IsSpanSet_b0 k n x0 x5 x6 (IntKind.wrap .i64 (x7 + (1 : Int))))) else I_IsSpanSet_b0 k n x0 x5 x6 (IntKind.wrap .i64 (x7 + (1 : Int))))))))
    else some (.nrm ()))
noncomputable def I_IsSpanSet (k : Nat) (a0 : List ISpan) : Option (Bool) :=
    ((I_IsSpanSet_b0 k k a0 a0 (a0.length : Int) (0 : Int)).bind fun o3 =>
    oc o3 (fun o4 => some true)
    (fun o5 => some o5))
/-! slices.Clone[[]loop.example/g03012/impl.Span,loop.example/g03012/impl.Span] -/
noncomputable def slices_Clone_ISpan (k : Nat) (a0 : List ISpan) : Option ((List ISpan)) :=
    app 16 [] a0
/-! loop.example/g03012/impl.AddSpan -/
noncomputable def I_AddSpan_b0 (k : Nat) : Nat → (List ISpan) → Int → Int → Int → (List ISpan) → Option (Int × (List ISpan))
  | 0, _, _, _, _, _ => none
  | n + 1, x0, x6, y3_0, y3_1, r5 =>
    (bif (decide (x6 < (x0.length : Int))) then ((idx x0 x6).bind fun e6 =>
    (bif (decide (e6.To < y3_0)) then ((idx x0 x6).bind fun e7 =>
    ((app 16 r5 ([e7] : List ISpan)).bind fun u8 =>
    I_AddSpan_b0 k n x0 (IntKind.wrap .i64 (x6 + (1 : Int))) y3_0 y3_1 u8))
    else some ((x6, r5)))) else some ((x6, r5)))
noncomputable def I_AddSpan_b2 (k : Nat) : Nat → (List ISpan) → Int → Int → Int → (List ISpan) → Option (Int × Int × Int)
  | 0, _, _, _, _, _ => none
  | n + 1, x0, x6, y3_0, y3_1, r5 =>
    (bif (decide (x6 < (x0.length : Int))) then ((idx x0 x6).bind fun e10 =>
    (bif (decide (e10.From ≤ y3_1)) then ((idx x0 x6).bind fun e11 =>
    ((idx x0 x6).bind fun e12 =>
    I_AddSpan_b2 k n x0 (IntKind.wrap .i64 (x6 + (1 : Int))) (if e11.From < y3_0 then e11.From else y3_0) (if e12.To > y3_1 then e12.To else y3_1) r5))
    else some ((x6, y3_0, y3_1)))) else some ((x6, y3_0, y3_1)))
noncomputable def I_AddSpan (k : Nat) (a0 : List ISpan) (a1 : ISpan) : Option ((List ISpan)) :=
    ((I_IsSpanSet k a0).bind fun w1 =>
    (bif (!w1) then ((slices_Clone_ISpan k a0).bind fun w2 =>
    some w2) else (bif (decide (a1.From ≥ a1.To)) then ((slices_Clone_ISpan k a0).bind fun w3 =>
    some w3) else (bif (decide (a1.From < (0 : Int))) then ((slices_Clone_ISpan k a0).bind fun w4 =>
    some w4) else (bif (decide (a1.To > (1000000000000 : Int))) then ((slices_Clone_ISpan k a0).bind fun w5 =>
    some w5)
    else ((I_AddSpan_b0 k k a0 (0 : Int) a1.From a1.To ([] : List ISpan)).bind fun o9 =>
    ((I_AddSpan_b2 k k a0 o9.1 a1.From a1.To o9.2).bind fun o13 =>
    ((app 16 o9.2 ([(⟨o13.2.1, o13.2.2⟩ : ISpan)] : List ISpan)).bind fun u14 =>
    ((ssub a0 o13.1 (a0.length : Int)).bind fun t15 =>
    ((app 16 u14 t15).bind fun u16 =>
    some u16))))))))))
/-! loop.example/g03012/spec.DrawMissingSpans -/
noncomputable def S_DrawMissingSpans (k : Nat) (a0 : List Int) : Option ((List ISpan) × ISpan) :=
    ((S_l1New k a0).bind fun w1 =>
    ((S_l9Set k w1).bind fun w2 =>
    ((S_l9Span k w2.2).bind fun w3 =>
    some (w2.1, w3.1))))
/-! loop.example/g03012/impl.MissingSpans -/
noncomputable def I_MissingSpans_c12 (k : Nat) (x0 : List ISpan) (x12 : Bool) (y3_0 : Int) (y3_1 : Int) (r5 : List ISpan) : Option ((List ISpan)) :=
    (bif x12 then some ([])
    else some (x0))
noncomputable def I_MissingSpans_c35 (k : Nat) (x6 : Int) (x15 : List ISpan) (x16 : Int) (x17 : Int) (x35 : Bool) (y3_0 : Int) (y3_1 : Int) (r5 : List ISpan) (y8_0 : Int) (y8_1 : Int) : Option ((List ISpan)) :=
    (bif x35 then ((app 16 r5 ([(⟨x6, y8_0⟩ : ISpan)] : List ISpan)).bind fun u4 =>
    some (u4))
    else some (r5))
noncomputable def I_MissingSpans_b1 (k : Nat) (x6 : Int) (x15 : List ISpan) (x16 : Int) (x17 : Int) (y3_0 : Int) (y3_1 : Int) (r5 : List ISpan) : Option (Int × (List ISpan)) :=
    ((idx x15 x17).bind fun e3 =>
    (bif (decide (e3.To ≤ x6)) then some ((x6, r5)) else (bif (decide (e3.From ≥ y3_1)) then some ((x6, r5))
    else ((I_MissingSpans_c35 k x6 x15 x16 x17 (decide (e3.From > x6)) y3_0 y3_1 r5 e3.From e3.To).bind fun o4 =>
    some ((e3.To, o4))))))
noncomputable def I_MissingSpans_b0 (k : Nat) : Nat → Int → (List ISpan) → Int → Int → Int → Int → (List ISpan) → Option (Int × (List ISpan))
  | 0, _, _, _, _, _, _, _ => none
  | n + 1, x6, x15, x16, x17, y3_0, y3_1, r5 =>
    (bif (decide (x17 < x16)) then ((I_MissingSpans_b1 k x6 x15 x16 x17 y3_0 y3_1 r5).bind fun o3 =>
    I_MissingSpans_b0 k n o3.1 x15 x16 (IntKind.wrap .i64 (x17 + (1 : Int))) y3_0 y3_1 o3.2)
    else some ((x6, r5)))
noncomputable def I_MissingSpans_c49 (k : Nat) (x6 : Int) (x49 : Bool) (y3_0 : Int) (y3_1 : Int) (r5 : List ISpan) : Option ((List ISpan)) :=
    (bif x49 then ((app 16 r5 ([(⟨x6, y3_1⟩ : ISpan)] : List ISpan)).bind fun u5 =>
    some (u5))
    else some (r5))
noncomputable def I_MissingSpans (k : Nat) (a0 : List ISpan) (a1 : ISpan) : Option ((List ISpan)) :=
    ((I_IsSpanSet k a0).bind fun w1 =>
    ((I_MissingSpans_c12 k a0 (!w1) a1.From a1.To ([] : List ISpan)).bind fun o2 =>
    ((I_MissingSpans_b0 k k a1.From o2 (o2.length : Int) (0 : Int) a1.From a1.To ([] : List ISpan)).bind fun o4 =>
    ((I_MissingSpans_c49 k o4.1 (decide (o4.1 < a1.To)) a1.From a1.To o4.2).bind fun o6 =>
    some o6))))
/-! loop.example/g03012/impl.CoversSpan$1 -/
noncomputable def I_CoversSpan_1 (k : Nat) (a0 : ISpan) (f0_0 : Int) (f0_1 : Int) : Option (Bool) :=
    (bif (decide (a0.From ≤ f0_0)) then some (decide (f0_1 ≤ a0.To)) else some false)
/-! slices.IndexFunc[[]loop.example/g03012/impl.Span,loop.example/g03012/impl.Span] -/
noncomputable def slices_IndexFunc_ISpan_at_I_CoversSpan_1_b0 (k : Nat) : Nat → (List ISpan) → Int → Int → Int → Int → Option (Oc (Unit) (Int))
  | 0, _, _, _, _, _ => none
  | n + 1, x0, x1_0_0, x1_0_1, x7, x8 =>
    (bif (decide (x8 < x7)) then ((idx x0 x8).bind fun e1 =>
    ((I_CoversSpan_1 k e1 x1_0_0 x1_0_1).bind fun w2 =>
    (bif w2 then some (.oth (x8))
    else slices_IndexFunc_ISpan_at_I_CoversSpan_1_b0 k n x0 x1_0_0 x1_0_1 x7 (IntKind.wrap .i64 (x8 + (1 : Int))))))
    else some (.nrm ()))
noncomputable def slices_IndexFunc_ISpan_at_I_CoversSpan_1 (k : Nat) (a0 : List ISpan) (a1_0_0 : Int) (a1_0_1 : Int) : Option (Int) :=
    ((slices_IndexFunc_ISpan_at_I_CoversSpan_1_b0 k k a0 a1_0_0 a1_0_1 (a0.length : Int) (0 : Int)).bind fun o3 =>
    oc o3 (fun o4 => some (-1 : Int))
    (fun o5 => some o5))
/-! slices.ContainsFunc[[]loop.example/g03012/impl.Span,loop.example/g03012/impl.Span] -/
noncomputable def slices_ContainsFunc_ISpan_at_I_CoversSpan_1 (k : Nat) (a0 : List ISpan) (a1_0_0 : Int) (a1_0_1 : Int) : Option (Bool) :=
    ((slices_IndexFunc_ISpan_at_I_CoversSpan_1 k a0 a1_0_0 a1_0_1).bind fun w1 =>
    some (decide (w1 ≥ (0 : Int))))
/-! loop.example/g03012/impl.CoversSpan -/
noncomputable def I_CoversSpan (k : Nat) (a0 : List ISpan) (a1 : ISpan) : Option (Bool) :=
    (bif (decide (a1.From ≥ a1.To)) then some true
    else ((slices_ContainsFunc_ISpan_at_I_CoversSpan_1 k a0 a1.From a1.To).bind fun w1 =>
    some w1))
/-! loop.example/g03012/spec.CoversSpan -/
noncomputable def S_CoversSpan_b0 (k : Nat) : Nat → (List ISpan) → Int → Int → Int → Option (Oc (Unit) (Bool))
  | 0, _, _, _, _ => none
  | n + 1, x0, x5, y3_0, y3_1 =>
    (bif (decide (x5 < (x0.length : Int))) then ((idx x0 x5).bind fun e1 =>
    (bif (decide (e1.From ≤ y3_0)) then ((idx x0 x5).bind fun e2 =>
    (bif (decide (y3_1 ≤ e2.To)) then some (.oth (true))
    else S_CoversSpan_b0 k n x0 (IntKind.wrap .i64 (x5 + (1 : Int))) y3_0 y3_1)) else S_CoversSpan_b0 k n x0 (IntKind.wrap .i64 (x5 + (1 : Int))) y3_0 y3_1))
    else some (.nrm ()))
noncomputable def S_CoversSpan (k : Nat) (a0 : List ISpan) (a1 : ISpan) : Option (Bool) :=
    ((S_CoversSpan_b0 k k a0 (0 : Int) a1.From a1.To).bind fun o3 =>
    oc o3 (fun o4 => some (decide (a1.From ≥ a1.To)))
    (fun o5 => some o5))
/-! loop.example/g03012/spec.DrawUniteSpans -/
noncomputable def S_DrawUniteSpans_b0 (k : Nat) : Nat → Int → (List Int) → Int → Int → (List ISpan) → Option ((List ISpan))
  | 0, _, _, _, _, _ => none
  | n + 1, x5, y7_0, y7_1, y7_2, r4 =>
    (bif (decide (x5 > (0 : Int))) then ((S_l9Span k (⟨y7_0, y7_1, y7_2⟩ : Sl1Cur)).bind fun w3 =>
    ((app 16 r4 ([w3.1] : List ISpan)).bind fun u4 =>
    S_DrawUniteSpans_b0 k n (IntKind.wrap .i64 (x5 - (1 : Int))) w3.2.b w3.2.i w3.2.h u4))
    else some (r4))
noncomputable def S_DrawUniteSpans (k : Nat) (a0 : List Int) : Option ((List ISpan)) :=
    ((S_l1New k a0).bind fun w1 =>
    ((S_l1Below k w1 (6 : Int)).bind fun w2 =>
    ((S_DrawUniteSpans_b0 k k w2.1 w2.2.b w2.2.i w2.2.h ([] : List ISpan)).bind fun o5 =>
    some o5)))
/-! loop.example/g03012/impl.UniteSpans -/
noncomputable def I_UniteSpans_b0 (k : Nat) : Nat → (List ISpan) → Int → Int → (List ISpan) → Option ((List ISpan))
  | 0, _, _, _, _ => none
  | n + 1, x7, x8, x9, r3 =>
    (bif (decide (x9 < x8)) then ((idx x7 x9).bind fun e1 =>
    ((I_AddSpan k r3 e1).bind fun w2 =>
    I_UniteSpans_b0 k n x7 x8 (IntKind.wrap .i64 (x9 + (1 : Int))) w2))
    else some (r3))
noncomputable def I_UniteSpans (k : Nat) (a0 : List ISpan) : Option ((List ISpan)) :=
    ((I_UniteSpans_b0 k k a0 (a0.length : Int) (0 : Int) ([] : List ISpan)).bind fun o3 =>
    some o3)
/-! loop.example/g03012/impl.SpanSize -/
noncomputable def I_SpanSize_b0 (k : Nat) : Nat → Int → (List ISpan) → Int → Int → Option (Int)
  | 0, _, _, _, _ => none
  | n + 1, x3, x6, x7, x8 =>
    (bif (decide (x8 < x7)) then ((idx x6 x8).bind fun e1 =>
    I_SpanSize_b0 k n (IntKind.wrap .i64 (x3 + (IntKind.wrap .i64 (e1.To - e1.From)))) x6 x7 (IntKind.wrap .i64 (x8 + (1 : Int))))
    else some (x3))
noncomputable def I_SpanSize (k : Nat) (a0 : List ISpan) : Option (Int) :=
    ((I_SpanSize_b0 k k (0 : Int) a0 (a0.length : Int) (0 : Int)).bind fun o2 =>
    some o2)
/-! loop.example/g03012/laws.FnIntervals -/
noncomputable def L_FnIntervals_b0 (k : Nat) : Nat → (List Int) → Bool → Int → (List ISpan) → Int → Int → (List ISpan) → (List ISpan) → Int → Int → (List ISpan) → Option (Oc (Unit) (Bool))
  | 0, _, _, _, _, _, _, _, _, _, _, _ => none
  | n + 1, x0, x9, x10, r3, y4_0, y4_1, r5, r6, y7_0, y7_1, r8 =>
    (bif (decide (x10 < (40 : Int))) then (bif x9 then (bif (decide (y4_0 ≥ (0 : Int))) then ((I_CoversSpan k r5 (⟨x10, (IntKind.wrap .i64 (x10 + (1 : Int)))⟩ : ISpan)).bind fun w7 =>
    ((S_CoversSpan k r3 (⟨x10, (IntKind.wrap .i64 (x10 + (1 : Int)))⟩ : ISpan)).bind fun w8 =>
    (bif w8 then (bif (!(w7 == true)) then some (.oth (false))
    else ((S_IsSpanSet k r6).bind fun w9 =>
    (bif w9 then ((S_CoversSpan k r8 (⟨x10, (IntKind.wrap .i64 (x10 + (1 : Int)))⟩ : ISpan)).bind fun w10 =>
    (bif (decide (y7_0 ≤ x10)) then (bif (decide (x10 < y7_1)) then ((S_CoversSpan k r6 (⟨x10, (IntKind.wrap .i64 (x10 + (1 : Int)))⟩ : ISpan)).bind fun w11 =>
    (bif (!(w10 == (!w11))) then some (.oth (false))
    else L_FnIntervals_b0 k n x0 x9 (IntKind.wrap .i64 (x10 + (1 : Int))) r3 y4_0 y4_1 r5 r6 y7_0 y7_1 r8)) else (bif (!(w10 == false)) then some (.oth (false))
    else L_FnIntervals_b0 k n x0 x9 (IntKind.wrap .i64 (x10 + (1 : Int))) r3 y4_0 y4_1 r5 r6 y7_0 y7_1 r8)) else (bif (!(w10 == false)) then some (.oth (false))
    else L_FnIntervals_b0 k n x0 x9 (IntKind.wrap .i64 (x10 + (1 : Int))) r3 y4_0 y4_1 r5 r6 y7_0 y7_1 r8))) else L_FnIntervals_b0 k n x0 x9 (IntKind.wrap .i64 (x10 + (1 : Int))) r3 y4_0 y4_1 r5 r6 y7_0 y7_1 r8))) else (bif (decide (y4_0 ≤ x10)) then (bif (decide (x10 < y4_1)) then (bif (!(w7 == (decide (y4_1 ≤ (1000000000000 : Int))))) then some (.oth (false))
    else ((S_IsSpanSet k r6).bind fun w12 =>
    (bif w12 then ((S_CoversSpan k r8 (⟨x10, (IntKind.wrap .i64 (x10 + (1 : Int)))⟩ : ISpan)).bind fun w13 =>
    (bif (decide (y7_0 ≤ x10)) then (bif (decide (x10 < y7_1)) then ((S_CoversSpan k r6 (⟨x10, (IntKind.wrap .i64 (x10 + (1 : Int)))⟩ : ISpan)).bind fun w14 =>
    (bif (!(w13 == (!w14))) then some (.oth (false))
    else L_FnIntervals_b0 k n x0 x9 (IntKind.wrap .i64 (x10 + (1 : Int))) r3 y4_0 y4_1 r5 r6 y7_0 y7_1 r8)) else (bif (!(w13 == false)) then some (.oth (false))
    else L_FnIntervals_b0 k n x0 x9 (IntKind.wrap .i64 (x10 + (1 : Int))) r3 y4_0 y4_1 r5 r6 y7_0 y7_1 r8)) else (bif (!(w13 == false)) then some (.oth (false))
    else L_FnIntervals_b0 k n x0 x9 (IntKind.wrap .i64 (x10 + (1 : Int))) r3 y4_0 y4_1 r5 r6 y7_0 y7_1 r8))) else L_FnIntervals_b0 k n x0 x9 (IntKind.wrap .i64 (x10 + (1 : Int))) r3 y4_0 y4_1 r5 r6 y7_0 y7_1 r8))) else (bif (!(w7 == false)) then some (.oth (false))
    else ((S_IsSpanSet k r6).bind fun w15 =>
    (bif w15 then ((S_CoversSpan k r8 (⟨x10, (IntKind.wrap .i64 (x10 + (1 : Int)))⟩ : ISpan)).bind fun w16 =>
    (bif (decide (y7_0 ≤ x10)) then (bif (decide (x10 < y7_1)) then ((S_CoversSpan k r6 (⟨x10, (IntKind.wrap .i64 (x10 + (1 : Int)))⟩ : ISpan)).bind fun w17 =>
    (bif (!(w16 == (!w17))) then some (.oth (false))
    else L_FnIntervals_b0 k n x0 x9 (IntKind.wrap .i64 (x10 + (1 : Int))) r3 y4_0 y4_1 r5 r6 y7_0 y7_1 r8)) else (bif (!(w16 == false)) then some (.oth (false))
    else L_FnIntervals_b0 k n x0 x9 (IntKind.wrap .i64 (x10 + (1 : Int))) r3 y4_0 y4_1 r5 r6 y7_0 y7_1 r8)) else (bif (!(w16 == false)) then some (.oth (false))
    else L_FnIntervals_b0 k n x0 x9 (IntKind.wrap .i64 (x10 + (1 : Int))) r3 y4_0 y4_1 r5 r6 y7_0 y7_1 r8))) else L_FnIntervals_b0 k n x0 x9 (IntKind.wrap .i64 (x10 + (1 : Int))) r3 y4_0 y4_1 r5 r6 y7_0 y7_1 r8)))) else (bif (!(w7 == false)) then some (.oth (false))
    else ((S_IsSpanSet k r6).bind fun w18 =>
    (bif w18 then ((S_CoversSpan k r8 (⟨x10, (IntKind.wrap .i64 (x10 + (1 : Int)))⟩ : ISpan)).bind fun w19 =>
    (bif (decide (y7_0 ≤ x10)) then (bif (decide (x10 < y7_1)) then ((S_CoversSpan k r6 (⟨x10, (IntKind.wrap .i64 (x10 + (1 : Int)))⟩ : ISpan)).bind fun w20 =>
    (bif (!(w19 == (!w20))) then some (.oth (false))
    else L_FnIntervals_b0 k n x0 x9 (IntKind.wrap .i64 (x10 + (1 : Int))) r3 y4_0 y4_1 r5 r6 y7_0 y7_1 r8)) else (bif (!(w19 == false)) then some (.oth (false))
    else L_FnIntervals_b0 k n x0 x9 (IntKind.wrap .i64 (x10 + (1 : Int))) r3 y4_0 y4_1 r5 r6 y7_0 y7_1 r8)) else (bif (!(w19 == false)) then some (.oth (false))
    else L_FnIntervals_b0 k n x0 x9 (IntKind.wrap .i64 (x10 + (1 : Int))) r3 y4_0 y4_1 r5 r6 y7_0 y7_1 r8))) else L_FnIntervals_b0 k n x0 x9 (IntKind.wrap .i64 (x10 + (1 : Int))) r3 y4_0 y4_1 r5 r6 y7_0 y7_1 r8)))))))
    else some (.nrm ())) else some (.nrm ())) else some (.nrm ()))
noncomputable def L_FnIntervals_b2 (k : Nat) : Nat → Bool → Int → (List ISpan) → (List ISpan) → (List ISpan) → Option (Oc (Unit) (Bool))
  | 0, _, _, _, _, _ => none
  | n + 1, x9, x14, r5, r12, r13 =>
    (bif (decide (x14 < (r12.length : Int))) then ((idx r12 x14).bind fun _ =>
    ((idx r12 x14).bind fun e26 =>
    (bif (decide (e26.From ≥ (0 : Int))) then ((idx r12 x14).bind fun _ =>
    ((idx r12 x14).bind fun e27 =>
    ((I_CoversSpan k r13 e27).bind fun w28 =>
    (bif (!w28) then some (.oth (false))
    else L_FnIntervals_b2 k n x9 (IntKind.wrap .i64 (x14 + (1 : Int))) r5 r12 r13)))) else L_FnIntervals_b2 k n x9 (IntKind.wrap .i64 (x14 + (1 : Int))) r5 r12 r13)))
    else some (.nrm ()))
noncomputable def L_FnIntervals (k : Nat) (a0 : List Int) : Option (Bool) :=
    ((L_big k a0).bind fun w1 =>
    (bif w1 then some true
    else ((S_DrawAddSpan k a0).bind fun w2 =>
    ((I_AddSpan k w2.1 w2.2).bind fun w3 =>
    ((S_DrawMissingSpans k a0).bind fun w4 =>
    ((I_MissingSpans k w4.1 w4.2).bind fun w5 =>
    ((S_IsSpanSet k w2.1).bind fun w6 =>
    ((L_FnIntervals_b0 k k a0 w6 (0 : Int) w2.1 w2.2.From w2.2.To w3 w4.1 w4.2.From w4.2.To w5).bind fun o21 =>
    oc o21 (fun o22 => ((S_DrawUniteSpans k a0).bind fun w24 =>
    ((I_UniteSpans k w24).bind fun w25 =>
    ((L_FnIntervals_b2 k k w6 (0 : Int) w3 w24 w25).bind fun o29 =>
    oc o29 (fun o30 => (bif (!w6) then ((I_IsSpanSet k w25).bind fun w32 =>
    (bif w32 then ((S_IsSpanSet k w25).bind fun w33 =>
    (bif w33 then ((I_SpanSize k w25).bind fun w34 =>
    ((I_SpanSize k w24).bind fun w35 =>
    some (decide (w34 ≤ w35)))) else some false)) else some false)) else ((I_IsSpanSet k w3).bind fun w36 =>
    (bif w36 then ((I_IsSpanSet k w25).bind fun w37 =>
    (bif w37 then ((S_IsSpanSet k w25).bind fun w38 =>
    (bif w38 then ((I_SpanSize k w25).bind fun w39 =>
    ((I_SpanSize k w24).bind fun w40 =>
    some (decide (w39 ≤ w40)))) else some false)) else some false)) else some false))))
    (fun o31 => some o31)))))
    (fun o23 => some o23)))))))))

end
end Go.Ytolmhhnhmbiofaa
