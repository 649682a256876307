/- Functions over lists. Nothing is claimed here. -/
import Derived.Test.YtgdjicnefdnofaaDoorKt
set_option linter.unusedVariables false
set_option linter.unusedSimpArgs false
set_option maxRecDepth 100000
namespace Go.YtgdjicnefdnofaaDoor
open Go Go.RowKit Go.Pv
noncomputable section

/-! loop.example/g03012/laws.big -/
noncomputable def L_big (k : Nat) (a0 : List Int) : Option (Bool) :=
    some (decide ((a0.length : Int) > (1048576 : Int)))
/-! loop.example/g03012/spec.l1New -/
noncomputable def S_l1New_b0 (k : Nat) : Nat → (List Int) → Int → Int → Option (Int)
  | 0, _, _, _ => none
  | n + 1, x0, x3, x4 =>
    (bif (decide (x4 < (x0.length : Int))) then (bif (decide (x4 < (4000 : Int))) then ((idx x0 x4).bind fun e1 =>
    S_l1New_b0 k n x0 (andI .i64 (IntKind.wrap .i64 ((IntKind.wrap .i64 ((IntKind.wrap .i64 (x3 * (139 : Int))) + (IntKind.wrap .i64 e1))) + (11 : Int))) (1073741823 : Int)) (IntKind.wrap .i64 (x4 + (1 : Int))))
    else some (x3)) else some (x3))
noncomputable def S_l1New (k : Nat) (a0 : List Int) : Option (Sl1Cur) :=
    ((S_l1New_b0 k k a0 (IntKind.wrap .i64 ((271091 : Int) + (a0.length : Int))) (0 : Int)).bind fun o2 =>
    some (⟨a0, (0 : Int), o2⟩ : Sl1Cur))
/-! loop.example/g03012/spec.l1Byte -/
noncomputable def S_l1Byte_c34 (k : Nat) (x3 : Int) (x34 : Bool) (y700000_0 : List Int) (y700000_1 : Int) (y700000_2 : Int) : Option (Int × Int) :=
    (bif x34 then ((idx y700000_0 y700000_1).bind fun e3 =>
    some (((andI .i64 (IntKind.wrap .i64 (x3 + (IntKind.wrap .i64 e3))) (255 : Int)), (IntKind.wrap .i64 (y700000_1 + (1 : Int))))))
    else some ((x3, y700000_1)))
noncomputable def S_l1Byte (k : Nat) (a0 : Sl1Cur) : Option (Int × Sl1Cur) :=
    ((shrI .i64 (IntKind.wrap .i64 ((IntKind.wrap .i64 (a0.h * (6364136223846793005 : Int))) + (1442695040888963407 : Int))) (33 : Int)).bind fun q1 =>
    ((shrI .i64 (IntKind.wrap .i64 ((IntKind.wrap .i64 (a0.h * (6364136223846793005 : Int))) + (1442695040888963407 : Int))) (47 : Int)).bind fun q2 =>
    ((S_l1Byte_c34 k (andI .i64 (xorI .i64 q1 q2) (255 : Int)) (decide (a0.i < (a0.b.length : Int))) a0.b a0.i (IntKind.wrap .i64 ((IntKind.wrap .i64 (a0.h * (6364136223846793005 : Int))) + (1442695040888963407 : Int)))).bind fun o4 =>
    some (o4.1, (⟨a0.b, o4.2, (IntKind.wrap .i64 ((IntKind.wrap .i64 (a0.h * (6364136223846793005 : Int))) + (1442695040888963407 : Int)))⟩ : Sl1Cur)))))
/-! loop.example/g03012/spec.l1Below -/
noncomputable def S_l1Below (k : Nat) (a0 : Sl1Cur) (a1 : Int) : Option (Int × Sl1Cur) :=
    (bif (decide (a1 ≤ (0 : Int))) then some ((0 : Int), a0)
    else (bif (decide (a1 ≤ (256 : Int))) then ((S_l1Byte k a0).bind fun w1 =>
    ((md w1.1 a1).bind fun q2 =>
    some (q2, w1.2)))
    else ((S_l1Byte k a0).bind fun w3 =>
    ((S_l1Byte k w3.2).bind fun w4 =>
    ((S_l1Byte k w4.2).bind fun w5 =>
    ((md (IntKind.wrap .i64 ((IntKind.wrap .i64 ((IntKind.wrap .i64 (w3.1 * (65536 : Int))) + (IntKind.wrap .i64 (w4.1 * (256 : Int))))) + w5.1)) a1).bind fun q6 =>
    some (q6, w5.2)))))))
/-! loop.example/g03012/spec.l1Str -/
noncomputable def S_l1Str (k : Nat) (a0 : Sl1Cur) (a1 : List (List UInt8)) : Option ((List UInt8) × Sl1Cur) :=
    ((S_l1Below k a0 (a1.length : Int)).bind fun w1 =>
    ((idx a1 w1.1).bind fun e2 =>
    some (e2, w1.2)))
/-! loop.example/g03012/spec.l11Target -/
noncomputable def S_l11Target (k : Nat) (a0 : Sl1Cur) : Option ((List UInt8) × Sl1Cur) :=
    ((S_l1Str k a0 ([([47, 97] : List UInt8), ([47, 98] : List UInt8), ([47, 97, 63, 120, 61, 49, 38, 121, 61, 50] : List UInt8), ([47, 97, 63, 121, 61, 50, 38, 120, 61, 49] : List UInt8), ([47, 46, 47, 97] : List UInt8), ([47, 99, 47, 46, 46, 47, 97] : List UInt8), ([47, 37, 54, 49] : List UInt8), ([47, 112] : List UInt8), ([47, 112, 97, 103, 101] : List UInt8), ([47, 108, 97, 110, 103] : List UInt8), ([47, 109, 105, 110, 101] : List UInt8), ([47, 110, 111, 110, 101] : List UInt8), ([47, 98, 105, 103] : List UInt8), ([47, 65] : List UInt8), ([47, 97, 63] : List UInt8)] : List (List UInt8))).bind fun w1 =>
    some (w1.1, w1.2))
/-! loop.example/g03012/spec.l5Draw -/
noncomputable def S_l5Draw_b0 (k : Nat) : Nat → Int → (List Int) → Int → Int → (List IField) → Option ((List Int) × Int × Int × (List IField))
  | 0, _, _, _, _, _ => none
  | n + 1, x4, y700000_0, y700000_1, y700000_2, r3 =>
    (bif (decide (x4 > (0 : Int))) then ((S_l1Str k (⟨y700000_0, y700000_1, y700000_2⟩ : Sl1Cur) ([([97, 99, 99, 101, 112, 116, 45, 108, 97, 110, 103, 117, 97, 103, 101] : List UInt8), ([97] : List UInt8), ([98] : List UInt8), ([99, 97, 99, 104, 101, 45, 99, 111, 110, 116, 114, 111, 108] : List UInt8), ([120, 45, 107] : List UInt8), ([97] : List UInt8)] : List (List UInt8))).bind fun w2 =>
    ((S_l1Str k w2.2 ([([] : List UInt8), ([100, 101, 44, 32, 101, 110] : List UInt8), ([110, 111, 45, 99, 97, 99, 104, 101] : List UInt8), ([49] : List UInt8), ([120, 32, 32, 121] : List UInt8), ([109, 97, 120, 45, 97, 103, 101, 61, 53] : List UInt8), ([34, 113, 34] : List UInt8)] : List (List UInt8))).bind fun w3 =>
    ((app 32 r3 ([(⟨w2.1, w3.1⟩ : IField)] : List IField)).bind fun u4 =>
    S_l5Draw_b0 k n (IntKind.wrap .i64 (x4 - (1 : Int))) w3.2.b w3.2.i w3.2.h u4)))
    else some ((y700000_0, y700000_1, y700000_2, r3)))
noncomputable def S_l5Draw (k : Nat) (a0 : Sl1Cur) : Option ((List IField) × Sl1Cur) :=
    ((S_l1Below k a0 (6 : Int)).bind fun w1 =>
    ((S_l5Draw_b0 k k w1.1 w1.2.b w1.2.i w1.2.h ([] : List IField)).bind fun o5 =>
    some (o5.2.2.2, (⟨o5.1, o5.2.1, o5.2.2.1⟩ : Sl1Cur))))
/-! loop.example/g03012/spec.l1Once -/
noncomputable def S_l1Once (k : Nat) (a0 : Sl1Cur) (a1 : Int) : Option (Bool × Sl1Cur) :=
    ((S_l1Below k a0 a1).bind fun w1 =>
    some ((w1.1 == (0 : Int)), w1.2))
/-! loop.example/g03012/spec.l11Request -/
noncomputable def S_l11Request_c16 (k : Nat) (x16 : Bool) (y700000_0 : List Int) (y700000_1 : Int) (y700000_2 : Int) (y2_0 : List UInt8) (y2_1 : List UInt8) (y2_2 : List UInt8) (y3_0 : List UInt8) (y3_1 : List UInt8) (y3_2 : List UInt8) (r100000303 : List IField) : Option ((List Int) × Int × Int × (List UInt8)) :=
    (bif x16 then ((S_l1Str k (⟨y700000_0, y700000_1, y700000_2⟩ : Sl1Cur) ([([97] : List UInt8), ([47, 97, 32, 98] : List UInt8), ([47, 195, 169] : List UInt8), ([42] : List UInt8)] : List (List UInt8))).bind fun w6 =>
    some ((w6.2.b, w6.2.i, w6.2.h, w6.1)))
    else some ((y700000_0, y700000_1, y700000_2, y3_2)))
noncomputable def S_l11Request (k : Nat) (a0 : Sl1Cur) : Option (IRequest × Sl1Cur) :=
    ((S_l1Str k a0 ([([71, 69, 84] : List UInt8), ([71, 69, 84] : List UInt8), ([71, 69, 84] : List UInt8), ([72, 69, 65, 68] : List UInt8), ([80, 79, 83, 84] : List UInt8), ([103, 101, 116] : List UInt8)] : List (List UInt8))).bind fun w1 =>
    ((S_l1Str k w1.2 ([([104, 46, 101, 120, 97, 109, 112, 108, 101] : List UInt8), ([104, 46, 101, 120, 97, 109, 112, 108, 101] : List UInt8), ([120] : List UInt8), ([72] : List UInt8)] : List (List UInt8))).bind fun w2 =>
    ((S_l11Target k w2.2).bind fun w3 =>
    ((S_l5Draw k w3.2).bind fun w4 =>
    ((S_l1Once k w4.2 (12 : Int)).bind fun w5 =>
    ((S_l11Request_c16 k w5.1 w5.2.b w5.2.i w5.2.h ([] : List UInt8) ([] : List UInt8) ([] : List UInt8) w1.1 w2.1 w3.1 w4.1).bind fun o7 =>
    some ((⟨w1.1, w2.1, o7.2.2.2, w4.1⟩ : IRequest), (⟨o7.1, o7.2.1, o7.2.2.1⟩ : Sl1Cur))))))))
/-! loop.example/g03012/spec.l14Fields -/
noncomputable def S_l14Fields_b0 (k : Nat) : Nat → Int → (List Int) → Int → Int → (List IField) → Option ((List Int) × Int × Int × (List IField))
  | 0, _, _, _, _, _ => none
  | n + 1, x4, y700000_0, y700000_1, y700000_2, r3 =>
    (bif (decide (x4 > (0 : Int))) then ((S_l1Str k (⟨y700000_0, y700000_1, y700000_2⟩ : Sl1Cur) ([([97, 99, 99, 101, 112, 116, 45, 108, 97, 110, 103, 117, 97, 103, 101] : List UInt8), ([97, 117, 116, 104, 111, 114, 105, 122, 97, 116, 105, 111, 110] : List UInt8), ([97] : List UInt8)] : List (List UInt8))).bind fun w2 =>
    ((S_l1Str k w2.2 ([([100, 101] : List UInt8), ([100, 101, 32, 44, 32, 101, 110] : List UInt8), ([100, 101, 44, 101, 110] : List UInt8), ([] : List UInt8), ([117, 49] : List UInt8), ([117, 50] : List UInt8)] : List (List UInt8))).bind fun w3 =>
    ((app 32 r3 ([(⟨w2.1, w3.1⟩ : IField)] : List IField)).bind fun u4 =>
    S_l14Fields_b0 k n (IntKind.wrap .i64 (x4 - (1 : Int))) w3.2.b w3.2.i w3.2.h u4)))
    else some ((y700000_0, y700000_1, y700000_2, r3)))
noncomputable def S_l14Fields (k : Nat) (a0 : Sl1Cur) : Option ((List IField) × Sl1Cur) :=
    ((S_l1Below k a0 (4 : Int)).bind fun w1 =>
    ((S_l14Fields_b0 k k w1.1 w1.2.b w1.2.i w1.2.h ([] : List IField)).bind fun o5 =>
    some (o5.2.2.2, (⟨o5.1, o5.2.1, o5.2.2.1⟩ : Sl1Cur))))
/-! loop.example/g03012/spec.DrawSelectingOf -/
noncomputable def S_DrawSelectingOf_b0 (k : Nat) : Nat → Int → (List UInt8) → (List UInt8) → (List UInt8) → (List Int) → Int → Int → (List UInt8) → (List UInt8) → (List UInt8) → (List IField) → (List (List UInt8)) → Option ((List (List UInt8)))
  | 0, _, _, _, _, _, _, _, _, _, _, _, _ => none
  | n + 1, x7, y2_0, y2_1, y2_2, y9_0, y9_1, y9_2, y5_0, y5_1, y5_2, r100000503, r6 =>
    (bif (decide (x7 > (0 : Int))) then ((S_l1Str k (⟨y9_0, y9_1, y9_2⟩ : Sl1Cur) ([([97, 99, 99, 101, 112, 116, 45, 108, 97, 110, 103, 117, 97, 103, 101] : List UInt8), ([97, 117, 116, 104, 111, 114, 105, 122, 97, 116, 105, 111, 110] : List UInt8), ([97] : List UInt8), ([110, 111, 110, 101] : List UInt8)] : List (List UInt8))).bind fun w5 =>
    ((app 16 r6 ([w5.1] : List (List UInt8))).bind fun u6 =>
    S_DrawSelectingOf_b0 k n (IntKind.wrap .i64 (x7 - (1 : Int))) y2_0 y2_1 y2_2 w5.2.b w5.2.i w5.2.h y5_0 y5_1 y5_2 r100000503 u6))
    else some (r6))
noncomputable def S_DrawSelectingOf (k : Nat) (a0 : List Int) : Option (IRequest × (List (List UInt8))) :=
    ((S_l1New k a0).bind fun w1 =>
    ((S_l11Request k w1).bind fun w2 =>
    ((S_l14Fields k w2.2).bind fun w3 =>
    ((S_l1Below k w3.2 (4 : Int)).bind fun w4 =>
    ((S_DrawSelectingOf_b0 k k w4.1 ([] : List UInt8) ([] : List UInt8) ([] : List UInt8) w4.2.b w4.2.i w4.2.h w2.1.Method w2.1.Host w2.1.Target w3.1 ([] : List (List UInt8))).bind fun o7 =>
    some ((⟨w2.1.Method, w2.1.Host, w2.1.Target, w3.1⟩ : IRequest), o7))))))
/-! strings.Join -/
noncomputable def strings_Join (k : Nat) (a0 : List (List UInt8)) (a1 : List UInt8) : Option ((List UInt8)) :=
    joinO a0 a1
/-! loop.example/g03012/impl.JoinList -/
noncomputable def I_JoinList (k : Nat) (a0 : List (List UInt8)) : Option ((List UInt8)) :=
    ((strings_Join k a0 ([44, 32] : List UInt8)).bind fun w1 =>
    some w1)
/-! loop.example/g03012/impl.GetField -/
noncomputable def I_GetField_c19 (k : Nat) (x1 : List UInt8) (x10 : List IField) (x11 : Int) (x12 : Int) (x19 : Bool) (r6 : List (List UInt8)) (y8_0 : List UInt8) (y8_1 : List UInt8) : Option ((List (List UInt8))) :=
    (bif x19 then ((app 16 r6 ([y8_1] : List (List UInt8))).bind fun u2 =>
    some (u2))
    else some (r6))
noncomputable def I_GetField_b1 (k : Nat) (x1 : List UInt8) (x10 : List IField) (x11 : Int) (x12 : Int) (r6 : List (List UInt8)) : Option ((List (List UInt8))) :=
    ((idx x10 x12).bind fun e1 =>
    ((I_GetField_c19 k x1 x10 x11 x12 (e1.Name == x1) r6 e1.Name e1.Value).bind fun o2 =>
    some (o2)))
noncomputable def I_GetField_b0 (k : Nat) : Nat → (List UInt8) → (List IField) → Int → Int → (List (List UInt8)) → Option ((List (List UInt8)))
  | 0, _, _, _, _, _ => none
  | n + 1, x1, x10, x11, x12, r6 =>
    (bif (decide (x12 < x11)) then ((I_GetField_b1 k x1 x10 x11 x12 r6).bind fun o1 =>
    I_GetField_b0 k n x1 x10 x11 (IntKind.wrap .i64 (x12 + (1 : Int))) o1)
    else some (r6))
noncomputable def I_GetField (k : Nat) (a0 : List IField) (a1 : List UInt8) : Option ((List UInt8) × Bool) :=
    ((I_GetField_b0 k k a1 a0 (a0.length : Int) (0 : Int) ([] : List (List UInt8))).bind fun o2 =>
    ((I_JoinList k o2).bind fun w3 =>
    some (w3, (decide ((o2.length : Int) > (0 : Int))))))
/-! strings.Trim -/
noncomputable def strings_Trim (k : Nat) (a0 : List UInt8) (a1 : List UInt8) : Option ((List UInt8)) :=
    trimO a0 a1
/-! loop.example/g03012/impl.TrimText -/
noncomputable def I_TrimText (k : Nat) (a0 : List UInt8) : Option ((List UInt8)) :=
    ((strings_Trim k a0 ([32, 9] : List UInt8)).bind fun w1 =>
    some w1)
/-! loop.example/g03012/impl.SplitList -/
noncomputable def I_SplitList_c32 (k : Nat) (x0 : List UInt8) (x4 : Int) (x5 : Bool) (x6 : Int) (x32 : Bool) (r3 : List (List UInt8)) : Option (Bool) :=
    (bif x32 then some ((!x5))
    else some (x5))
noncomputable def I_SplitList_c41 (k : Nat) (x0 : List UInt8) (x4 : Int) (x5 : Bool) (x6 : Int) (x41 : Bool) (r3 : List (List UInt8)) : Option (Int) :=
    (bif x41 then some ((IntKind.wrap .i64 (x6 + (1 : Int))))
    else some (x6))
noncomputable def I_SplitList_c53 (k : Nat) (x0 : List UInt8) (x5 : Bool) (x6 : Int) (x7 : List UInt8) (x53 : Bool) (r3 : List (List UInt8)) : Option ((List (List UInt8))) :=
    (bif x53 then ((app 16 r3 ([x7] : List (List UInt8))).bind fun u14 =>
    some (u14))
    else some (r3))
noncomputable def I_SplitList_b1 (k : Nat) (x0 : List UInt8) (x4 : Int) (x5 : Bool) (x6 : Int) (r3 : List (List UInt8)) : Option (Int × Bool × Int × (List (List UInt8))) :=
    (bif (decide (x6 < (x0.length : Int))) then (bif x5 then ((idx x0 x6).bind fun c1 =>
    ((I_SplitList_c32 k x0 x4 x5 x6 ((UInt8.toNat c1 : Int) == (34 : Int)) r3).bind fun o2 =>
    (bif o2 then ((idx x0 x6).bind fun c3 =>
    ((I_SplitList_c41 k x0 x4 o2 x6 ((UInt8.toNat c3 : Int) == (92 : Int)) r3).bind fun o4 =>
    some ((x4, o2, o4, r3)))) else ((I_SplitList_c41 k x0 x4 o2 x6 false r3).bind fun o5 =>
    some ((x4, o2, o5, r3)))))) else ((idx x0 x6).bind fun c6 =>
    (bif ((UInt8.toNat c6 : Int) != (44 : Int)) then ((idx x0 x6).bind fun c7 =>
    ((I_SplitList_c32 k x0 x4 x5 x6 ((UInt8.toNat c7 : Int) == (34 : Int)) r3).bind fun o8 =>
    (bif o8 then ((idx x0 x6).bind fun c9 =>
    ((I_SplitList_c41 k x0 x4 o8 x6 ((UInt8.toNat c9 : Int) == (92 : Int)) r3).bind fun o10 =>
    some ((x4, o8, o10, r3)))) else ((I_SplitList_c41 k x0 x4 o8 x6 false r3).bind fun o11 =>
    some ((x4, o8, o11, r3))))))
    else ((ssub x0 x4 (if (x0.length : Int) < x6 then (x0.length : Int) else x6)).bind fun t12 =>
    ((I_TrimText k t12).bind fun w13 =>
    ((I_SplitList_c53 k x0 x5 x6 w13 (!(w13 == ([] : List UInt8))) r3).bind fun o14 =>
    some (((IntKind.wrap .i64 (x6 + (1 : Int))), x5, x6, o14)))))))) else ((ssub x0 x4 (if (x0.length : Int) < x6 then (x0.length : Int) else x6)).bind fun t15 =>
    ((I_TrimText k t15).bind fun w16 =>
    ((I_SplitList_c53 k x0 x5 x6 w16 (!(w16 == ([] : List UInt8))) r3).bind fun o17 =>
    some (((IntKind.wrap .i64 (x6 + (1 : Int))), x5, x6, o17))))))
noncomputable def I_SplitList_b0 (k : Nat) : Nat → (List UInt8) → Int → Bool → Int → (List (List UInt8)) → Option (Int × (List (List UInt8)))
  | 0, _, _, _, _, _ => none
  | n + 1, x0, x4, x5, x6, r3 =>
    (bif (decide (x6 ≤ (x0.length : Int))) then ((I_SplitList_b1 k x0 x4 x5 x6 r3).bind fun o1 =>
    I_SplitList_b0 k n x0 o1.1 o1.2.1 (IntKind.wrap .i64 (o1.2.2.1 + (1 : Int))) o1.2.2.2)
    else some ((x4, r3)))
noncomputable def I_SplitList_c69 (k : Nat) (x8 : List UInt8) (x69 : Bool) (r3 : List (List UInt8)) : Option ((List (List UInt8))) :=
    (bif x69 then ((app 16 r3 ([x8] : List (List UInt8))).bind fun u5 =>
    some (u5))
    else some (r3))
noncomputable def I_SplitList_c63 (k : Nat) (x0 : List UInt8) (x4 : Int) (x63 : Bool) (r3 : List (List UInt8)) : Option ((List (List UInt8))) :=
    (bif x63 then ((ssub x0 x4 (x0.length : Int)).bind fun t3 =>
    ((I_TrimText k t3).bind fun w4 =>
    ((I_SplitList_c69 k w4 (!(w4 == ([] : List UInt8))) r3).bind fun o5 =>
    some (o5))))
    else some (r3))
noncomputable def I_SplitList (k : Nat) (a0 : List UInt8) : Option ((List (List UInt8))) :=
    ((I_SplitList_b0 k k a0 (0 : Int) false (0 : Int) ([] : List (List UInt8))).bind fun o2 =>
    ((I_SplitList_c63 k a0 o2.1 (decide (o2.1 < (a0.length : Int))) o2.2).bind fun o6 =>
    some o6))
/-! loop.example/g03012/impl.SelectingOf -/
noncomputable def I_SelectingOf_b0 (k : Nat) : Nat → (List (List UInt8)) → Int → Int → (List UInt8) → (List UInt8) → (List UInt8) → (List IField) → (List IField) → Option ((List IField))
  | 0, _, _, _, _, _, _, _, _ => none
  | n + 1, x11, x12, x13, y2_0, y2_1, y2_2, y2_3, r5 =>
    (bif (decide (x13 < x12)) then ((idx x11 x13).bind fun e1 =>
    ((I_GetField k y2_3 e1).bind fun w2 =>
    ((I_SplitList k w2.1).bind fun w3 =>
    ((I_JoinList k w3).bind fun w4 =>
    ((app 32 r5 ([(⟨e1, w4⟩ : IField)] : List IField)).bind fun u5 =>
    I_SelectingOf_b0 k n x11 x12 (IntKind.wrap .i64 (x13 + (1 : Int))) y2_0 y2_1 y2_2 y2_3 u5)))))
    else some (r5))
noncomputable def I_SelectingOf (k : Nat) (a0 : IRequest) (a1 : List (List UInt8)) : Option ((List IField)) :=
    ((I_SelectingOf_b0 k k a1 (a1.length : Int) (0 : Int) a0.Method a0.Host a0.Target a0.Fields ([] : List IField)).bind fun o6 =>
    some o6)
/-! loop.example/g03012/spec.DrawVaryOf -/
noncomputable def S_DrawVaryOf_b0 (k : Nat) : Nat → Int → (List Int) → Int → Int → (List IField) → Option ((List IField))
  | 0, _, _, _, _, _ => none
  | n + 1, x5, y7_0, y7_1, y7_2, r4 =>
    (bif (decide (x5 > (0 : Int))) then ((S_l1Str k (⟨y7_0, y7_1, y7_2⟩ : Sl1Cur) ([([65, 99, 99, 101, 112, 116, 45, 76, 97, 110, 103, 117, 97, 103, 101] : List UInt8), ([97, 44, 32, 65] : List UInt8), ([42] : List UInt8), ([97, 44, 32, 42] : List UInt8), ([] : List UInt8), ([97, 117, 116, 104, 111, 114, 105, 122, 97, 116, 105, 111, 110, 44, 32, 97, 99, 99, 101, 112, 116, 45, 108, 97, 110, 103, 117, 97, 103, 101] : List UInt8)] : List (List UInt8))).bind fun w4 =>
    ((app 32 r4 ([(⟨([118, 97, 114, 121] : List UInt8), w4.1⟩ : IField)] : List IField)).bind fun u5 =>
    S_DrawVaryOf_b0 k n (IntKind.wrap .i64 (x5 - (1 : Int))) w4.2.b w4.2.i w4.2.h u5))
    else some (r4))
noncomputable def S_DrawVaryOf (k : Nat) (a0 : List Int) : Option ((List IField)) :=
    ((S_l1New k a0).bind fun w1 =>
    ((S_l14Fields k w1).bind fun w2 =>
    ((S_l1Below k w2.2 (3 : Int)).bind fun w3 =>
    ((S_DrawVaryOf_b0 k k w3.1 w3.2.b w3.2.i w3.2.h w2.1).bind fun o6 =>
    some o6))))
/-! loop.example/g03012/impl.LowerText -/
noncomputable def I_LowerText_c20 (k : Nat) (x4 : Int) (x5 : Int) (x9 : Int) (x10 : Int) (x20 : Bool) (r8 : List Int) : Option ((List Int)) :=
    (bif x20 then ((idx r8 x4).bind fun _ =>
    ((idx r8 x4).bind fun e2 =>
    some (((r8).set (x4).toNat (IntKind.wrap .u8 (x5 + (32 : Int)))))))
    else some (r8))
noncomputable def I_LowerText_b1 (k : Nat) (x9 : Int) (x10 : Int) (r8 : List Int) : Option ((List Int)) :=
    ((idx r8 x10).bind fun _ =>
    ((idx r8 x10).bind fun e1 =>
    (bif (decide (e1 ≥ (65 : Int))) then ((I_LowerText_c20 k x10 e1 x9 x10 (decide (e1 ≤ (90 : Int))) r8).bind fun o2 =>
    some (o2)) else ((I_LowerText_c20 k x10 e1 x9 x10 false r8).bind fun o3 =>
    some (o3)))))
noncomputable def I_LowerText_b0 (k : Nat) : Nat → Int → Int → (List Int) → Option ((List Int))
  | 0, _, _, _ => none
  | n + 1, x9, x10, r8 =>
    (bif (decide (x10 < x9)) then ((I_LowerText_b1 k x9 x10 r8).bind fun o1 =>
    I_LowerText_b0 k n x9 (IntKind.wrap .i64 (x10 + (1 : Int))) o1)
    else some (r8))
noncomputable def I_LowerText (k : Nat) (a0 : List UInt8) : Option ((List UInt8)) :=
    ((I_LowerText_b0 k k ((intsOf a0).length : Int) (0 : Int) (intsOf a0)).bind fun o2 =>
    some (bytesOf o2))
/-! slices.Index[[]string,string] -/
noncomputable def slices_Index_string_b0 (k : Nat) : Nat → (List (List UInt8)) → (List UInt8) → Int → Int → Option (Oc (Unit) (Int))
  | 0, _, _, _, _ => none
  | n + 1, x0, x1, x7, x8 =>
    (bif (decide (x8 < x7)) then ((idx x0 x8).bind fun e1 =>
    (bif (x1 == e1) then some (.oth (x8))
    else slices_Index_string_b0 k n x0 x1 x7 (IntKind.wrap .i64 (x8 + (1 : Int)))))
    else some (.nrm ()))
noncomputable def slices_Index_string (k : Nat) (a0 : List (List UInt8)) (a1 : List UInt8) : Option (Int) :=
    ((slices_Index_string_b0 k k a0 a1 (a0.length : Int) (0 : Int)).bind fun o2 =>
    oc o2 (fun o3 => some (-1 : Int))
    (fun o4 => some o4))
/-! slices.Contains[[]string,string] -/
noncomputable def slices_Contains_string (k : Nat) (a0 : List (List UInt8)) (a1 : List UInt8) : Option (Bool) :=
    ((slices_Index_string k a0 a1).bind fun w1 =>
    some (decide (w1 ≥ (0 : Int))))
/-! loop.example/g03012/impl.VaryOf -/
noncomputable def I_VaryOf_c30 (k : Nat) (x9 : List UInt8) (x18 : Int) (x19 : Int) (x30 : Bool) (r6 : List (List UInt8)) (r17 : List (List UInt8)) : Option ((List (List UInt8))) :=
    (bif x30 then ((app 16 r6 ([x9] : List (List UInt8))).bind fun u6 =>
    some (u6))
    else some (r6))
noncomputable def I_VaryOf_b1 (k : Nat) (x18 : Int) (x19 : Int) (r6 : List (List UInt8)) (r17 : List (List UInt8)) : Option (Oc ((List (List UInt8))) ((List (List UInt8)) × Bool)) :=
    ((idx r17 x19).bind fun _ =>
    ((idx r17 x19).bind fun e3 =>
    ((I_LowerText k e3).bind fun w4 =>
    (bif (w4 == ([42] : List UInt8)) then some (.oth (([], true)))
    else ((slices_Contains_string k r6 w4).bind fun w5 =>
    ((I_VaryOf_c30 k w4 x18 x19 (!w5) r6 r17).bind fun o6 =>
    some (.nrm o6)))))))
noncomputable def I_VaryOf_b0 (k : Nat) : Nat → Int → Int → (List (List UInt8)) → (List (List UInt8)) → Option (Oc ((List (List UInt8))) ((List (List UInt8)) × Bool))
  | 0, _, _, _, _ => none
  | n + 1, x18, x19, r6, r17 =>
    (bif (decide (x19 < x18)) then ((I_VaryOf_b1 k x18 x19 r6 r17).bind fun o3 =>
    oc o3 (fun o4 => I_VaryOf_b0 k n x18 (IntKind.wrap .i64 (x19 + (1 : Int))) o4 r17)
    (fun o5 => some (.oth (o5))))
    else some (.nrm r6))
noncomputable def I_VaryOf (k : Nat) (a0 : List IField) : Option ((List (List UInt8)) × Bool) :=
    ((I_GetField k a0 ([118, 97, 114, 121] : List UInt8)).bind fun w1 =>
    ((I_SplitList k w1.1).bind fun w2 =>
    ((I_VaryOf_b0 k k (w2.length : Int) (0 : Int) ([] : List (List UInt8)) w2).bind fun o6 =>
    oc o6 (fun o7 => some (o7, false))
    (fun o8 => some o8))))
/-! loop.example/g03012/impl.Agrees -/
noncomputable def I_Agrees_b0 (k : Nat) : Nat → (List IField) → Int → Int → (List UInt8) → (List UInt8) → (List UInt8) → (List IField) → Option (Oc (Unit) (Bool))
  | 0, _, _, _, _, _, _, _ => none
  | n + 1, x7, x8, x9, y2_0, y2_1, y2_2, y2_3 =>
    (bif (decide (x9 < x8)) then ((idx x7 x9).bind fun e1 =>
    ((I_SelectingOf k (⟨y2_0, y2_1, y2_2, y2_3⟩ : IRequest) ([e1.Name] : List (List UInt8))).bind fun w2 =>
    ((idx w2 (0 : Int)).bind fun _ =>
    ((idx w2 (0 : Int)).bind fun e3 =>
    (bif (!(e3.Value == e1.Value)) then some (.oth (false))
    else I_Agrees_b0 k n x7 x8 (IntKind.wrap .i64 (x9 + (1 : Int))) y2_0 y2_1 y2_2 y2_3)))))
    else some (.nrm ()))
noncomputable def I_Agrees (k : Nat) (a0 : IRequest) (a1 : List IField) : Option (Bool) :=
    ((I_Agrees_b0 k k a1 (a1.length : Int) (0 : Int) a0.Method a0.Host a0.Target a0.Fields).bind fun o4 =>
    oc o4 (fun o5 => some true)
    (fun o6 => some o6))
/-! strings.Split -/
noncomputable def strings_Split (k : Nat) (a0 : List UInt8) (a1 : List UInt8) : Option ((List (List UInt8))) :=
    splitO a0 a1
/-! strings.IndexByte -/
noncomputable def strings_IndexByte (k : Nat) (a0 : List UInt8) (a1 : Int) : Option (Int) :=
    indexByteO a0 a1
/-! loop.example/g03012/impl.isTokenByte -/
noncomputable def I_isTokenByte (k : Nat) (a0 : Int) : Option (Bool) :=
    (bif (decide (a0 ≥ (97 : Int))) then (bif (decide (a0 ≤ (122 : Int))) then some true else (bif (decide (a0 ≥ (65 : Int))) then (bif (decide (a0 ≤ (90 : Int))) then some true else (bif (decide (a0 ≥ (48 : Int))) then (bif (decide (a0 ≤ (57 : Int))) then some true else ((strings_IndexByte k ([33, 35, 36, 37, 38, 39, 42, 43, 45, 46, 94, 95, 124, 126] : List UInt8) a0).bind fun w1 =>
    (bif (decide (w1 ≥ (0 : Int))) then some true else some (a0 == (96 : Int))))) else ((strings_IndexByte k ([33, 35, 36, 37, 38, 39, 42, 43, 45, 46, 94, 95, 124, 126] : List UInt8) a0).bind fun w2 =>
    (bif (decide (w2 ≥ (0 : Int))) then some true else some (a0 == (96 : Int)))))) else (bif (decide (a0 ≥ (48 : Int))) then (bif (decide (a0 ≤ (57 : Int))) then some true else ((strings_IndexByte k ([33, 35, 36, 37, 38, 39, 42, 43, 45, 46, 94, 95, 124, 126] : List UInt8) a0).bind fun w3 =>
    (bif (decide (w3 ≥ (0 : Int))) then some true else some (a0 == (96 : Int))))) else ((strings_IndexByte k ([33, 35, 36, 37, 38, 39, 42, 43, 45, 46, 94, 95, 124, 126] : List UInt8) a0).bind fun w4 =>
    (bif (decide (w4 ≥ (0 : Int))) then some true else some (a0 == (96 : Int))))))) else (bif (decide (a0 ≥ (65 : Int))) then (bif (decide (a0 ≤ (90 : Int))) then some true else (bif (decide (a0 ≥ (48 : Int))) then (bif (decide (a0 ≤ (57 : Int))) then some true else ((strings_IndexByte k ([33, 35, 36, 37, 38, 39, 42, 43, 45, 46, 94, 95, 124, 126] : List UInt8) a0).bind fun w5 =>
    (bif (decide (w5 ≥ (0 : Int))) then some true else some (a0 == (96 : Int))))) else ((strings_IndexByte k ([33, 35, 36, 37, 38, 39, 42, 43, 45, 46, 94, 95, 124, 126] : List UInt8) a0).bind fun w6 =>
    (bif (decide (w6 ≥ (0 : Int))) then some true else some (a0 == (96 : Int)))))) else (bif (decide (a0 ≥ (48 : Int))) then (bif (decide (a0 ≤ (57 : Int))) then some true else ((strings_IndexByte k ([33, 35, 36, 37, 38, 39, 42, 43, 45, 46, 94, 95, 124, 126] : List UInt8) a0).bind fun w7 =>
    (bif (decide (w7 ≥ (0 : Int))) then some true else some (a0 == (96 : Int))))) else ((strings_IndexByte k ([33, 35, 36, 37, 38, 39, 42, 43, 45, 46, 94, 95, 124, 126] : List UInt8) a0).bind fun w8 =>
    (bif (decide (w8 ≥ (0 : Int))) then some true else some (a0 == (96 : Int)))))))
/-! loop.example/g03012/impl.inRange -/
noncomputable def I_inRange (k : Nat) (a0 : Int) (a1 : Int) (a2 : Int) : Option (Bool) :=
    (bif (decide (a1 ≤ a0)) then some (decide (a0 ≤ a2)) else some false)
/-! loop.example/g03012/impl.IsToken -/
noncomputable def I_IsToken_b0 (k : Nat) : Nat → (List UInt8) → Int → Int → Option (Oc (Unit) (Bool))
  | 0, _, _, _ => none
  | n + 1, x0, x5, x6 =>
    (bif (decide (x6 < x5)) then ((idx x0 x6).bind fun c1 =>
    ((I_isTokenByte k (UInt8.toNat c1 : Int)).bind fun w2 =>
    (bif (!w2) then some (.oth (false))
    else I_IsToken_b0 k n x0 x5 (IntKind.wrap .i64 (x6 + (1 : Int))))))
    else some (.nrm ()))
noncomputable def I_IsToken (k : Nat) (a0 : List UInt8) : Option (Bool) :=
    ((I_IsToken_b0 k k a0 (a0.length : Int) (0 : Int)).bind fun o3 =>
    oc o3 (fun o4 => ((I_inRange k (a0.length : Int) (1 : Int) (40 : Int)).bind fun w6 =>
    some w6))
    (fun o5 => some o5))
/-! strings.Cut -/
noncomputable def strings_Cut (k : Nat) (a0 : List UInt8) (a1 : List UInt8) : Option ((List UInt8) × (List UInt8) × Bool) :=
    cutO a0 a1
/-! loop.example/g03012/impl.SplitPair -/
noncomputable def I_SplitPair (k : Nat) (a0 : List UInt8) : Option ((List UInt8) × (List UInt8) × Bool) :=
    ((strings_Cut k a0 ([61] : List UInt8)).bind fun w1 =>
    ((I_TrimText k w1.1).bind fun w2 =>
    ((I_TrimText k w1.2.1).bind fun w3 =>
    some (w2, w3, w1.2.2))))
/-! loop.example/g03012/impl.weightIn -/
noncomputable def I_weightIn_b0 (k : Nat) : Nat → Int → Int → Int → Int → (List Int) → Option (Oc (Int) (Int × Bool))
  | 0, _, _, _, _, _ => none
  | n + 1, x7, x8, x35, x36, r34 =>
    (bif (decide (x36 < x35)) then ((idx r34 x36).bind fun _ =>
    ((idx r34 x36).bind fun e3 =>
    (bif (decide (e3 < (48 : Int))) then some (.oth (((0 : Int), false))) else (bif (decide (e3 > (57 : Int))) then some (.oth (((0 : Int), false)))
    else ((dv x8 (10 : Int)).bind fun q4 =>
    I_weightIn_b0 k n (IntKind.wrap .i64 (x7 + (IntKind.wrap .i64 (x8 * (IntKind.wrap .i64 (IntKind.wrap .u8 (e3 - (48 : Int)))))))) (IntKind.wrap .i64 q4) x35 (IntKind.wrap .i64 (x36 + (1 : Int))) r34)))))
    else some (.nrm x7))
noncomputable def I_weightIn (k : Nat) (a0 : List UInt8) : Option (Int × Bool) :=
    ((strings_Cut k a0 ([46] : List UInt8)).bind fun w1 =>
    (bif (!(w1.1 == ([48] : List UInt8))) then (bif (!(w1.1 == ([49] : List UInt8))) then some ((0 : Int), false) else (bif (decide ((w1.2.1.length : Int) > (3 : Int))) then some ((0 : Int), false)
    else ((idx w1.1 (0 : Int)).bind fun c2 =>
    ((I_weightIn_b0 k k (IntKind.wrap .i64 ((1000 : Int) * (IntKind.wrap .i64 (IntKind.wrap .u8 ((UInt8.toNat c2 : Int) - (48 : Int)))))) (100 : Int) ((intsOf w1.2.1).length : Int) (0 : Int) (intsOf w1.2.1)).bind fun o5 =>
    oc o5 (fun o6 => some (o6, (decide (o6 ≤ (1000 : Int)))))
    (fun o7 => some o7))))) else (bif (decide ((w1.2.1.length : Int) > (3 : Int))) then some ((0 : Int), false)
    else ((idx w1.1 (0 : Int)).bind fun c8 =>
    ((I_weightIn_b0 k k (IntKind.wrap .i64 ((1000 : Int) * (IntKind.wrap .i64 (IntKind.wrap .u8 ((UInt8.toNat c8 : Int) - (48 : Int)))))) (100 : Int) ((intsOf w1.2.1).length : Int) (0 : Int) (intsOf w1.2.1)).bind fun o9 =>
    oc o9 (fun o10 => some (o10, (decide (o10 ≤ (1000 : Int)))))
    (fun o11 => some o11))))))
/-! loop.example/g03012/impl.ParseQualities -/
noncomputable def I_ParseQualities_c40 (k : Nat) (x8 : Bool) (x17 : Int) (x18 : Int) (x40 : Bool) (r3 : List IQuality) (r6 : List (List UInt8)) (y7_0 : List UInt8) (y7_1 : Int) (r16 : List (List UInt8)) : Option (Bool × Int) :=
    (bif x40 then ((idx r6 (1 : Int)).bind fun _ =>
    ((idx r6 (1 : Int)).bind fun e8 =>
    ((I_SplitPair k e8).bind fun w9 =>
    ((I_weightIn k w9.2.1).bind fun w10 =>
    (bif x8 then (bif w9.2.2 then (bif w10.2 then (bif (w9.1 == ([113] : List UInt8)) then some ((true, w10.1)) else some (((w9.1 == ([81] : List UInt8)), w10.1))) else some ((false, w10.1))) else some ((false, w10.1))) else some ((false, w10.1)))))))
    else some ((x8, y7_1)))
noncomputable def I_ParseQualities_c71 (k : Nat) (x17 : Int) (x18 : Int) (x71 : Bool) (r3 : List IQuality) (y7_0 : List UInt8) (y7_1 : Int) (r16 : List (List UInt8)) : Option ((List IQuality)) :=
    (bif x71 then ((app 24 r3 ([(⟨y7_0, y7_1⟩ : IQuality)] : List IQuality)).bind fun u12 =>
    some (u12))
    else some (r3))
noncomputable def I_ParseQualities_b1 (k : Nat) (x17 : Int) (x18 : Int) (r3 : List IQuality) (r16 : List (List UInt8)) : Option ((List IQuality)) :=
    ((idx r16 x18).bind fun _ =>
    ((idx r16 x18).bind fun e2 =>
    ((strings_Split k e2 ([59] : List UInt8)).bind fun w3 =>
    ((idx w3 (0 : Int)).bind fun _ =>
    ((idx w3 (0 : Int)).bind fun e4 =>
    ((I_TrimText k e4).bind fun w5 =>
    ((I_LowerText k w5).bind fun w6 =>
    ((I_IsToken k w6).bind fun w7 =>
    (bif w7 then ((I_ParseQualities_c40 k (decide ((w3.length : Int) ≤ (2 : Int))) x17 x18 ((w3.length : Int) == (2 : Int)) r3 w3 w6 (1000 : Int) r16).bind fun o8 =>
    ((I_ParseQualities_c71 k x17 x18 o8.1 r3 w6 o8.2 r16).bind fun o9 =>
    some (o9))) else ((I_ParseQualities_c40 k false x17 x18 ((w3.length : Int) == (2 : Int)) r3 w3 w6 (1000 : Int) r16).bind fun o10 =>
    ((I_ParseQualities_c71 k x17 x18 o10.1 r3 w6 o10.2 r16).bind fun o11 =>
    some (o11))))))))))))
noncomputable def I_ParseQualities_b0 (k : Nat) : Nat → Int → Int → (List IQuality) → (List (List UInt8)) → Option ((List IQuality))
  | 0, _, _, _, _ => none
  | n + 1, x17, x18, r3, r16 =>
    (bif (decide (x18 < x17)) then ((I_ParseQualities_b1 k x17 x18 r3 r16).bind fun o2 =>
    I_ParseQualities_b0 k n x17 (IntKind.wrap .i64 (x18 + (1 : Int))) o2 r16)
    else some (r3))
noncomputable def I_ParseQualities (k : Nat) (a0 : List UInt8) : Option ((List IQuality)) :=
    ((I_SplitList k a0).bind fun w1 =>
    ((I_ParseQualities_b0 k k (w1.length : Int) (0 : Int) ([] : List IQuality) w1).bind fun o3 =>
    some o3))
/-! loop.example/g03012/impl.QualityOf -/
noncomputable def I_QualityOf_b2 (k : Nat) : Nat → (List IQuality) → (List UInt8) → Int → Int → (List IQuality) → Int → Int → (List (List UInt8)) → Option (Oc (Unit) (Int))
  | 0, _, _, _, _, _, _, _, _ => none
  | n + 1, x0, x6, x11, x12, x16, x17, x18, r10 =>
    (bif (decide (x18 < x17)) then ((idx x16 x18).bind fun e2 =>
    (bif (e2.Name == x6) then some (.oth (e2.Q))
    else I_QualityOf_b2 k n x0 x6 x11 x12 x16 x17 (IntKind.wrap .i64 (x18 + (1 : Int))) r10))
    else some (.nrm ()))
noncomputable def I_QualityOf_b0 (k : Nat) : Nat → (List IQuality) → Int → Int → (List (List UInt8)) → Option (Oc (Unit) (Int))
  | 0, _, _, _, _ => none
  | n + 1, x0, x11, x12, r10 =>
    (bif (decide (x12 < x11)) then ((idx r10 x12).bind fun _ =>
    ((idx r10 x12).bind fun e1 =>
    ((I_QualityOf_b2 k k x0 e1 x11 x12 x0 (x0.length : Int) (0 : Int) r10).bind fun o2 =>
    oc o2 (fun o3 => I_QualityOf_b0 k n x0 x11 (IntKind.wrap .i64 (x12 + (1 : Int))) r10)
    (fun o4 => some (.oth (o4))))))
    else some (.nrm ()))
noncomputable def I_QualityOf (k : Nat) (a0 : List IQuality) (a1 : List UInt8) : Option (Int) :=
    ((I_QualityOf_b0 k k a0 (([a1, ([42] : List UInt8)] : List (List UInt8)).length : Int) (0 : Int) ([a1, ([42] : List UInt8)] : List (List UInt8))).bind fun o5 =>
    oc o5 (fun o6 => some (0 : Int))
    (fun o7 => some o7))
/-! loop.example/g03012/impl.ChooseName -/
noncomputable def I_ChooseName_c28 (k : Nat) (x6 : List UInt8) (x8 : List UInt8) (x11 : List (List UInt8)) (x12 : Int) (x13 : Int) (x28 : Bool) (r5 : List IQuality) : Option ((List UInt8)) :=
    (bif x28 then some (x8)
    else some (x6))
noncomputable def I_ChooseName_b1 (k : Nat) (x6 : List UInt8) (x11 : List (List UInt8)) (x12 : Int) (x13 : Int) (r5 : List IQuality) : Option ((List UInt8)) :=
    ((idx x11 x13).bind fun e2 =>
    (bif (x13 == (0 : Int)) then ((I_ChooseName_c28 k x6 e2 x11 x12 x13 true r5).bind fun o3 =>
    some (o3)) else ((I_QualityOf k r5 e2).bind fun w4 =>
    ((I_QualityOf k r5 x6).bind fun w5 =>
    ((I_ChooseName_c28 k x6 e2 x11 x12 x13 (decide (w4 > w5)) r5).bind fun o6 =>
    some (o6))))))
noncomputable def I_ChooseName_b0 (k : Nat) : Nat → (List UInt8) → (List (List UInt8)) → Int → Int → (List IQuality) → Option ((List UInt8))
  | 0, _, _, _, _, _ => none
  | n + 1, x6, x11, x12, x13, r5 =>
    (bif (decide (x13 < x12)) then ((I_ChooseName_b1 k x6 x11 x12 x13 r5).bind fun o2 =>
    I_ChooseName_b0 k n o2 x11 x12 (IntKind.wrap .i64 (x13 + (1 : Int))) r5)
    else some (x6))
noncomputable def I_ChooseName (k : Nat) (a0 : List (List UInt8)) (a1 : List UInt8) : Option ((List UInt8)) :=
    ((I_ParseQualities k a1).bind fun w1 =>
    ((I_ChooseName_b0 k k ([] : List UInt8) a0 (a0.length : Int) (0 : Int) w1).bind fun o3 =>
    some o3))
/-! loop.example/g03012/laws.FnSelecting -/
noncomputable def L_FnSelecting_b2 (k : Nat) : Nat → Bool → Int → Int → (List UInt8) → (List UInt8) → (List UInt8) → (List IField) → (List (List UInt8)) → (List IField) → (List (List UInt8)) → Option (Oc (Unit) (Bool))
  | 0, _, _, _, _, _, _, _, _, _, _ => none
  | n + 1, x8, x9, x10, y3_0, y3_1, y3_2, r100000303, r4, r5, r7 =>
    (bif (decide (x10 < x9)) then ((idx r7 x10).bind fun _ =>
    ((idx r7 x10).bind fun e6 =>
    ((idx r7 x9).bind fun _ =>
    ((idx r7 x9).bind fun e7 =>
    (bif (e6 == e7) then some (.oth (false))
    else L_FnSelecting_b2 k n x8 x9 (IntKind.wrap .i64 (x10 + (1 : Int))) y3_0 y3_1 y3_2 r100000303 r4 r5 r7)))))
    else some (.nrm ()))
noncomputable def L_FnSelecting_b0 (k : Nat) : Nat → Bool → Int → (List UInt8) → (List UInt8) → (List UInt8) → (List IField) → (List (List UInt8)) → (List IField) → (List (List UInt8)) → Option (Oc (Unit) (Bool))
  | 0, _, _, _, _, _, _, _, _, _ => none
  | n + 1, x8, x9, y3_0, y3_1, y3_2, r100000303, r4, r5, r7 =>
    (bif (decide (x9 < (r7.length : Int))) then ((L_FnSelecting_b2 k k x8 x9 (0 : Int) y3_0 y3_1 y3_2 r100000303 r4 r5 r7).bind fun o6 =>
    oc o6 (fun o7 => L_FnSelecting_b0 k n x8 (IntKind.wrap .i64 (x9 + (1 : Int))) y3_0 y3_1 y3_2 r100000303 r4 r5 r7)
    (fun o8 => some (.oth (o8))))
    else some (.nrm ()))
noncomputable def L_FnSelecting (k : Nat) (a0 : List Int) : Option (Bool) :=
    ((L_big k a0).bind fun w1 =>
    (bif w1 then some true
    else ((S_DrawSelectingOf k a0).bind fun w2 =>
    ((I_SelectingOf k w2.1 w2.2).bind fun w3 =>
    ((S_DrawVaryOf k a0).bind fun w4 =>
    ((I_VaryOf k w4).bind fun w5 =>
    ((L_FnSelecting_b0 k k w5.2 (0 : Int) w2.1.Method w2.1.Host w2.1.Target w2.1.Fields w2.2 w3 w5.1).bind fun o9 =>
    oc o9 (fun o10 => ((I_GetField k w2.1.Fields ([97, 99, 99, 101, 112, 116, 45, 108, 97, 110, 103, 117, 97, 103, 101] : List UInt8)).bind fun w12 =>
    ((I_SelectingOf k w2.1 ([([97, 99, 99, 101, 112, 116, 45, 108, 97, 110, 103, 117, 97, 103, 101] : List UInt8)] : List (List UInt8))).bind fun w13 =>
    ((I_Agrees k w2.1 w3).bind fun w14 =>
    (bif w14 then (bif ((w3.length : Int) == (w2.2.length : Int)) then (bif (!w5.2) then ((I_ChooseName k ([([100, 101] : List UInt8), ([101, 110] : List UInt8), ([102, 114] : List UInt8)] : List (List UInt8)) w12.1).bind fun w15 =>
    ((idx w13 (0 : Int)).bind fun _ =>
    ((idx w13 (0 : Int)).bind fun e16 =>
    ((I_ChooseName k ([([100, 101] : List UInt8), ([101, 110] : List UInt8), ([102, 114] : List UInt8)] : List (List UInt8)) e16.Value).bind fun w17 =>
    some (w15 == w17))))) else (bif ((w5.1.length : Int) == (0 : Int)) then ((I_ChooseName k ([([100, 101] : List UInt8), ([101, 110] : List UInt8), ([102, 114] : List UInt8)] : List (List UInt8)) w12.1).bind fun w18 =>
    ((idx w13 (0 : Int)).bind fun _ =>
    ((idx w13 (0 : Int)).bind fun e19 =>
    ((I_ChooseName k ([([100, 101] : List UInt8), ([101, 110] : List UInt8), ([102, 114] : List UInt8)] : List (List UInt8)) e19.Value).bind fun w20 =>
    some (w18 == w20))))) else some false)) else some false) else some false)))))
    (fun o11 => some o11))))))))

end
end Go.YtgdjicnefdnofaaDoor
