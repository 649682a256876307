/- Functions over lists. Nothing is claimed here. -/
import Derived.Test.YtolmhhnhmbiofaaGreatDoorKt
set_option linter.unusedVariables false
set_option linter.unusedSimpArgs false
set_option maxRecDepth 100000
namespace Go.YtolmhhnhmbiofaaGreatDoor
open Go Go.RowKit Go.Pv
noncomputable section

/-! loop.example/g03012/laws.big -/
noncomputable def L_big (k : Nat) (a0 : List Int) : Option (Bool) :=
    some (decide ((a0.length : Int) > (1048576 : Int)))
/-! loop.example/g03012/spec.l1New -/
noncomputable def S_l1New_b0 (k : Nat) : Nat → (List Int) → Int → Int → Option (Int)
  | 0, _, _, _ => none
  | n + 1, x0, x3, x4 =>
    (bif (decide (x4 < (x0.length : Int))) then (bif (decide (x4 < (4000 : Int))) then ((idx x0 x4).bind fun e1 =>
    S_l1New_b0 k n x0 (andI .i64 (IntKind.wrap .i64 ((IntKind.wrap .i64 ((IntKind.wrap .i64 (x3 * (139 : Int))) + (IntKind.wrap .i64 e1))) + (11 : Int))) (1073741823 : Int)) (IntKind.wrap .i64 (x4 + (1 : Int))))
    else some (x3)) else some (x3))
noncomputable def S_l1New (k : Nat) (a0 : List Int) : Option (Sl1Cur) :=
    ((S_l1New_b0 k k a0 (IntKind.wrap .i64 ((271091 : Int) + (a0.length : Int))) (0 : Int)).bind fun o2 =>
    some (⟨a0, (0 : Int), o2⟩ : Sl1Cur))
/-! loop.example/g03012/spec.l1Byte -/
noncomputable def S_l1Byte_c34 (k : Nat) (x3 : Int) (x34 : Bool) (y700000_0 : List Int) (y700000_1 : Int) (y700000_2 : Int) : Option (Int × Int) :=
    (bif x34 then ((idx y700000_0 y700000_1).bind fun e3 =>
    some (((andI .i64 (IntKind.wrap .i64 (x3 + (IntKind.wrap .i64 e3))) (255 : Int)), (IntKind.wrap .i64 (y700000_1 + (1 : Int))))))
    else some ((x3, y700000_1)))
noncomputable def S_l1Byte (k : Nat) (a0 : Sl1Cur) : Option (Int × Sl1Cur) :=
    ((shrI .i64 (IntKind.wrap .i64 ((IntKind.wrap .i64 (a0.h * (6364136223846793005 : Int))) + (1442695040888963407 : Int))) (33 : Int)).bind fun q1 =>
    ((shrI .i64 (IntKind.wrap .i64 ((IntKind.wrap .i64 (a0.h * (6364136223846793005 : Int))) + (1442695040888963407 : Int))) (47 : Int)).bind fun q2 =>
    ((S_l1Byte_c34 k (andI .i64 (xorI .i64 q1 q2) (255 : Int)) (decide (a0.i < (a0.b.length : Int))) a0.b a0.i (IntKind.wrap .i64 ((IntKind.wrap .i64 (a0.h * (6364136223846793005 : Int))) + (1442695040888963407 : Int)))).bind fun o4 =>
    some (o4.1, (⟨a0.b, o4.2, (IntKind.wrap .i64 ((IntKind.wrap .i64 (a0.h * (6364136223846793005 : Int))) + (1442695040888963407 : Int)))⟩ : Sl1Cur)))))
/-! loop.example/g03012/spec.l1Below -/
noncomputable def S_l1Below (k : Nat) (a0 : Sl1Cur) (a1 : Int) : Option (Int × Sl1Cur) :=
    (bif (decide (a1 ≤ (0 : Int))) then some ((0 : Int), a0)
    else (bif (decide (a1 ≤ (256 : Int))) then ((S_l1Byte k a0).bind fun w1 =>
    ((md w1.1 a1).bind fun q2 =>
    some (q2, w1.2)))
    else ((S_l1Byte k a0).bind fun w3 =>
    ((S_l1Byte k w3.2).bind fun w4 =>
    ((S_l1Byte k w4.2).bind fun w5 =>
    ((md (IntKind.wrap .i64 ((IntKind.wrap .i64 ((IntKind.wrap .i64 (w3.1 * (65536 : Int))) + (IntKind.wrap .i64 (w4.1 * (256 : Int))))) + w5.1)) a1).bind fun q6 =>
    some (q6, w5.2)))))))
/-! loop.example/g03012/spec.l1Once -/
noncomputable def S_l1Once (k : Nat) (a0 : Sl1Cur) (a1 : Int) : Option (Bool × Sl1Cur) :=
    ((S_l1Below k a0 a1).bind fun w1 =>
    some ((w1.1 == (0 : Int)), w1.2))
/-! loop.example/g03012/spec.l1Str -/
noncomputable def S_l1Str (k : Nat) (a0 : Sl1Cur) (a1 : List (List UInt8)) : Option ((List UInt8) × Sl1Cur) :=
    ((S_l1Below k a0 (a1.length : Int)).bind fun w1 =>
    ((idx a1 w1.1).bind fun e2 =>
    some (e2, w1.2)))
/-! loop.example/g03012/spec.l11Target -/
noncomputable def S_l11Target (k : Nat) (a0 : Sl1Cur) : Option ((List UInt8) × Sl1Cur) :=
    ((S_l1Str k a0 ([([47, 97] : List UInt8), ([47, 98] : List UInt8), ([47, 97, 63, 120, 61, 49, 38, 121, 61, 50] : List UInt8), ([47, 97, 63, 121, 61, 50, 38, 120, 61, 49] : List UInt8), ([47, 46, 47, 97] : List UInt8), ([47, 99, 47, 46, 46, 47, 97] : List UInt8), ([47, 37, 54, 49] : List UInt8), ([47, 112] : List UInt8), ([47, 112, 97, 103, 101] : List UInt8), ([47, 108, 97, 110, 103] : List UInt8), ([47, 109, 105, 110, 101] : List UInt8), ([47, 110, 111, 110, 101] : List UInt8), ([47, 98, 105, 103] : List UInt8), ([47, 65] : List UInt8), ([47, 97, 63] : List UInt8)] : List (List UInt8))).bind fun w1 =>
    some (w1.1, w1.2))
/-! loop.example/g03012/spec.l1Int -/
noncomputable def S_l1Int (k : Nat) (a0 : Sl1Cur) (a1 : List Int) : Option (Int × Sl1Cur) :=
    ((S_l1Below k a0 (a1.length : Int)).bind fun w1 =>
    ((idx a1 w1.1).bind fun e2 =>
    some (e2, w1.2)))
/-! loop.example/g03012/spec.l1Bent -/
noncomputable def S_l1Bent_c15 (k : Nat) (x15 : Bool) (y700000_0 : List Int) (y700000_1 : Int) (y700000_2 : Int) (r5 : List Int) : Option ((List Int) × Int × Int × (List Int)) :=
    (bif x15 then ((S_l1Below k (⟨y700000_0, y700000_1, y700000_2⟩ : Sl1Cur) (r5.length : Int)).bind fun w2 =>
    ((S_l1Below k w2.2 (256 : Int)).bind fun w3 =>
    ((idx r5 w2.1).bind fun _ =>
    ((idx r5 w2.1).bind fun e4 =>
    some ((w3.2.b, w3.2.i, w3.2.h, ((r5).set (w2.1).toNat (IntKind.wrap .u8 w3.1))))))))
    else some ((y700000_0, y700000_1, y700000_2, r5)))
noncomputable def S_l1Bent_c47 (k : Nat) (x47 : Bool) (y700000_0 : List Int) (y700000_1 : Int) (y700000_2 : Int) (r5 : List Int) : Option ((List Int) × Int × Int × (List Int)) :=
    (bif x47 then ((S_l1Below k (⟨y700000_0, y700000_1, y700000_2⟩ : Sl1Cur) (r5.length : Int)).bind fun w10 =>
    ((ssub r5 (0 : Int) w10.1).bind fun t11 =>
    ((app 1 ([] : List Int) t11).bind fun u12 =>
    ((ssub r5 (IntKind.wrap .i64 (w10.1 + (1 : Int))) (r5.length : Int)).bind fun t13 =>
    ((app 1 u12 t13).bind fun u14 =>
    some ((w10.2.b, w10.2.i, w10.2.h, u14)))))))
    else some ((y700000_0, y700000_1, y700000_2, r5)))
noncomputable def S_l1Bent_c43 (k : Nat) (x43 : Bool) (y700000_0 : List Int) (y700000_1 : Int) (y700000_2 : Int) (r5 : List Int) : Option ((List Int) × Int × Int × (List Int)) :=
    (bif x43 then ((S_l1Bent_c47 k (decide ((r5.length : Int) > (0 : Int))) y700000_0 y700000_1 y700000_2 r5).bind fun o10 =>
    some ((o10.1, o10.2.1, o10.2.2.1, o10.2.2.2)))
    else some ((y700000_0, y700000_1, y700000_2, r5)))
noncomputable def S_l1Bent_c34 (k : Nat) (x10 : Int) (x34 : Bool) (y700000_0 : List Int) (y700000_1 : Int) (y700000_2 : Int) (r5 : List Int) : Option ((List Int) × Int × Int × (List Int)) :=
    (bif x34 then ((S_l1Int k (⟨y700000_0, y700000_1, y700000_2⟩ : Sl1Cur) ([(0 : Int), (32 : Int), (44 : Int), (34 : Int), (255 : Int)] : List Int)).bind fun w8 =>
    ((app 1 r5 ([(IntKind.wrap .u8 w8.1)] : List Int)).bind fun u9 =>
    some ((w8.2.b, w8.2.i, w8.2.h, u9))))
    else ((S_l1Bent_c43 k (x10 == (3 : Int)) y700000_0 y700000_1 y700000_2 r5).bind fun o10 =>
    some ((o10.1, o10.2.1, o10.2.2.1, o10.2.2.2))))
noncomputable def S_l1Bent_c25 (k : Nat) (x10 : Int) (x25 : Bool) (y700000_0 : List Int) (y700000_1 : Int) (y700000_2 : Int) (r5 : List Int) : Option ((List Int) × Int × Int × (List Int)) :=
    (bif x25 then ((S_l1Below k (⟨y700000_0, y700000_1, y700000_2⟩ : Sl1Cur) (IntKind.wrap .i64 ((r5.length : Int) + (1 : Int)))).bind fun w6 =>
    ((ssub r5 (0 : Int) w6.1).bind fun t7 =>
    some ((w6.2.b, w6.2.i, w6.2.h, t7))))
    else ((S_l1Bent_c34 k x10 (x10 == (2 : Int)) y700000_0 y700000_1 y700000_2 r5).bind fun o8 =>
    some ((o8.1, o8.2.1, o8.2.2.1, o8.2.2.2))))
noncomputable def S_l1Bent_c11 (k : Nat) (x10 : Int) (x11 : Bool) (y700000_0 : List Int) (y700000_1 : Int) (y700000_2 : Int) (r5 : List Int) : Option ((List Int) × Int × Int × (List Int)) :=
    (bif x11 then ((S_l1Bent_c15 k (decide ((r5.length : Int) > (0 : Int))) y700000_0 y700000_1 y700000_2 r5).bind fun o2 =>
    some ((o2.1, o2.2.1, o2.2.2.1, o2.2.2.2)))
    else ((S_l1Bent_c25 k x10 (x10 == (1 : Int)) y700000_0 y700000_1 y700000_2 r5).bind fun o3 =>
    some ((o3.1, o3.2.1, o3.2.2.1, o3.2.2.2))))
noncomputable def S_l1Bent_b0 (k : Nat) (x10 : Int) (y700000_0 : List Int) (y700000_1 : Int) (y700000_2 : Int) (r5 : List Int) : Option ((List Int) × Int × Int × (List Int)) :=
    ((S_l1Bent_c11 k x10 (x10 == (0 : Int)) y700000_0 y700000_1 y700000_2 r5).bind fun o2 =>
    some ((o2.1, o2.2.1, o2.2.2.1, o2.2.2.2)))
noncomputable def S_l1Bent (k : Nat) (a0 : Sl1Cur) (a1 : List UInt8) : Option ((List UInt8) × Sl1Cur) :=
    ((S_l1Below k a0 (7 : Int)).bind fun w1 =>
    ((S_l1Bent_b0 k w1.1 w1.2.b w1.2.i w1.2.h (intsOf a1)).bind fun o3 =>
    some ((bytesOf o3.2.2.2), (⟨o3.1, o3.2.1, o3.2.2.1⟩ : Sl1Cur))))
/-! loop.example/g03012/spec.l12Some -/
noncomputable def S_l12Some_b0 (k : Nat) : Nat → (List UInt8) → Int → (List Int) → Int → Int → Option ((List UInt8) × (List Int) × Int × Int)
  | 0, _, _, _, _, _ => none
  | n + 1, x3, x4, y700000_0, y700000_1, y700000_2 =>
    (bif (decide (x4 > (0 : Int))) then ((S_l1Str k (⟨y700000_0, y700000_1, y700000_2⟩ : Sl1Cur) ([([47] : List UInt8), ([47, 46] : List UInt8), ([47, 46, 46] : List UInt8), ([47, 97] : List UInt8), ([47, 98, 37, 50, 48, 99] : List UInt8), ([47, 37, 55, 101] : List UInt8), ([37, 50, 102] : List UInt8), ([37, 122, 122] : List UInt8), ([63] : List UInt8), ([38] : List UInt8), ([98, 61, 49] : List UInt8), ([97, 61, 50] : List UInt8), ([37, 51, 68] : List UInt8), ([195, 169] : List UInt8)] : List (List UInt8))).bind fun w5 =>
    ((cat x3 w5.1).bind fun t6 =>
    S_l12Some_b0 k n t6 (IntKind.wrap .i64 (x4 - (1 : Int))) w5.2.b w5.2.i w5.2.h))
    else some ((x3, y700000_0, y700000_1, y700000_2)))
noncomputable def S_l12Some (k : Nat) (a0 : Sl1Cur) : Option ((List UInt8) × Sl1Cur) :=
    ((S_l1Once k a0 (3 : Int)).bind fun w1 =>
    (bif w1.1 then ((S_l11Target k w1.2).bind fun w2 =>
    ((S_l1Bent k w2.2 w2.1).bind fun w3 =>
    some (w3.1, w3.2)))
    else ((S_l1Below k w1.2 (6 : Int)).bind fun w4 =>
    ((S_l12Some_b0 k k ([] : List UInt8) w4.1 w4.2.b w4.2.i w4.2.h).bind fun o7 =>
    ((cat ([47] : List UInt8) o7.1).bind fun t8 =>
    some (t8, (⟨o7.2.1, o7.2.2.1, o7.2.2.2⟩ : Sl1Cur)))))))
/-! loop.example/g03012/spec.DrawNormalTarget -/
noncomputable def S_DrawNormalTarget (k : Nat) (a0 : List Int) : Option ((List UInt8)) :=
    ((S_l1New k a0).bind fun w1 =>
    ((S_l12Some k w1).bind fun w2 =>
    some w2.1))
/-! strings.Cut -/
noncomputable def strings_Cut (k : Nat) (a0 : List UInt8) (a1 : List UInt8) : Option ((List UInt8) × (List UInt8) × Bool) :=
    cutO a0 a1
/-! loop.example/g03012/impl.SplitTarget -/
noncomputable def I_SplitTarget (k : Nat) (a0 : List UInt8) : Option ((List UInt8) × (List UInt8) × Bool) :=
    ((strings_Cut k a0 ([63] : List UInt8)).bind fun w1 =>
    some (w1.1, w1.2.1, w1.2.2))
/-! strings.IndexByte -/
noncomputable def strings_IndexByte (k : Nat) (a0 : List UInt8) (a1 : Int) : Option (Int) :=
    indexByteO a0 a1
/-! loop.example/g03012/impl.hexDigit -/
noncomputable def I_hexDigit_c8 (k : Nat) (x0 : Int) (x8 : Bool) : Option (Int) :=
    (bif x8 then some ((IntKind.wrap .u8 (x0 - (32 : Int))))
    else some (x0))
noncomputable def I_hexDigit (k : Nat) (a0 : Int) : Option (Int) :=
    (bif (decide (a0 ≥ (97 : Int))) then ((I_hexDigit_c8 k a0 (decide (a0 ≤ (102 : Int)))).bind fun o1 =>
    ((strings_IndexByte k ([48, 49, 50, 51, 52, 53, 54, 55, 56, 57, 65, 66, 67, 68, 69, 70] : List UInt8) o1).bind fun w2 =>
    some w2)) else ((I_hexDigit_c8 k a0 false).bind fun o3 =>
    ((strings_IndexByte k ([48, 49, 50, 51, 52, 53, 54, 55, 56, 57, 65, 66, 67, 68, 69, 70] : List UInt8) o3).bind fun w4 =>
    some w4)))
/-! loop.example/g03012/impl.decodedTarget -/
noncomputable def I_decodedTarget_c88 (k : Nat) (x0 : List UInt8) (x5 : Int) (x6 : Int) (x7 : Int) (x8 : Int) (x88 : Bool) (r4 : List Int) : Option ((List Int)) :=
    (bif x88 then ((app 1 r4 ([x8] : List Int)).bind fun u12 =>
    some (u12))
    else ((idx ([48, 49, 50, 51, 52, 53, 54, 55, 56, 57, 65, 66, 67, 68, 69, 70] : List UInt8) x6).bind fun c13 =>
    ((idx ([48, 49, 50, 51, 52, 53, 54, 55, 56, 57, 65, 66, 67, 68, 69, 70] : List UInt8) x7).bind fun c14 =>
    ((app 1 r4 ([(37 : Int), (UInt8.toNat c13 : Int), (UInt8.toNat c14 : Int)] : List Int)).bind fun u15 =>
    some (u15)))))
noncomputable def I_decodedTarget_b1 (k : Nat) (x0 : List UInt8) (x5 : Int) (r4 : List Int) : Option (Oc (Int × (List Int)) ((List UInt8) × Bool)) :=
    ((idx x0 x5).bind fun c1 =>
    (bif ((UInt8.toNat c1 : Int) != (37 : Int)) then ((idx x0 x5).bind fun c2 =>
    ((app 1 r4 ([(UInt8.toNat c2 : Int)] : List Int)).bind fun u3 =>
    some (.nrm (x5, u3))))
    else (bif (decide ((IntKind.wrap .i64 (x5 + (2 : Int))) ≥ (x0.length : Int))) then some (.oth ((([] : List UInt8), false))) else ((idx x0 (IntKind.wrap .i64 (x5 + (1 : Int)))).bind fun c4 =>
    ((I_hexDigit k (UInt8.toNat c4 : Int)).bind fun w5 =>
    (bif (decide (w5 < (0 : Int))) then some (.oth ((([] : List UInt8), false))) else ((idx x0 (IntKind.wrap .i64 (x5 + (2 : Int)))).bind fun c6 =>
    ((I_hexDigit k (UInt8.toNat c6 : Int)).bind fun w7 =>
    (bif (decide (w7 < (0 : Int))) then some (.oth ((([] : List UInt8), false)))
    else ((idx x0 (IntKind.wrap .i64 (x5 + (1 : Int)))).bind fun c8 =>
    ((I_hexDigit k (UInt8.toNat c8 : Int)).bind fun w9 =>
    ((idx x0 (IntKind.wrap .i64 (x5 + (2 : Int)))).bind fun c10 =>
    ((I_hexDigit k (UInt8.toNat c10 : Int)).bind fun w11 =>
    (bif (decide ((IntKind.wrap .u8 (IntKind.wrap .i64 ((IntKind.wrap .i64 ((16 : Int) * w9)) + w11))) ≥ (97 : Int))) then (bif (decide ((IntKind.wrap .u8 (IntKind.wrap .i64 ((IntKind.wrap .i64 ((16 : Int) * w9)) + w11))) ≤ (122 : Int))) then ((I_decodedTarget_c88 k x0 x5 w9 w11 (IntKind.wrap .u8 (IntKind.wrap .i64 ((IntKind.wrap .i64 ((16 : Int) * w9)) + w11))) true r4).bind fun o12 =>
    some (.nrm ((IntKind.wrap .i64 (x5 + (2 : Int))), o12))) else (bif (decide ((IntKind.wrap .u8 (IntKind.wrap .i64 ((IntKind.wrap .i64 ((16 : Int) * w9)) + w11))) ≥ (65 : Int))) then (bif (decide ((IntKind.wrap .u8 (IntKind.wrap .i64 ((IntKind.wrap .i64 ((16 : Int) * w9)) + w11))) ≤ (90 : Int))) then ((I_decodedTarget_c88 k x0 x5 w9 w11 (IntKind.wrap .u8 (IntKind.wrap .i64 ((IntKind.wrap .i64 ((16 : Int) * w9)) + w11))) true r4).bind fun o13 =>
    some (.nrm ((IntKind.wrap .i64 (x5 + (2 : Int))), o13))) else (bif (decide ((IntKind.wrap .u8 (IntKind.wrap .i64 ((IntKind.wrap .i64 ((16 : Int) * w9)) + w11))) ≥ (48 : Int))) then (bif (decide ((IntKind.wrap .u8 (IntKind.wrap .i64 ((IntKind.wrap .i64 ((16 : Int) * w9)) + w11))) ≤ (57 : Int))) then ((I_decodedTarget_c88 k x0 x5 w9 w11 (IntKind.wrap .u8 (IntKind.wrap .i64 ((IntKind.wrap .i64 ((16 : Int) * w9)) + w11))) true r4).bind fun o14 =>
    some (.nrm ((IntKind.wrap .i64 (x5 + (2 : Int))), o14))) else ((strings_IndexByte k ([45, 46, 95, 126] : List UInt8) (IntKind.wrap .u8 (IntKind.wrap .i64 ((IntKind.wrap .i64 ((16 : Int) * w9)) + w11)))).bind fun w15 =>
    ((I_decodedTarget_c88 k x0 x5 w9 w11 (IntKind.wrap .u8 (IntKind.wrap .i64 ((IntKind.wrap .i64 ((16 : Int) * w9)) + w11))) (decide (w15 ≥ (0 : Int))) r4).bind fun o16 =>
    some (.nrm ((IntKind.wrap .i64 (x5 + (2 : Int))), o16))))) else ((strings_IndexByte k ([45, 46, 95, 126] : List UInt8) (IntKind.wrap .u8 (IntKind.wrap .i64 ((IntKind.wrap .i64 ((16 : Int) * w9)) + w11)))).bind fun w17 =>
    ((I_decodedTarget_c88 k x0 x5 w9 w11 (IntKind.wrap .u8 (IntKind.wrap .i64 ((IntKind.wrap .i64 ((16 : Int) * w9)) + w11))) (decide (w17 ≥ (0 : Int))) r4).bind fun o18 =>
    some (.nrm ((IntKind.wrap .i64 (x5 + (2 : Int))), o18)))))) else (bif (decide ((IntKind.wrap .u8 (IntKind.wrap .i64 ((IntKind.wrap .i64 ((16 : Int) * w9)) + w11))) ≥ (48 : Int))) then (bif (decide ((IntKind.wrap .u8 (IntKind.wrap .i64 ((IntKind.wrap .i64 ((16 : Int) * w9)) + w11))) ≤ (57 : Int))) then ((I_decodedTarget_c88 k x0 x5 w9 w11 (IntKind.wrap .u8 (IntKind.wrap .i64 ((IntKind.wrap .i64 ((16 : Int) * w9)) + w11))) true r4).bind fun o19 =>
    some (.nrm ((IntKind.wrap .i64 (x5 + (2 : Int))), o19))) else ((strings_IndexByte k ([45, 46, 95, 126] : List UInt8) (IntKind.wrap .u8 (IntKind.wrap .i64 ((IntKind.wrap .i64 ((16 : Int) * w9)) + w11)))).bind fun w20 =>
    ((I_decodedTarget_c88 k x0 x5 w9 w11 (IntKind.wrap .u8 (IntKind.wrap .i64 ((IntKind.wrap .i64 ((16 : Int) * w9)) + w11))) (decide (w20 ≥ (0 : Int))) r4).bind fun o21 =>
    some (.nrm ((IntKind.wrap .i64 (x5 + (2 : Int))), o21))))) else ((strings_IndexByte k ([45, 46, 95, 126] : List UInt8) (IntKind.wrap .u8 (IntKind.wrap .i64 ((IntKind.wrap .i64 ((16 : Int) * w9)) + w11)))).bind fun w22 =>
    ((I_decodedTarget_c88 k x0 x5 w9 w11 (IntKind.wrap .u8 (IntKind.wrap .i64 ((IntKind.wrap .i64 ((16 : Int) * w9)) + w11))) (decide (w22 ≥ (0 : Int))) r4).bind fun o23 =>
    some (.nrm ((IntKind.wrap .i64 (x5 + (2 : Int))), o23))))))) else (bif (decide ((IntKind.wrap .u8 (IntKind.wrap .i64 ((IntKind.wrap .i64 ((16 : Int) * w9)) + w11))) ≥ (65 : Int))) then (bif (decide ((IntKind.wrap .u8 (IntKind.wrap .i64 ((IntKind.wrap .i64 ((16 : Int) * w9)) + w11))) ≤ (90 : Int))) then ((I_decodedTarget_c88 k x0 x5 w9 w11 (IntKind.wrap .u8 (IntKind.wrap .i64 ((IntKind.wrap .i64 ((16 : Int) * w9)) + w11))) true r4).bind fun o24 =>
    some (.nrm ((IntKind.wrap .i64 (x5 + (2 : Int))), o24))) else (bif (decide ((IntKind.wrap .u8 (IntKind.wrap .i64 ((IntKind.wrap .i64 ((16 : Int) * w9)) + w11))) ≥ (48 : Int))) then (bif (decide ((IntKind.wrap .u8 (IntKind.wrap .i64 ((IntKind.wrap .i64 ((16 : Int) * w9)) + w11))) ≤ (57 : Int))) then ((I_decodedTarget_c88 k x0 x5 w9 w11 (IntKind.wrap .u8 (IntKind.wrap .i64 ((IntKind.wrap .i64 ((16 : Int) * w9)) + w11))) true r4).bind fun o25 =>
    some (.nrm ((IntKind.wrap .i64 (x5 + (2 : Int))), o25))) else ((strings_IndexByte k ([45, 46, 95, 126] : List UInt8) (IntKind.wrap .u8 (IntKind.wrap .i64 ((IntKind.wrap .i64 ((16 : Int) * w9)) + w11)))).bind fun w26 =>
    ((I_decodedTarget_c88 k x0 x5 w9 w11 (IntKind.wrap .u8 (IntKind.wrap .i64 ((IntKind.wrap .i64 ((16 : Int) * w9)) + w11))) (decide (w26 ≥ (0 : Int))) r4).bind fun o27 =>
    some (.nrm ((IntKind.wrap .i64 (x5 + (2 : Int))), o27))))) else ((strings_IndexByte k ([45, 46, 95, 126] : List UInt8) (IntKind.wrap .u8 (IntKind.wrap .i64 ((IntKind.wrap .i64 ((16 : Int) * w9)) + w11)))).bind fun w28 =>
    ((I_decodedTarget_c88 k x0 x5 w9 w11 (IntKind.wrap .u8 (IntKind.wrap .i64 ((IntKind.wrap .i64 ((16 : Int) * w9)) + w11))) (decide (w28 ≥ (0 : Int))) r4).bind fun o29 =>
    some (.nrm ((IntKind.wrap .i64 (x5 + (2 : Int))), o29)))))) else (bif (decide ((IntKind.wrap .u8 (IntKind.wrap .i64 ((IntKind.wrap .i64 ((16 : Int) * w9)) + w11))) ≥ (48 : Int))) then (bif (decide ((IntKind.wrap .u8 (IntKind.wrap .i64 ((IntKind.wrap .i64 ((16 : Int) * w9)) + w11))) ≤ (57 : Int))) then ((I_decodedTarget_c88 k x0 x5 w9 w11 (IntKind.wrap .u8 (IntKind.wrap .i64 ((IntKind.wrap .i64 ((16 : Int) * w9)) + w11))) true r4).bind fun o30 =>
    some (.nrm ((IntKind.wrap .i64 (x5 + (2 : Int))), o30))) else ((strings_IndexByte k ([45, 46, 95, 126] : List UInt8) (IntKind.wrap .u8 (IntKind.wrap .i64 ((IntKind.wrap .i64 ((16 : Int) * w9)) + w11)))).bind fun w31 =>
    ((I_decodedTarget_c88 k x0 x5 w9 w11 (IntKind.wrap .u8 (IntKind.wrap .i64 ((IntKind.wrap .i64 ((16 : Int) * w9)) + w11))) (decide (w31 ≥ (0 : Int))) r4).bind fun o32 =>
    some (.nrm ((IntKind.wrap .i64 (x5 + (2 : Int))), o32))))) else ((strings_IndexByte k ([45, 46, 95, 126] : List UInt8) (IntKind.wrap .u8 (IntKind.wrap .i64 ((IntKind.wrap .i64 ((16 : Int) * w9)) + w11)))).bind fun w33 =>
    ((I_decodedTarget_c88 k x0 x5 w9 w11 (IntKind.wrap .u8 (IntKind.wrap .i64 ((IntKind.wrap .i64 ((16 : Int) * w9)) + w11))) (decide (w33 ≥ (0 : Int))) r4).bind fun o34 =>
    some (.nrm ((IntKind.wrap .i64 (x5 + (2 : Int))), o34))))))))))))))))))))
noncomputable def I_decodedTarget_b0 (k : Nat) : Nat → (List UInt8) → Int → (List Int) → Option (Oc ((List Int)) ((List UInt8) × Bool))
  | 0, _, _, _ => none
  | n + 1, x0, x5, r4 =>
    (bif (decide (x5 < (x0.length : Int))) then ((I_decodedTarget_b1 k x0 x5 r4).bind fun o1 =>
    oc o1 (fun o2 => I_decodedTarget_b0 k n x0 (IntKind.wrap .i64 (o2.1 + (1 : Int))) o2.2)
    (fun o3 => some (.oth (o3))))
    else some (.nrm r4))
noncomputable def I_decodedTarget (k : Nat) (a0 : List UInt8) : Option ((List UInt8) × Bool) :=
    ((I_decodedTarget_b0 k k a0 (0 : Int) ([] : List Int)).bind fun o4 =>
    oc o4 (fun o5 => some ((bytesOf o5), true))
    (fun o6 => some o6))
/-! internal/stringslite.HasPrefix -/
noncomputable def internal_stringslite_HasPrefix (k : Nat) (a0 : List UInt8) (a1 : List UInt8) : Option (Bool) :=
    (bif (decide ((a0.length : Int) ≥ (a1.length : Int))) then ((ssub a0 (0 : Int) (a1.length : Int)).bind fun t1 =>
    some (t1 == a1)) else some false)
/-! strings.HasPrefix -/
noncomputable def strings_HasPrefix (k : Nat) (a0 : List UInt8) (a1 : List UInt8) : Option (Bool) :=
    ((internal_stringslite_HasPrefix k a0 a1).bind fun w1 =>
    some w1)
/-! strings.Split -/
noncomputable def strings_Split (k : Nat) (a0 : List UInt8) (a1 : List UInt8) : Option ((List (List UInt8))) :=
    splitO a0 a1
/-! loop.example/g03012/impl.cleanComponents -/
noncomputable def I_cleanComponents_c20 (k : Nat) (x0 : List (List UInt8)) (x4 : Int) (x5 : List UInt8) (x7 : List (List UInt8)) (x8 : Int) (x9 : Int) (x20 : Bool) (r3 : List (List UInt8)) : Option ((List (List UInt8))) :=
    (bif x20 then ((ssub r3 (0 : Int) (IntKind.wrap .i64 ((r3.length : Int) - (1 : Int)))).bind fun t2 =>
    some (t2))
    else some (r3))
noncomputable def I_cleanComponents_c37 (k : Nat) (x0 : List (List UInt8)) (x7 : List (List UInt8)) (x8 : Int) (x9 : Int) (x37 : Bool) (r3 : List (List UInt8)) : Option ((List (List UInt8))) :=
    (bif x37 then ((app 16 r3 ([([] : List UInt8)] : List (List UInt8))).bind fun u5 =>
    some (u5))
    else some (r3))
noncomputable def I_cleanComponents_c26 (k : Nat) (x0 : List (List UInt8)) (x4 : Int) (x5 : List UInt8) (x7 : List (List UInt8)) (x8 : Int) (x9 : Int) (x26 : Bool) (r3 : List (List UInt8)) : Option ((List (List UInt8))) :=
    (bif x26 then ((app 16 r3 ([x5] : List (List UInt8))).bind fun u4 =>
    some (u4))
    else ((I_cleanComponents_c37 k x0 x7 x8 x9 (x4 == (IntKind.wrap .i64 ((x0.length : Int) - (1 : Int)))) r3).bind fun o5 =>
    some (o5)))
noncomputable def I_cleanComponents_b2 (k : Nat) (x0 : List (List UInt8)) (x4 : Int) (x5 : List UInt8) (x7 : List (List UInt8)) (x8 : Int) (x9 : Int) (r3 : List (List UInt8)) : Option ((List (List UInt8))) :=
    (bif (!(x5 == ([46] : List UInt8))) then ((I_cleanComponents_c26 k x0 x4 x5 x7 x8 x9 (!(x5 == ([46, 46] : List UInt8))) r3).bind fun o4 =>
    some (o4)) else ((I_cleanComponents_c26 k x0 x4 x5 x7 x8 x9 false r3).bind fun o5 =>
    some (o5)))
noncomputable def I_cleanComponents_b1 (k : Nat) (x0 : List (List UInt8)) (x7 : List (List UInt8)) (x8 : Int) (x9 : Int) (r3 : List (List UInt8)) : Option ((List (List UInt8))) :=
    ((idx x7 x9).bind fun e1 =>
    (bif (e1 == ([46, 46] : List UInt8)) then ((I_cleanComponents_c20 k x0 x9 e1 x7 x8 x9 (decide ((r3.length : Int) > (0 : Int))) r3).bind fun o2 =>
    ((I_cleanComponents_b2 k x0 x9 e1 x7 x8 x9 o2).bind fun o3 =>
    some (o3))) else ((I_cleanComponents_c20 k x0 x9 e1 x7 x8 x9 false r3).bind fun o4 =>
    ((I_cleanComponents_b2 k x0 x9 e1 x7 x8 x9 o4).bind fun o5 =>
    some (o5)))))
noncomputable def I_cleanComponents_b0 (k : Nat) : Nat → (List (List UInt8)) → (List (List UInt8)) → Int → Int → (List (List UInt8)) → Option ((List (List UInt8)))
  | 0, _, _, _, _, _ => none
  | n + 1, x0, x7, x8, x9, r3 =>
    (bif (decide (x9 < x8)) then ((I_cleanComponents_b1 k x0 x7 x8 x9 r3).bind fun o1 =>
    I_cleanComponents_b0 k n x0 x7 x8 (IntKind.wrap .i64 (x9 + (1 : Int))) o1)
    else some (r3))
noncomputable def I_cleanComponents (k : Nat) (a0 : List (List UInt8)) : Option ((List (List UInt8))) :=
    ((I_cleanComponents_b0 k k a0 a0 (a0.length : Int) (0 : Int) ([] : List (List UInt8))).bind fun o2 =>
    some o2)
/-! strings.Join -/
noncomputable def strings_Join (k : Nat) (a0 : List (List UInt8)) (a1 : List UInt8) : Option ((List UInt8)) :=
    joinO a0 a1
/-! loop.example/g03012/impl.NormalTarget$1 -/
noncomputable def I_NormalTarget_1 (k : Nat) (a0 : List UInt8) : Option (Bool) :=
    some (a0 == ([] : List UInt8))
/-! slices.IndexFunc[[]string,string] -/
noncomputable def slices_IndexFunc_string_at_I_NormalTarget_1_b0 (k : Nat) : Nat → (List (List UInt8)) → Int → Int → Option (Oc (Unit) (Int))
  | 0, _, _, _ => none
  | n + 1, x0, x7, x8 =>
    (bif (decide (x8 < x7)) then ((idx x0 x8).bind fun e1 =>
    ((I_NormalTarget_1 k e1).bind fun w2 =>
    (bif w2 then some (.oth (x8))
    else slices_IndexFunc_string_at_I_NormalTarget_1_b0 k n x0 x7 (IntKind.wrap .i64 (x8 + (1 : Int))))))
    else some (.nrm ()))
noncomputable def slices_IndexFunc_string_at_I_NormalTarget_1 (k : Nat) (a0 : List (List UInt8)) : Option (Int) :=
    ((slices_IndexFunc_string_at_I_NormalTarget_1_b0 k k a0 (a0.length : Int) (0 : Int)).bind fun o3 =>
    oc o3 (fun o4 => some (-1 : Int))
    (fun o5 => some o5))
/-! slices.DeleteFunc[[]string,string] -/
noncomputable def slices_DeleteFunc_string_at_I_NormalTarget_1_c29 (k : Nat) (x5 : Int) (x6 : Int) (x7 : List UInt8) (x29 : Bool) (r0 : List (List UInt8)) : Option (Int × (List (List UInt8))) :=
    (bif x29 then ((idx r0 x5).bind fun _ =>
    ((idx r0 x5).bind fun e4 =>
    some (((IntKind.wrap .i64 (x5 + (1 : Int))), ((r0).set (x5).toNat x7)))))
    else some ((x5, r0)))
noncomputable def slices_DeleteFunc_string_at_I_NormalTarget_1_b1 (k : Nat) (x5 : Int) (x6 : Int) (r0 : List (List UInt8)) : Option (Int × (List (List UInt8))) :=
    ((idx r0 x6).bind fun _ =>
    ((idx r0 x6).bind fun e2 =>
    ((I_NormalTarget_1 k e2).bind fun w3 =>
    ((slices_DeleteFunc_string_at_I_NormalTarget_1_c29 k x5 x6 e2 (!w3) r0).bind fun o4 =>
    some ((o4.1, o4.2))))))
noncomputable def slices_DeleteFunc_string_at_I_NormalTarget_1_b0 (k : Nat) : Nat → Int → Int → (List (List UInt8)) → Option (Int × (List (List UInt8)))
  | 0, _, _, _ => none
  | n + 1, x5, x6, r0 =>
    (bif (decide (x6 < (r0.length : Int))) then ((slices_DeleteFunc_string_at_I_NormalTarget_1_b1 k x5 x6 r0).bind fun o2 =>
    slices_DeleteFunc_string_at_I_NormalTarget_1_b0 k n o2.1 (IntKind.wrap .i64 (x6 + (1 : Int))) o2.2)
    else some ((x5, r0)))
noncomputable def slices_DeleteFunc_string_at_I_NormalTarget_1 (k : Nat) (a0 : List (List UInt8)) : Option ((List (List UInt8))) :=
    ((slices_IndexFunc_string_at_I_NormalTarget_1 k a0).bind fun w1 =>
    (bif (w1 == (-1 : Int)) then some a0
    else ((slices_DeleteFunc_string_at_I_NormalTarget_1_b0 k k w1 (IntKind.wrap .i64 (w1 + (1 : Int))) a0).bind fun o3 =>
    ((ssub o3.2 o3.1 (o3.2.length : Int)).bind fun _ =>
    ((ssub (o3.2.take (Int.toNat o3.1) ++ List.replicate (o3.2.length - (Int.toNat o3.1)) ([] : List UInt8)) (0 : Int) o3.1).bind fun t5 =>
    some t5)))))
/-! slices.Sort[[]string,string] -/
noncomputable def slices_Sort_string (k : Nat) (a0 : List (List UInt8)) : Option ((List (List UInt8))) :=
    sortO a0
/-! loop.example/g03012/impl.NormalTarget -/
noncomputable def I_NormalTarget_c51 (k : Nat) (x9 : List UInt8) (x51 : Bool) (r10 : List (List UInt8)) : Option ((List UInt8)) :=
    (bif x51 then ((strings_Join k r10 ([38] : List UInt8)).bind fun w13 =>
    ((cat ([63] : List UInt8) w13).bind fun t14 =>
    ((cat x9 t14).bind fun t15 =>
    some (t15))))
    else some (x9))
noncomputable def I_NormalTarget (k : Nat) (a0 : List UInt8) : Option ((List UInt8) × Bool) :=
    ((I_SplitTarget k a0).bind fun w1 =>
    ((I_decodedTarget k w1.1).bind fun w2 =>
    ((I_decodedTarget k w1.2.1).bind fun w3 =>
    (bif (!w2.2) then some (([] : List UInt8), false) else (bif (!w3.2) then some (([] : List UInt8), false) else ((strings_HasPrefix k w2.1 ([47] : List UInt8)).bind fun w4 =>
    (bif (!w4) then some (([] : List UInt8), false)
    else ((ssub w2.1 (1 : Int) (w2.1.length : Int)).bind fun t5 =>
    ((strings_Split k t5 ([47] : List UInt8)).bind fun w6 =>
    ((I_cleanComponents k w6).bind fun w7 =>
    ((strings_Join k w7 ([47] : List UInt8)).bind fun w8 =>
    ((cat ([47] : List UInt8) w8).bind fun t9 =>
    ((strings_Split k w3.1 ([38] : List UInt8)).bind fun w10 =>
    ((slices_DeleteFunc_string_at_I_NormalTarget_1 k w10).bind fun w11 =>
    ((slices_Sort_string k w11).bind fun w12 =>
    ((I_NormalTarget_c51 k t9 (decide ((w12.length : Int) > (0 : Int))) w12).bind fun o16 =>
    some (o16, true)))))))))))))))))
/-! loop.example/g03012/spec.SplitTarget -/
noncomputable def S_SplitTarget_b0 (k : Nat) : Nat → (List UInt8) → Int → Option (Oc (Unit) ((List UInt8) × (List UInt8) × Bool))
  | 0, _, _ => none
  | n + 1, x0, x5 =>
    (bif (decide (x5 < (x0.length : Int))) then ((idx x0 x5).bind fun c1 =>
    (bif ((UInt8.toNat c1 : Int) == (63 : Int)) then ((ssub x0 (0 : Int) x5).bind fun t2 =>
    ((ssub x0 (IntKind.wrap .i64 (x5 + (1 : Int))) (x0.length : Int)).bind fun t3 =>
    some (.oth ((t2, t3, true)))))
    else S_SplitTarget_b0 k n x0 (IntKind.wrap .i64 (x5 + (1 : Int)))))
    else some (.nrm ()))
noncomputable def S_SplitTarget (k : Nat) (a0 : List UInt8) : Option ((List UInt8) × (List UInt8) × Bool) :=
    ((S_SplitTarget_b0 k k a0 (0 : Int)).bind fun o4 =>
    oc o4 (fun o5 => some (a0, ([] : List UInt8), false))
    (fun o6 => some o6))
/-! loop.example/g03012/spec.l1In -/
noncomputable def S_l1In (k : Nat) (a0 : Int) (a1 : Int) (a2 : Int) : Option (Bool) :=
    (bif (decide (a0 ≥ a1)) then some (decide (a0 ≤ a2)) else some false)
/-! loop.example/g03012/spec.l12Hex -/
noncomputable def S_l12Hex (k : Nat) (a0 : Int) : Option (Int) :=
    ((S_l1In k (IntKind.wrap .i64 a0) (48 : Int) (57 : Int)).bind fun w1 =>
    (bif w1 then some (IntKind.wrap .i64 (IntKind.wrap .u8 (a0 - (48 : Int))))
    else ((S_l1In k (IntKind.wrap .i64 a0) (97 : Int) (102 : Int)).bind fun w2 =>
    (bif w2 then some (IntKind.wrap .i64 ((IntKind.wrap .i64 (IntKind.wrap .u8 (a0 - (97 : Int)))) + (10 : Int)))
    else ((S_l1In k (IntKind.wrap .i64 a0) (65 : Int) (70 : Int)).bind fun w3 =>
    (bif w3 then some (IntKind.wrap .i64 ((IntKind.wrap .i64 (IntKind.wrap .u8 (a0 - (65 : Int)))) + (10 : Int)))
    else some (-1 : Int)))))))
/-! loop.example/g03012/spec.l4Letter -/
noncomputable def S_l4Letter (k : Nat) (a0 : Int) : Option (Bool) :=
    ((S_l1In k (IntKind.wrap .i64 a0) (97 : Int) (122 : Int)).bind fun w1 =>
    (bif w1 then some true else ((S_l1In k (IntKind.wrap .i64 a0) (65 : Int) (90 : Int)).bind fun w2 =>
    (bif w2 then some true else ((S_l1In k (IntKind.wrap .i64 a0) (48 : Int) (57 : Int)).bind fun w3 =>
    some w3)))))
/-! loop.example/g03012/spec.l12Plain -/
noncomputable def S_l12Plain_c75 (k : Nat) (x0 : List UInt8) (x5 : Int) (x6 : Int) (x75 : Bool) (r4 : List Int) : Option ((List Int)) :=
    (bif x75 then ((app 1 r4 ([x6] : List Int)).bind fun u13 =>
    some (u13))
    else ((shrI .u8 x6 (4 : Int)).bind fun q14 =>
    ((idx ([48, 49, 50, 51, 52, 53, 54, 55, 56, 57, 65, 66, 67, 68, 69, 70] : List UInt8) q14).bind fun c15 =>
    ((idx ([48, 49, 50, 51, 52, 53, 54, 55, 56, 57, 65, 66, 67, 68, 69, 70] : List UInt8) (andI .u8 x6 (15 : Int))).bind fun c16 =>
    ((app 1 r4 ([(37 : Int), (UInt8.toNat c15 : Int), (UInt8.toNat c16 : Int)] : List Int)).bind fun u17 =>
    some (u17))))))
noncomputable def S_l12Plain_b1 (k : Nat) (x0 : List UInt8) (x5 : Int) (r4 : List Int) : Option (Oc (Int × (List Int)) ((List UInt8) × Bool)) :=
    ((idx x0 x5).bind fun c1 =>
    (bif ((UInt8.toNat c1 : Int) != (37 : Int)) then ((idx x0 x5).bind fun c2 =>
    ((app 1 r4 ([(UInt8.toNat c2 : Int)] : List Int)).bind fun u3 =>
    some (.nrm (x5, u3))))
    else (bif (decide ((IntKind.wrap .i64 (x5 + (2 : Int))) ≥ (x0.length : Int))) then some (.oth ((([] : List UInt8), false))) else ((idx x0 (IntKind.wrap .i64 (x5 + (1 : Int)))).bind fun c4 =>
    ((S_l12Hex k (UInt8.toNat c4 : Int)).bind fun w5 =>
    (bif (decide (w5 < (0 : Int))) then some (.oth ((([] : List UInt8), false))) else ((idx x0 (IntKind.wrap .i64 (x5 + (2 : Int)))).bind fun c6 =>
    ((S_l12Hex k (UInt8.toNat c6 : Int)).bind fun w7 =>
    (bif (decide (w7 < (0 : Int))) then some (.oth ((([] : List UInt8), false)))
    else ((idx x0 (IntKind.wrap .i64 (x5 + (1 : Int)))).bind fun c8 =>
    ((S_l12Hex k (UInt8.toNat c8 : Int)).bind fun w9 =>
    ((idx x0 (IntKind.wrap .i64 (x5 + (2 : Int)))).bind fun c10 =>
    ((S_l12Hex k (UInt8.toNat c10 : Int)).bind fun w11 =>
    ((S_l4Letter k (IntKind.wrap .u8 (IntKind.wrap .i64 ((IntKind.wrap .i64 ((16 : Int) * w9)) + w11)))).bind fun w12 =>
    (bif w12 then ((S_l12Plain_c75 k x0 x5 (IntKind.wrap .u8 (IntKind.wrap .i64 ((IntKind.wrap .i64 ((16 : Int) * w9)) + w11))) true r4).bind fun o13 =>
    some (.nrm ((IntKind.wrap .i64 (x5 + (2 : Int))), o13))) else (bif ((IntKind.wrap .u8 (IntKind.wrap .i64 ((IntKind.wrap .i64 ((16 : Int) * w9)) + w11))) == (45 : Int)) then ((S_l12Plain_c75 k x0 x5 (IntKind.wrap .u8 (IntKind.wrap .i64 ((IntKind.wrap .i64 ((16 : Int) * w9)) + w11))) true r4).bind fun o14 =>
    some (.nrm ((IntKind.wrap .i64 (x5 + (2 : Int))), o14))) else (bif ((IntKind.wrap .u8 (IntKind.wrap .i64 ((IntKind.wrap .i64 ((16 : Int) * w9)) + w11))) == (46 : Int)) then ((S_l12Plain_c75 k x0 x5 (IntKind.wrap .u8 (IntKind.wrap .i64 ((IntKind.wrap .i64 ((16 : Int) * w9)) + w11))) true r4).bind fun o15 =>
    some (.nrm ((IntKind.wrap .i64 (x5 + (2 : Int))), o15))) else (bif ((IntKind.wrap .u8 (IntKind.wrap .i64 ((IntKind.wrap .i64 ((16 : Int) * w9)) + w11))) == (95 : Int)) then ((S_l12Plain_c75 k x0 x5 (IntKind.wrap .u8 (IntKind.wrap .i64 ((IntKind.wrap .i64 ((16 : Int) * w9)) + w11))) true r4).bind fun o16 =>
    some (.nrm ((IntKind.wrap .i64 (x5 + (2 : Int))), o16))) else ((S_l12Plain_c75 k x0 x5 (IntKind.wrap .u8 (IntKind.wrap .i64 ((IntKind.wrap .i64 ((16 : Int) * w9)) + w11))) ((IntKind.wrap .u8 (IntKind.wrap .i64 ((IntKind.wrap .i64 ((16 : Int) * w9)) + w11))) == (126 : Int)) r4).bind fun o17 =>
    some (.nrm ((IntKind.wrap .i64 (x5 + (2 : Int))), o17)))))))))))))))))))))
noncomputable def S_l12Plain_b0 (k : Nat) : Nat → (List UInt8) → Int → (List Int) → Option (Oc ((List Int)) ((List UInt8) × Bool))
  | 0, _, _, _ => none
  | n + 1, x0, x5, r4 =>
    (bif (decide (x5 < (x0.length : Int))) then ((S_l12Plain_b1 k x0 x5 r4).bind fun o1 =>
    oc o1 (fun o2 => S_l12Plain_b0 k n x0 (IntKind.wrap .i64 (o2.1 + (1 : Int))) o2.2)
    (fun o3 => some (.oth (o3))))
    else some (.nrm r4))
noncomputable def S_l12Plain (k : Nat) (a0 : List UInt8) : Option ((List UInt8) × Bool) :=
    ((S_l12Plain_b0 k k a0 (0 : Int) ([] : List Int)).bind fun o4 =>
    oc o4 (fun o5 => some ((bytesOf o5), true))
    (fun o6 => some o6))
/-! loop.example/g03012/spec.l12Split -/
noncomputable def S_l12Split_c19 (k : Nat) (x0 : List UInt8) (x1 : Int) (x6 : Int) (x7 : Int) (x19 : Bool) (r5 : List (List UInt8)) : Option (Int × (List (List UInt8))) :=
    (bif x19 then ((ssub x0 x6 x7).bind fun t2 =>
    ((app 16 r5 ([t2] : List (List UInt8))).bind fun u3 =>
    some (((IntKind.wrap .i64 (x7 + (1 : Int))), u3))))
    else some ((x6, r5)))
noncomputable def S_l12Split_b1 (k : Nat) (x0 : List UInt8) (x1 : Int) (x6 : Int) (x7 : Int) (r5 : List (List UInt8)) : Option (Int × (List (List UInt8))) :=
    ((idx x0 x7).bind fun c1 =>
    ((S_l12Split_c19 k x0 x1 x6 x7 ((UInt8.toNat c1 : Int) == x1) r5).bind fun o2 =>
    some ((o2.1, o2.2))))
noncomputable def S_l12Split_b0 (k : Nat) : Nat → (List UInt8) → Int → Int → Int → (List (List UInt8)) → Option (Int × (List (List UInt8)))
  | 0, _, _, _, _, _ => none
  | n + 1, x0, x1, x6, x7, r5 =>
    (bif (decide (x7 < (x0.length : Int))) then ((S_l12Split_b1 k x0 x1 x6 x7 r5).bind fun o1 =>
    S_l12Split_b0 k n x0 x1 o1.1 (IntKind.wrap .i64 (x7 + (1 : Int))) o1.2)
    else some ((x6, r5)))
noncomputable def S_l12Split (k : Nat) (a0 : List UInt8) (a1 : Int) : Option ((List (List UInt8))) :=
    ((S_l12Split_b0 k k a0 a1 (0 : Int) (0 : Int) ([] : List (List UInt8))).bind fun o2 =>
    ((ssub a0 o2.1 (a0.length : Int)).bind fun t3 =>
    ((app 16 o2.2 ([t3] : List (List UInt8))).bind fun u4 =>
    some u4)))
/-! loop.example/g03012/spec.l12Path -/
noncomputable def S_l12Path_c40 (k : Nat) (x5 : Int) (x6 : Bool) (x40 : Bool) (r3 : List (List UInt8)) (r4 : List (List UInt8)) : Option (Bool × (List (List UInt8))) :=
    (bif x40 then ((idx r3 x5).bind fun _ =>
    ((idx r3 x5).bind fun e7 =>
    ((app 16 r4 ([e7] : List (List UInt8))).bind fun u8 =>
    some ((false, u8)))))
    else some ((x6, r4)))
noncomputable def S_l12Path_c24 (k : Nat) (x5 : Int) (x6 : Bool) (x24 : Bool) (r3 : List (List UInt8)) (r4 : List (List UInt8)) : Option (Bool × (List (List UInt8))) :=
    (bif x24 then ((ssub r4 (0 : Int) (IntKind.wrap .i64 ((r4.length : Int) - (1 : Int)))).bind fun t4 =>
    some ((x6, t4)))
    else ((idx r3 x5).bind fun _ =>
    ((idx r3 x5).bind fun e5 =>
    (bif (!(e5 == ([46] : List UInt8))) then ((idx r3 x5).bind fun _ =>
    ((idx r3 x5).bind fun e6 =>
    ((S_l12Path_c40 k x5 x6 (!(e6 == ([46, 46] : List UInt8))) r3 r4).bind fun o7 =>
    some ((o7.1, o7.2))))) else ((S_l12Path_c40 k x5 x6 false r3 r4).bind fun o8 =>
    some ((o8.1, o8.2)))))))
noncomputable def S_l12Path_b2 (k : Nat) (x5 : Int) (x6 : Bool) (r3 : List (List UInt8)) (r4 : List (List UInt8)) : Option (Bool × (List (List UInt8))) :=
    ((idx r3 x5).bind fun _ =>
    ((idx r3 x5).bind fun e3 =>
    (bif (e3 == ([46, 46] : List UInt8)) then ((S_l12Path_c24 k x5 x6 (decide ((r4.length : Int) > (0 : Int))) r3 r4).bind fun o4 =>
    some ((o4.1, o4.2))) else ((S_l12Path_c24 k x5 x6 false r3 r4).bind fun o5 =>
    some ((o5.1, o5.2))))))
noncomputable def S_l12Path_c60 (k : Nat) (x5 : Int) (x60 : Bool) (r3 : List (List UInt8)) (r4 : List (List UInt8)) : Option ((List (List UInt8))) :=
    (bif x60 then ((app 16 r4 ([([] : List UInt8)] : List (List UInt8))).bind fun u7 =>
    some (u7))
    else some (r4))
noncomputable def S_l12Path_b1 (k : Nat) (x5 : Int) (r3 : List (List UInt8)) (r4 : List (List UInt8)) : Option ((List (List UInt8))) :=
    ((S_l12Path_b2 k x5 (x5 == (IntKind.wrap .i64 ((r3.length : Int) - (1 : Int)))) r3 r4).bind fun o3 =>
    ((S_l12Path_c60 k x5 o3.1 r3 o3.2).bind fun o4 =>
    some (o4)))
noncomputable def S_l12Path_b0 (k : Nat) : Nat → Int → (List (List UInt8)) → (List (List UInt8)) → Option ((List (List UInt8)))
  | 0, _, _, _ => none
  | n + 1, x5, r3, r4 =>
    (bif (decide (x5 < (r3.length : Int))) then ((S_l12Path_b1 k x5 r3 r4).bind fun o3 =>
    S_l12Path_b0 k n (IntKind.wrap .i64 (x5 + (1 : Int))) r3 o3)
    else some (r4))
noncomputable def S_l12Path_b3 (k : Nat) : Nat → (List UInt8) → Int → (List (List UInt8)) → Option ((List UInt8))
  | 0, _, _, _ => none
  | n + 1, x7, x8, r4 =>
    (bif (decide (x8 < (r4.length : Int))) then ((cat x7 ([47] : List UInt8)).bind fun t5 =>
    ((idx r4 x8).bind fun _ =>
    ((idx r4 x8).bind fun e6 =>
    ((cat t5 e6).bind fun t7 =>
    S_l12Path_b3 k n t7 (IntKind.wrap .i64 (x8 + (1 : Int))) r4))))
    else some (x7))
noncomputable def S_l12Path (k : Nat) (a0 : List UInt8) : Option ((List UInt8)) :=
    ((ssub a0 (1 : Int) (a0.length : Int)).bind fun t1 =>
    ((S_l12Split k t1 (47 : Int)).bind fun w2 =>
    ((S_l12Path_b0 k k (0 : Int) w2 ([] : List (List UInt8))).bind fun o4 =>
    ((S_l12Path_b3 k k ([] : List UInt8) (0 : Int) o4).bind fun o8 =>
    some o8))))
/-! loop.example/g03012/spec.l12Query -/
noncomputable def S_l12Query_b2 (k : Nat) : Nat → Int → Int → (List (List UInt8)) → (List (List UInt8)) → Option (Int)
  | 0, _, _, _, _ => none
  | n + 1, x5, x6, r3, r4 =>
    (bif (decide (x6 > (0 : Int))) then ((idx r3 x5).bind fun _ =>
    ((idx r3 x5).bind fun e2 =>
    ((idx r4 (IntKind.wrap .i64 (x6 - (1 : Int)))).bind fun _ =>
    ((idx r4 (IntKind.wrap .i64 (x6 - (1 : Int)))).bind fun e3 =>
    (bif (Op.bytesLess e2 e3) then S_l12Query_b2 k n x5 (IntKind.wrap .i64 (x6 - (1 : Int))) r3 r4
    else some (x6)))))) else some (x6))
noncomputable def S_l12Query_c40 (k : Nat) (x5 : Int) (x6 : Int) (x40 : Bool) (r3 : List (List UInt8)) (r4 : List (List UInt8)) : Option ((List (List UInt8))) :=
    (bif x40 then ((ssub r4 (0 : Int) x6).bind fun t6 =>
    ((app 16 ([] : List (List UInt8)) t6).bind fun u7 =>
    ((idx r3 x5).bind fun _ =>
    ((idx r3 x5).bind fun e8 =>
    ((app 16 u7 ([e8] : List (List UInt8))).bind fun u9 =>
    ((ssub r4 x6 (r4.length : Int)).bind fun t10 =>
    ((app 16 u9 t10).bind fun u11 =>
    some (u11))))))))
    else some (r4))
noncomputable def S_l12Query_b1 (k : Nat) (x5 : Int) (r3 : List (List UInt8)) (r4 : List (List UInt8)) : Option ((List (List UInt8))) :=
    ((S_l12Query_b2 k k x5 (r4.length : Int) r3 r4).bind fun o2 =>
    ((idx r3 x5).bind fun _ =>
    ((idx r3 x5).bind fun e3 =>
    ((S_l12Query_c40 k x5 o2 (!(e3 == ([] : List UInt8))) r3 r4).bind fun o4 =>
    some (o4)))))
noncomputable def S_l12Query_b0 (k : Nat) : Nat → Int → (List (List UInt8)) → (List (List UInt8)) → Option ((List (List UInt8)))
  | 0, _, _, _ => none
  | n + 1, x5, r3, r4 =>
    (bif (decide (x5 < (r3.length : Int))) then ((S_l12Query_b1 k x5 r3 r4).bind fun o2 =>
    S_l12Query_b0 k n (IntKind.wrap .i64 (x5 + (1 : Int))) r3 o2)
    else some (r4))
noncomputable def S_l12Query_c63 (k : Nat) (x7 : List UInt8) (x8 : Int) (x63 : Bool) (r4 : List (List UInt8)) : Option ((List UInt8)) :=
    (bif x63 then ((cat x7 ([38] : List UInt8)).bind fun t4 =>
    some (t4))
    else some (x7))
noncomputable def S_l12Query_b5 (k : Nat) (x7 : List UInt8) (x8 : Int) (r4 : List (List UInt8)) : Option ((List UInt8)) :=
    ((S_l12Query_c63 k x7 x8 (decide (x8 > (0 : Int))) r4).bind fun o4 =>
    ((idx r4 x8).bind fun _ =>
    ((idx r4 x8).bind fun e5 =>
    ((cat o4 e5).bind fun t6 =>
    some (t6)))))
noncomputable def S_l12Query_b4 (k : Nat) : Nat → (List UInt8) → Int → (List (List UInt8)) → Option ((List UInt8))
  | 0, _, _, _ => none
  | n + 1, x7, x8, r4 =>
    (bif (decide (x8 < (r4.length : Int))) then ((S_l12Query_b5 k x7 x8 r4).bind fun o4 =>
    S_l12Query_b4 k n o4 (IntKind.wrap .i64 (x8 + (1 : Int))) r4)
    else some (x7))
noncomputable def S_l12Query (k : Nat) (a0 : List UInt8) : Option ((List UInt8)) :=
    ((S_l12Split k a0 (38 : Int)).bind fun w1 =>
    ((S_l12Query_b0 k k (0 : Int) w1 ([] : List (List UInt8))).bind fun o3 =>
    ((S_l12Query_b4 k k ([] : List UInt8) (0 : Int) o3).bind fun o5 =>
    some o5)))
/-! loop.example/g03012/spec.NormalTarget -/
noncomputable def S_NormalTarget_c50 (k : Nat) (x11 : List UInt8) (x12 : List UInt8) (x50 : Bool) : Option ((List UInt8)) :=
    (bif x50 then ((cat x11 ([63] : List UInt8)).bind fun t7 =>
    ((cat t7 x12).bind fun t8 =>
    some (t8)))
    else some (x11))
noncomputable def S_NormalTarget (k : Nat) (a0 : List UInt8) : Option ((List UInt8) × Bool) :=
    ((S_SplitTarget k a0).bind fun w1 =>
    ((S_l12Plain k w1.1).bind fun w2 =>
    ((S_l12Plain k w1.2.1).bind fun w3 =>
    (bif (!w2.2) then some (([] : List UInt8), false) else (bif (!w3.2) then some (([] : List UInt8), false) else (bif ((w2.1.length : Int) == (0 : Int)) then some (([] : List UInt8), false) else ((idx w2.1 (0 : Int)).bind fun c4 =>
    (bif ((UInt8.toNat c4 : Int) != (47 : Int)) then some (([] : List UInt8), false)
    else ((S_l12Path k w2.1).bind fun w5 =>
    ((S_l12Query k w3.1).bind fun w6 =>
    ((S_NormalTarget_c50 k w5 w6 (!(w6 == ([] : List UInt8)))).bind fun o9 =>
    some (o9, true))))))))))))
/-! loop.example/g03012/impl.IsNormalTarget -/
noncomputable def I_IsNormalTarget (k : Nat) (a0 : List UInt8) : Option (Bool) :=
    ((I_NormalTarget k a0).bind fun w1 =>
    (bif w1.2 then some (w1.1 == a0) else some false))
/-! loop.example/g03012/spec.l5Draw -/
noncomputable def S_l5Draw_b0 (k : Nat) : Nat → Int → (List Int) → Int → Int → (List IField) → Option ((List Int) × Int × Int × (List IField))
  | 0, _, _, _, _, _ => none
  | n + 1, x4, y700000_0, y700000_1, y700000_2, r3 =>
    (bif (decide (x4 > (0 : Int))) then ((S_l1Str k (⟨y700000_0, y700000_1, y700000_2⟩ : Sl1Cur) ([([97, 99, 99, 101, 112, 116, 45, 108, 97, 110, 103, 117, 97, 103, 101] : List UInt8), ([97] : List UInt8), ([98] : List UInt8), ([99, 97, 99, 104, 101, 45, 99, 111, 110, 116, 114, 111, 108] : List UInt8), ([120, 45, 107] : List UInt8), ([97] : List UInt8)] : List (List UInt8))).bind fun w2 =>
    ((S_l1Str k w2.2 ([([] : List UInt8), ([100, 101, 44, 32, 101, 110] : List UInt8), ([110, 111, 45, 99, 97, 99, 104, 101] : List UInt8), ([49] : List UInt8), ([120, 32, 32, 121] : List UInt8), ([109, 97, 120, 45, 97, 103, 101, 61, 53] : List UInt8), ([34, 113, 34] : List UInt8)] : List (List UInt8))).bind fun w3 =>
    ((app 32 r3 ([(⟨w2.1, w3.1⟩ : IField)] : List IField)).bind fun u4 =>
    S_l5Draw_b0 k n (IntKind.wrap .i64 (x4 - (1 : Int))) w3.2.b w3.2.i w3.2.h u4)))
    else some ((y700000_0, y700000_1, y700000_2, r3)))
noncomputable def S_l5Draw (k : Nat) (a0 : Sl1Cur) : Option ((List IField) × Sl1Cur) :=
    ((S_l1Below k a0 (6 : Int)).bind fun w1 =>
    ((S_l5Draw_b0 k k w1.1 w1.2.b w1.2.i w1.2.h ([] : List IField)).bind fun o5 =>
    some (o5.2.2.2, (⟨o5.1, o5.2.1, o5.2.2.1⟩ : Sl1Cur))))
/-! loop.example/g03012/spec.l11Request -/
noncomputable def S_l11Request_c16 (k : Nat) (x16 : Bool) (y700000_0 : List Int) (y700000_1 : Int) (y700000_2 : Int) (y2_0 : List UInt8) (y2_1 : List UInt8) (y2_2 : List UInt8) (y3_0 : List UInt8) (y3_1 : List UInt8) (y3_2 : List UInt8) (r100000303 : List IField) : Option ((List Int) × Int × Int × (List UInt8)) :=
    (bif x16 then ((S_l1Str k (⟨y700000_0, y700000_1, y700000_2⟩ : Sl1Cur) ([([97] : List UInt8), ([47, 97, 32, 98] : List UInt8), ([47, 195, 169] : List UInt8), ([42] : List UInt8)] : List (List UInt8))).bind fun w6 =>
    some ((w6.2.b, w6.2.i, w6.2.h, w6.1)))
    else some ((y700000_0, y700000_1, y700000_2, y3_2)))
noncomputable def S_l11Request (k : Nat) (a0 : Sl1Cur) : Option (IRequest × Sl1Cur) :=
    ((S_l1Str k a0 ([([71, 69, 84] : List UInt8), ([71, 69, 84] : List UInt8), ([71, 69, 84] : List UInt8), ([72, 69, 65, 68] : List UInt8), ([80, 79, 83, 84] : List UInt8), ([103, 101, 116] : List UInt8)] : List (List UInt8))).bind fun w1 =>
    ((S_l1Str k w1.2 ([([104, 46, 101, 120, 97, 109, 112, 108, 101] : List UInt8), ([104, 46, 101, 120, 97, 109, 112, 108, 101] : List UInt8), ([120] : List UInt8), ([72] : List UInt8)] : List (List UInt8))).bind fun w2 =>
    ((S_l11Target k w2.2).bind fun w3 =>
    ((S_l5Draw k w3.2).bind fun w4 =>
    ((S_l1Once k w4.2 (12 : Int)).bind fun w5 =>
    ((S_l11Request_c16 k w5.1 w5.2.b w5.2.i w5.2.h ([] : List UInt8) ([] : List UInt8) ([] : List UInt8) w1.1 w2.1 w3.1 w4.1).bind fun o7 =>
    some ((⟨w1.1, w2.1, o7.2.2.2, w4.1⟩ : IRequest), (⟨o7.1, o7.2.1, o7.2.2.1⟩ : Sl1Cur))))))))
/-! loop.example/g03012/spec.DrawKeyOf -/
noncomputable def S_DrawKeyOf_c10 (k : Nat) (x10 : Bool) (y2_0 : List UInt8) (y2_1 : List UInt8) (y2_2 : List UInt8) (y6_0 : List Int) (y6_1 : Int) (y6_2 : Int) (y4_0 : List UInt8) (y4_1 : List UInt8) (y4_2 : List UInt8) (r100000403 : List IField) : Option ((List UInt8)) :=
    (bif x10 then ((S_l12Some k (⟨y6_0, y6_1, y6_2⟩ : Sl1Cur)).bind fun w4 =>
    some (w4.1))
    else some (y4_2))
noncomputable def S_DrawKeyOf (k : Nat) (a0 : List Int) : Option (IRequest) :=
    ((S_l1New k a0).bind fun w1 =>
    ((S_l11Request k w1).bind fun w2 =>
    ((S_l1Once k w2.2 (3 : Int)).bind fun w3 =>
    ((S_DrawKeyOf_c10 k w3.1 ([] : List UInt8) ([] : List UInt8) ([] : List UInt8) w3.2.b w3.2.i w3.2.h w2.1.Method w2.1.Host w2.1.Target w2.1.Fields).bind fun o5 =>
    some (⟨w2.1.Method, w2.1.Host, o5, w2.1.Fields⟩ : IRequest)))))
/-! loop.example/g03012/impl.isTokenByte -/
noncomputable def I_isTokenByte (k : Nat) (a0 : Int) : Option (Bool) :=
    (bif (decide (a0 ≥ (97 : Int))) then (bif (decide (a0 ≤ (122 : Int))) then some true else (bif (decide (a0 ≥ (65 : Int))) then (bif (decide (a0 ≤ (90 : Int))) then some true else (bif (decide (a0 ≥ (48 : Int))) then (bif (decide (a0 ≤ (57 : Int))) then some true else ((strings_IndexByte k ([33, 35, 36, 37, 38, 39, 42, 43, 45, 46, 94, 95, 124, 126] : List UInt8) a0).bind fun w1 =>
    (bif (decide (w1 ≥ (0 : Int))) then some true else some (a0 == (96 : Int))))) else ((strings_IndexByte k ([33, 35, 36, 37, 38, 39, 42, 43, 45, 46, 94, 95, 124, 126] : List UInt8) a0).bind fun w2 =>
    (bif (decide (w2 ≥ (0 : Int))) then some true else some (a0 == (96 : Int)))))) else (bif (decide (a0 ≥ (48 : Int))) then (bif (decide (a0 ≤ (57 : Int))) then some true else ((strings_IndexByte k ([33, 35, 36, 37, 38, 39, 42, 43, 45, 46, 94, 95, 124, 126] : List UInt8) a0).bind fun w3 =>
    (bif (decide (w3 ≥ (0 : Int))) then some true else some (a0 == (96 : Int))))) else ((strings_IndexByte k ([33, 35, 36, 37, 38, 39, 42, 43, 45, 46, 94, 95, 124, 126] : List UInt8) a0).bind fun w4 =>
    (bif (decide (w4 ≥ (0 : Int))) then some true else some (a0 == (96 : Int))))))) else (bif (decide (a0 ≥ (65 : Int))) then (bif (decide (a0 ≤ (90 : Int))) then some true else (bif (decide (a0 ≥ (48 : Int))) then (bif (decide (a0 ≤ (57 : Int))) then some true else ((strings_IndexByte k ([33, 35, 36, 37, 38, 39, 42, 43, 45, 46, 94, 95, 124, 126] : List UInt8) a0).bind fun w5 =>
    (bif (decide (w5 ≥ (0 : Int))) then some true else some (a0 == (96 : Int))))) else ((strings_IndexByte k ([33, 35, 36, 37, 38, 39, 42, 43, 45, 46, 94, 95, 124, 126] : List UInt8) a0).bind fun w6 =>
    (bif (decide (w6 ≥ (0 : Int))) then some true else some (a0 == (96 : Int)))))) else (bif (decide (a0 ≥ (48 : Int))) then (bif (decide (a0 ≤ (57 : Int))) then some true else ((strings_IndexByte k ([33, 35, 36, 37, 38, 39, 42, 43, 45, 46, 94, 95, 124, 126] : List UInt8) a0).bind fun w7 =>
    (bif (decide (w7 ≥ (0 : Int))) then some true else some (a0 == (96 : Int))))) else ((strings_IndexByte k ([33, 35, 36, 37, 38, 39, 42, 43, 45, 46, 94, 95, 124, 126] : List UInt8) a0).bind fun w8 =>
    (bif (decide (w8 ≥ (0 : Int))) then some true else some (a0 == (96 : Int)))))))
/-! loop.example/g03012/impl.inRange -/
noncomputable def I_inRange (k : Nat) (a0 : Int) (a1 : Int) (a2 : Int) : Option (Bool) :=
    (bif (decide (a1 ≤ a0)) then some (decide (a0 ≤ a2)) else some false)
/-! loop.example/g03012/impl.IsToken -/
noncomputable def I_IsToken_b0 (k : Nat) : Nat → (List UInt8) → Int → Int → Option (Oc (Unit) (Bool))
  | 0, _, _, _ => none
  | n + 1, x0, x5, x6 =>
    (bif (decide (x6 < x5)) then ((idx x0 x6).bind fun c1 =>
    ((I_isTokenByte k (UInt8.toNat c1 : Int)).bind fun w2 =>
    (bif (!w2) then some (.oth (false))
    else I_IsToken_b0 k n x0 x5 (IntKind.wrap .i64 (x6 + (1 : Int))))))
    else some (.nrm ()))
noncomputable def I_IsToken (k : Nat) (a0 : List UInt8) : Option (Bool) :=
    ((I_IsToken_b0 k k a0 (a0.length : Int) (0 : Int)).bind fun o3 =>
    oc o3 (fun o4 => ((I_inRange k (a0.length : Int) (1 : Int) (40 : Int)).bind fun w6 =>
    some w6))
    (fun o5 => some o5))
/-! strings.ToUpper -/
noncomputable def strings_ToUpper (k : Nat) (a0 : List UInt8) : Option ((List UInt8)) :=
    toUpperO a0
/-! loop.example/g03012/impl.isHost -/
noncomputable def I_isHost_b0 (k : Nat) : Nat → (List UInt8) → Int → Int → Option (Oc (Unit) (Bool))
  | 0, _, _, _ => none
  | n + 1, x0, x6, x7 =>
    (bif (decide (x7 < x6)) then ((idx x0 x7).bind fun c1 =>
    (bif (decide ((UInt8.toNat c1 : Int) ≥ (97 : Int))) then (bif (decide ((UInt8.toNat c1 : Int) ≤ (122 : Int))) then (bif (!true) then some (.oth (false))
    else I_isHost_b0 k n x0 x6 (IntKind.wrap .i64 (x7 + (1 : Int)))) else (bif (decide ((UInt8.toNat c1 : Int) ≥ (48 : Int))) then (bif (decide ((UInt8.toNat c1 : Int) ≤ (57 : Int))) then (bif (!true) then some (.oth (false))
    else I_isHost_b0 k n x0 x6 (IntKind.wrap .i64 (x7 + (1 : Int)))) else (bif ((UInt8.toNat c1 : Int) == (45 : Int)) then (bif (!true) then some (.oth (false))
    else I_isHost_b0 k n x0 x6 (IntKind.wrap .i64 (x7 + (1 : Int)))) else (bif (!((UInt8.toNat c1 : Int) == (46 : Int))) then some (.oth (false))
    else I_isHost_b0 k n x0 x6 (IntKind.wrap .i64 (x7 + (1 : Int)))))) else (bif ((UInt8.toNat c1 : Int) == (45 : Int)) then (bif (!true) then some (.oth (false))
    else I_isHost_b0 k n x0 x6 (IntKind.wrap .i64 (x7 + (1 : Int)))) else (bif (!((UInt8.toNat c1 : Int) == (46 : Int))) then some (.oth (false))
    else I_isHost_b0 k n x0 x6 (IntKind.wrap .i64 (x7 + (1 : Int))))))) else (bif (decide ((UInt8.toNat c1 : Int) ≥ (48 : Int))) then (bif (decide ((UInt8.toNat c1 : Int) ≤ (57 : Int))) then (bif (!true) then some (.oth (false))
    else I_isHost_b0 k n x0 x6 (IntKind.wrap .i64 (x7 + (1 : Int)))) else (bif ((UInt8.toNat c1 : Int) == (45 : Int)) then (bif (!true) then some (.oth (false))
    else I_isHost_b0 k n x0 x6 (IntKind.wrap .i64 (x7 + (1 : Int)))) else (bif (!((UInt8.toNat c1 : Int) == (46 : Int))) then some (.oth (false))
    else I_isHost_b0 k n x0 x6 (IntKind.wrap .i64 (x7 + (1 : Int)))))) else (bif ((UInt8.toNat c1 : Int) == (45 : Int)) then (bif (!true) then some (.oth (false))
    else I_isHost_b0 k n x0 x6 (IntKind.wrap .i64 (x7 + (1 : Int)))) else (bif (!((UInt8.toNat c1 : Int) == (46 : Int))) then some (.oth (false))
    else I_isHost_b0 k n x0 x6 (IntKind.wrap .i64 (x7 + (1 : Int))))))))
    else some (.nrm ()))
noncomputable def I_isHost (k : Nat) (a0 : List UInt8) : Option (Bool) :=
    ((I_isHost_b0 k k a0 (a0.length : Int) (0 : Int)).bind fun o2 =>
    oc o2 (fun o3 => ((I_inRange k (a0.length : Int) (1 : Int) (40 : Int)).bind fun w5 =>
    some w5))
    (fun o4 => some o4))
/-! loop.example/g03012/impl.LowerText -/
noncomputable def I_LowerText_c20 (k : Nat) (x4 : Int) (x5 : Int) (x9 : Int) (x10 : Int) (x20 : Bool) (r8 : List Int) : Option ((List Int)) :=
    (bif x20 then ((idx r8 x4).bind fun _ =>
    ((idx r8 x4).bind fun e2 =>
    some (((r8).set (x4).toNat (IntKind.wrap .u8 (x5 + (32 : Int)))))))
    else some (r8))
noncomputable def I_LowerText_b1 (k : Nat) (x9 : Int) (x10 : Int) (r8 : List Int) : Option ((List Int)) :=
    ((idx r8 x10).bind fun _ =>
    ((idx r8 x10).bind fun e1 =>
    (bif (decide (e1 ≥ (65 : Int))) then ((I_LowerText_c20 k x10 e1 x9 x10 (decide (e1 ≤ (90 : Int))) r8).bind fun o2 =>
    some (o2)) else ((I_LowerText_c20 k x10 e1 x9 x10 false r8).bind fun o3 =>
    some (o3)))))
noncomputable def I_LowerText_b0 (k : Nat) : Nat → Int → Int → (List Int) → Option ((List Int))
  | 0, _, _, _ => none
  | n + 1, x9, x10, r8 =>
    (bif (decide (x10 < x9)) then ((I_LowerText_b1 k x9 x10 r8).bind fun o1 =>
    I_LowerText_b0 k n x9 (IntKind.wrap .i64 (x10 + (1 : Int))) o1)
    else some (r8))
noncomputable def I_LowerText (k : Nat) (a0 : List UInt8) : Option ((List UInt8)) :=
    ((I_LowerText_b0 k k ((intsOf a0).length : Int) (0 : Int) (intsOf a0)).bind fun o2 =>
    some (bytesOf o2))
/-! strings.Trim -/
noncomputable def strings_Trim (k : Nat) (a0 : List UInt8) (a1 : List UInt8) : Option ((List UInt8)) :=
    trimO a0 a1
/-! loop.example/g03012/impl.TrimText -/
noncomputable def I_TrimText (k : Nat) (a0 : List UInt8) : Option ((List UInt8)) :=
    ((strings_Trim k a0 ([32, 9] : List UInt8)).bind fun w1 =>
    some w1)
/-! loop.example/g03012/impl.isFieldValue -/
noncomputable def I_isFieldValue_b0 (k : Nat) : Nat → (List UInt8) → Int → Int → Option (Oc (Unit) (Bool))
  | 0, _, _, _ => none
  | n + 1, x0, x5, x6 =>
    (bif (decide (x6 < x5)) then ((idx x0 x6).bind fun c1 =>
    (bif ((UInt8.toNat c1 : Int) != (9 : Int)) then ((idx x0 x6).bind fun c2 =>
    ((I_inRange k (IntKind.wrap .i64 (UInt8.toNat c2 : Int)) (32 : Int) (126 : Int)).bind fun w3 =>
    (bif (!w3) then some (.oth (false))
    else I_isFieldValue_b0 k n x0 x5 (IntKind.wrap .i64 (x6 + (1 : Int)))))) else I_isFieldValue_b0 k n x0 x5 (IntKind.wrap .i64 (x6 + (1 : Int)))))
    else some (.nrm ()))
noncomputable def I_isFieldValue (k : Nat) (a0 : List UInt8) : Option (Bool) :=
    ((I_isFieldValue_b0 k k a0 (a0.length : Int) (0 : Int)).bind fun o4 =>
    oc o4 (fun o5 => (bif (decide ((a0.length : Int) ≤ (200 : Int))) then ((I_TrimText k a0).bind fun w7 =>
    some (w7 == a0)) else some false))
    (fun o6 => some o6))
/-! loop.example/g03012/impl.AreFields -/
noncomputable def I_AreFields_b0 (k : Nat) : Nat → (List IField) → (List IField) → Int → Int → Option (Oc (Unit) (Bool))
  | 0, _, _, _, _ => none
  | n + 1, x0, x5, x6, x7 =>
    (bif (decide (x7 < x6)) then ((idx x5 x7).bind fun e1 =>
    ((I_IsToken k e1.Name).bind fun w2 =>
    (bif (!w2) then some (.oth (false)) else ((I_LowerText k e1.Name).bind fun w3 =>
    (bif (!(w3 == e1.Name)) then some (.oth (false)) else ((I_isFieldValue k e1.Value).bind fun w4 =>
    (bif (!w4) then some (.oth (false))
    else I_AreFields_b0 k n x0 x5 x6 (IntKind.wrap .i64 (x7 + (1 : Int))))))))))
    else some (.nrm ()))
noncomputable def I_AreFields (k : Nat) (a0 : List IField) : Option (Bool) :=
    ((I_AreFields_b0 k k a0 a0 (a0.length : Int) (0 : Int)).bind fun o5 =>
    oc o5 (fun o6 => some (decide ((a0.length : Int) ≤ (24 : Int))))
    (fun o7 => some o7))
/-! loop.example/g03012/impl.hasField$1 -/
noncomputable def I_hasField_1 (k : Nat) (a0 : IField) (f0_0 : List UInt8) : Option (Bool) :=
    some (a0.Name == f0_0)
/-! slices.IndexFunc[[]loop.example/g03012/impl.Field,loop.example/g03012/impl.Field] -/
noncomputable def slices_IndexFunc_IField_at_I_hasField_1_b0 (k : Nat) : Nat → (List IField) → (List UInt8) → Int → Int → Option (Oc (Unit) (Int))
  | 0, _, _, _, _ => none
  | n + 1, x0, x1_0_0, x7, x8 =>
    (bif (decide (x8 < x7)) then ((idx x0 x8).bind fun e1 =>
    ((I_hasField_1 k e1 x1_0_0).bind fun w2 =>
    (bif w2 then some (.oth (x8))
    else slices_IndexFunc_IField_at_I_hasField_1_b0 k n x0 x1_0_0 x7 (IntKind.wrap .i64 (x8 + (1 : Int))))))
    else some (.nrm ()))
noncomputable def slices_IndexFunc_IField_at_I_hasField_1 (k : Nat) (a0 : List IField) (a1_0_0 : List UInt8) : Option (Int) :=
    ((slices_IndexFunc_IField_at_I_hasField_1_b0 k k a0 a1_0_0 (a0.length : Int) (0 : Int)).bind fun o3 =>
    oc o3 (fun o4 => some (-1 : Int))
    (fun o5 => some o5))
/-! slices.ContainsFunc[[]loop.example/g03012/impl.Field,loop.example/g03012/impl.Field] -/
noncomputable def slices_ContainsFunc_IField_at_I_hasField_1 (k : Nat) (a0 : List IField) (a1_0_0 : List UInt8) : Option (Bool) :=
    ((slices_IndexFunc_IField_at_I_hasField_1 k a0 a1_0_0).bind fun w1 =>
    some (decide (w1 ≥ (0 : Int))))
/-! loop.example/g03012/impl.hasField -/
noncomputable def I_hasField (k : Nat) (a0 : List IField) (a1 : List UInt8) : Option (Bool) :=
    ((slices_ContainsFunc_IField_at_I_hasField_1 k a0 a1).bind fun w1 =>
    some w1)
/-! loop.example/g03012/impl.IsRequest -/
noncomputable def I_IsRequest_b0 (k : Nat) : Nat → Int → Int → (List UInt8) → (List UInt8) → (List UInt8) → (List IField) → Option (Oc (Unit) (Bool))
  | 0, _, _, _, _, _, _ => none
  | n + 1, x37, x38, y1_0, y1_1, y1_2, y1_3 =>
    (bif (decide (x38 < x37)) then ((idx y1_2 x38).bind fun c6 =>
    ((I_inRange k (IntKind.wrap .i64 (UInt8.toNat c6 : Int)) (33 : Int) (126 : Int)).bind fun w7 =>
    (bif (!w7) then some (.oth (false))
    else I_IsRequest_b0 k n x37 (IntKind.wrap .i64 (x38 + (1 : Int))) y1_0 y1_1 y1_2 y1_3)))
    else some (.nrm ()))
noncomputable def I_IsRequest (k : Nat) (a0 : IRequest) : Option (Bool) :=
    ((I_IsToken k a0.Method).bind fun w1 =>
    (bif (!w1) then some false else ((strings_ToUpper k a0.Method).bind fun w2 =>
    (bif (!(w2 == a0.Method)) then some false else ((I_isHost k a0.Host).bind fun w3 =>
    (bif (!w3) then some false else ((I_inRange k (a0.Target.length : Int) (1 : Int) (100 : Int)).bind fun w4 =>
    (bif (!w4) then some false else ((idx a0.Target (0 : Int)).bind fun c5 =>
    (bif ((UInt8.toNat c5 : Int) != (47 : Int)) then some false
    else ((I_IsRequest_b0 k k (a0.Target.length : Int) (0 : Int) a0.Method a0.Host a0.Target a0.Fields).bind fun o8 =>
    oc o8 (fun o9 => ((I_AreFields k a0.Fields).bind fun w11 =>
    (bif w11 then (bif (decide ((a0.Fields.length : Int) < (24 : Int))) then ((I_hasField k a0.Fields ([104, 111, 115, 116] : List UInt8)).bind fun w12 =>
    (bif (!w12) then ((I_hasField k a0.Fields ([99, 111, 110, 116, 101, 110, 116, 45, 108, 101, 110, 103, 116, 104] : List UInt8)).bind fun w13 =>
    some (!w13)) else some false)) else some false) else some false)))
    (fun o10 => some o10))))))))))))
/-! loop.example/g03012/impl.KeyOf -/
noncomputable def I_KeyOf (k : Nat) (a0 : IRequest) : Option ((List UInt8) × Bool) :=
    ((I_NormalTarget k a0.Target).bind fun w1 =>
    (bif (!w1.2) then some (([] : List UInt8), false) else ((I_IsRequest k a0).bind fun w2 =>
    (bif (!w2) then some (([] : List UInt8), false)
    else ((cat a0.Host w1.1).bind fun t3 =>
    some (t3, true))))))
/-! loop.example/g03012/laws.FnKeys -/
noncomputable def L_FnKeys_b0 (k : Nat) : Nat → (List Int) → (List UInt8) → Bool → (List UInt8) → (List UInt8) → Bool → Int → Option (Int)
  | 0, _, _, _, _, _, _, _ => none
  | n + 1, x0, x4, x5, x10, x11, x12, x13 =>
    (bif (decide (x13 < (x11.length : Int))) then ((idx x11 x13).bind fun c9 =>
    (bif ((UInt8.toNat c9 : Int) != (38 : Int)) then L_FnKeys_b0 k n x0 x4 x5 x10 x11 x12 (IntKind.wrap .i64 (x13 + (1 : Int)))
    else some (x13))) else some (x13))
noncomputable def L_FnKeys_c88 (k : Nat) (x0 : List Int) (x4 : List UInt8) (x5 : Bool) (x10 : List UInt8) (x11 : List UInt8) (x13 : Int) (x88 : Bool) : Option (Oc (Unit) (Bool)) :=
    (bif x88 then ((cat x10 ([63] : List UInt8)).bind fun t11 =>
    ((ssub x11 (IntKind.wrap .i64 (x13 + (1 : Int))) (x11.length : Int)).bind fun t12 =>
    ((cat t11 t12).bind fun t13 =>
    ((cat t13 ([38] : List UInt8)).bind fun t14 =>
    ((ssub x11 (0 : Int) x13).bind fun t15 =>
    ((cat t14 t15).bind fun t16 =>
    ((I_NormalTarget k t16).bind fun w17 =>
    (bif (!(w17.2 == x5)) then some (.oth (false)) else (bif (!(w17.1 == x4)) then some (.oth (false))
    else some (.nrm ()))))))))))
    else some (.nrm ()))
noncomputable def L_FnKeys (k : Nat) (a0 : List Int) : Option (Bool) :=
    ((L_big k a0).bind fun w1 =>
    (bif w1 then some true
    else ((S_DrawNormalTarget k a0).bind fun w2 =>
    ((I_NormalTarget k w2).bind fun w3 =>
    ((S_NormalTarget k w2).bind fun w4 =>
    (bif (!(w3.2 == w4.2)) then some false
    else ((I_NormalTarget k w3.1).bind fun w5 =>
    (bif w3.2 then (bif (!w5.2) then some false else (bif (!(w5.1 == w3.1)) then some false else ((I_IsNormalTarget k w3.1).bind fun w6 =>
    (bif (!w6) then some false else ((idx w3.1 (0 : Int)).bind fun c7 =>
    (bif ((UInt8.toNat c7 : Int) != (47 : Int)) then some false
    else ((I_SplitTarget k w2).bind fun w8 =>
    ((L_FnKeys_b0 k k a0 w3.1 w3.2 w8.1 w8.2.1 w8.2.2 (0 : Int)).bind fun o10 =>
    (bif w8.2.2 then ((L_FnKeys_c88 k a0 w3.1 w3.2 w8.1 w8.2.1 o10 (decide (o10 < (w8.2.1.length : Int)))).bind fun o18 =>
    oc o18 (fun o19 => ((S_DrawKeyOf k a0).bind fun w21 =>
    ((I_KeyOf k w21).bind fun w22 =>
    ((I_NormalTarget k w21.Target).bind fun w23 =>
    ((I_KeyOf k (⟨w21.Method, w21.Host, w23.1, w21.Fields⟩ : IRequest)).bind fun w24 =>
    (bif (!w22.2) then some true else (bif w24.2 then some (w24.1 == w22.1) else some false)))))))
    (fun o20 => some o20)) else ((L_FnKeys_c88 k a0 w3.1 w3.2 w8.1 w8.2.1 o10 false).bind fun o25 =>
    oc o25 (fun o26 => ((S_DrawKeyOf k a0).bind fun w28 =>
    ((I_KeyOf k w28).bind fun w29 =>
    ((I_NormalTarget k w28.Target).bind fun w30 =>
    ((I_KeyOf k (⟨w28.Method, w28.Host, w30.1, w28.Fields⟩ : IRequest)).bind fun w31 =>
    (bif (!w29.2) then some true else (bif w31.2 then some (w31.1 == w29.1) else some false)))))))
    (fun o27 => some o27))))))))))) else ((I_SplitTarget k w2).bind fun w32 =>
    ((L_FnKeys_b0 k k a0 w3.1 w3.2 w32.1 w32.2.1 w32.2.2 (0 : Int)).bind fun o33 =>
    (bif w32.2.2 then ((L_FnKeys_c88 k a0 w3.1 w3.2 w32.1 w32.2.1 o33 (decide (o33 < (w32.2.1.length : Int)))).bind fun o34 =>
    oc o34 (fun o35 => ((S_DrawKeyOf k a0).bind fun w37 =>
    ((I_KeyOf k w37).bind fun w38 =>
    ((I_NormalTarget k w37.Target).bind fun w39 =>
    ((I_KeyOf k (⟨w37.Method, w37.Host, w39.1, w37.Fields⟩ : IRequest)).bind fun w40 =>
    (bif (!w38.2) then some true else (bif w40.2 then some (w40.1 == w38.1) else some false)))))))
    (fun o36 => some o36)) else ((L_FnKeys_c88 k a0 w3.1 w3.2 w32.1 w32.2.1 o33 false).bind fun o41 =>
    oc o41 (fun o42 => ((S_DrawKeyOf k a0).bind fun w44 =>
    ((I_KeyOf k w44).bind fun w45 =>
    ((I_NormalTarget k w44.Target).bind fun w46 =>
    ((I_KeyOf k (⟨w44.Method, w44.Host, w46.1, w44.Fields⟩ : IRequest)).bind fun w47 =>
    (bif (!w45.2) then some true else (bif w47.2 then some (w47.1 == w45.1) else some false)))))))
    (fun o43 => some o43)))))))))))))

end
end Go.YtolmhhnhmbiofaaGreatDoor
