/- Functions over lists. Nothing is claimed here. -/
import Derived.Test.YtnidlohhndpjdaaGreatDoorKt
set_option linter.unusedVariables false
set_option linter.unusedSimpArgs false
set_option maxRecDepth 100000
namespace Go.YtnidlohhndpjdaaGreatDoor
open Go Go.RowKit Go.Pv
noncomputable section
noncomputable def L_big (k : Nat) (a0 : List Int) : Option (Bool) :=
    some (decide ((a0.length : Int) > (1048576 : Int)))
noncomputable def S_l1New_b0 (k : Nat) : Nat → (List Int) → Int → Int → Option (Int)
 | 0, _, _, _ => none
 | n + 1, x0, x3, x4 =>
  (bif (decide (x4 < (x0.length : Int))) then (bif (decide (x4 < (4000 : Int))) then ((idx x0 x4).bind fun e1 =>
  S_l1New_b0 k n x0 (andI .i64 (IntKind.wrap .i64 ((IntKind.wrap .i64 ((IntKind.wrap .i64 (x3 * (139 : Int))) + (IntKind.wrap .i64 e1))) + (11 : Int))) (1073741823 : Int)) (IntKind.wrap .i64 (x4 + (1 : Int))))
  else some (x3)) else some (x3))
noncomputable def S_l1New (k : Nat) (a0 : List Int) : Option (Sl1Cur) :=
    ((S_l1New_b0 k k a0 (IntKind.wrap .i64 ((271091 : Int) + (a0.length : Int))) (0 : Int)).bind fun o2 =>
    some (⟨a0, (0 : Int), o2⟩ : Sl1Cur))
noncomputable def S_l1Byte_c34 (k : Nat) (x3 : Int) (x34 : Bool) (y700000_0 : List Int) (y700000_1 : Int) (y700000_2 : Int) : Option (Int × Int) :=
    (bif x34 then ((idx y700000_0 y700000_1).bind fun e3 =>
    some (((andI .i64 (IntKind.wrap .i64 (x3 + (IntKind.wrap .i64 e3))) (255 : Int)), (IntKind.wrap .i64 (y700000_1 + (1 : Int))))))
    else some ((x3, y700000_1)))
noncomputable def S_l1Byte (k : Nat) (a0 : Sl1Cur) : Option (Int × Sl1Cur) :=
    ((shrI .i64 (IntKind.wrap .i64 ((IntKind.wrap .i64 (a0.h * (6364136223846793005 : Int))) + (1442695040888963407 : Int))) (33 : Int)).bind fun q1 =>
    ((shrI .i64 (IntKind.wrap .i64 ((IntKind.wrap .i64 (a0.h * (6364136223846793005 : Int))) + (1442695040888963407 : Int))) (47 : Int)).bind fun q2 =>
    ((S_l1Byte_c34 k (andI .i64 (xorI .i64 q1 q2) (255 : Int)) (decide (a0.i < (a0.b.length : Int))) a0.b a0.i (IntKind.wrap .i64 ((IntKind.wrap .i64 (a0.h * (6364136223846793005 : Int))) + (1442695040888963407 : Int)))).bind fun o4 =>
    some (o4.1, (⟨a0.b, o4.2, (IntKind.wrap .i64 ((IntKind.wrap .i64 (a0.h * (6364136223846793005 : Int))) + (1442695040888963407 : Int)))⟩ : Sl1Cur)))))
noncomputable def S_l1Below (k : Nat) (a0 : Sl1Cur) (a1 : Int) : Option (Int × Sl1Cur) :=
    (bif (decide (a1 ≤ (0 : Int))) then some ((0 : Int), a0)
    else (bif (decide (a1 ≤ (256 : Int))) then ((S_l1Byte k a0).bind fun w1 =>
    ((md w1.1 a1).bind fun q2 =>
    some (q2, w1.2)))
    else ((S_l1Byte k a0).bind fun w3 =>
    ((S_l1Byte k w3.2).bind fun w4 =>
    ((S_l1Byte k w4.2).bind fun w5 =>
    ((md (IntKind.wrap .i64 ((IntKind.wrap .i64 ((IntKind.wrap .i64 (w3.1 * (65536 : Int))) + (IntKind.wrap .i64 (w4.1 * (256 : Int))))) + w5.1)) a1).bind fun q6 =>
    some (q6, w5.2)))))))
noncomputable def S_l1Str (k : Nat) (a0 : Sl1Cur) (a1 : List (List UInt8)) : Option ((List UInt8) × Sl1Cur) :=
    ((S_l1Below k a0 (a1.length : Int)).bind fun w1 =>
    ((idx a1 w1.1).bind fun e2 =>
    some (e2, w1.2)))
noncomputable def S_l1Once (k : Nat) (a0 : Sl1Cur) (a1 : Int) : Option (Bool × Sl1Cur) :=
    ((S_l1Below k a0 a1).bind fun w1 =>
    some ((w1.1 == (0 : Int)), w1.2))
noncomputable def S_l15Draw_b2 (k : Nat) : Nat → Int → Int → Int → (List Int) → Int → Int → (List UInt8) → (List UInt8) → (List IResource) → (List (List UInt8)) → (List UInt8) → (List UInt8) → (List UInt8) → Bool → (List (List UInt8)) → (List IVersion) → Option ((List Int) × Int × Int × (List IVersion))
 | 0, _, _, _, _, _, _, _, _, _, _, _, _, _, _, _, _ => none
 | n + 1, x5, x7, x8, y700000_0, y700000_1, y700000_2, y2_0, y3_0, r100000301, r4, y6_0, y6_1, y6_2, y6_3, r100000604, r100000605 =>
  (bif (decide (x8 > (0 : Int))) then ((S_l1Str k (⟨y700000_0, y700000_1, y700000_2⟩ : Sl1Cur) ([([111, 110, 101] : List UInt8), ([116, 119, 111] : List UInt8), ([116, 104, 114, 101, 101] : List UInt8), ([84, 104, 101, 32, 113, 117, 105, 99, 107, 32, 98, 114, 111, 119, 110, 32, 102, 111, 120, 46] : List UInt8), ([60, 97, 62] : List UInt8), ([] : List UInt8)] : List (List UInt8))).bind fun w6 =>
  ((S_l1Once k w6.2 (9 : Int)).bind fun w7 =>
  ((app 32 r100000605 ([(⟨x7, w6.1, w7.1⟩ : IVersion)] : List IVersion)).bind fun u8 =>
  ((S_l1Below k w7.2 (40 : Int)).bind fun w9 =>
  S_l15Draw_b2 k n x5 (IntKind.wrap .i64 ((IntKind.wrap .i64 (x7 + (1 : Int))) + w9.1)) (IntKind.wrap .i64 (x8 - (1 : Int))) w9.2.b w9.2.i w9.2.h y2_0 y3_0 r100000301 r4 y6_0 y6_1 y6_2 y6_3 r100000604 u8))))
  else some ((y700000_0, y700000_1, y700000_2, r100000605)))
noncomputable def S_l15Draw_c69 (k : Nat) (x5 : Int) (x69 : Bool) (y700000_0 : List Int) (y700000_1 : Int) (y700000_2 : Int) (y2_0 : List UInt8) (y3_0 : List UInt8) (r100000301 : List IResource) (r4 : List (List UInt8)) (y6_0 : List UInt8) (y6_1 : List UInt8) (y6_2 : List UInt8) (y6_3 : Bool) (r100000604 : List (List UInt8)) (r100000605 : List IVersion) : Option ((List IVersion)) :=
    (bif x69 then ((idx r100000605 (0 : Int)).bind fun _ =>
    ((idx r100000605 (0 : Int)).bind fun e14 =>
    ((idx ((r100000605).set ((0 : Int)).toNat (⟨e14.At, ([84, 104, 101, 32, 113, 117, 105, 99, 107, 32, 98, 114, 111, 119, 110, 32, 102, 111, 120, 46, 84, 104, 101, 32, 113, 117, 105, 99, 107, 32, 98, 114, 111, 119, 110, 32, 102, 111, 120, 46, 84, 104, 101, 32, 113, 117, 105, 99, 107, 32, 98, 114, 111, 119, 110, 32, 102, 111, 120, 46] : List UInt8), e14.Gone⟩ : IVersion)) (0 : Int)).bind fun _ =>
    ((idx ((r100000605).set ((0 : Int)).toNat (⟨e14.At, ([84, 104, 101, 32, 113, 117, 105, 99, 107, 32, 98, 114, 111, 119, 110, 32, 102, 111, 120, 46, 84, 104, 101, 32, 113, 117, 105, 99, 107, 32, 98, 114, 111, 119, 110, 32, 102, 111, 120, 46, 84, 104, 101, 32, 113, 117, 105, 99, 107, 32, 98, 114, 111, 119, 110, 32, 102, 111, 120, 46] : List UInt8), e14.Gone⟩ : IVersion)) (0 : Int)).bind fun e15 =>
    some (((((r100000605).set ((0 : Int)).toNat (⟨e14.At, ([84, 104, 101, 32, 113, 117, 105, 99, 107, 32, 98, 114, 111, 119, 110, 32, 102, 111, 120, 46, 84, 104, 101, 32, 113, 117, 105, 99, 107, 32, 98, 114, 111, 119, 110, 32, 102, 111, 120, 46, 84, 104, 101, 32, 113, 117, 105, 99, 107, 32, 98, 114, 111, 119, 110, 32, 102, 111, 120, 46] : List UInt8), e14.Gone⟩ : IVersion))).set ((0 : Int)).toNat (⟨e15.At, e15.Text, false⟩ : IVersion)))))))
    else some (r100000605))
noncomputable def S_l15Draw_c66 (k : Nat) (x5 : Int) (x57 : List UInt8) (x66 : Bool) (y700000_0 : List Int) (y700000_1 : Int) (y700000_2 : Int) (y2_0 : List UInt8) (y3_0 : List UInt8) (r100000301 : List IResource) (r4 : List (List UInt8)) (y6_0 : List UInt8) (y6_1 : List UInt8) (y6_2 : List UInt8) (y6_3 : Bool) (r100000604 : List (List UInt8)) (r100000605 : List IVersion) : Option (Bool × (List IVersion)) :=
    (bif x66 then some ((true, r100000605))
    else ((S_l15Draw_c69 k x5 (x57 == ([47, 98, 105, 103] : List UInt8)) y700000_0 y700000_1 y700000_2 y2_0 y3_0 r100000301 r4 y6_0 y6_1 y6_2 y6_3 r100000604 r100000605).bind fun o14 =>
    some ((y6_3, o14))))
noncomputable def S_l15Draw_c58 (k : Nat) (x5 : Int) (x57 : List UInt8) (x58 : Bool) (y700000_0 : List Int) (y700000_1 : Int) (y700000_2 : Int) (y2_0 : List UInt8) (y3_0 : List UInt8) (r100000301 : List IResource) (r4 : List (List UInt8)) (y6_0 : List UInt8) (y6_1 : List UInt8) (y6_2 : List UInt8) (y6_3 : Bool) (r100000604 : List (List UInt8)) (r100000605 : List IVersion) : Option ((List Int) × Int × Int × Bool × (List (List UInt8)) × (List IVersion)) :=
    (bif x58 then ((S_l1Below k (⟨y700000_0, y700000_1, y700000_2⟩ : Sl1Cur) (3 : Int)).bind fun w12 =>
    ((ssub ([([100, 101] : List UInt8), ([101, 110] : List UInt8), ([102, 114] : List UInt8)] : List (List UInt8)) (0 : Int) (IntKind.wrap .i64 ((1 : Int) + w12.1))).bind fun t13 =>
    some ((w12.2.b, w12.2.i, w12.2.h, y6_3, t13, r100000605))))
    else ((S_l15Draw_c66 k x5 x57 (x57 == ([47, 109, 105, 110, 101] : List UInt8)) y700000_0 y700000_1 y700000_2 y2_0 y3_0 r100000301 r4 y6_0 y6_1 y6_2 y6_3 r100000604 r100000605).bind fun o14 =>
    some ((y700000_0, y700000_1, y700000_2, o14.1, r100000604, o14.2))))
noncomputable def S_l15Draw_b4 (k : Nat) (x5 : Int) (x57 : List UInt8) (y700000_0 : List Int) (y700000_1 : Int) (y700000_2 : Int) (y2_0 : List UInt8) (y3_0 : List UInt8) (r100000301 : List IResource) (r4 : List (List UInt8)) (y6_0 : List UInt8) (y6_1 : List UInt8) (y6_2 : List UInt8) (y6_3 : Bool) (r100000604 : List (List UInt8)) (r100000605 : List IVersion) : Option ((List Int) × Int × Int × Bool × (List (List UInt8)) × (List IVersion)) :=
    ((S_l15Draw_c58 k x5 x57 (x57 == ([47, 108, 97, 110, 103] : List UInt8)) y700000_0 y700000_1 y700000_2 y2_0 y3_0 r100000301 r4 y6_0 y6_1 y6_2 y6_3 r100000604 r100000605).bind fun o12 =>
    some ((o12.1, o12.2.1, o12.2.2.1, o12.2.2.2.1, o12.2.2.2.2.1, o12.2.2.2.2.2)))
noncomputable def S_l15Draw_b1 (k : Nat) (x5 : Int) (y700000_0 : List Int) (y700000_1 : Int) (y700000_2 : Int) (y2_0 : List UInt8) (y3_0 : List UInt8) (r100000301 : List IResource) (r4 : List (List UInt8)) : Option ((List Int) × Int × Int × (List IResource)) :=
    ((idx r4 x5).bind fun _ =>
    ((idx r4 x5).bind fun e1 =>
    ((S_l1Str k (⟨y700000_0, y700000_1, y700000_2⟩ : Sl1Cur) ([([109, 97, 120, 45, 97, 103, 101, 61, 50, 48] : List UInt8), ([109, 97, 120, 45, 97, 103, 101, 61, 50, 48, 44, 32, 115, 116, 97, 108, 101, 45, 119, 104, 105, 108, 101, 45, 114, 101, 118, 97, 108, 105, 100, 97, 116, 101, 61, 51, 48] : List UInt8), ([115, 45, 109, 97, 120, 97, 103, 101, 61, 53, 44, 32, 109, 97, 120, 45, 97, 103, 101, 61, 54, 48] : List UInt8), ([110, 111, 45, 99, 97, 99, 104, 101] : List UInt8), ([110, 111, 45, 115, 116, 111, 114, 101] : List UInt8), ([] : List UInt8), ([109, 97, 120, 45, 97, 103, 101, 61, 57, 44, 32, 109, 117, 115, 116, 45, 114, 101, 118, 97, 108, 105, 100, 97, 116, 101] : List UInt8), ([109, 97, 120, 45, 97, 103, 101, 61, 56, 44, 32, 115, 116, 97, 108, 101, 45, 105, 102, 45, 101, 114, 114, 111, 114, 61, 52, 48] : List UInt8), ([112, 117, 98, 108, 105, 99, 44, 32, 109, 97, 120, 45, 97, 103, 101, 61, 49, 48, 48] : List UInt8)] : List (List UInt8))).bind fun w2 =>
    ((S_l1Str k w2.2 ([([] : List UInt8), ([107, 49] : List UInt8), ([107, 49, 32, 107, 50] : List UInt8), ([110, 101, 119, 115] : List UInt8)] : List (List UInt8))).bind fun w3 =>
    ((S_l1Below k w3.2 (30 : Int)).bind fun w4 =>
    ((S_l1Below k w4.2 (4 : Int)).bind fun w5 =>
    ((S_l15Draw_b2 k k x5 w4.1 (IntKind.wrap .i64 ((1 : Int) + w5.1)) w5.2.b w5.2.i w5.2.h y2_0 y3_0 r100000301 r4 e1 w2.1 w3.1 false [] []).bind fun o6 =>
    ((idx r4 x5).bind fun _ =>
    ((idx r4 x5).bind fun e7 =>
    ((S_l15Draw_b4 k x5 e7 o6.1 o6.2.1 o6.2.2.1 y2_0 y3_0 r100000301 r4 e1 w2.1 w3.1 false [] o6.2.2.2).bind fun o8 =>
    ((app 104 r100000301 ([(⟨e1, w2.1, w3.1, o8.2.2.2.1, o8.2.2.2.2.1, o8.2.2.2.2.2⟩ : IResource)] : List IResource)).bind fun u9 =>
    some ((o8.1, o8.2.1, o8.2.2.1, u9)))))))))))))
noncomputable def S_l15Draw_b0 (k : Nat) : Nat → Int → (List Int) → Int → Int → (List UInt8) → (List UInt8) → (List IResource) → (List (List UInt8)) → Option ((List Int) × Int × Int × (List IResource))
 | 0, _, _, _, _, _, _, _, _ => none
 | n + 1, x5, y700000_0, y700000_1, y700000_2, y2_0, y3_0, r100000301, r4 =>
  (bif (decide (x5 < (r4.length : Int))) then ((S_l15Draw_b1 k x5 y700000_0 y700000_1 y700000_2 y2_0 y3_0 r100000301 r4).bind fun o1 =>
  S_l15Draw_b0 k n (IntKind.wrap .i64 (x5 + (1 : Int))) o1.1 o1.2.1 o1.2.2.1 y2_0 y3_0 o1.2.2.2 r4)
  else some ((y700000_0, y700000_1, y700000_2, r100000301)))
noncomputable def S_l15Draw (k : Nat) (a0 : Sl1Cur) : Option (IOrigin × Sl1Cur) :=
    ((S_l15Draw_b0 k k (0 : Int) a0.b a0.i a0.h ([] : List UInt8) ([104, 46, 101, 120, 97, 109, 112, 108, 101] : List UInt8) [] ([([47, 97] : List UInt8), ([47, 97, 63, 120, 61, 49, 38, 121, 61, 50] : List UInt8), ([47, 112] : List UInt8), ([47, 108, 97, 110, 103] : List UInt8), ([47, 109, 105, 110, 101] : List UInt8), ([47, 98, 105, 103] : List UInt8), ([47, 112, 97, 103, 101] : List UInt8)] : List (List UInt8))).bind fun o2 =>
    some ((⟨([104, 46, 101, 120, 97, 109, 112, 108, 101] : List UInt8), o2.2.2.2⟩ : IOrigin), (⟨o2.1, o2.2.1, o2.2.2.1⟩ : Sl1Cur)))
noncomputable def S_DrawVersionAt (k : Nat) (a0 : List Int) : Option (IResource × Int) :=
    ((S_l1New k a0).bind fun w1 =>
    ((S_l15Draw k w1).bind fun w2 =>
    ((idx w2.1.Resources (0 : Int)).bind fun _ =>
    ((idx w2.1.Resources (0 : Int)).bind fun e3 =>
    ((S_l1Below k w2.2 (160 : Int)).bind fun w4 =>
    some (e3, (IntKind.wrap .i64 (w4.1 - (5 : Int)))))))))
noncomputable def I_VersionAt_b0 (k : Nat) : Nat → Int → Int → (List UInt8) → (List UInt8) → (List UInt8) → Bool → (List (List UInt8)) → (List IVersion) → Option (Oc (Unit) (Int))
 | 0, _, _, _, _, _, _, _, _ => none
 | n + 1, x1, x5, y2_0, y2_1, y2_2, y2_3, y2_4, y2_5 =>
  (bif (decide (x5 ≥ (0 : Int))) then ((idx y2_5 x5).bind fun e1 =>
  (bif (decide (e1.At ≤ x1)) then some (.oth (x5))
  else I_VersionAt_b0 k n x1 (IntKind.wrap .i64 (x5 - (1 : Int))) y2_0 y2_1 y2_2 y2_3 y2_4 y2_5))
  else some (.nrm ()))
noncomputable def I_VersionAt (k : Nat) (a0 : IResource) (a1 : Int) : Option (Int) :=
    ((I_VersionAt_b0 k k a1 (IntKind.wrap .i64 ((a0.Versions.length : Int) - (1 : Int))) a0.Target a0.Control a0.Keys a0.Private a0.Langs a0.Versions).bind fun o2 =>
    oc o2 (fun o3 => some (-1 : Int))
    (fun o4 => some o4))
noncomputable def L_at (k : Nat) (a0 : List Int) (a1 : Int) : Option (Int) :=
    (bif (decide (a1 < (a0.length : Int))) then ((idx a0 a1).bind fun e1 =>
    some (IntKind.wrap .i64 e1))
    else ((md (IntKind.wrap .i64 ((IntKind.wrap .i64 (a1 * (31 : Int))) + (IntKind.wrap .i64 ((a0.length : Int) * (7 : Int))))) (256 : Int)).bind fun q2 =>
    some q2))
noncomputable def S_l1Int (k : Nat) (a0 : Sl1Cur) (a1 : List Int) : Option (Int × Sl1Cur) :=
    ((S_l1Below k a0 (a1.length : Int)).bind fun w1 =>
    ((idx a1 w1.1).bind fun e2 =>
    some (e2, w1.2)))
noncomputable def S_DrawPublishPage (k : Nat) (a0 : List Int) : Option (IOrigin × (List UInt8) × IVersion) :=
    ((S_l1New k a0).bind fun w1 =>
    ((S_l15Draw k w1).bind fun w2 =>
    ((S_l1Str k w2.2 ([([47, 97] : List UInt8), ([47, 112] : List UInt8), ([47, 110, 111, 110, 101] : List UInt8), ([47, 37, 54, 49] : List UInt8)] : List (List UInt8))).bind fun w3 =>
    ((S_l1Int k w3.2 ([(0 : Int), (50 : Int), (100 : Int), (300 : Int), (-1 : Int)] : List Int)).bind fun w4 =>
    ((S_l1Once k w4.2 (5 : Int)).bind fun w5 =>
    some (w2.1, w3.1, (⟨w4.1, ([110, 101, 119] : List UInt8), w5.1⟩ : IVersion)))))))
noncomputable def slices_Clone_string (k : Nat) (a0 : List (List UInt8)) : Option ((List (List UInt8))) :=
    app 16 [] a0
noncomputable def slices_Clone_IVersion (k : Nat) (a0 : List IVersion) : Option ((List IVersion)) :=
    app 32 [] a0
noncomputable def I_copyOrigin_b0 (k : Nat) : Nat → (List IResource) → Int → Int → (List UInt8) → (List UInt8) → (List IResource) → Option ((List IResource))
 | 0, _, _, _, _, _, _ => none
 | n + 1, x10, x11, x12, y2_0, y3_0, r100000301 =>
  (bif (decide (x12 < x11)) then ((idx x10 x12).bind fun e1 =>
  ((slices_Clone_string k e1.Langs).bind fun w2 =>
  ((slices_Clone_IVersion k e1.Versions).bind fun w3 =>
  ((app 104 r100000301 ([(⟨e1.Target, e1.Control, e1.Keys, e1.Private, w2, w3⟩ : IResource)] : List IResource)).bind fun u4 =>
  I_copyOrigin_b0 k n x10 x11 (IntKind.wrap .i64 (x12 + (1 : Int))) y2_0 y3_0 u4))))
  else some (r100000301))
noncomputable def I_copyOrigin (k : Nat) (a0 : IOrigin) : Option (IOrigin) :=
    ((I_copyOrigin_b0 k k a0.Resources (a0.Resources.length : Int) (0 : Int) ([] : List UInt8) a0.Host []).bind fun o5 =>
    some (⟨a0.Host, o5⟩ : IOrigin))
noncomputable def I_FindResource_1 (k : Nat) (a0 : IResource) (f0_0 : List UInt8) : Option (Bool) :=
    some (a0.Target == f0_0)
noncomputable def slices_IndexFunc_IResource_at_I_FindResource_1_b0 (k : Nat) : Nat → (List IResource) → (List UInt8) → Int → Int → Option (Oc (Unit) (Int))
 | 0, _, _, _, _ => none
 | n + 1, x0, x1_0_0, x7, x8 =>
  (bif (decide (x8 < x7)) then ((idx x0 x8).bind fun e1 =>
  ((I_FindResource_1 k e1 x1_0_0).bind fun w2 =>
  (bif w2 then some (.oth (x8))
  else slices_IndexFunc_IResource_at_I_FindResource_1_b0 k n x0 x1_0_0 x7 (IntKind.wrap .i64 (x8 + (1 : Int))))))
  else some (.nrm ()))
noncomputable def slices_IndexFunc_IResource_at_I_FindResource_1 (k : Nat) (a0 : List IResource) (a1_0_0 : List UInt8) : Option (Int) :=
    ((slices_IndexFunc_IResource_at_I_FindResource_1_b0 k k a0 a1_0_0 (a0.length : Int) (0 : Int)).bind fun o3 =>
    oc o3 (fun o4 => some (-1 : Int))
    (fun o5 => some o5))
noncomputable def I_FindResource (k : Nat) (a0 : IOrigin) (a1 : List UInt8) : Option (Int) :=
    ((slices_IndexFunc_IResource_at_I_FindResource_1 k a0.Resources a1).bind fun w1 =>
    some w1)
noncomputable def strings_IndexByte (k : Nat) (a0 : List UInt8) (a1 : Int) : Option (Int) :=
    indexByteO a0 a1
noncomputable def I_isTokenByte (k : Nat) (a0 : Int) : Option (Bool) :=
    (bif (decide (a0 ≥ (97 : Int))) then (bif (decide (a0 ≤ (122 : Int))) then some true else (bif (decide (a0 ≥ (65 : Int))) then (bif (decide (a0 ≤ (90 : Int))) then some true else (bif (decide (a0 ≥ (48 : Int))) then (bif (decide (a0 ≤ (57 : Int))) then some true else ((strings_IndexByte k ([33, 35, 36, 37, 38, 39, 42, 43, 45, 46, 94, 95, 124, 126] : List UInt8) a0).bind fun w1 =>
    (bif (decide (w1 ≥ (0 : Int))) then some true else some (a0 == (96 : Int))))) else ((strings_IndexByte k ([33, 35, 36, 37, 38, 39, 42, 43, 45, 46, 94, 95, 124, 126] : List UInt8) a0).bind fun w2 =>
    (bif (decide (w2 ≥ (0 : Int))) then some true else some (a0 == (96 : Int)))))) else (bif (decide (a0 ≥ (48 : Int))) then (bif (decide (a0 ≤ (57 : Int))) then some true else ((strings_IndexByte k ([33, 35, 36, 37, 38, 39, 42, 43, 45, 46, 94, 95, 124, 126] : List UInt8) a0).bind fun w3 =>
    (bif (decide (w3 ≥ (0 : Int))) then some true else some (a0 == (96 : Int))))) else ((strings_IndexByte k ([33, 35, 36, 37, 38, 39, 42, 43, 45, 46, 94, 95, 124, 126] : List UInt8) a0).bind fun w4 =>
    (bif (decide (w4 ≥ (0 : Int))) then some true else some (a0 == (96 : Int))))))) else (bif (decide (a0 ≥ (65 : Int))) then (bif (decide (a0 ≤ (90 : Int))) then some true else (bif (decide (a0 ≥ (48 : Int))) then (bif (decide (a0 ≤ (57 : Int))) then some true else ((strings_IndexByte k ([33, 35, 36, 37, 38, 39, 42, 43, 45, 46, 94, 95, 124, 126] : List UInt8) a0).bind fun w5 =>
    (bif (decide (w5 ≥ (0 : Int))) then some true else some (a0 == (96 : Int))))) else ((strings_IndexByte k ([33, 35, 36, 37, 38, 39, 42, 43, 45, 46, 94, 95, 124, 126] : List UInt8) a0).bind fun w6 =>
    (bif (decide (w6 ≥ (0 : Int))) then some true else some (a0 == (96 : Int)))))) else (bif (decide (a0 ≥ (48 : Int))) then (bif (decide (a0 ≤ (57 : Int))) then some true else ((strings_IndexByte k ([33, 35, 36, 37, 38, 39, 42, 43, 45, 46, 94, 95, 124, 126] : List UInt8) a0).bind fun w7 =>
    (bif (decide (w7 ≥ (0 : Int))) then some true else some (a0 == (96 : Int))))) else ((strings_IndexByte k ([33, 35, 36, 37, 38, 39, 42, 43, 45, 46, 94, 95, 124, 126] : List UInt8) a0).bind fun w8 =>
    (bif (decide (w8 ≥ (0 : Int))) then some true else some (a0 == (96 : Int)))))))
noncomputable def I_inRange (k : Nat) (a0 : Int) (a1 : Int) (a2 : Int) : Option (Bool) :=
    (bif (decide (a1 ≤ a0)) then some (decide (a0 ≤ a2)) else some false)
noncomputable def I_IsToken_b0 (k : Nat) : Nat → (List UInt8) → Int → Int → Option (Oc (Unit) (Bool))
 | 0, _, _, _ => none
 | n + 1, x0, x5, x6 =>
  (bif (decide (x6 < x5)) then ((idx x0 x6).bind fun c1 =>
  ((I_isTokenByte k (UInt8.toNat c1 : Int)).bind fun w2 =>
  (bif (!w2) then some (.oth (false))
  else I_IsToken_b0 k n x0 x5 (IntKind.wrap .i64 (x6 + (1 : Int))))))
  else some (.nrm ()))
noncomputable def I_IsToken (k : Nat) (a0 : List UInt8) : Option (Bool) :=
    ((I_IsToken_b0 k k a0 (a0.length : Int) (0 : Int)).bind fun o3 =>
    oc o3 (fun o4 => ((I_inRange k (a0.length : Int) (1 : Int) (40 : Int)).bind fun w6 =>
    some w6))
    (fun o5 => some o5))
noncomputable def strings_ToUpper (k : Nat) (a0 : List UInt8) : Option ((List UInt8)) :=
    toUpperO a0
noncomputable def I_isHost_b0 (k : Nat) : Nat → (List UInt8) → Int → Int → Option (Oc (Unit) (Bool))
 | 0, _, _, _ => none
 | n + 1, x0, x6, x7 =>
  (bif (decide (x7 < x6)) then ((idx x0 x7).bind fun c1 =>
  (bif (decide ((UInt8.toNat c1 : Int) ≥ (97 : Int))) then (bif (decide ((UInt8.toNat c1 : Int) ≤ (122 : Int))) then (bif (!true) then some (.oth (false))
  else I_isHost_b0 k n x0 x6 (IntKind.wrap .i64 (x7 + (1 : Int)))) else (bif (decide ((UInt8.toNat c1 : Int) ≥ (48 : Int))) then (bif (decide ((UInt8.toNat c1 : Int) ≤ (57 : Int))) then (bif (!true) then some (.oth (false))
  else I_isHost_b0 k n x0 x6 (IntKind.wrap .i64 (x7 + (1 : Int)))) else (bif ((UInt8.toNat c1 : Int) == (45 : Int)) then (bif (!true) then some (.oth (false))
  else I_isHost_b0 k n x0 x6 (IntKind.wrap .i64 (x7 + (1 : Int)))) else (bif (!((UInt8.toNat c1 : Int) == (46 : Int))) then some (.oth (false))
  else I_isHost_b0 k n x0 x6 (IntKind.wrap .i64 (x7 + (1 : Int)))))) else (bif ((UInt8.toNat c1 : Int) == (45 : Int)) then (bif (!true) then some (.oth (false))
  else I_isHost_b0 k n x0 x6 (IntKind.wrap .i64 (x7 + (1 : Int)))) else (bif (!((UInt8.toNat c1 : Int) == (46 : Int))) then some (.oth (false))
  else I_isHost_b0 k n x0 x6 (IntKind.wrap .i64 (x7 + (1 : Int))))))) else (bif (decide ((UInt8.toNat c1 : Int) ≥ (48 : Int))) then (bif (decide ((UInt8.toNat c1 : Int) ≤ (57 : Int))) then (bif (!true) then some (.oth (false))
  else I_isHost_b0 k n x0 x6 (IntKind.wrap .i64 (x7 + (1 : Int)))) else (bif ((UInt8.toNat c1 : Int) == (45 : Int)) then (bif (!true) then some (.oth (false))
  else I_isHost_b0 k n x0 x6 (IntKind.wrap .i64 (x7 + (1 : Int)))) else (bif (!((UInt8.toNat c1 : Int) == (46 : Int))) then some (.oth (false))
  else I_isHost_b0 k n x0 x6 (IntKind.wrap .i64 (x7 + (1 : Int)))))) else (bif ((UInt8.toNat c1 : Int) == (45 : Int)) then (bif (!true) then some (.oth (false))
  else I_isHost_b0 k n x0 x6 (IntKind.wrap .i64 (x7 + (1 : Int)))) else (bif (!((UInt8.toNat c1 : Int) == (46 : Int))) then some (.oth (false))
  else I_isHost_b0 k n x0 x6 (IntKind.wrap .i64 (x7 + (1 : Int))))))))
  else some (.nrm ()))
noncomputable def I_isHost (k : Nat) (a0 : List UInt8) : Option (Bool) :=
    ((I_isHost_b0 k k a0 (a0.length : Int) (0 : Int)).bind fun o2 =>
    oc o2 (fun o3 => ((I_inRange k (a0.length : Int) (1 : Int) (40 : Int)).bind fun w5 =>
    some w5))
    (fun o4 => some o4))
noncomputable def I_LowerText_c20 (k : Nat) (x4 : Int) (x5 : Int) (x9 : Int) (x10 : Int) (x20 : Bool) (r8 : List Int) : Option ((List Int)) :=
    (bif x20 then ((idx r8 x4).bind fun _ =>
    ((idx r8 x4).bind fun e2 =>
    some (((r8).set (x4).toNat (IntKind.wrap .u8 (x5 + (32 : Int)))))))
    else some (r8))
noncomputable def I_LowerText_b1 (k : Nat) (x9 : Int) (x10 : Int) (r8 : List Int) : Option ((List Int)) :=
    ((idx r8 x10).bind fun _ =>
    ((idx r8 x10).bind fun e1 =>
    (bif (decide (e1 ≥ (65 : Int))) then ((I_LowerText_c20 k x10 e1 x9 x10 (decide (e1 ≤ (90 : Int))) r8).bind fun o2 =>
    some (o2)) else ((I_LowerText_c20 k x10 e1 x9 x10 false r8).bind fun o3 =>
    some (o3)))))
noncomputable def I_LowerText_b0 (k : Nat) : Nat → Int → Int → (List Int) → Option ((List Int))
 | 0, _, _, _ => none
 | n + 1, x9, x10, r8 =>
  (bif (decide (x10 < x9)) then ((I_LowerText_b1 k x9 x10 r8).bind fun o1 =>
  I_LowerText_b0 k n x9 (IntKind.wrap .i64 (x10 + (1 : Int))) o1)
  else some (r8))
noncomputable def I_LowerText (k : Nat) (a0 : List UInt8) : Option ((List UInt8)) :=
    ((I_LowerText_b0 k k ((intsOf a0).length : Int) (0 : Int) (intsOf a0)).bind fun o2 =>
    some (bytesOf o2))
noncomputable def strings_Trim (k : Nat) (a0 : List UInt8) (a1 : List UInt8) : Option ((List UInt8)) :=
    trimO a0 a1
noncomputable def I_TrimText (k : Nat) (a0 : List UInt8) : Option ((List UInt8)) :=
    ((strings_Trim k a0 ([32, 9] : List UInt8)).bind fun w1 =>
    some w1)
noncomputable def I_isFieldValue_b0 (k : Nat) : Nat → (List UInt8) → Int → Int → Option (Oc (Unit) (Bool))
 | 0, _, _, _ => none
 | n + 1, x0, x5, x6 =>
  (bif (decide (x6 < x5)) then ((idx x0 x6).bind fun c1 =>
  (bif ((UInt8.toNat c1 : Int) != (9 : Int)) then ((idx x0 x6).bind fun c2 =>
  ((I_inRange k (IntKind.wrap .i64 (UInt8.toNat c2 : Int)) (32 : Int) (126 : Int)).bind fun w3 =>
  (bif (!w3) then some (.oth (false))
  else I_isFieldValue_b0 k n x0 x5 (IntKind.wrap .i64 (x6 + (1 : Int)))))) else I_isFieldValue_b0 k n x0 x5 (IntKind.wrap .i64 (x6 + (1 : Int)))))
  else some (.nrm ()))
noncomputable def I_isFieldValue (k : Nat) (a0 : List UInt8) : Option (Bool) :=
    ((I_isFieldValue_b0 k k a0 (a0.length : Int) (0 : Int)).bind fun o4 =>
    oc o4 (fun o5 => (bif (decide ((a0.length : Int) ≤ (200 : Int))) then ((I_TrimText k a0).bind fun w7 =>
    some (w7 == a0)) else some false))
    (fun o6 => some o6))
noncomputable def I_AreFields_b0 (k : Nat) : Nat → (List IField) → (List IField) → Int → Int → Option (Oc (Unit) (Bool))
 | 0, _, _, _, _ => none
 | n + 1, x0, x5, x6, x7 =>
  (bif (decide (x7 < x6)) then ((idx x5 x7).bind fun e1 =>
  ((I_IsToken k e1.Name).bind fun w2 =>
  (bif (!w2) then some (.oth (false)) else ((I_LowerText k e1.Name).bind fun w3 =>
  (bif (!(w3 == e1.Name)) then some (.oth (false)) else ((I_isFieldValue k e1.Value).bind fun w4 =>
  (bif (!w4) then some (.oth (false))
  else I_AreFields_b0 k n x0 x5 x6 (IntKind.wrap .i64 (x7 + (1 : Int))))))))))
  else some (.nrm ()))
noncomputable def I_AreFields (k : Nat) (a0 : List IField) : Option (Bool) :=
    ((I_AreFields_b0 k k a0 a0 (a0.length : Int) (0 : Int)).bind fun o5 =>
    oc o5 (fun o6 => some (decide ((a0.length : Int) ≤ (24 : Int))))
    (fun o7 => some o7))
noncomputable def I_hasField_1 (k : Nat) (a0 : IField) (f0_0 : List UInt8) : Option (Bool) :=
    some (a0.Name == f0_0)
noncomputable def slices_IndexFunc_IField_at_I_hasField_1_b0 (k : Nat) : Nat → (List IField) → (List UInt8) → Int → Int → Option (Oc (Unit) (Int))
 | 0, _, _, _, _ => none
 | n + 1, x0, x1_0_0, x7, x8 =>
  (bif (decide (x8 < x7)) then ((idx x0 x8).bind fun e1 =>
  ((I_hasField_1 k e1 x1_0_0).bind fun w2 =>
  (bif w2 then some (.oth (x8))
  else slices_IndexFunc_IField_at_I_hasField_1_b0 k n x0 x1_0_0 x7 (IntKind.wrap .i64 (x8 + (1 : Int))))))
  else some (.nrm ()))
noncomputable def slices_IndexFunc_IField_at_I_hasField_1 (k : Nat) (a0 : List IField) (a1_0_0 : List UInt8) : Option (Int) :=
    ((slices_IndexFunc_IField_at_I_hasField_1_b0 k k a0 a1_0_0 (a0.length : Int) (0 : Int)).bind fun o3 =>
    oc o3 (fun o4 => some (-1 : Int))
    (fun o5 => some o5))
noncomputable def slices_ContainsFunc_IField_at_I_hasField_1 (k : Nat) (a0 : List IField) (a1_0_0 : List UInt8) : Option (Bool) :=
    ((slices_IndexFunc_IField_at_I_hasField_1 k a0 a1_0_0).bind fun w1 =>
    some (decide (w1 ≥ (0 : Int))))
noncomputable def I_hasField (k : Nat) (a0 : List IField) (a1 : List UInt8) : Option (Bool) :=
    ((slices_ContainsFunc_IField_at_I_hasField_1 k a0 a1).bind fun w1 =>
    some w1)
noncomputable def I_IsRequest_b0 (k : Nat) : Nat → Int → Int → (List UInt8) → (List UInt8) → (List UInt8) → (List IField) → Option (Oc (Unit) (Bool))
 | 0, _, _, _, _, _, _ => none
 | n + 1, x37, x38, y1_0, y1_1, y1_2, y1_3 =>
  (bif (decide (x38 < x37)) then ((idx y1_2 x38).bind fun c6 =>
  ((I_inRange k (IntKind.wrap .i64 (UInt8.toNat c6 : Int)) (33 : Int) (126 : Int)).bind fun w7 =>
  (bif (!w7) then some (.oth (false))
  else I_IsRequest_b0 k n x37 (IntKind.wrap .i64 (x38 + (1 : Int))) y1_0 y1_1 y1_2 y1_3)))
  else some (.nrm ()))
noncomputable def I_IsRequest (k : Nat) (a0 : IRequest) : Option (Bool) :=
    ((I_IsToken k a0.Method).bind fun w1 =>
    (bif (!w1) then some false else ((strings_ToUpper k a0.Method).bind fun w2 =>
    (bif (!(w2 == a0.Method)) then some false else ((I_isHost k a0.Host).bind fun w3 =>
    (bif (!w3) then some false else ((I_inRange k (a0.Target.length : Int) (1 : Int) (100 : Int)).bind fun w4 =>
    (bif (!w4) then some false else ((idx a0.Target (0 : Int)).bind fun c5 =>
    (bif ((UInt8.toNat c5 : Int) != (47 : Int)) then some false
    else ((I_IsRequest_b0 k k (a0.Target.length : Int) (0 : Int) a0.Method a0.Host a0.Target a0.Fields).bind fun o8 =>
    oc o8 (fun o9 => ((I_AreFields k a0.Fields).bind fun w11 =>
    (bif w11 then (bif (decide ((a0.Fields.length : Int) < (24 : Int))) then ((I_hasField k a0.Fields ([104, 111, 115, 116] : List UInt8)).bind fun w12 =>
    (bif (!w12) then ((I_hasField k a0.Fields ([99, 111, 110, 116, 101, 110, 116, 45, 108, 101, 110, 103, 116, 104] : List UInt8)).bind fun w13 =>
    some (!w13)) else some false)) else some false) else some false)))
    (fun o10 => some o10))))))))))))
noncomputable def strings_Cut (k : Nat) (a0 : List UInt8) (a1 : List UInt8) : Option ((List UInt8) × (List UInt8) × Bool) :=
    cutO a0 a1
noncomputable def I_SplitTarget (k : Nat) (a0 : List UInt8) : Option ((List UInt8) × (List UInt8) × Bool) :=
    ((strings_Cut k a0 ([63] : List UInt8)).bind fun w1 =>
    some (w1.1, w1.2.1, w1.2.2))
noncomputable def I_hexDigit_c8 (k : Nat) (x0 : Int) (x8 : Bool) : Option (Int) :=
    (bif x8 then some ((IntKind.wrap .u8 (x0 - (32 : Int))))
    else some (x0))
noncomputable def I_hexDigit (k : Nat) (a0 : Int) : Option (Int) :=
    (bif (decide (a0 ≥ (97 : Int))) then ((I_hexDigit_c8 k a0 (decide (a0 ≤ (102 : Int)))).bind fun o1 =>
    ((strings_IndexByte k ([48, 49, 50, 51, 52, 53, 54, 55, 56, 57, 65, 66, 67, 68, 69, 70] : List UInt8) o1).bind fun w2 =>
    some w2)) else ((I_hexDigit_c8 k a0 false).bind fun o3 =>
    ((strings_IndexByte k ([48, 49, 50, 51, 52, 53, 54, 55, 56, 57, 65, 66, 67, 68, 69, 70] : List UInt8) o3).bind fun w4 =>
    some w4)))
noncomputable def I_decodedTarget_c88 (k : Nat) (x0 : List UInt8) (x5 : Int) (x6 : Int) (x7 : Int) (x8 : Int) (x88 : Bool) (r4 : List Int) : Option ((List Int)) :=
    (bif x88 then ((app 1 r4 ([x8] : List Int)).bind fun u12 =>
    some (u12))
    else ((idx ([48, 49, 50, 51, 52, 53, 54, 55, 56, 57, 65, 66, 67, 68, 69, 70] : List UInt8) x6).bind fun c13 =>
    ((idx ([48, 49, 50, 51, 52, 53, 54, 55, 56, 57, 65, 66, 67, 68, 69, 70] : List UInt8) x7).bind fun c14 =>
    ((app 1 r4 ([(37 : Int), (UInt8.toNat c13 : Int), (UInt8.toNat c14 : Int)] : List Int)).bind fun u15 =>
    some (u15)))))
noncomputable def I_decodedTarget_b1 (k : Nat) (x0 : List UInt8) (x5 : Int) (r4 : List Int) : Option (Oc (Int × (List Int)) ((List UInt8) × Bool)) :=
    ((idx x0 x5).bind fun c1 =>
    (bif ((UInt8.toNat c1 : Int) != (37 : Int)) then ((idx x0 x5).bind fun c2 =>
    ((app 1 r4 ([(UInt8.toNat c2 : Int)] : List Int)).bind fun u3 =>
    some (.nrm (x5, u3))))
    else (bif (decide ((IntKind.wrap .i64 (x5 + (2 : Int))) ≥ (x0.length : Int))) then some (.oth ((([] : List UInt8), false))) else ((idx x0 (IntKind.wrap .i64 (x5 + (1 : Int)))).bind fun c4 =>
    ((I_hexDigit k (UInt8.toNat c4 : Int)).bind fun w5 =>
    (bif (decide (w5 < (0 : Int))) then some (.oth ((([] : List UInt8), false))) else ((idx x0 (IntKind.wrap .i64 (x5 + (2 : Int)))).bind fun c6 =>
    ((I_hexDigit k (UInt8.toNat c6 : Int)).bind fun w7 =>
    (bif (decide (w7 < (0 : Int))) then some (.oth ((([] : List UInt8), false)))
    else ((idx x0 (IntKind.wrap .i64 (x5 + (1 : Int)))).bind fun c8 =>
    ((I_hexDigit k (UInt8.toNat c8 : Int)).bind fun w9 =>
    ((idx x0 (IntKind.wrap .i64 (x5 + (2 : Int)))).bind fun c10 =>
    ((I_hexDigit k (UInt8.toNat c10 : Int)).bind fun w11 =>
    (bif (decide ((IntKind.wrap .u8 (IntKind.wrap .i64 ((IntKind.wrap .i64 ((16 : Int) * w9)) + w11))) ≥ (97 : Int))) then (bif (decide ((IntKind.wrap .u8 (IntKind.wrap .i64 ((IntKind.wrap .i64 ((16 : Int) * w9)) + w11))) ≤ (122 : Int))) then ((I_decodedTarget_c88 k x0 x5 w9 w11 (IntKind.wrap .u8 (IntKind.wrap .i64 ((IntKind.wrap .i64 ((16 : Int) * w9)) + w11))) true r4).bind fun o12 =>
    some (.nrm ((IntKind.wrap .i64 (x5 + (2 : Int))), o12))) else (bif (decide ((IntKind.wrap .u8 (IntKind.wrap .i64 ((IntKind.wrap .i64 ((16 : Int) * w9)) + w11))) ≥ (65 : Int))) then (bif (decide ((IntKind.wrap .u8 (IntKind.wrap .i64 ((IntKind.wrap .i64 ((16 : Int) * w9)) + w11))) ≤ (90 : Int))) then ((I_decodedTarget_c88 k x0 x5 w9 w11 (IntKind.wrap .u8 (IntKind.wrap .i64 ((IntKind.wrap .i64 ((16 : Int) * w9)) + w11))) true r4).bind fun o13 =>
    some (.nrm ((IntKind.wrap .i64 (x5 + (2 : Int))), o13))) else (bif (decide ((IntKind.wrap .u8 (IntKind.wrap .i64 ((IntKind.wrap .i64 ((16 : Int) * w9)) + w11))) ≥ (48 : Int))) then (bif (decide ((IntKind.wrap .u8 (IntKind.wrap .i64 ((IntKind.wrap .i64 ((16 : Int) * w9)) + w11))) ≤ (57 : Int))) then ((I_decodedTarget_c88 k x0 x5 w9 w11 (IntKind.wrap .u8 (IntKind.wrap .i64 ((IntKind.wrap .i64 ((16 : Int) * w9)) + w11))) true r4).bind fun o14 =>
    some (.nrm ((IntKind.wrap .i64 (x5 + (2 : Int))), o14))) else ((strings_IndexByte k ([45, 46, 95, 126] : List UInt8) (IntKind.wrap .u8 (IntKind.wrap .i64 ((IntKind.wrap .i64 ((16 : Int) * w9)) + w11)))).bind fun w15 =>
    ((I_decodedTarget_c88 k x0 x5 w9 w11 (IntKind.wrap .u8 (IntKind.wrap .i64 ((IntKind.wrap .i64 ((16 : Int) * w9)) + w11))) (decide (w15 ≥ (0 : Int))) r4).bind fun o16 =>
    some (.nrm ((IntKind.wrap .i64 (x5 + (2 : Int))), o16))))) else ((strings_IndexByte k ([45, 46, 95, 126] : List UInt8) (IntKind.wrap .u8 (IntKind.wrap .i64 ((IntKind.wrap .i64 ((16 : Int) * w9)) + w11)))).bind fun w17 =>
    ((I_decodedTarget_c88 k x0 x5 w9 w11 (IntKind.wrap .u8 (IntKind.wrap .i64 ((IntKind.wrap .i64 ((16 : Int) * w9)) + w11))) (decide (w17 ≥ (0 : Int))) r4).bind fun o18 =>
    some (.nrm ((IntKind.wrap .i64 (x5 + (2 : Int))), o18)))))) else (bif (decide ((IntKind.wrap .u8 (IntKind.wrap .i64 ((IntKind.wrap .i64 ((16 : Int) * w9)) + w11))) ≥ (48 : Int))) then (bif (decide ((IntKind.wrap .u8 (IntKind.wrap .i64 ((IntKind.wrap .i64 ((16 : Int) * w9)) + w11))) ≤ (57 : Int))) then ((I_decodedTarget_c88 k x0 x5 w9 w11 (IntKind.wrap .u8 (IntKind.wrap .i64 ((IntKind.wrap .i64 ((16 : Int) * w9)) + w11))) true r4).bind fun o19 =>
    some (.nrm ((IntKind.wrap .i64 (x5 + (2 : Int))), o19))) else ((strings_IndexByte k ([45, 46, 95, 126] : List UInt8) (IntKind.wrap .u8 (IntKind.wrap .i64 ((IntKind.wrap .i64 ((16 : Int) * w9)) + w11)))).bind fun w20 =>
    ((I_decodedTarget_c88 k x0 x5 w9 w11 (IntKind.wrap .u8 (IntKind.wrap .i64 ((IntKind.wrap .i64 ((16 : Int) * w9)) + w11))) (decide (w20 ≥ (0 : Int))) r4).bind fun o21 =>
    some (.nrm ((IntKind.wrap .i64 (x5 + (2 : Int))), o21))))) else ((strings_IndexByte k ([45, 46, 95, 126] : List UInt8) (IntKind.wrap .u8 (IntKind.wrap .i64 ((IntKind.wrap .i64 ((16 : Int) * w9)) + w11)))).bind fun w22 =>
    ((I_decodedTarget_c88 k x0 x5 w9 w11 (IntKind.wrap .u8 (IntKind.wrap .i64 ((IntKind.wrap .i64 ((16 : Int) * w9)) + w11))) (decide (w22 ≥ (0 : Int))) r4).bind fun o23 =>
    some (.nrm ((IntKind.wrap .i64 (x5 + (2 : Int))), o23))))))) else (bif (decide ((IntKind.wrap .u8 (IntKind.wrap .i64 ((IntKind.wrap .i64 ((16 : Int) * w9)) + w11))) ≥ (65 : Int))) then (bif (decide ((IntKind.wrap .u8 (IntKind.wrap .i64 ((IntKind.wrap .i64 ((16 : Int) * w9)) + w11))) ≤ (90 : Int))) then ((I_decodedTarget_c88 k x0 x5 w9 w11 (IntKind.wrap .u8 (IntKind.wrap .i64 ((IntKind.wrap .i64 ((16 : Int) * w9)) + w11))) true r4).bind fun o24 =>
    some (.nrm ((IntKind.wrap .i64 (x5 + (2 : Int))), o24))) else (bif (decide ((IntKind.wrap .u8 (IntKind.wrap .i64 ((IntKind.wrap .i64 ((16 : Int) * w9)) + w11))) ≥ (48 : Int))) then (bif (decide ((IntKind.wrap .u8 (IntKind.wrap .i64 ((IntKind.wrap .i64 ((16 : Int) * w9)) + w11))) ≤ (57 : Int))) then ((I_decodedTarget_c88 k x0 x5 w9 w11 (IntKind.wrap .u8 (IntKind.wrap .i64 ((IntKind.wrap .i64 ((16 : Int) * w9)) + w11))) true r4).bind fun o25 =>
    some (.nrm ((IntKind.wrap .i64 (x5 + (2 : Int))), o25))) else ((strings_IndexByte k ([45, 46, 95, 126] : List UInt8) (IntKind.wrap .u8 (IntKind.wrap .i64 ((IntKind.wrap .i64 ((16 : Int) * w9)) + w11)))).bind fun w26 =>
    ((I_decodedTarget_c88 k x0 x5 w9 w11 (IntKind.wrap .u8 (IntKind.wrap .i64 ((IntKind.wrap .i64 ((16 : Int) * w9)) + w11))) (decide (w26 ≥ (0 : Int))) r4).bind fun o27 =>
    some (.nrm ((IntKind.wrap .i64 (x5 + (2 : Int))), o27))))) else ((strings_IndexByte k ([45, 46, 95, 126] : List UInt8) (IntKind.wrap .u8 (IntKind.wrap .i64 ((IntKind.wrap .i64 ((16 : Int) * w9)) + w11)))).bind fun w28 =>
    ((I_decodedTarget_c88 k x0 x5 w9 w11 (IntKind.wrap .u8 (IntKind.wrap .i64 ((IntKind.wrap .i64 ((16 : Int) * w9)) + w11))) (decide (w28 ≥ (0 : Int))) r4).bind fun o29 =>
    some (.nrm ((IntKind.wrap .i64 (x5 + (2 : Int))), o29)))))) else (bif (decide ((IntKind.wrap .u8 (IntKind.wrap .i64 ((IntKind.wrap .i64 ((16 : Int) * w9)) + w11))) ≥ (48 : Int))) then (bif (decide ((IntKind.wrap .u8 (IntKind.wrap .i64 ((IntKind.wrap .i64 ((16 : Int) * w9)) + w11))) ≤ (57 : Int))) then ((I_decodedTarget_c88 k x0 x5 w9 w11 (IntKind.wrap .u8 (IntKind.wrap .i64 ((IntKind.wrap .i64 ((16 : Int) * w9)) + w11))) true r4).bind fun o30 =>
    some (.nrm ((IntKind.wrap .i64 (x5 + (2 : Int))), o30))) else ((strings_IndexByte k ([45, 46, 95, 126] : List UInt8) (IntKind.wrap .u8 (IntKind.wrap .i64 ((IntKind.wrap .i64 ((16 : Int) * w9)) + w11)))).bind fun w31 =>
    ((I_decodedTarget_c88 k x0 x5 w9 w11 (IntKind.wrap .u8 (IntKind.wrap .i64 ((IntKind.wrap .i64 ((16 : Int) * w9)) + w11))) (decide (w31 ≥ (0 : Int))) r4).bind fun o32 =>
    some (.nrm ((IntKind.wrap .i64 (x5 + (2 : Int))), o32))))) else ((strings_IndexByte k ([45, 46, 95, 126] : List UInt8) (IntKind.wrap .u8 (IntKind.wrap .i64 ((IntKind.wrap .i64 ((16 : Int) * w9)) + w11)))).bind fun w33 =>
    ((I_decodedTarget_c88 k x0 x5 w9 w11 (IntKind.wrap .u8 (IntKind.wrap .i64 ((IntKind.wrap .i64 ((16 : Int) * w9)) + w11))) (decide (w33 ≥ (0 : Int))) r4).bind fun o34 =>
    some (.nrm ((IntKind.wrap .i64 (x5 + (2 : Int))), o34))))))))))))))))))))
noncomputable def I_decodedTarget_b0 (k : Nat) : Nat → (List UInt8) → Int → (List Int) → Option (Oc ((List Int)) ((List UInt8) × Bool))
 | 0, _, _, _ => none
 | n + 1, x0, x5, r4 =>
  (bif (decide (x5 < (x0.length : Int))) then ((I_decodedTarget_b1 k x0 x5 r4).bind fun o1 =>
  oc o1 (fun o2 => I_decodedTarget_b0 k n x0 (IntKind.wrap .i64 (o2.1 + (1 : Int))) o2.2)
  (fun o3 => some (.oth (o3))))
  else some (.nrm r4))
noncomputable def I_decodedTarget (k : Nat) (a0 : List UInt8) : Option ((List UInt8) × Bool) :=
    ((I_decodedTarget_b0 k k a0 (0 : Int) ([] : List Int)).bind fun o4 =>
    oc o4 (fun o5 => some ((bytesOf o5), true))
    (fun o6 => some o6))
noncomputable def internal_stringslite_HasPrefix (k : Nat) (a0 : List UInt8) (a1 : List UInt8) : Option (Bool) :=
    (bif (decide ((a0.length : Int) ≥ (a1.length : Int))) then ((ssub a0 (0 : Int) (a1.length : Int)).bind fun t1 =>
    some (t1 == a1)) else some false)
noncomputable def strings_HasPrefix (k : Nat) (a0 : List UInt8) (a1 : List UInt8) : Option (Bool) :=
    ((internal_stringslite_HasPrefix k a0 a1).bind fun w1 =>
    some w1)
noncomputable def strings_Split (k : Nat) (a0 : List UInt8) (a1 : List UInt8) : Option ((List (List UInt8))) :=
    splitO a0 a1
noncomputable def I_cleanComponents_c20 (k : Nat) (x0 : List (List UInt8)) (x4 : Int) (x5 : List UInt8) (x7 : List (List UInt8)) (x8 : Int) (x9 : Int) (x20 : Bool) (r3 : List (List UInt8)) : Option ((List (List UInt8))) :=
    (bif x20 then ((ssub r3 (0 : Int) (IntKind.wrap .i64 ((r3.length : Int) - (1 : Int)))).bind fun t2 =>
    some (t2))
    else some (r3))
noncomputable def I_cleanComponents_c37 (k : Nat) (x0 : List (List UInt8)) (x7 : List (List UInt8)) (x8 : Int) (x9 : Int) (x37 : Bool) (r3 : List (List UInt8)) : Option ((List (List UInt8))) :=
    (bif x37 then ((app 16 r3 ([([] : List UInt8)] : List (List UInt8))).bind fun u5 =>
    some (u5))
    else some (r3))
noncomputable def I_cleanComponents_c26 (k : Nat) (x0 : List (List UInt8)) (x4 : Int) (x5 : List UInt8) (x7 : List (List UInt8)) (x8 : Int) (x9 : Int) (x26 : Bool) (r3 : List (List UInt8)) : Option ((List (List UInt8))) :=
    (bif x26 then ((app 16 r3 ([x5] : List (List UInt8))).bind fun u4 =>
    some (u4))
    else ((I_cleanComponents_c37 k x0 x7 x8 x9 (x4 == (IntKind.wrap .i64 ((x0.length : Int) - (1 : Int)))) r3).bind fun o5 =>
    some (o5)))
noncomputable def I_cleanComponents_b2 (k : Nat) (x0 : List (List UInt8)) (x4 : Int) (x5 : List UInt8) (x7 : List (List UInt8)) (x8 : Int) (x9 : Int) (r3 : List (List UInt8)) : Option ((List (List UInt8))) :=
    (bif (!(x5 == ([46] : List UInt8))) then ((I_cleanComponents_c26 k x0 x4 x5 x7 x8 x9 (!(x5 == ([46, 46] : List UInt8))) r3).bind fun o4 =>
    some (o4)) else ((I_cleanComponents_c26 k x0 x4 x5 x7 x8 x9 false r3).bind fun o5 =>
    some (o5)))
noncomputable def I_cleanComponents_b1 (k : Nat) (x0 : List (List UInt8)) (x7 : List (List UInt8)) (x8 : Int) (x9 : Int) (r3 : List (List UInt8)) : Option ((List (List UInt8))) :=
    ((idx x7 x9).bind fun e1 =>
    (bif (e1 == ([46, 46] : List UInt8)) then ((I_cleanComponents_c20 k x0 x9 e1 x7 x8 x9 (decide ((r3.length : Int) > (0 : Int))) r3).bind fun o2 =>
    ((I_cleanComponents_b2 k x0 x9 e1 x7 x8 x9 o2).bind fun o3 =>
    some (o3))) else ((I_cleanComponents_c20 k x0 x9 e1 x7 x8 x9 false r3).bind fun o4 =>
    ((I_cleanComponents_b2 k x0 x9 e1 x7 x8 x9 o4).bind fun o5 =>
    some (o5)))))
noncomputable def I_cleanComponents_b0 (k : Nat) : Nat → (List (List UInt8)) → (List (List UInt8)) → Int → Int → (List (List UInt8)) → Option ((List (List UInt8)))
 | 0, _, _, _, _, _ => none
 | n + 1, x0, x7, x8, x9, r3 =>
  (bif (decide (x9 < x8)) then ((I_cleanComponents_b1 k x0 x7 x8 x9 r3).bind fun o1 =>
  I_cleanComponents_b0 k n x0 x7 x8 (IntKind.wrap .i64 (x9 + (1 : Int))) o1)
  else some (r3))
noncomputable def I_cleanComponents (k : Nat) (a0 : List (List UInt8)) : Option ((List (List UInt8))) :=
    ((I_cleanComponents_b0 k k a0 a0 (a0.length : Int) (0 : Int) ([] : List (List UInt8))).bind fun o2 =>
    some o2)
noncomputable def strings_Join (k : Nat) (a0 : List (List UInt8)) (a1 : List UInt8) : Option ((List UInt8)) :=
    joinO a0 a1
noncomputable def I_NormalTarget_1 (k : Nat) (a0 : List UInt8) : Option (Bool) :=
    some (a0 == ([] : List UInt8))
noncomputable def slices_IndexFunc_string_at_I_NormalTarget_1_b0 (k : Nat) : Nat → (List (List UInt8)) → Int → Int → Option (Oc (Unit) (Int))
 | 0, _, _, _ => none
 | n + 1, x0, x7, x8 =>
  (bif (decide (x8 < x7)) then ((idx x0 x8).bind fun e1 =>
  ((I_NormalTarget_1 k e1).bind fun w2 =>
  (bif w2 then some (.oth (x8))
  else slices_IndexFunc_string_at_I_NormalTarget_1_b0 k n x0 x7 (IntKind.wrap .i64 (x8 + (1 : Int))))))
  else some (.nrm ()))
noncomputable def slices_IndexFunc_string_at_I_NormalTarget_1 (k : Nat) (a0 : List (List UInt8)) : Option (Int) :=
    ((slices_IndexFunc_string_at_I_NormalTarget_1_b0 k k a0 (a0.length : Int) (0 : Int)).bind fun o3 =>
    oc o3 (fun o4 => some (-1 : Int))
    (fun o5 => some o5))
noncomputable def slices_DeleteFunc_string_at_I_NormalTarget_1_c29 (k : Nat) (x5 : Int) (x6 : Int) (x7 : List UInt8) (x29 : Bool) (r0 : List (List UInt8)) : Option (Int × (List (List UInt8))) :=
    (bif x29 then ((idx r0 x5).bind fun _ =>
    ((idx r0 x5).bind fun e4 =>
    some (((IntKind.wrap .i64 (x5 + (1 : Int))), ((r0).set (x5).toNat x7)))))
    else some ((x5, r0)))
noncomputable def slices_DeleteFunc_string_at_I_NormalTarget_1_b1 (k : Nat) (x5 : Int) (x6 : Int) (r0 : List (List UInt8)) : Option (Int × (List (List UInt8))) :=
    ((idx r0 x6).bind fun _ =>
    ((idx r0 x6).bind fun e2 =>
    ((I_NormalTarget_1 k e2).bind fun w3 =>
    ((slices_DeleteFunc_string_at_I_NormalTarget_1_c29 k x5 x6 e2 (!w3) r0).bind fun o4 =>
    some ((o4.1, o4.2))))))
noncomputable def slices_DeleteFunc_string_at_I_NormalTarget_1_b0 (k : Nat) : Nat → Int → Int → (List (List UInt8)) → Option (Int × (List (List UInt8)))
 | 0, _, _, _ => none
 | n + 1, x5, x6, r0 =>
  (bif (decide (x6 < (r0.length : Int))) then ((slices_DeleteFunc_string_at_I_NormalTarget_1_b1 k x5 x6 r0).bind fun o2 =>
  slices_DeleteFunc_string_at_I_NormalTarget_1_b0 k n o2.1 (IntKind.wrap .i64 (x6 + (1 : Int))) o2.2)
  else some ((x5, r0)))
noncomputable def slices_DeleteFunc_string_at_I_NormalTarget_1 (k : Nat) (a0 : List (List UInt8)) : Option ((List (List UInt8))) :=
    ((slices_IndexFunc_string_at_I_NormalTarget_1 k a0).bind fun w1 =>
    (bif (w1 == (-1 : Int)) then some a0
    else ((slices_DeleteFunc_string_at_I_NormalTarget_1_b0 k k w1 (IntKind.wrap .i64 (w1 + (1 : Int))) a0).bind fun o3 =>
    ((ssub o3.2 o3.1 (o3.2.length : Int)).bind fun _ =>
    ((ssub (o3.2.take (Int.toNat o3.1) ++ List.replicate (o3.2.length - (Int.toNat o3.1)) ([] : List UInt8)) (0 : Int) o3.1).bind fun t5 =>
    some t5)))))
noncomputable def slices_Sort_string (k : Nat) (a0 : List (List UInt8)) : Option ((List (List UInt8))) :=
    sortO a0
noncomputable def I_NormalTarget_c51 (k : Nat) (x9 : List UInt8) (x51 : Bool) (r10 : List (List UInt8)) : Option ((List UInt8)) :=
    (bif x51 then ((strings_Join k r10 ([38] : List UInt8)).bind fun w13 =>
    ((cat ([63] : List UInt8) w13).bind fun t14 =>
    ((cat x9 t14).bind fun t15 =>
    some (t15))))
    else some (x9))
noncomputable def I_NormalTarget (k : Nat) (a0 : List UInt8) : Option ((List UInt8) × Bool) :=
    ((I_SplitTarget k a0).bind fun w1 =>
    ((I_decodedTarget k w1.1).bind fun w2 =>
    ((I_decodedTarget k w1.2.1).bind fun w3 =>
    (bif (!w2.2) then some (([] : List UInt8), false) else (bif (!w3.2) then some (([] : List UInt8), false) else ((strings_HasPrefix k w2.1 ([47] : List UInt8)).bind fun w4 =>
    (bif (!w4) then some (([] : List UInt8), false)
    else ((ssub w2.1 (1 : Int) (w2.1.length : Int)).bind fun t5 =>
    ((strings_Split k t5 ([47] : List UInt8)).bind fun w6 =>
    ((I_cleanComponents k w6).bind fun w7 =>
    ((strings_Join k w7 ([47] : List UInt8)).bind fun w8 =>
    ((cat ([47] : List UInt8) w8).bind fun t9 =>
    ((strings_Split k w3.1 ([38] : List UInt8)).bind fun w10 =>
    ((slices_DeleteFunc_string_at_I_NormalTarget_1 k w10).bind fun w11 =>
    ((slices_Sort_string k w11).bind fun w12 =>
    ((I_NormalTarget_c51 k t9 (decide ((w12.length : Int) > (0 : Int))) w12).bind fun o16 =>
    some (o16, true)))))))))))))))))
noncomputable def I_IsNormalTarget (k : Nat) (a0 : List UInt8) : Option (Bool) :=
    ((I_NormalTarget k a0).bind fun w1 =>
    (bif w1.2 then some (w1.1 == a0) else some false))
noncomputable def I_areKeys_1 (k : Nat) (a0 : List UInt8) : Option (Bool) :=
    ((I_IsToken k a0).bind fun w1 =>
    some (!w1))
noncomputable def slices_IndexFunc_string_at_I_areKeys_1_b0 (k : Nat) : Nat → (List (List UInt8)) → Int → Int → Option (Oc (Unit) (Int))
 | 0, _, _, _ => none
 | n + 1, x0, x7, x8 =>
  (bif (decide (x8 < x7)) then ((idx x0 x8).bind fun e1 =>
  ((I_areKeys_1 k e1).bind fun w2 =>
  (bif w2 then some (.oth (x8))
  else slices_IndexFunc_string_at_I_areKeys_1_b0 k n x0 x7 (IntKind.wrap .i64 (x8 + (1 : Int))))))
  else some (.nrm ()))
noncomputable def slices_IndexFunc_string_at_I_areKeys_1 (k : Nat) (a0 : List (List UInt8)) : Option (Int) :=
    ((slices_IndexFunc_string_at_I_areKeys_1_b0 k k a0 (a0.length : Int) (0 : Int)).bind fun o3 =>
    oc o3 (fun o4 => some (-1 : Int))
    (fun o5 => some o5))
noncomputable def slices_ContainsFunc_string_at_I_areKeys_1 (k : Nat) (a0 : List (List UInt8)) : Option (Bool) :=
    ((slices_IndexFunc_string_at_I_areKeys_1 k a0).bind fun w1 =>
    some (decide (w1 ≥ (0 : Int))))
noncomputable def I_areKeys (k : Nat) (a0 : List UInt8) : Option (Bool) :=
    ((strings_Split k a0 ([32] : List UInt8)).bind fun w1 =>
    (bif (a0 == ([] : List UInt8)) then some true else (bif (decide ((w1.length : Int) ≤ (4 : Int))) then ((slices_ContainsFunc_string_at_I_areKeys_1 k w1).bind fun w2 =>
    some (!w2)) else some false)))
noncomputable def slices_Index_string_b0 (k : Nat) : Nat → (List (List UInt8)) → (List UInt8) → Int → Int → Option (Oc (Unit) (Int))
 | 0, _, _, _, _ => none
 | n + 1, x0, x1, x7, x8 =>
  (bif (decide (x8 < x7)) then ((idx x0 x8).bind fun e1 =>
  (bif (x1 == e1) then some (.oth (x8))
  else slices_Index_string_b0 k n x0 x1 x7 (IntKind.wrap .i64 (x8 + (1 : Int)))))
  else some (.nrm ()))
noncomputable def slices_Index_string (k : Nat) (a0 : List (List UInt8)) (a1 : List UInt8) : Option (Int) :=
    ((slices_Index_string_b0 k k a0 a1 (a0.length : Int) (0 : Int)).bind fun o2 =>
    oc o2 (fun o3 => some (-1 : Int))
    (fun o4 => some o4))
noncomputable def slices_Contains_string (k : Nat) (a0 : List (List UInt8)) (a1 : List UInt8) : Option (Bool) :=
    ((slices_Index_string k a0 a1).bind fun w1 =>
    some (decide (w1 ≥ (0 : Int))))
noncomputable def I_isResource_b0 (k : Nat) : Nat → (List (List UInt8)) → Int → Int → (List UInt8) → (List UInt8) → (List UInt8) → Bool → (List (List UInt8)) → (List IVersion) → Option (Oc (Unit) (Bool))
 | 0, _, _, _, _, _, _, _, _, _ => none
 | n + 1, x49, x50, x51, y1_0, y1_1, y1_2, y1_3, y1_4, y1_5 =>
  (bif (decide (x51 < x50)) then ((idx x49 x51).bind fun e5 =>
  ((I_IsToken k e5).bind fun w6 =>
  (bif (!w6) then some (.oth (false)) else ((I_LowerText k e5).bind fun w7 =>
  (bif (!(w7 == e5)) then some (.oth (false)) else (bif (decide ((e5.length : Int) > (8 : Int))) then some (.oth (false)) else (bif (e5 == ([42] : List UInt8)) then some (.oth (false)) else ((ssub y1_4 (0 : Int) x51).bind fun t8 =>
  ((slices_Contains_string k t8 e5).bind fun w9 =>
  (bif w9 then some (.oth (false))
  else I_isResource_b0 k n x49 x50 (IntKind.wrap .i64 (x51 + (1 : Int))) y1_0 y1_1 y1_2 y1_3 y1_4 y1_5))))))))))
  else some (.nrm ()))
noncomputable def I_isResource_b2 (k : Nat) : Nat → (List IVersion) → Int → Int → (List UInt8) → (List UInt8) → (List UInt8) → Bool → (List (List UInt8)) → (List IVersion) → Option (Oc (Unit) (Bool))
 | 0, _, _, _, _, _, _, _, _, _ => none
 | n + 1, x84, x85, x86, y1_0, y1_1, y1_2, y1_3, y1_4, y1_5 =>
  (bif (decide (x86 < x85)) then ((idx x84 x86).bind fun e13 =>
  ((I_inRange k e13.At (0 : Int) (4102444799 : Int)).bind fun w14 =>
  (bif (!w14) then some (.oth (false)) else (bif (decide (x86 > (0 : Int))) then ((idx y1_5 (IntKind.wrap .i64 (x86 - (1 : Int)))).bind fun e15 =>
  (bif (decide (e15.At ≥ e13.At)) then some (.oth (false)) else (bif (decide ((e13.Text.length : Int) > (400 : Int))) then some (.oth (false))
  else I_isResource_b2 k n x84 x85 (IntKind.wrap .i64 (x86 + (1 : Int))) y1_0 y1_1 y1_2 y1_3 y1_4 y1_5))) else (bif (decide ((e13.Text.length : Int) > (400 : Int))) then some (.oth (false))
  else I_isResource_b2 k n x84 x85 (IntKind.wrap .i64 (x86 + (1 : Int))) y1_0 y1_1 y1_2 y1_3 y1_4 y1_5)))))
  else some (.nrm ()))
noncomputable def I_isResource (k : Nat) (a0 : IResource) : Option (Bool) :=
    ((I_IsNormalTarget k a0.Target).bind fun w1 =>
    (bif (!w1) then some false else (bif (decide ((a0.Target.length : Int) > (100 : Int))) then some false else ((I_isFieldValue k a0.Control).bind fun w2 =>
    (bif (!w2) then some false else (bif (decide ((a0.Control.length : Int) > (150 : Int))) then some false else ((I_areKeys k a0.Keys).bind fun w3 =>
    (bif (!w3) then some false else (bif (decide ((a0.Langs.length : Int) > (4 : Int))) then some false else ((I_inRange k (a0.Versions.length : Int) (1 : Int) (8 : Int)).bind fun w4 =>
    (bif (!w4) then some false
    else ((I_isResource_b0 k k a0.Langs (a0.Langs.length : Int) (0 : Int) a0.Target a0.Control a0.Keys a0.Private a0.Langs a0.Versions).bind fun o10 =>
    oc o10 (fun o11 => ((I_isResource_b2 k k a0.Versions (a0.Versions.length : Int) (0 : Int) a0.Target a0.Control a0.Keys a0.Private a0.Langs a0.Versions).bind fun o16 =>
    oc o16 (fun o17 => some true)
    (fun o18 => some o18)))
    (fun o12 => some o12)))))))))))))
noncomputable def I_IsOrigin_b0 (k : Nat) : Nat → (List IResource) → Int → Int → (List UInt8) → (List IResource) → Option (Oc (Unit) (Bool))
 | 0, _, _, _, _, _ => none
 | n + 1, x17, x18, x19, y1_0, y1_1 =>
  (bif (decide (x19 < x18)) then ((idx x17 x19).bind fun e2 =>
  ((I_FindResource k (⟨y1_0, y1_1⟩ : IOrigin) e2.Target).bind fun w3 =>
  (bif (w3 != x19) then some (.oth (false)) else ((I_isResource k e2).bind fun w4 =>
  (bif (!w4) then some (.oth (false))
  else I_IsOrigin_b0 k n x17 x18 (IntKind.wrap .i64 (x19 + (1 : Int))) y1_0 y1_1)))))
  else some (.nrm ()))
noncomputable def I_IsOrigin (k : Nat) (a0 : IOrigin) : Option (Bool) :=
    (bif (decide ((a0.Resources.length : Int) > (12 : Int))) then some false else ((I_IsRequest k (⟨([71, 69, 84] : List UInt8), a0.Host, ([47] : List UInt8), []⟩ : IRequest)).bind fun w1 =>
    (bif (!w1) then some false
    else ((I_IsOrigin_b0 k k a0.Resources (a0.Resources.length : Int) (0 : Int) a0.Host a0.Resources).bind fun o5 =>
    oc o5 (fun o6 => some true)
    (fun o7 => some o7)))))
noncomputable def I_PublishPage (k : Nat) (a0 : IOrigin) (a1 : List UInt8) (a2 : IVersion) : Option (IOrigin × Bool) :=
    ((I_copyOrigin k a0).bind fun w1 =>
    ((I_FindResource k a0 a1).bind fun w2 =>
    (bif (decide (w2 < (0 : Int))) then some (w1, false) else ((I_IsOrigin k a0).bind fun w3 =>
    (bif (!w3) then some (w1, false)
    else ((idx w1.Resources w2).bind fun _ =>
    ((idx w1.Resources w2).bind fun e4 =>
    ((app 32 e4.Versions ([a2] : List IVersion)).bind fun u5 =>
    ((idx w1.Resources w2).bind fun _ =>
    (guardT (w2 == w2) <| ((I_IsOrigin k (⟨w1.Host, ((w1.Resources).set (w2).toNat (⟨e4.Target, e4.Control, e4.Keys, e4.Private, e4.Langs, u5⟩ : IResource))⟩ : IOrigin)).bind fun w6 =>
    (bif (!w6) then ((I_copyOrigin k a0).bind fun w7 =>
    some (w7, false))
    else some ((⟨w1.Host, ((w1.Resources).set (w2).toNat (⟨e4.Target, e4.Control, e4.Keys, e4.Private, e4.Langs, u5⟩ : IResource))⟩ : IOrigin), true)))))))))))))
noncomputable def S_VersionAt_c21 (k : Nat) (x1 : Int) (x5 : Int) (x6 : Int) (x21 : Bool) (y2_0 : List UInt8) (y2_1 : List UInt8) (y2_2 : List UInt8) (y2_3 : Bool) (y2_4 : List (List UInt8)) (y2_5 : List IVersion) : Option (Int) :=
    (bif x21 then some (x6)
    else some (x5))
noncomputable def S_VersionAt_b1 (k : Nat) (x1 : Int) (x5 : Int) (x6 : Int) (y2_0 : List UInt8) (y2_1 : List UInt8) (y2_2 : List UInt8) (y2_3 : Bool) (y2_4 : List (List UInt8)) (y2_5 : List IVersion) : Option (Int) :=
    ((idx y2_5 x6).bind fun e1 =>
    ((S_VersionAt_c21 k x1 x5 x6 (decide (e1.At ≤ x1)) y2_0 y2_1 y2_2 y2_3 y2_4 y2_5).bind fun o2 =>
    some (o2)))
noncomputable def S_VersionAt_b0 (k : Nat) : Nat → Int → Int → Int → (List UInt8) → (List UInt8) → (List UInt8) → Bool → (List (List UInt8)) → (List IVersion) → Option (Int)
 | 0, _, _, _, _, _, _, _, _, _ => none
 | n + 1, x1, x5, x6, y2_0, y2_1, y2_2, y2_3, y2_4, y2_5 =>
  (bif (decide (x6 < (y2_5.length : Int))) then ((S_VersionAt_b1 k x1 x5 x6 y2_0 y2_1 y2_2 y2_3 y2_4 y2_5).bind fun o1 =>
  S_VersionAt_b0 k n x1 o1 (IntKind.wrap .i64 (x6 + (1 : Int))) y2_0 y2_1 y2_2 y2_3 y2_4 y2_5)
  else some (x5))
noncomputable def S_VersionAt (k : Nat) (a0 : IResource) (a1 : Int) : Option (Int) :=
    ((S_VersionAt_b0 k k a1 (-1 : Int) (0 : Int) a0.Target a0.Control a0.Keys a0.Private a0.Langs a0.Versions).bind fun o2 =>
    some o2)
noncomputable def L_FnVersions_b0 (k : Nat) : Nat → Int → Int → (List UInt8) → (List IResource) → Int → (List UInt8) → Bool → (List UInt8) → (List IResource) → Option (Oc ((List IResource) × (List IResource)) (Bool))
 | 0, _, _, _, _, _, _, _, _, _ => none
 | n + 1, x12, x13, y7_0, r100000701, y9_0, y9_1, y9_2, y10_0, r100001001 =>
  (bif (decide (x13 < (100 : Int))) then (bif (decide (x13 < y9_0)) then ((idx r100001001 x12).bind fun _ =>
  ((idx r100001001 x12).bind fun e12 =>
  ((I_VersionAt k e12 x13).bind fun w13 =>
  ((idx r100000701 x12).bind fun _ =>
  ((idx r100000701 x12).bind fun e14 =>
  ((S_VersionAt k e14 x13).bind fun w15 =>
  (bif (w13 != w15) then some (.oth (false))
  else L_FnVersions_b0 k n x12 (IntKind.wrap .i64 (x13 + (1 : Int))) y7_0 ((r100000701).set (x12).toNat e14) y9_0 y9_1 y9_2 y10_0 ((r100001001).set (x12).toNat e12)))))))) else L_FnVersions_b0 k n x12 (IntKind.wrap .i64 (x13 + (1 : Int))) y7_0 r100000701 y9_0 y9_1 y9_2 y10_0 r100001001)
  else some (.nrm (r100000701, r100001001)))
noncomputable def L_FnVersions (k : Nat) (a0 : List Int) : Option (Bool) :=
    ((L_big k a0).bind fun w1 =>
    (bif w1 then some true
    else ((S_DrawVersionAt k a0).bind fun w2 =>
    ((I_VersionAt k w2.1 w2.2).bind fun w3 =>
    ((L_at k a0 (1 : Int)).bind fun w4 =>
    ((md w4 (50 : Int)).bind fun q5 =>
    ((I_VersionAt k w2.1 (IntKind.wrap .i64 ((IntKind.wrap .i64 (w2.2 + (1 : Int))) + q5))).bind fun w6 =>
    (bif (decide (w3 > w6)) then some false else (bif (decide (w3 ≥ (0 : Int))) then ((idx w2.1.Versions w3).bind fun _ =>
    ((idx w2.1.Versions w3).bind fun e7 =>
    (bif (decide (e7.At > w2.2)) then some false else (bif (decide ((IntKind.wrap .i64 (w3 + (1 : Int))) < (w2.1.Versions.length : Int))) then ((idx w2.1.Versions (IntKind.wrap .i64 (w3 + (1 : Int)))).bind fun _ =>
    ((idx w2.1.Versions (IntKind.wrap .i64 (w3 + (1 : Int)))).bind fun e8 =>
    (bif (decide (e8.At ≤ w2.2)) then some false
    else ((S_DrawPublishPage k a0).bind fun w9 =>
    ((I_PublishPage k w9.1 w9.2.1 w9.2.2).bind fun w10 =>
    ((I_FindResource k w9.1 w9.2.1).bind fun w11 =>
    (bif (!w10.2) then some ((w10.1.Resources.length : Int) == (w9.1.Resources.length : Int))
    else ((L_FnVersions_b0 k k w11 (0 : Int) w9.1.Host w9.1.Resources w9.2.2.At w9.2.2.Text w9.2.2.Gone w10.1.Host w10.1.Resources).bind fun o16 =>
    oc o16 (fun o17 => ((I_IsOrigin k (⟨w10.1.Host, o17.2⟩ : IOrigin)).bind fun w19 =>
    (bif w19 then ((idx o17.2 w11).bind fun _ =>
    ((idx o17.2 w11).bind fun e20 =>
    ((I_VersionAt k e20 w9.2.2.At).bind fun w21 =>
    ((idx o17.1 w11).bind fun _ =>
    ((idx o17.1 w11).bind fun e22 =>
    some (w21 == (e22.Versions.length : Int))))))) else some false)))
    (fun o18 => some o18))))))))) else ((S_DrawPublishPage k a0).bind fun w23 =>
    ((I_PublishPage k w23.1 w23.2.1 w23.2.2).bind fun w24 =>
    ((I_FindResource k w23.1 w23.2.1).bind fun w25 =>
    (bif (!w24.2) then some ((w24.1.Resources.length : Int) == (w23.1.Resources.length : Int))
    else ((L_FnVersions_b0 k k w25 (0 : Int) w23.1.Host w23.1.Resources w23.2.2.At w23.2.2.Text w23.2.2.Gone w24.1.Host w24.1.Resources).bind fun o26 =>
    oc o26 (fun o27 => ((I_IsOrigin k (⟨w24.1.Host, o27.2⟩ : IOrigin)).bind fun w29 =>
    (bif w29 then ((idx o27.2 w25).bind fun _ =>
    ((idx o27.2 w25).bind fun e30 =>
    ((I_VersionAt k e30 w23.2.2.At).bind fun w31 =>
    ((idx o27.1 w25).bind fun _ =>
    ((idx o27.1 w25).bind fun e32 =>
    some (w31 == (e32.Versions.length : Int))))))) else some false)))
    (fun o28 => some o28)))))))))) else (bif (decide ((IntKind.wrap .i64 (w3 + (1 : Int))) < (w2.1.Versions.length : Int))) then ((idx w2.1.Versions (IntKind.wrap .i64 (w3 + (1 : Int)))).bind fun _ =>
    ((idx w2.1.Versions (IntKind.wrap .i64 (w3 + (1 : Int)))).bind fun e33 =>
    (bif (decide (e33.At ≤ w2.2)) then some false
    else ((S_DrawPublishPage k a0).bind fun w34 =>
    ((I_PublishPage k w34.1 w34.2.1 w34.2.2).bind fun w35 =>
    ((I_FindResource k w34.1 w34.2.1).bind fun w36 =>
    (bif (!w35.2) then some ((w35.1.Resources.length : Int) == (w34.1.Resources.length : Int))
    else ((L_FnVersions_b0 k k w36 (0 : Int) w34.1.Host w34.1.Resources w34.2.2.At w34.2.2.Text w34.2.2.Gone w35.1.Host w35.1.Resources).bind fun o37 =>
    oc o37 (fun o38 => ((I_IsOrigin k (⟨w35.1.Host, o38.2⟩ : IOrigin)).bind fun w40 =>
    (bif w40 then ((idx o38.2 w36).bind fun _ =>
    ((idx o38.2 w36).bind fun e41 =>
    ((I_VersionAt k e41 w34.2.2.At).bind fun w42 =>
    ((idx o38.1 w36).bind fun _ =>
    ((idx o38.1 w36).bind fun e43 =>
    some (w42 == (e43.Versions.length : Int))))))) else some false)))
    (fun o39 => some o39))))))))) else ((S_DrawPublishPage k a0).bind fun w44 =>
    ((I_PublishPage k w44.1 w44.2.1 w44.2.2).bind fun w45 =>
    ((I_FindResource k w44.1 w44.2.1).bind fun w46 =>
    (bif (!w45.2) then some ((w45.1.Resources.length : Int) == (w44.1.Resources.length : Int))
    else ((L_FnVersions_b0 k k w46 (0 : Int) w44.1.Host w44.1.Resources w44.2.2.At w44.2.2.Text w44.2.2.Gone w45.1.Host w45.1.Resources).bind fun o47 =>
    oc o47 (fun o48 => ((I_IsOrigin k (⟨w45.1.Host, o48.2⟩ : IOrigin)).bind fun w50 =>
    (bif w50 then ((idx o48.2 w46).bind fun _ =>
    ((idx o48.2 w46).bind fun e51 =>
    ((I_VersionAt k e51 w44.2.2.At).bind fun w52 =>
    ((idx o48.1 w46).bind fun _ =>
    ((idx o48.1 w46).bind fun e53 =>
    some (w52 == (e53.Versions.length : Int))))))) else some false)))
    (fun o49 => some o49))))))))))))))))
end
end Go.YtnidlohhndpjdaaGreatDoor
