/- Functions over lists. Nothing is claimed here. -/
import Derived.Test.YtolmhhnhmbiofaaGreatDoorKt
set_option linter.unusedVariables false
set_option linter.unusedSimpArgs false
set_option maxRecDepth 100000
namespace Go.YtolmhhnhmbiofaaGreatDoor
open Go Go.RowKit Go.Pv
noncomputable section

/-! loop.example/g03012/laws.big -/
noncomputable def L_big (k : Nat) (a0 : List Int) : Option (Bool) :=
    some (decide ((a0.length : Int) > (1048576 : Int)))
/-! loop.example/g03012/spec.l1New -/
noncomputable def S_l1New_b0 (k : Nat) : Nat → (List Int) → Int → Int → Option (Int)
  | 0, _, _, _ => none
  | n + 1, x0, x3, x4 =>
    (bif (decide (x4 < (x0.length : Int))) then (bif (decide (x4 < (4000 : Int))) then ((idx x0 x4).bind fun e1 =>
    S_l1New_b0 k n x0 (andI .i64 (IntKind.wrap .i64 ((IntKind.wrap .i64 ((IntKind.wrap .i64 (x3 * (139 : Int))) + (IntKind.wrap .i64 e1))) + (11 : Int))) (1073741823 : Int)) (IntKind.wrap .i64 (x4 + (1 : Int))))
    else some (x3)) else some (x3))
noncomputable def S_l1New (k : Nat) (a0 : List Int) : Option (Sl1Cur) :=
    ((S_l1New_b0 k k a0 (IntKind.wrap .i64 ((271091 : Int) + (a0.length : Int))) (0 : Int)).bind fun o2 =>
    some (⟨a0, (0 : Int), o2⟩ : Sl1Cur))
/-! loop.example/g03012/spec.l1Byte -/
noncomputable def S_l1Byte_c34 (k : Nat) (x3 : Int) (x34 : Bool) (y700000_0 : List Int) (y700000_1 : Int) (y700000_2 : Int) : Option (Int × Int) :=
    (bif x34 then ((idx y700000_0 y700000_1).bind fun e3 =>
    some (((andI .i64 (IntKind.wrap .i64 (x3 + (IntKind.wrap .i64 e3))) (255 : Int)), (IntKind.wrap .i64 (y700000_1 + (1 : Int))))))
    else some ((x3, y700000_1)))
noncomputable def S_l1Byte (k : Nat) (a0 : Sl1Cur) : Option (Int × Sl1Cur) :=
    ((shrI .i64 (IntKind.wrap .i64 ((IntKind.wrap .i64 (a0.h * (6364136223846793005 : Int))) + (1442695040888963407 : Int))) (33 : Int)).bind fun q1 =>
    ((shrI .i64 (IntKind.wrap .i64 ((IntKind.wrap .i64 (a0.h * (6364136223846793005 : Int))) + (1442695040888963407 : Int))) (47 : Int)).bind fun q2 =>
    ((S_l1Byte_c34 k (andI .i64 (xorI .i64 q1 q2) (255 : Int)) (decide (a0.i < (a0.b.length : Int))) a0.b a0.i (IntKind.wrap .i64 ((IntKind.wrap .i64 (a0.h * (6364136223846793005 : Int))) + (1442695040888963407 : Int)))).bind fun o4 =>
    some (o4.1, (⟨a0.b, o4.2, (IntKind.wrap .i64 ((IntKind.wrap .i64 (a0.h * (6364136223846793005 : Int))) + (1442695040888963407 : Int)))⟩ : Sl1Cur)))))
/-! loop.example/g03012/spec.l1Below -/
noncomputable def S_l1Below (k : Nat) (a0 : Sl1Cur) (a1 : Int) : Option (Int × Sl1Cur) :=
    (bif (decide (a1 ≤ (0 : Int))) then some ((0 : Int), a0)
    else (bif (decide (a1 ≤ (256 : Int))) then ((S_l1Byte k a0).bind fun w1 =>
    ((md w1.1 a1).bind fun q2 =>
    some (q2, w1.2)))
    else ((S_l1Byte k a0).bind fun w3 =>
    ((S_l1Byte k w3.2).bind fun w4 =>
    ((S_l1Byte k w4.2).bind fun w5 =>
    ((md (IntKind.wrap .i64 ((IntKind.wrap .i64 ((IntKind.wrap .i64 (w3.1 * (65536 : Int))) + (IntKind.wrap .i64 (w4.1 * (256 : Int))))) + w5.1)) a1).bind fun q6 =>
    some (q6, w5.2)))))))
/-! loop.example/g03012/spec.l1Str -/
noncomputable def S_l1Str (k : Nat) (a0 : Sl1Cur) (a1 : List (List UInt8)) : Option ((List UInt8) × Sl1Cur) :=
    ((S_l1Below k a0 (a1.length : Int)).bind fun w1 =>
    ((idx a1 w1.1).bind fun e2 =>
    some (e2, w1.2)))
/-! loop.example/g03012/spec.l11Target -/
noncomputable def S_l11Target (k : Nat) (a0 : Sl1Cur) : Option ((List UInt8) × Sl1Cur) :=
    ((S_l1Str k a0 ([([47, 97] : List UInt8), ([47, 98] : List UInt8), ([47, 97, 63, 120, 61, 49, 38, 121, 61, 50] : List UInt8), ([47, 97, 63, 121, 61, 50, 38, 120, 61, 49] : List UInt8), ([47, 46, 47, 97] : List UInt8), ([47, 99, 47, 46, 46, 47, 97] : List UInt8), ([47, 37, 54, 49] : List UInt8), ([47, 112] : List UInt8), ([47, 112, 97, 103, 101] : List UInt8), ([47, 108, 97, 110, 103] : List UInt8), ([47, 109, 105, 110, 101] : List UInt8), ([47, 110, 111, 110, 101] : List UInt8), ([47, 98, 105, 103] : List UInt8), ([47, 65] : List UInt8), ([47, 97, 63] : List UInt8)] : List (List UInt8))).bind fun w1 =>
    some (w1.1, w1.2))
/-! loop.example/g03012/spec.l5Draw -/
noncomputable def S_l5Draw_b0 (k : Nat) : Nat → Int → (List Int) → Int → Int → (List IField) → Option ((List Int) × Int × Int × (List IField))
  | 0, _, _, _, _, _ => none
  | n + 1, x4, y700000_0, y700000_1, y700000_2, r3 =>
    (bif (decide (x4 > (0 : Int))) then ((S_l1Str k (⟨y700000_0, y700000_1, y700000_2⟩ : Sl1Cur) ([([97, 99, 99, 101, 112, 116, 45, 108, 97, 110, 103, 117, 97, 103, 101] : List UInt8), ([97] : List UInt8), ([98] : List UInt8), ([99, 97, 99, 104, 101, 45, 99, 111, 110, 116, 114, 111, 108] : List UInt8), ([120, 45, 107] : List UInt8), ([97] : List UInt8)] : List (List UInt8))).bind fun w2 =>
    ((S_l1Str k w2.2 ([([] : List UInt8), ([100, 101, 44, 32, 101, 110] : List UInt8), ([110, 111, 45, 99, 97, 99, 104, 101] : List UInt8), ([49] : List UInt8), ([120, 32, 32, 121] : List UInt8), ([109, 97, 120, 45, 97, 103, 101, 61, 53] : List UInt8), ([34, 113, 34] : List UInt8)] : List (List UInt8))).bind fun w3 =>
    ((app 32 r3 ([(⟨w2.1, w3.1⟩ : IField)] : List IField)).bind fun u4 =>
    S_l5Draw_b0 k n (IntKind.wrap .i64 (x4 - (1 : Int))) w3.2.b w3.2.i w3.2.h u4)))
    else some ((y700000_0, y700000_1, y700000_2, r3)))
noncomputable def S_l5Draw (k : Nat) (a0 : Sl1Cur) : Option ((List IField) × Sl1Cur) :=
    ((S_l1Below k a0 (6 : Int)).bind fun w1 =>
    ((S_l5Draw_b0 k k w1.1 w1.2.b w1.2.i w1.2.h ([] : List IField)).bind fun o5 =>
    some (o5.2.2.2, (⟨o5.1, o5.2.1, o5.2.2.1⟩ : Sl1Cur))))
/-! loop.example/g03012/spec.l1Once -/
noncomputable def S_l1Once (k : Nat) (a0 : Sl1Cur) (a1 : Int) : Option (Bool × Sl1Cur) :=
    ((S_l1Below k a0 a1).bind fun w1 =>
    some ((w1.1 == (0 : Int)), w1.2))
/-! loop.example/g03012/spec.l11Request -/
noncomputable def S_l11Request_c16 (k : Nat) (x16 : Bool) (y700000_0 : List Int) (y700000_1 : Int) (y700000_2 : Int) (y2_0 : List UInt8) (y2_1 : List UInt8) (y2_2 : List UInt8) (y3_0 : List UInt8) (y3_1 : List UInt8) (y3_2 : List UInt8) (r100000303 : List IField) : Option ((List Int) × Int × Int × (List UInt8)) :=
    (bif x16 then ((S_l1Str k (⟨y700000_0, y700000_1, y700000_2⟩ : Sl1Cur) ([([97] : List UInt8), ([47, 97, 32, 98] : List UInt8), ([47, 195, 169] : List UInt8), ([42] : List UInt8)] : List (List UInt8))).bind fun w6 =>
    some ((w6.2.b, w6.2.i, w6.2.h, w6.1)))
    else some ((y700000_0, y700000_1, y700000_2, y3_2)))
noncomputable def S_l11Request (k : Nat) (a0 : Sl1Cur) : Option (IRequest × Sl1Cur) :=
    ((S_l1Str k a0 ([([71, 69, 84] : List UInt8), ([71, 69, 84] : List UInt8), ([71, 69, 84] : List UInt8), ([72, 69, 65, 68] : List UInt8), ([80, 79, 83, 84] : List UInt8), ([103, 101, 116] : List UInt8)] : List (List UInt8))).bind fun w1 =>
    ((S_l1Str k w1.2 ([([104, 46, 101, 120, 97, 109, 112, 108, 101] : List UInt8), ([104, 46, 101, 120, 97, 109, 112, 108, 101] : List UInt8), ([120] : List UInt8), ([72] : List UInt8)] : List (List UInt8))).bind fun w2 =>
    ((S_l11Target k w2.2).bind fun w3 =>
    ((S_l5Draw k w3.2).bind fun w4 =>
    ((S_l1Once k w4.2 (12 : Int)).bind fun w5 =>
    ((S_l11Request_c16 k w5.1 w5.2.b w5.2.i w5.2.h ([] : List UInt8) ([] : List UInt8) ([] : List UInt8) w1.1 w2.1 w3.1 w4.1).bind fun o7 =>
    some ((⟨w1.1, w2.1, o7.2.2.2, w4.1⟩ : IRequest), (⟨o7.1, o7.2.1, o7.2.2.1⟩ : Sl1Cur))))))))
/-! loop.example/g03012/spec.DrawFormatRequest -/
noncomputable def S_DrawFormatRequest (k : Nat) (a0 : List Int) : Option (IRequest) :=
    ((S_l1New k a0).bind fun w1 =>
    ((S_l11Request k w1).bind fun w2 =>
    some w2.1))
/-! strings.IndexByte -/
noncomputable def strings_IndexByte (k : Nat) (a0 : List UInt8) (a1 : Int) : Option (Int) :=
    indexByteO a0 a1
/-! loop.example/g03012/impl.isTokenByte -/
noncomputable def I_isTokenByte (k : Nat) (a0 : Int) : Option (Bool) :=
    (bif (decide (a0 ≥ (97 : Int))) then (bif (decide (a0 ≤ (122 : Int))) then some true else (bif (decide (a0 ≥ (65 : Int))) then (bif (decide (a0 ≤ (90 : Int))) then some true else (bif (decide (a0 ≥ (48 : Int))) then (bif (decide (a0 ≤ (57 : Int))) then some true else ((strings_IndexByte k ([33, 35, 36, 37, 38, 39, 42, 43, 45, 46, 94, 95, 124, 126] : List UInt8) a0).bind fun w1 =>
    (bif (decide (w1 ≥ (0 : Int))) then some true else some (a0 == (96 : Int))))) else ((strings_IndexByte k ([33, 35, 36, 37, 38, 39, 42, 43, 45, 46, 94, 95, 124, 126] : List UInt8) a0).bind fun w2 =>
    (bif (decide (w2 ≥ (0 : Int))) then some true else some (a0 == (96 : Int)))))) else (bif (decide (a0 ≥ (48 : Int))) then (bif (decide (a0 ≤ (57 : Int))) then some true else ((strings_IndexByte k ([33, 35, 36, 37, 38, 39, 42, 43, 45, 46, 94, 95, 124, 126] : List UInt8) a0).bind fun w3 =>
    (bif (decide (w3 ≥ (0 : Int))) then some true else some (a0 == (96 : Int))))) else ((strings_IndexByte k ([33, 35, 36, 37, 38, 39, 42, 43, 45, 46, 94, 95, 124, 126] : List UInt8) a0).bind fun w4 =>
    (bif (decide (w4 ≥ (0 : Int))) then some true else some (a0 == (96 : Int))))))) else (bif (decide (a0 ≥ (65 : Int))) then (bif (decide (a0 ≤ (90 : Int))) then some true else (bif (decide (a0 ≥ (48 : Int))) then (bif (decide (a0 ≤ (57 : Int))) then some true else ((strings_IndexByte k ([33, 35, 36, 37, 38, 39, 42, 43, 45, 46, 94, 95, 124, 126] : List UInt8) a0).bind fun w5 =>
    (bif (decide (w5 ≥ (0 : Int))) then some true else some (a0 == (96 : Int))))) else ((strings_IndexByte k ([33, 35, 36, 37, 38, 39, 42, 43, 45, 46, 94, 95, 124, 126] : List UInt8) a0).bind fun w6 =>
    (bif (decide (w6 ≥ (0 : Int))) then some true else some (a0 == (96 : Int)))))) else (bif (decide (a0 ≥ (48 : Int))) then (bif (decide (a0 ≤ (57 : Int))) then some true else ((strings_IndexByte k ([33, 35, 36, 37, 38, 39, 42, 43, 45, 46, 94, 95, 124, 126] : List UInt8) a0).bind fun w7 =>
    (bif (decide (w7 ≥ (0 : Int))) then some true else some (a0 == (96 : Int))))) else ((strings_IndexByte k ([33, 35, 36, 37, 38, 39, 42, 43, 45, 46, 94, 95, 124, 126] : List UInt8) a0).bind fun w8 =>
    (bif (decide (w8 ≥ (0 : Int))) then some true else some (a0 == (96 : Int)))))))
/-! loop.example/g03012/impl.inRange -/
noncomputable def I_inRange (k : Nat) (a0 : Int) (a1 : Int) (a2 : Int) : Option (Bool) :=
    (bif (decide (a1 ≤ a0)) then some (decide (a0 ≤ a2)) else some false)
/-! loop.example/g03012/impl.IsToken -/
noncomputable def I_IsToken_b0 (k : Nat) : Nat → (List UInt8) → Int → Int → Option (Oc (Unit) (Bool))
  | 0, _, _, _ => none
  | n + 1, x0, x5, x6 =>
    (bif (decide (x6 < x5)) then ((idx x0 x6).bind fun c1 =>
    ((I_isTokenByte k (UInt8.toNat c1 : Int)).bind fun w2 =>
    (bif (!w2) then some (.oth (false))
    else I_IsToken_b0 k n x0 x5 (IntKind.wrap .i64 (x6 + (1 : Int))))))
    else some (.nrm ()))
noncomputable def I_IsToken (k : Nat) (a0 : List UInt8) : Option (Bool) :=
    ((I_IsToken_b0 k k a0 (a0.length : Int) (0 : Int)).bind fun o3 =>
    oc o3 (fun o4 => ((I_inRange k (a0.length : Int) (1 : Int) (40 : Int)).bind fun w6 =>
    some w6))
    (fun o5 => some o5))
/-! strings.ToUpper -/
noncomputable def strings_ToUpper (k : Nat) (a0 : List UInt8) : Option ((List UInt8)) :=
    toUpperO a0
/-! loop.example/g03012/impl.isHost -/
noncomputable def I_isHost_b0 (k : Nat) : Nat → (List UInt8) → Int → Int → Option (Oc (Unit) (Bool))
  | 0, _, _, _ => none
  | n + 1, x0, x6, x7 =>
    (bif (decide (x7 < x6)) then ((idx x0 x7).bind fun c1 =>
    (bif (decide ((UInt8.toNat c1 : Int) ≥ (97 : Int))) then (bif (decide ((UInt8.toNat c1 : Int) ≤ (122 : Int))) then (bif (!true) then some (.oth (false))
    else I_isHost_b0 k n x0 x6 (IntKind.wrap .i64 (x7 + (1 : Int)))) else (bif (decide ((UInt8.toNat c1 : Int) ≥ (48 : Int))) then (bif (decide ((UInt8.toNat c1 : Int) ≤ (57 : Int))) then (bif (!true) then some (.oth (false))
    else I_isHost_b0 k n x0 x6 (IntKind.wrap .i64 (x7 + (1 : Int)))) else (bif ((UInt8.toNat c1 : Int) == (45 : Int)) then (bif (!true) then some (.oth (false))
    else I_isHost_b0 k n x0 x6 (IntKind.wrap .i64 (x7 + (1 : Int)))) else (bif (!((UInt8.toNat c1 : Int) == (46 : Int))) then some (.oth (false))
    else I_isHost_b0 k n x0 x6 (IntKind.wrap .i64 (x7 + (1 : Int)))))) else (bif ((UInt8.toNat c1 : Int) == (45 : Int)) then (bif (!true) then some (.oth (false))
    else I_isHost_b0 k n x0 x6 (IntKind.wrap .i64 (x7 + (1 : Int)))) else (bif (!((UInt8.toNat c1 : Int) == (46 : Int))) then some (.oth (false))
    else I_isHost_b0 k n x0 x6 (IntKind.wrap .i64 (x7 + (1 : Int))))))) else (bif (decide ((UInt8.toNat c1 : Int) ≥ (48 : Int))) then (bif (decide ((UInt8.toNat c1 : Int) ≤ (57 : Int))) then (bif (!true) then some (.oth (false))
    else I_isHost_b0 k n x0 x6 (IntKind.wrap .i64 (x7 + (1 : Int)))) else (bif ((UInt8.toNat c1 : Int) == (45 : Int)) then (bif (!true) then some (.oth (false))
    else I_isHost_b0 k n x0 x6 (IntKind.wrap .i64 (x7 + (1 : Int)))) else (bif (!((UInt8.toNat c1 : Int) == (46 : Int))) then some (.oth (false))
    else I_isHost_b0 k n x0 x6 (IntKind.wrap .i64 (x7 + (1 : Int)))))) else (bif ((UInt8.toNat c1 : Int) == (45 : Int)) then (bif (!true) then some (.oth (false))
    else I_isHost_b0 k n x0 x6 (IntKind.wrap .i64 (x7 + (1 : Int)))) else (bif (!((UInt8.toNat c1 : Int) == (46 : Int))) then some (.oth (false))
    else I_isHost_b0 k n x0 x6 (IntKind.wrap .i64 (x7 + (1 : Int))))))))
    else some (.nrm ()))
noncomputable def I_isHost (k : Nat) (a0 : List UInt8) : Option (Bool) :=
    ((I_isHost_b0 k k a0 (a0.length : Int) (0 : Int)).bind fun o2 =>
    oc o2 (fun o3 => ((I_inRange k (a0.length : Int) (1 : Int) (40 : Int)).bind fun w5 =>
    some w5))
    (fun o4 => some o4))
/-! loop.example/g03012/impl.LowerText -/
noncomputable def I_LowerText_c20 (k : Nat) (x4 : Int) (x5 : Int) (x9 : Int) (x10 : Int) (x20 : Bool) (r8 : List Int) : Option ((List Int)) :=
    (bif x20 then ((idx r8 x4).bind fun _ =>
    ((idx r8 x4).bind fun e2 =>
    some (((r8).set (x4).toNat (IntKind.wrap .u8 (x5 + (32 : Int)))))))
    else some (r8))
noncomputable def I_LowerText_b1 (k : Nat) (x9 : Int) (x10 : Int) (r8 : List Int) : Option ((List Int)) :=
    ((idx r8 x10).bind fun _ =>
    ((idx r8 x10).bind fun e1 =>
    (bif (decide (e1 ≥ (65 : Int))) then ((I_LowerText_c20 k x10 e1 x9 x10 (decide (e1 ≤ (90 : Int))) r8).bind fun o2 =>
    some (o2)) else ((I_LowerText_c20 k x10 e1 x9 x10 false r8).bind fun o3 =>
    some (o3)))))
noncomputable def I_LowerText_b0 (k : Nat) : Nat → Int → Int → (List Int) → Option ((List Int))
  | 0, _, _, _ => none
  | n + 1, x9, x10, r8 =>
    (bif (decide (x10 < x9)) then ((I_LowerText_b1 k x9 x10 r8).bind fun o1 =>
    I_LowerText_b0 k n x9 (IntKind.wrap .i64 (x10 + (1 : Int))) o1)
    else some (r8))
noncomputable def I_LowerText (k : Nat) (a0 : List UInt8) : Option ((List UInt8)) :=
    ((I_LowerText_b0 k k ((intsOf a0).length : Int) (0 : Int) (intsOf a0)).bind fun o2 =>
    some (bytesOf o2))
/-! strings.Trim -/
noncomputable def strings_Trim (k : Nat) (a0 : List UInt8) (a1 : List UInt8) : Option ((List UInt8)) :=
    trimO a0 a1
/-! loop.example/g03012/impl.TrimText -/
noncomputable def I_TrimText (k : Nat) (a0 : List UInt8) : Option ((List UInt8)) :=
    ((strings_Trim k a0 ([32, 9] : List UInt8)).bind fun w1 =>
    some w1)
/-! loop.example/g03012/impl.isFieldValue -/
noncomputable def I_isFieldValue_b0 (k : Nat) : Nat → (List UInt8) → Int → Int → Option (Oc (Unit) (Bool))
  | 0, _, _, _ => none
  | n + 1, x0, x5, x6 =>
    (bif (decide (x6 < x5)) then ((idx x0 x6).bind fun c1 =>
    (bif ((UInt8.toNat c1 : Int) != (9 : Int)) then ((idx x0 x6).bind fun c2 =>
    ((I_inRange k (IntKind.wrap .i64 (UInt8.toNat c2 : Int)) (32 : Int) (126 : Int)).bind fun w3 =>
    (bif (!w3) then some (.oth (false))
    else I_isFieldValue_b0 k n x0 x5 (IntKind.wrap .i64 (x6 + (1 : Int)))))) else I_isFieldValue_b0 k n x0 x5 (IntKind.wrap .i64 (x6 + (1 : Int)))))
    else some (.nrm ()))
noncomputable def I_isFieldValue (k : Nat) (a0 : List UInt8) : Option (Bool) :=
    ((I_isFieldValue_b0 k k a0 (a0.length : Int) (0 : Int)).bind fun o4 =>
    oc o4 (fun o5 => (bif (decide ((a0.length : Int) ≤ (200 : Int))) then ((I_TrimText k a0).bind fun w7 =>
    some (w7 == a0)) else some false))
    (fun o6 => some o6))
/-! loop.example/g03012/impl.AreFields -/
noncomputable def I_AreFields_b0 (k : Nat) : Nat → (List IField) → (List IField) → Int → Int → Option (Oc (Unit) (Bool))
  | 0, _, _, _, _ => none
  | n + 1, x0, x5, x6, x7 =>
    (bif (decide (x7 < x6)) then ((idx x5 x7).bind fun e1 =>
    ((I_IsToken k e1.Name).bind fun w2 =>
    (bif (!w2) then some (.oth (false)) else ((I_LowerText k e1.Name).bind fun w3 =>
    (bif (!(w3 == e1.Name)) then some (.oth (false)) else ((I_isFieldValue k e1.Value).bind fun w4 =>
    (bif (!w4) then some (.oth (false))
    else I_AreFields_b0 k n x0 x5 x6 (IntKind.wrap .i64 (x7 + (1 : Int))))))))))
    else some (.nrm ()))
noncomputable def I_AreFields (k : Nat) (a0 : List IField) : Option (Bool) :=
    ((I_AreFields_b0 k k a0 a0 (a0.length : Int) (0 : Int)).bind fun o5 =>
    oc o5 (fun o6 => some (decide ((a0.length : Int) ≤ (24 : Int))))
    (fun o7 => some o7))
/-! loop.example/g03012/impl.hasField$1 -/
noncomputable def I_hasField_1 (k : Nat) (a0 : IField) (f0_0 : List UInt8) : Option (Bool) :=
    some (a0.Name == f0_0)
/-! slices.IndexFunc[[]loop.example/g03012/impl.Field,loop.example/g03012/impl.Field] -/
noncomputable def slices_IndexFunc_IField_at_I_hasField_1_b0 (k : Nat) : Nat → (List IField) → (List UInt8) → Int → Int → Option (Oc (Unit) (Int))
  | 0, _, _, _, _ => none
  | n + 1, x0, x1_0_0, x7, x8 =>
    (bif (decide (x8 < x7)) then ((idx x0 x8).bind fun e1 =>
    ((I_hasField_1 k e1 x1_0_0).bind fun w2 =>
    (bif w2 then some (.oth (x8))
    else slices_IndexFunc_IField_at_I_hasField_1_b0 k n x0 x1_0_0 x7 (IntKind.wrap .i64 (x8 + (1 : Int))))))
    else some (.nrm ()))
noncomputable def slices_IndexFunc_IField_at_I_hasField_1 (k : Nat) (a0 : List IField) (a1_0_0 : List UInt8) : Option (Int) :=
    ((slices_IndexFunc_IField_at_I_hasField_1_b0 k k a0 a1_0_0 (a0.length : Int) (0 : Int)).bind fun o3 =>
    oc o3 (fun o4 => some (-1 : Int))
    (fun o5 => some o5))
/-! slices.ContainsFunc[[]loop.example/g03012/impl.Field,loop.example/g03012/impl.Field] -/
noncomputable def slices_ContainsFunc_IField_at_I_hasField_1 (k : Nat) (a0 : List IField) (a1_0_0 : List UInt8) : Option (Bool) :=
    ((slices_IndexFunc_IField_at_I_hasField_1 k a0 a1_0_0).bind fun w1 =>
    some (decide (w1 ≥ (0 : Int))))
/-! loop.example/g03012/impl.hasField -/
noncomputable def I_hasField (k : Nat) (a0 : List IField) (a1 : List UInt8) : Option (Bool) :=
    ((slices_ContainsFunc_IField_at_I_hasField_1 k a0 a1).bind fun w1 =>
    some w1)
/-! loop.example/g03012/impl.IsRequest -/
noncomputable def I_IsRequest_b0 (k : Nat) : Nat → Int → Int → (List UInt8) → (List UInt8) → (List UInt8) → (List IField) → Option (Oc (Unit) (Bool))
  | 0, _, _, _, _, _, _ => none
  | n + 1, x37, x38, y1_0, y1_1, y1_2, y1_3 =>
    (bif (decide (x38 < x37)) then ((idx y1_2 x38).bind fun c6 =>
    ((I_inRange k (IntKind.wrap .i64 (UInt8.toNat c6 : Int)) (33 : Int) (126 : Int)).bind fun w7 =>
    (bif (!w7) then some (.oth (false))
    else I_IsRequest_b0 k n x37 (IntKind.wrap .i64 (x38 + (1 : Int))) y1_0 y1_1 y1_2 y1_3)))
    else some (.nrm ()))
noncomputable def I_IsRequest (k : Nat) (a0 : IRequest) : Option (Bool) :=
    ((I_IsToken k a0.Method).bind fun w1 =>
    (bif (!w1) then some false else ((strings_ToUpper k a0.Method).bind fun w2 =>
    (bif (!(w2 == a0.Method)) then some false else ((I_isHost k a0.Host).bind fun w3 =>
    (bif (!w3) then some false else ((I_inRange k (a0.Target.length : Int) (1 : Int) (100 : Int)).bind fun w4 =>
    (bif (!w4) then some false else ((idx a0.Target (0 : Int)).bind fun c5 =>
    (bif ((UInt8.toNat c5 : Int) != (47 : Int)) then some false
    else ((I_IsRequest_b0 k k (a0.Target.length : Int) (0 : Int) a0.Method a0.Host a0.Target a0.Fields).bind fun o8 =>
    oc o8 (fun o9 => ((I_AreFields k a0.Fields).bind fun w11 =>
    (bif w11 then (bif (decide ((a0.Fields.length : Int) < (24 : Int))) then ((I_hasField k a0.Fields ([104, 111, 115, 116] : List UInt8)).bind fun w12 =>
    (bif (!w12) then ((I_hasField k a0.Fields ([99, 111, 110, 116, 101, 110, 116, 45, 108, 101, 110, 103, 116, 104] : List UInt8)).bind fun w13 =>
    some (!w13)) else some false)) else some false) else some false)))
    (fun o10 => some o10))))))))))))
/-! loop.example/g03012/impl.FormatFields -/
noncomputable def I_FormatFields_b0 (k : Nat) : Nat → (List UInt8) → (List IField) → Int → Int → Option ((List UInt8))
  | 0, _, _, _, _ => none
  | n + 1, x3, x6, x7, x8 =>
    (bif (decide (x8 < x7)) then ((idx x6 x8).bind fun e1 =>
    ((cat e1.Name ([58, 32] : List UInt8)).bind fun t2 =>
    ((cat t2 e1.Value).bind fun t3 =>
    ((cat t3 ([13, 10] : List UInt8)).bind fun t4 =>
    ((cat x3 t4).bind fun t5 =>
    I_FormatFields_b0 k n t5 x6 x7 (IntKind.wrap .i64 (x8 + (1 : Int))))))))
    else some (x3))
noncomputable def I_FormatFields (k : Nat) (a0 : List IField) : Option ((List UInt8)) :=
    ((I_FormatFields_b0 k k ([] : List UInt8) a0 (a0.length : Int) (0 : Int)).bind fun o6 =>
    some o6)
/-! loop.example/g03012/impl.FormatRequest -/
noncomputable def I_FormatRequest (k : Nat) (a0 : IRequest) : Option ((List UInt8)) :=
    ((I_IsRequest k a0).bind fun w1 =>
    (bif (!w1) then some ([] : List UInt8)
    else ((cat a0.Method ([32] : List UInt8)).bind fun t2 =>
    ((cat t2 a0.Target).bind fun t3 =>
    ((cat t3 ([32, 72, 84, 84, 80, 47, 49, 46, 49] : List UInt8)).bind fun t4 =>
    ((cat t4 ([13, 10] : List UInt8)).bind fun t5 =>
    ((cat t5 ([104, 111, 115, 116, 58, 32] : List UInt8)).bind fun t6 =>
    ((cat t6 a0.Host).bind fun t7 =>
    ((cat t7 ([13, 10] : List UInt8)).bind fun t8 =>
    ((I_FormatFields k a0.Fields).bind fun w9 =>
    ((cat t8 w9).bind fun t10 =>
    ((cat t10 ([13, 10] : List UInt8)).bind fun t11 =>
    some t11))))))))))))
/-! strings.Cut -/
noncomputable def strings_Cut (k : Nat) (a0 : List UInt8) (a1 : List UInt8) : Option ((List UInt8) × (List UInt8) × Bool) :=
    cutO a0 a1
/-! internal/stringslite.HasSuffix -/
noncomputable def internal_stringslite_HasSuffix (k : Nat) (a0 : List UInt8) (a1 : List UInt8) : Option (Bool) :=
    (bif (decide ((a0.length : Int) ≥ (a1.length : Int))) then ((ssub a0 (IntKind.wrap .i64 ((a0.length : Int) - (a1.length : Int))) (a0.length : Int)).bind fun t1 =>
    some (t1 == a1)) else some false)
/-! internal/stringslite.CutSuffix -/
noncomputable def internal_stringslite_CutSuffix (k : Nat) (a0 : List UInt8) (a1 : List UInt8) : Option ((List UInt8) × Bool) :=
    ((internal_stringslite_HasSuffix k a0 a1).bind fun w1 =>
    (bif (!w1) then some (a0, false)
    else ((ssub a0 (0 : Int) (IntKind.wrap .i64 ((a0.length : Int) - (a1.length : Int)))).bind fun t2 =>
    some (t2, true))))
/-! strings.CutSuffix -/
noncomputable def strings_CutSuffix (k : Nat) (a0 : List UInt8) (a1 : List UInt8) : Option ((List UInt8) × Bool) :=
    ((internal_stringslite_CutSuffix k a0 a1).bind fun w1 =>
    some (w1.1, w1.2))
/-! loop.example/g03012/impl.ParseFields -/
noncomputable def I_ParseFields_b0 (k : Nat) : Nat → (List UInt8) → (List IField) → Option (Oc ((List IField)) ((List IField) × Bool))
  | 0, _, _ => none
  | n + 1, x0, r4 =>
    (bif (!(x0 == ([] : List UInt8))) then ((strings_Cut k x0 ([13, 10] : List UInt8)).bind fun w1 =>
    ((strings_Cut k w1.1 ([58] : List UInt8)).bind fun w2 =>
    (bif (!w1.2.2) then some (.oth (([], false))) else (bif (!w2.2.2) then some (.oth (([], false)))
    else ((I_LowerText k w2.1).bind fun w3 =>
    ((I_TrimText k w2.2.1).bind fun w4 =>
    ((app 32 r4 ([(⟨w3, w4⟩ : IField)] : List IField)).bind fun u5 =>
    I_ParseFields_b0 k n w1.2.1 u5)))))))
    else some (.nrm r4))
noncomputable def I_ParseFields (k : Nat) (a0 : List UInt8) : Option ((List IField) × Bool) :=
    ((I_ParseFields_b0 k k a0 ([] : List IField)).bind fun o6 =>
    oc o6 (fun o7 => ((I_AreFields k o7).bind fun w9 =>
    (bif (!w9) then some ([], false)
    else some (o7, true))))
    (fun o8 => some o8))
/-! loop.example/g03012/impl.ParseRequest -/
noncomputable def I_ParseRequest (k : Nat) (a0 : List UInt8) : Option (IRequest × Bool) :=
    ((strings_Cut k a0 ([13, 10] : List UInt8)).bind fun w1 =>
    ((strings_Cut k w1.1 ([32] : List UInt8)).bind fun w2 =>
    ((strings_CutSuffix k w2.2.1 ([32, 72, 84, 84, 80, 47, 49, 46, 49] : List UInt8)).bind fun w3 =>
    ((strings_CutSuffix k w1.2.1 ([13, 10] : List UInt8)).bind fun w4 =>
    ((I_ParseFields k w4.1).bind fun w5 =>
    (bif (!w1.2.2) then some ((⟨([] : List UInt8), ([] : List UInt8), ([] : List UInt8), []⟩ : IRequest), false) else (bif (!w2.2.2) then some ((⟨([] : List UInt8), ([] : List UInt8), ([] : List UInt8), []⟩ : IRequest), false) else (bif (!w3.2) then some ((⟨([] : List UInt8), ([] : List UInt8), ([] : List UInt8), []⟩ : IRequest), false) else (bif (!w4.2) then some ((⟨([] : List UInt8), ([] : List UInt8), ([] : List UInt8), []⟩ : IRequest), false) else (bif (!w5.2) then some ((⟨([] : List UInt8), ([] : List UInt8), ([] : List UInt8), []⟩ : IRequest), false) else (bif ((w5.1.length : Int) == (0 : Int)) then some ((⟨([] : List UInt8), ([] : List UInt8), ([] : List UInt8), []⟩ : IRequest), false) else ((idx w5.1 (0 : Int)).bind fun _ =>
    ((idx w5.1 (0 : Int)).bind fun e6 =>
    (bif (!(e6.Name == ([104, 111, 115, 116] : List UInt8))) then some ((⟨([] : List UInt8), ([] : List UInt8), ([] : List UInt8), []⟩ : IRequest), false)
    else ((idx w5.1 (0 : Int)).bind fun _ =>
    ((idx w5.1 (0 : Int)).bind fun e7 =>
    ((ssub w5.1 (1 : Int) (w5.1.length : Int)).bind fun _ =>
    (guardT ((w5.1.length : Int) == (w5.1.length : Int)) <| (guardT ((w5.1.length : Int) == (w5.1.length : Int)) <| ((I_IsRequest k (⟨w2.1, e7.Value, w3.1, (w5.1.drop (Int.toNat (1 : Int)))⟩ : IRequest)).bind fun w8 =>
    (bif (!w8) then some ((⟨([] : List UInt8), ([] : List UInt8), ([] : List UInt8), []⟩ : IRequest), false)
    else some ((⟨w2.1, e7.Value, w3.1, (w5.1.drop (Int.toNat (1 : Int)))⟩ : IRequest), true))))))))))))))))))))))
/-! loop.example/g03012/spec.l1Int -/
noncomputable def S_l1Int (k : Nat) (a0 : Sl1Cur) (a1 : List Int) : Option (Int × Sl1Cur) :=
    ((S_l1Below k a0 (a1.length : Int)).bind fun w1 =>
    ((idx a1 w1.1).bind fun e2 =>
    some (e2, w1.2)))
/-! loop.example/g03012/spec.l11Response -/
noncomputable def S_l11Response_c14 (k : Nat) (x14 : Bool) (y700000_0 : List Int) (y700000_1 : Int) (y700000_2 : Int) (y2_0 : Int) (y2_2 : List UInt8) (y3_0 : Int) (y3_2 : List UInt8) (r100000301 : List IField) : Option ((List IField)) :=
    (bif x14 then ((app 32 r100000301 ([(⟨([99, 111, 110, 116, 101, 110, 116, 45, 108, 101, 110, 103, 116, 104] : List UInt8), ([50] : List UInt8)⟩ : IField)] : List IField)).bind fun u5 =>
    some (u5))
    else some (r100000301))
noncomputable def S_l11Response (k : Nat) (a0 : Sl1Cur) : Option (IResponse × Sl1Cur) :=
    ((S_l1Int k a0 ([(200 : Int), (200 : Int), (304 : Int), (404 : Int), (206 : Int), (199 : Int), (600 : Int)] : List Int)).bind fun w1 =>
    ((S_l5Draw k w1.2).bind fun w2 =>
    ((S_l1Str k w2.2 ([([] : List UInt8), ([104, 105] : List UInt8), ([97, 13, 10, 13, 10, 98] : List UInt8), ([84, 104, 101, 32, 113, 117, 105, 99, 107, 32, 98, 114, 111, 119, 110, 32, 102, 111, 120, 46] : List UInt8)] : List (List UInt8))).bind fun w3 =>
    ((S_l1Once k w3.2 (9 : Int)).bind fun w4 =>
    ((S_l11Response_c14 k w4.1 w4.2.b w4.2.i w4.2.h (0 : Int) ([] : List UInt8) w1.1 w3.1 w2.1).bind fun o6 =>
    some ((⟨w1.1, o6, w3.1⟩ : IResponse), w4.2))))))
/-! loop.example/g03012/spec.DrawFormatResponse -/
noncomputable def S_DrawFormatResponse (k : Nat) (a0 : List Int) : Option (IResponse) :=
    ((S_l1New k a0).bind fun w1 =>
    ((S_l11Response k w1).bind fun w2 =>
    some w2.1))
/-! loop.example/g03012/impl.IsResponse -/
noncomputable def I_IsResponse (k : Nat) (a0 : IResponse) : Option (Bool) :=
    ((I_inRange k a0.Code (200 : Int) (599 : Int)).bind fun w1 =>
    (bif w1 then ((I_AreFields k a0.Fields).bind fun w2 =>
    (bif w2 then (bif (decide ((a0.Fields.length : Int) < (24 : Int))) then ((I_hasField k a0.Fields ([99, 111, 110, 116, 101, 110, 116, 45, 108, 101, 110, 103, 116, 104] : List UInt8)).bind fun w3 =>
    (bif (!w3) then some (decide ((a0.Body.length : Int) ≤ (600 : Int))) else some false)) else some false) else some false)) else some false))
/-! strconv.Itoa -/
noncomputable def strconv_Itoa (k : Nat) (a0 : Int) : Option ((List UInt8)) :=
    itoaO a0
/-! loop.example/g03012/impl.FormatInt -/
noncomputable def I_FormatInt (k : Nat) (a0 : Int) : Option ((List UInt8)) :=
    ((strconv_Itoa k a0).bind fun w1 =>
    some w1)
/-! loop.example/g03012/impl.FormatResponse -/
noncomputable def I_FormatResponse (k : Nat) (a0 : IResponse) : Option ((List UInt8)) :=
    ((I_IsResponse k a0).bind fun w1 =>
    (bif (!w1) then some ([] : List UInt8)
    else ((I_FormatInt k a0.Code).bind fun w2 =>
    ((cat ([72, 84, 84, 80, 47, 49, 46, 49, 32] : List UInt8) w2).bind fun t3 =>
    ((cat t3 ([13, 10] : List UInt8)).bind fun t4 =>
    ((I_FormatFields k a0.Fields).bind fun w5 =>
    ((cat t4 w5).bind fun t6 =>
    ((cat t6 ([99, 111, 110, 116, 101, 110, 116, 45, 108, 101, 110, 103, 116, 104, 58, 32] : List UInt8)).bind fun t7 =>
    ((I_FormatInt k (a0.Body.length : Int)).bind fun w8 =>
    ((cat t7 w8).bind fun t9 =>
    ((cat t9 ([13, 10] : List UInt8)).bind fun t10 =>
    ((cat t10 ([13, 10] : List UInt8)).bind fun t11 =>
    ((cat t11 a0.Body).bind fun t12 =>
    some t12)))))))))))))
/-! internal/stringslite.HasPrefix -/
noncomputable def internal_stringslite_HasPrefix (k : Nat) (a0 : List UInt8) (a1 : List UInt8) : Option (Bool) :=
    (bif (decide ((a0.length : Int) ≥ (a1.length : Int))) then ((ssub a0 (0 : Int) (a1.length : Int)).bind fun t1 =>
    some (t1 == a1)) else some false)
/-! internal/stringslite.CutPrefix -/
noncomputable def internal_stringslite_CutPrefix (k : Nat) (a0 : List UInt8) (a1 : List UInt8) : Option ((List UInt8) × Bool) :=
    ((internal_stringslite_HasPrefix k a0 a1).bind fun w1 =>
    (bif (!w1) then some (a0, false)
    else ((ssub a0 (a1.length : Int) (a0.length : Int)).bind fun t2 =>
    some (t2, true))))
/-! strings.CutPrefix -/
noncomputable def strings_CutPrefix (k : Nat) (a0 : List UInt8) (a1 : List UInt8) : Option ((List UInt8) × Bool) :=
    ((internal_stringslite_CutPrefix k a0 a1).bind fun w1 =>
    some (w1.1, w1.2))
/-! strconv.Atoi -/
noncomputable def strconv_Atoi (k : Nat) (a0 : List UInt8) : Option (Int × Bool) :=
    atoiO a0
/-! loop.example/g03012/impl.ParseInt -/
noncomputable def I_ParseInt (k : Nat) (a0 : List UInt8) : Option (Int × Bool) :=
    (bif (decide ((a0.length : Int) > (13 : Int))) then some ((0 : Int), false)
    else ((strconv_Atoi k a0).bind fun w1 =>
    (bif w1.2 then some ((0 : Int), false) else ((I_inRange k w1.1 (0 : Int) (1000000000000 : Int)).bind fun w2 =>
    (bif (!w2) then some ((0 : Int), false) else ((I_FormatInt k w1.1).bind fun w3 =>
    (bif (!(w3 == a0)) then some ((0 : Int), false)
    else some (w1.1, true))))))))
/-! loop.example/g03012/impl.ParseResponse -/
noncomputable def I_ParseResponse (k : Nat) (a0 : List UInt8) : Option (IResponse × Bool) :=
    ((strings_Cut k a0 ([13, 10, 13, 10] : List UInt8)).bind fun w1 =>
    ((strings_Cut k w1.1 ([13, 10] : List UInt8)).bind fun w2 =>
    ((strings_CutPrefix k w2.1 ([72, 84, 84, 80, 47, 49, 46, 49, 32] : List UInt8)).bind fun w3 =>
    ((I_ParseInt k w3.1).bind fun w4 =>
    ((cat w2.2.1 ([13, 10] : List UInt8)).bind fun t5 =>
    ((I_ParseFields k t5).bind fun w6 =>
    (bif (!w1.2.2) then some ((⟨(0 : Int), [], ([] : List UInt8)⟩ : IResponse), false) else (bif (!w2.2.2) then some ((⟨(0 : Int), [], ([] : List UInt8)⟩ : IResponse), false) else (bif (!w3.2) then some ((⟨(0 : Int), [], ([] : List UInt8)⟩ : IResponse), false) else (bif (!w4.2) then some ((⟨(0 : Int), [], ([] : List UInt8)⟩ : IResponse), false) else (bif (!w6.2) then some ((⟨(0 : Int), [], ([] : List UInt8)⟩ : IResponse), false) else (bif (decide ((IntKind.wrap .i64 ((w6.1.length : Int) - (1 : Int))) < (0 : Int))) then some ((⟨(0 : Int), [], ([] : List UInt8)⟩ : IResponse), false) else ((idx w6.1 (IntKind.wrap .i64 ((w6.1.length : Int) - (1 : Int)))).bind fun _ =>
    ((idx w6.1 (IntKind.wrap .i64 ((w6.1.length : Int) - (1 : Int)))).bind fun e7 =>
    (bif (!(e7.Name == ([99, 111, 110, 116, 101, 110, 116, 45, 108, 101, 110, 103, 116, 104] : List UInt8))) then some ((⟨(0 : Int), [], ([] : List UInt8)⟩ : IResponse), false) else ((idx w6.1 (IntKind.wrap .i64 ((w6.1.length : Int) - (1 : Int)))).bind fun _ =>
    ((idx w6.1 (IntKind.wrap .i64 ((w6.1.length : Int) - (1 : Int)))).bind fun e8 =>
    ((I_FormatInt k (w1.2.1.length : Int)).bind fun w9 =>
    (bif (!(e8.Value == w9)) then some ((⟨(0 : Int), [], ([] : List UInt8)⟩ : IResponse), false)
    else ((ssub w6.1 (0 : Int) (IntKind.wrap .i64 ((w6.1.length : Int) - (1 : Int)))).bind fun t10 =>
    (guardT ((IntKind.wrap .i64 ((w6.1.length : Int) - (1 : Int))) == (IntKind.wrap .i64 ((w6.1.length : Int) - (1 : Int)))) <| ((I_IsResponse k (⟨w4.1, t10, w1.2.1⟩ : IResponse)).bind fun w11 =>
    (bif (!w11) then some ((⟨(0 : Int), [], ([] : List UInt8)⟩ : IResponse), false)
    else some ((⟨w4.1, t10, w1.2.1⟩ : IResponse), true))))))))))))))))))))))))
/-! loop.example/g03012/spec.l1In -/
noncomputable def S_l1In (k : Nat) (a0 : Int) (a1 : Int) (a2 : Int) : Option (Bool) :=
    (bif (decide (a0 ≥ a1)) then some (decide (a0 ≤ a2)) else some false)
/-! loop.example/g03012/spec.JoinList -/
noncomputable def S_JoinList_c12 (k : Nat) (x0 : List (List UInt8)) (x3 : List UInt8) (x4 : Int) (x12 : Bool) : Option ((List UInt8)) :=
    (bif x12 then ((cat x3 ([44, 32] : List UInt8)).bind fun t1 =>
    some (t1))
    else some (x3))
noncomputable def S_JoinList_b1 (k : Nat) (x0 : List (List UInt8)) (x3 : List UInt8) (x4 : Int) : Option ((List UInt8)) :=
    ((S_JoinList_c12 k x0 x3 x4 (decide (x4 > (0 : Int)))).bind fun o1 =>
    ((idx x0 x4).bind fun e2 =>
    ((cat o1 e2).bind fun t3 =>
    some (t3))))
noncomputable def S_JoinList_b0 (k : Nat) : Nat → (List (List UInt8)) → (List UInt8) → Int → Option ((List UInt8))
  | 0, _, _, _ => none
  | n + 1, x0, x3, x4 =>
    (bif (decide (x4 < (x0.length : Int))) then ((S_JoinList_b1 k x0 x3 x4).bind fun o1 =>
    S_JoinList_b0 k n x0 o1 (IntKind.wrap .i64 (x4 + (1 : Int))))
    else some (x3))
noncomputable def S_JoinList (k : Nat) (a0 : List (List UInt8)) : Option ((List UInt8)) :=
    ((S_JoinList_b0 k k a0 ([] : List UInt8) (0 : Int)).bind fun o2 =>
    some o2)
/-! loop.example/g03012/spec.GetField -/
noncomputable def S_GetField_c21 (k : Nat) (x0 : List IField) (x1 : List UInt8) (x7 : Int) (x21 : Bool) (r6 : List (List UInt8)) : Option ((List (List UInt8))) :=
    (bif x21 then ((idx x0 x7).bind fun e2 =>
    ((app 16 r6 ([e2.Value] : List (List UInt8))).bind fun u3 =>
    some (u3)))
    else some (r6))
noncomputable def S_GetField_b1 (k : Nat) (x0 : List IField) (x1 : List UInt8) (x7 : Int) (r6 : List (List UInt8)) : Option ((List (List UInt8))) :=
    ((idx x0 x7).bind fun e1 =>
    ((S_GetField_c21 k x0 x1 x7 (e1.Name == x1) r6).bind fun o2 =>
    some (o2)))
noncomputable def S_GetField_b0 (k : Nat) : Nat → (List IField) → (List UInt8) → Int → (List (List UInt8)) → Option ((List (List UInt8)))
  | 0, _, _, _, _ => none
  | n + 1, x0, x1, x7, r6 =>
    (bif (decide (x7 < (x0.length : Int))) then ((S_GetField_b1 k x0 x1 x7 r6).bind fun o1 =>
    S_GetField_b0 k n x0 x1 (IntKind.wrap .i64 (x7 + (1 : Int))) o1)
    else some (r6))
noncomputable def S_GetField (k : Nat) (a0 : List IField) (a1 : List UInt8) : Option ((List UInt8) × Bool) :=
    ((S_GetField_b0 k k a0 a1 (0 : Int) ([] : List (List UInt8))).bind fun o2 =>
    ((S_JoinList k o2).bind fun w3 =>
    some (w3, (decide ((o2.length : Int) > (0 : Int))))))
/-! loop.example/g03012/spec.l4Letter -/
noncomputable def S_l4Letter (k : Nat) (a0 : Int) : Option (Bool) :=
    ((S_l1In k (IntKind.wrap .i64 a0) (97 : Int) (122 : Int)).bind fun w1 =>
    (bif w1 then some true else ((S_l1In k (IntKind.wrap .i64 a0) (65 : Int) (90 : Int)).bind fun w2 =>
    (bif w2 then some true else ((S_l1In k (IntKind.wrap .i64 a0) (48 : Int) (57 : Int)).bind fun w3 =>
    some w3)))))
/-! loop.example/g03012/spec.l4Token -/
noncomputable def S_l4Token_b0 (k : Nat) : Nat → Int → Int → Option (Oc (Unit) (Bool))
  | 0, _, _ => none
  | n + 1, x0, x3 =>
    (bif (decide (x3 < (15 : Int))) then ((idx ([33, 35, 36, 37, 38, 39, 42, 43, 45, 46, 94, 95, 124, 126, 96] : List UInt8) x3).bind fun c1 =>
    (bif (x0 == (UInt8.toNat c1 : Int)) then some (.oth (true))
    else S_l4Token_b0 k n x0 (IntKind.wrap .i64 (x3 + (1 : Int)))))
    else some (.nrm ()))
noncomputable def S_l4Token (k : Nat) (a0 : Int) : Option (Bool) :=
    ((S_l4Token_b0 k k a0 (0 : Int)).bind fun o2 =>
    oc o2 (fun o3 => ((S_l4Letter k a0).bind fun w5 =>
    some w5))
    (fun o4 => some o4))
/-! loop.example/g03012/spec.IsToken -/
noncomputable def S_IsToken_b0 (k : Nat) : Nat → (List UInt8) → Int → Option (Oc (Unit) (Bool))
  | 0, _, _ => none
  | n + 1, x0, x3 =>
    (bif (decide (x3 < (x0.length : Int))) then ((idx x0 x3).bind fun c1 =>
    ((S_l4Token k (UInt8.toNat c1 : Int)).bind fun w2 =>
    (bif (!w2) then some (.oth (false))
    else S_IsToken_b0 k n x0 (IntKind.wrap .i64 (x3 + (1 : Int))))))
    else some (.nrm ()))
noncomputable def S_IsToken (k : Nat) (a0 : List UInt8) : Option (Bool) :=
    ((S_IsToken_b0 k k a0 (0 : Int)).bind fun o3 =>
    oc o3 (fun o4 => ((S_l1In k (a0.length : Int) (1 : Int) (40 : Int)).bind fun w6 =>
    some w6))
    (fun o5 => some o5))
/-! loop.example/g03012/spec.LowerText -/
noncomputable def S_LowerText_c18 (k : Nat) (x4 : Int) (x18 : Bool) (r3 : List Int) : Option ((List Int)) :=
    (bif x18 then ((idx r3 x4).bind fun _ =>
    ((idx r3 x4).bind fun e3 =>
    ((idx r3 x4).bind fun _ =>
    ((idx r3 x4).bind fun e4 =>
    some (((r3).set (x4).toNat (IntKind.wrap .u8 (e3 + (32 : Int)))))))))
    else some (r3))
noncomputable def S_LowerText_b1 (k : Nat) (x4 : Int) (r3 : List Int) : Option ((List Int)) :=
    ((idx r3 x4).bind fun _ =>
    ((idx r3 x4).bind fun e1 =>
    ((S_l1In k (IntKind.wrap .i64 e1) (65 : Int) (90 : Int)).bind fun w2 =>
    ((S_LowerText_c18 k x4 w2 r3).bind fun o3 =>
    some (o3)))))
noncomputable def S_LowerText_b0 (k : Nat) : Nat → Int → (List Int) → Option ((List Int))
  | 0, _, _ => none
  | n + 1, x4, r3 =>
    (bif (decide (x4 < (r3.length : Int))) then ((S_LowerText_b1 k x4 r3).bind fun o1 =>
    S_LowerText_b0 k n (IntKind.wrap .i64 (x4 + (1 : Int))) o1)
    else some (r3))
noncomputable def S_LowerText (k : Nat) (a0 : List UInt8) : Option ((List UInt8)) :=
    ((S_LowerText_b0 k k (0 : Int) (intsOf a0)).bind fun o2 =>
    some (bytesOf o2))
/-! loop.example/g03012/spec.l5Name -/
noncomputable def S_l5Name (k : Nat) (a0 : List UInt8) : Option (Bool) :=
    ((S_IsToken k a0).bind fun w1 =>
    (bif w1 then ((S_LowerText k a0).bind fun w2 =>
    some (w2 == a0)) else some false))
/-! loop.example/g03012/spec.l4Blank -/
noncomputable def S_l4Blank (k : Nat) (a0 : Int) : Option (Bool) :=
    (bif (a0 == (32 : Int)) then some true else some (a0 == (9 : Int)))
/-! loop.example/g03012/spec.TrimText -/
noncomputable def S_TrimText_b0 (k : Nat) : Nat → (List UInt8) → Option ((List UInt8))
  | 0, _ => none
  | n + 1, x0 =>
    (bif (decide ((x0.length : Int) > (0 : Int))) then ((idx x0 (0 : Int)).bind fun c1 =>
    ((S_l4Blank k (UInt8.toNat c1 : Int)).bind fun w2 =>
    (bif w2 then ((ssub x0 (1 : Int) (x0.length : Int)).bind fun t3 =>
    S_TrimText_b0 k n t3)
    else some (x0)))) else some (x0))
noncomputable def S_TrimText_b2 (k : Nat) : Nat → (List UInt8) → Option ((List UInt8))
  | 0, _ => none
  | n + 1, x0 =>
    (bif (decide ((x0.length : Int) > (0 : Int))) then ((idx x0 (IntKind.wrap .i64 ((x0.length : Int) - (1 : Int)))).bind fun c5 =>
    ((S_l4Blank k (UInt8.toNat c5 : Int)).bind fun w6 =>
    (bif w6 then ((ssub x0 (0 : Int) (IntKind.wrap .i64 ((x0.length : Int) - (1 : Int)))).bind fun t7 =>
    S_TrimText_b2 k n t7)
    else some (x0)))) else some (x0))
noncomputable def S_TrimText (k : Nat) (a0 : List UInt8) : Option ((List UInt8)) :=
    ((S_TrimText_b0 k k a0).bind fun o4 =>
    ((S_TrimText_b2 k k o4).bind fun o8 =>
    some o8))
/-! loop.example/g03012/spec.l5Value -/
noncomputable def S_l5Value_b0 (k : Nat) : Nat → (List UInt8) → Int → Option (Oc (Unit) (Bool))
  | 0, _, _ => none
  | n + 1, x0, x3 =>
    (bif (decide (x3 < (x0.length : Int))) then ((idx x0 x3).bind fun c1 =>
    ((S_l1In k (IntKind.wrap .i64 (UInt8.toNat c1 : Int)) (32 : Int) (126 : Int)).bind fun w2 =>
    (bif (!w2) then ((idx x0 x3).bind fun c3 =>
    (bif ((UInt8.toNat c3 : Int) != (9 : Int)) then some (.oth (false))
    else S_l5Value_b0 k n x0 (IntKind.wrap .i64 (x3 + (1 : Int))))) else S_l5Value_b0 k n x0 (IntKind.wrap .i64 (x3 + (1 : Int))))))
    else some (.nrm ()))
noncomputable def S_l5Value (k : Nat) (a0 : List UInt8) : Option (Bool) :=
    ((S_l5Value_b0 k k a0 (0 : Int)).bind fun o4 =>
    oc o4 (fun o5 => (bif (decide ((a0.length : Int) ≤ (200 : Int))) then ((S_TrimText k a0).bind fun w7 =>
    some (w7 == a0)) else some false))
    (fun o6 => some o6))
/-! loop.example/g03012/spec.AreFields -/
noncomputable def S_AreFields_b0 (k : Nat) : Nat → (List IField) → Int → Option (Oc (Unit) (Bool))
  | 0, _, _ => none
  | n + 1, x0, x3 =>
    (bif (decide (x3 < (x0.length : Int))) then ((idx x0 x3).bind fun e1 =>
    ((S_l5Name k e1.Name).bind fun w2 =>
    (bif (!w2) then some (.oth (false)) else ((idx x0 x3).bind fun e3 =>
    ((S_l5Value k e3.Value).bind fun w4 =>
    (bif (!w4) then some (.oth (false))
    else S_AreFields_b0 k n x0 (IntKind.wrap .i64 (x3 + (1 : Int)))))))))
    else some (.nrm ()))
noncomputable def S_AreFields (k : Nat) (a0 : List IField) : Option (Bool) :=
    ((S_AreFields_b0 k k a0 (0 : Int)).bind fun o5 =>
    oc o5 (fun o6 => some (decide ((a0.length : Int) ≤ (24 : Int))))
    (fun o7 => some o7))
/-! loop.example/g03012/spec.l11Fields -/
noncomputable def S_l11Fields (k : Nat) (a0 : List IField) : Option (Bool) :=
    ((S_GetField k a0 ([99, 111, 110, 116, 101, 110, 116, 45, 108, 101, 110, 103, 116, 104] : List UInt8)).bind fun w1 =>
    ((S_AreFields k a0).bind fun w2 =>
    (bif w2 then (bif (decide ((a0.length : Int) < (24 : Int))) then some (!w1.2) else some false) else some false)))
/-! loop.example/g03012/spec.IsRequest -/
noncomputable def S_IsRequest_b0 (k : Nat) : Nat → Int → (List UInt8) → (List UInt8) → (List UInt8) → (List IField) → Option (Oc (Unit) (Bool))
  | 0, _, _, _, _, _ => none
  | n + 1, x3, y1_0, y1_1, y1_2, y1_3 =>
    (bif (decide (x3 < (y1_0.length : Int))) then ((idx y1_0 x3).bind fun c1 =>
    ((S_l1In k (IntKind.wrap .i64 (UInt8.toNat c1 : Int)) (97 : Int) (122 : Int)).bind fun w2 =>
    (bif w2 then some (.oth (false))
    else S_IsRequest_b0 k n (IntKind.wrap .i64 (x3 + (1 : Int))) y1_0 y1_1 y1_2 y1_3)))
    else some (.nrm ()))
noncomputable def S_IsRequest_b2 (k : Nat) : Nat → Int → (List UInt8) → (List UInt8) → (List UInt8) → (List IField) → Option (Oc (Unit) (Bool))
  | 0, _, _, _, _, _ => none
  | n + 1, x4, y1_0, y1_1, y1_2, y1_3 =>
    (bif (decide (x4 < (y1_1.length : Int))) then ((idx y1_1 x4).bind fun c6 =>
    ((S_l1In k (IntKind.wrap .i64 (UInt8.toNat c6 : Int)) (97 : Int) (122 : Int)).bind fun w7 =>
    (bif (!w7) then ((S_l1In k (IntKind.wrap .i64 (UInt8.toNat c6 : Int)) (48 : Int) (57 : Int)).bind fun w8 =>
    (bif (!w8) then (bif ((UInt8.toNat c6 : Int) != (45 : Int)) then (bif ((UInt8.toNat c6 : Int) != (46 : Int)) then some (.oth (false))
    else S_IsRequest_b2 k n (IntKind.wrap .i64 (x4 + (1 : Int))) y1_0 y1_1 y1_2 y1_3) else S_IsRequest_b2 k n (IntKind.wrap .i64 (x4 + (1 : Int))) y1_0 y1_1 y1_2 y1_3) else S_IsRequest_b2 k n (IntKind.wrap .i64 (x4 + (1 : Int))) y1_0 y1_1 y1_2 y1_3)) else S_IsRequest_b2 k n (IntKind.wrap .i64 (x4 + (1 : Int))) y1_0 y1_1 y1_2 y1_3)))
    else some (.nrm ()))
noncomputable def S_IsRequest_b4 (k : Nat) : Nat → Int → (List UInt8) → (List UInt8) → (List UInt8) → (List IField) → Option (Oc (Unit) (Bool))
  | 0, _, _, _, _, _ => none
  | n + 1, x6, y1_0, y1_1, y1_2, y1_3 =>
    (bif (decide (x6 < (y1_2.length : Int))) then ((idx y1_2 x6).bind fun c12 =>
    ((S_l1In k (IntKind.wrap .i64 (UInt8.toNat c12 : Int)) (33 : Int) (126 : Int)).bind fun w13 =>
    (bif (!w13) then some (.oth (false))
    else S_IsRequest_b4 k n (IntKind.wrap .i64 (x6 + (1 : Int))) y1_0 y1_1 y1_2 y1_3)))
    else some (.nrm ()))
noncomputable def S_IsRequest (k : Nat) (a0 : IRequest) : Option (Bool) :=
    ((S_IsRequest_b0 k k (0 : Int) a0.Method a0.Host a0.Target a0.Fields).bind fun o3 =>
    oc o3 (fun o4 => ((S_IsRequest_b2 k k (0 : Int) a0.Method a0.Host a0.Target a0.Fields).bind fun o9 =>
    oc o9 (fun o10 => ((S_IsRequest_b4 k k (0 : Int) a0.Method a0.Host a0.Target a0.Fields).bind fun o14 =>
    oc o14 (fun o15 => ((S_GetField k a0.Fields ([104, 111, 115, 116] : List UInt8)).bind fun w17 =>
    ((S_IsToken k a0.Method).bind fun w18 =>
    (bif w18 then ((S_l1In k (a0.Host.length : Int) (1 : Int) (40 : Int)).bind fun w19 =>
    (bif w19 then ((S_l1In k (a0.Target.length : Int) (1 : Int) (100 : Int)).bind fun w20 =>
    (bif w20 then ((idx a0.Target (0 : Int)).bind fun c21 =>
    (bif ((UInt8.toNat c21 : Int) == (47 : Int)) then ((S_l11Fields k a0.Fields).bind fun w22 =>
    (bif w22 then some (!w17.2) else some false)) else some false)) else some false)) else some false)) else some false))))
    (fun o16 => some o16)))
    (fun o11 => some o11)))
    (fun o5 => some o5))
/-! loop.example/g03012/spec.IsResponse -/
noncomputable def S_IsResponse (k : Nat) (a0 : IResponse) : Option (Bool) :=
    ((S_l1In k a0.Code (200 : Int) (599 : Int)).bind fun w1 =>
    (bif w1 then ((S_l11Fields k a0.Fields).bind fun w2 =>
    (bif w2 then some (decide ((a0.Body.length : Int) ≤ (600 : Int))) else some false)) else some false))
/-! slices.Equal[[]loop.example/g03012/impl.Field,loop.example/g03012/impl.Field] -/
noncomputable def slices_Equal_IField_b0 (k : Nat) : Nat → (List IField) → (List IField) → Int → Int → Option (Oc (Unit) (Bool))
  | 0, _, _, _, _ => none
  | n + 1, x0, x1, x12, x13 =>
    (bif (decide (x13 < x12)) then ((idx x0 x13).bind fun e1 =>
    ((idx x1 x13).bind fun e2 =>
    (bif (!((e1.Name == e2.Name) && (e1.Value == e2.Value))) then some (.oth (false))
    else slices_Equal_IField_b0 k n x0 x1 x12 (IntKind.wrap .i64 (x13 + (1 : Int))))))
    else some (.nrm ()))
noncomputable def slices_Equal_IField (k : Nat) (a0 : List IField) (a1 : List IField) : Option (Bool) :=
    (bif ((a0.length : Int) != (a1.length : Int)) then some false
    else ((slices_Equal_IField_b0 k k a0 a1 (a0.length : Int) (0 : Int)).bind fun o3 =>
    oc o3 (fun o4 => some true)
    (fun o5 => some o5)))
/-! loop.example/g03012/impl.SameFields -/
noncomputable def I_SameFields (k : Nat) (a0 : List IField) (a1 : List IField) : Option (Bool) :=
    ((slices_Equal_IField k a0 a1).bind fun w1 =>
    some w1)
/-! loop.example/g03012/impl.SameResponse -/
noncomputable def I_SameResponse (k : Nat) (a0 : IResponse) (a1 : IResponse) : Option (Bool) :=
    (bif (a0.Code == a1.Code) then ((I_SameFields k a0.Fields a1.Fields).bind fun w1 =>
    (bif w1 then some (a0.Body == a1.Body) else some false)) else some false)
/-! loop.example/g03012/laws.FnMessages -/
noncomputable def L_FnMessages (k : Nat) (a0 : List Int) : Option (Bool) :=
    ((L_big k a0).bind fun w1 =>
    (bif w1 then some true
    else ((S_DrawFormatRequest k a0).bind fun w2 =>
    ((I_FormatRequest k w2).bind fun w3 =>
    ((I_ParseRequest k w3).bind fun w4 =>
    ((S_DrawFormatResponse k a0).bind fun w5 =>
    ((I_FormatResponse k w5).bind fun w6 =>
    ((I_ParseResponse k w6).bind fun w7 =>
    ((S_IsRequest k w2).bind fun w8 =>
    (bif (!(w4.2 == w8)) then some false else ((S_IsResponse k w5).bind fun w9 =>
    (bif (!(w7.2 == w9)) then some false
    else (bif (!w4.2) then (bif (!w7.2) then some true else ((I_SameResponse k w5 w7.1).bind fun w10 =>
    some w10)) else (bif (w4.1.Method == w2.Method) then (bif (w4.1.Host == w2.Host) then (bif (w4.1.Target == w2.Target) then ((I_SameFields k w4.1.Fields w2.Fields).bind fun w11 =>
    (bif w11 then (bif (!w7.2) then some true else ((I_SameResponse k w5 w7.1).bind fun w12 =>
    some w12)) else some false)) else some false) else some false) else some false))))))))))))))

end
end Go.YtolmhhnhmbiofaaGreatDoor
