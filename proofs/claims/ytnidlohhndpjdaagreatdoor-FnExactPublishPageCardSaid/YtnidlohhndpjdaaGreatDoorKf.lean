/- Functions over lists. Nothing is claimed here. -/
import Derived.Test.YtnidlohhndpjdaaGreatDoorKt
set_option linter.unusedVariables false
set_option linter.unusedSimpArgs false
set_option maxRecDepth 100000
namespace Go.YtnidlohhndpjdaaGreatDoor
open Go Go.RowKit Go.Pv
noncomputable section
noncomputable def L_szStringS_b0 (k : Nat) : Nat → (List (List UInt8)) → Int → Int → Option (Oc (Int) (Int))
 | 0, _, _, _ => none
 | n + 1, x0, x1, x5 =>
  (bif (decide (x5 < (x0.length : Int))) then ((idx x0 x5).bind fun e1 =>
  (bif (decide ((IntKind.wrap .i64 (x1 - (e1.length : Int))) < (0 : Int))) then some (.oth ((-1 : Int)))
  else L_szStringS_b0 k n x0 (IntKind.wrap .i64 (x1 - (e1.length : Int))) (IntKind.wrap .i64 (x5 + (1 : Int)))))
  else some (.nrm x1))
noncomputable def L_szStringS (k : Nat) (a0 : List (List UInt8)) (a1 : Int) : Option (Int) :=
    (bif (decide ((IntKind.wrap .i64 (a1 - (a0.length : Int))) < (0 : Int))) then some (-1 : Int)
    else ((L_szStringS_b0 k k a0 (IntKind.wrap .i64 (a1 - (a0.length : Int))) (0 : Int)).bind fun o2 =>
    oc o2 (fun o3 => some o3)
    (fun o4 => some o4)))
noncomputable def L_szVersion (k : Nat) (a0 : LVersion) (a1 : Int) : Option (Int) :=
    (bif (decide ((IntKind.wrap .i64 (a1 - (a0.Text.length : Int))) < (0 : Int))) then some (-1 : Int)
    else some (IntKind.wrap .i64 (a1 - (a0.Text.length : Int))))
noncomputable def L_szVersionS_b0 (k : Nat) : Nat → (List LVersion) → Int → Int → Option (Oc (Int) (Int))
 | 0, _, _, _ => none
 | n + 1, x0, x1, x5 =>
  (bif (decide (x5 < (x0.length : Int))) then ((idx x0 x5).bind fun e1 =>
  ((L_szVersion k e1 x1).bind fun w2 =>
  (bif (decide (w2 < (0 : Int))) then some (.oth ((-1 : Int)))
  else L_szVersionS_b0 k n x0 w2 (IntKind.wrap .i64 (x5 + (1 : Int))))))
  else some (.nrm x1))
noncomputable def L_szVersionS (k : Nat) (a0 : List LVersion) (a1 : Int) : Option (Int) :=
    (bif (decide ((IntKind.wrap .i64 (a1 - (a0.length : Int))) < (0 : Int))) then some (-1 : Int)
    else ((L_szVersionS_b0 k k a0 (IntKind.wrap .i64 (a1 - (a0.length : Int))) (0 : Int)).bind fun o3 =>
    oc o3 (fun o4 => some o4)
    (fun o5 => some o5)))
noncomputable def L_szResource (k : Nat) (a0 : LResource) (a1 : Int) : Option (Int) :=
    (bif (decide ((IntKind.wrap .i64 (a1 - (a0.Target.length : Int))) < (0 : Int))) then some (-1 : Int)
    else (bif (decide ((IntKind.wrap .i64 ((IntKind.wrap .i64 (a1 - (a0.Target.length : Int))) - (a0.Control.length : Int))) < (0 : Int))) then some (-1 : Int)
    else (bif (decide ((IntKind.wrap .i64 ((IntKind.wrap .i64 ((IntKind.wrap .i64 (a1 - (a0.Target.length : Int))) - (a0.Control.length : Int))) - (a0.Keys.length : Int))) < (0 : Int))) then some (-1 : Int)
    else ((L_szStringS k a0.Langs (IntKind.wrap .i64 ((IntKind.wrap .i64 ((IntKind.wrap .i64 (a1 - (a0.Target.length : Int))) - (a0.Control.length : Int))) - (a0.Keys.length : Int)))).bind fun w1 =>
    (bif (decide (w1 < (0 : Int))) then some (-1 : Int)
    else ((L_szVersionS k a0.Versions w1).bind fun w2 =>
    (bif (decide (w2 < (0 : Int))) then some (-1 : Int)
    else some w2)))))))
noncomputable def L_szResourceS_b0 (k : Nat) : Nat → (List LResource) → Int → Int → Option (Oc (Int) (Int))
 | 0, _, _, _ => none
 | n + 1, x0, x1, x5 =>
  (bif (decide (x5 < (x0.length : Int))) then ((idx x0 x5).bind fun e1 =>
  ((L_szResource k e1 x1).bind fun w2 =>
  (bif (decide (w2 < (0 : Int))) then some (.oth ((-1 : Int)))
  else L_szResourceS_b0 k n x0 w2 (IntKind.wrap .i64 (x5 + (1 : Int))))))
  else some (.nrm x1))
noncomputable def L_szResourceS (k : Nat) (a0 : List LResource) (a1 : Int) : Option (Int) :=
    (bif (decide ((IntKind.wrap .i64 (a1 - (a0.length : Int))) < (0 : Int))) then some (-1 : Int)
    else ((L_szResourceS_b0 k k a0 (IntKind.wrap .i64 (a1 - (a0.length : Int))) (0 : Int)).bind fun o3 =>
    oc o3 (fun o4 => some o4)
    (fun o5 => some o5)))
noncomputable def L_szOrigin (k : Nat) (a0 : LOrigin) (a1 : Int) : Option (Int) :=
    (bif (decide ((IntKind.wrap .i64 (a1 - (a0.Host.length : Int))) < (0 : Int))) then some (-1 : Int)
    else ((L_szResourceS k a0.Resources (IntKind.wrap .i64 (a1 - (a0.Host.length : Int)))).bind fun w1 =>
    (bif (decide (w1 < (0 : Int))) then some (-1 : Int)
    else some w1)))
noncomputable def L_toStringS_b0 (k : Nat) : Nat → (List (List UInt8)) → Int → (List (List UInt8)) → Option ((List (List UInt8)))
 | 0, _, _, _ => none
 | n + 1, x0, x4, r3 =>
  (bif (decide (x4 < (x0.length : Int))) then ((idx x0 x4).bind fun e2 =>
  ((idx r3 x4).bind fun _ =>
  ((idx r3 x4).bind fun e3 =>
  L_toStringS_b0 k n x0 (IntKind.wrap .i64 (x4 + (1 : Int))) ((r3).set (x4).toNat e2))))
  else some (r3))
noncomputable def L_toStringS (k : Nat) (a0 : List (List UInt8)) : Option ((List (List UInt8))) :=
    (guardT ((a0.length : Int) == (a0.length : Int)) <| (mks 16 (a0.length : Int) ([] : List UInt8)).bind fun u1 =>
    ((L_toStringS_b0 k k a0 (0 : Int) u1).bind fun o4 =>
    some o4))
noncomputable def L_toVersion (k : Nat) (a0 : LVersion) : Option (IVersion) :=
    some (⟨a0.At, a0.Text, a0.Gone⟩ : IVersion)
noncomputable def L_toVersionS_b0 (k : Nat) : Nat → (List LVersion) → Int → (List IVersion) → Option ((List IVersion))
 | 0, _, _, _ => none
 | n + 1, x0, x4, r3 =>
  (bif (decide (x4 < (x0.length : Int))) then ((idx x0 x4).bind fun e2 =>
  ((L_toVersion k e2).bind fun w3 =>
  ((idx r3 x4).bind fun _ =>
  ((idx r3 x4).bind fun e4 =>
  L_toVersionS_b0 k n x0 (IntKind.wrap .i64 (x4 + (1 : Int))) ((r3).set (x4).toNat w3)))))
  else some (r3))
noncomputable def L_toVersionS (k : Nat) (a0 : List LVersion) : Option ((List IVersion)) :=
    (guardT ((a0.length : Int) == (a0.length : Int)) <| (mks 32 (a0.length : Int) (⟨(0 : Int), ([] : List UInt8), false⟩ : IVersion)).bind fun u1 =>
    ((L_toVersionS_b0 k k a0 (0 : Int) u1).bind fun o5 =>
    some o5))
noncomputable def L_toResource (k : Nat) (a0 : LResource) : Option (IResource) :=
    ((L_toStringS k a0.Langs).bind fun w1 =>
    ((L_toVersionS k a0.Versions).bind fun w2 =>
    some (⟨a0.Target, a0.Control, a0.Keys, a0.Private, w1, w2⟩ : IResource)))
noncomputable def L_toResourceS_b0 (k : Nat) : Nat → (List LResource) → Int → (List IResource) → Option ((List IResource))
 | 0, _, _, _ => none
 | n + 1, x0, x4, r3 =>
  (bif (decide (x4 < (x0.length : Int))) then ((idx x0 x4).bind fun e2 =>
  ((L_toResource k e2).bind fun w3 =>
  ((idx r3 x4).bind fun _ =>
  ((idx r3 x4).bind fun e4 =>
  L_toResourceS_b0 k n x0 (IntKind.wrap .i64 (x4 + (1 : Int))) ((r3).set (x4).toNat w3)))))
  else some (r3))
noncomputable def L_toResourceS (k : Nat) (a0 : List LResource) : Option ((List IResource)) :=
    (guardT ((a0.length : Int) == (a0.length : Int)) <| (mks 104 (a0.length : Int) (⟨([] : List UInt8), ([] : List UInt8), ([] : List UInt8), false, [], []⟩ : IResource)).bind fun u1 =>
    ((L_toResourceS_b0 k k a0 (0 : Int) u1).bind fun o5 =>
    some o5))
noncomputable def L_toOrigin (k : Nat) (a0 : LOrigin) : Option (IOrigin) :=
    ((L_toResourceS k a0.Resources).bind fun w1 =>
    some (⟨a0.Host, w1⟩ : IOrigin))
noncomputable def S_l15Copy_b0 (k : Nat) : Nat → Int → (List UInt8) → (List IResource) → (List UInt8) → (List UInt8) → (List IResource) → Option ((List IResource))
 | 0, _, _, _, _, _, _ => none
 | n + 1, x4, y1_0, y1_1, y2_0, y3_0, r100000301 =>
  (bif (decide (x4 < (y1_1.length : Int))) then ((idx y1_1 x4).bind fun e1 =>
  ((app 16 ([] : List (List UInt8)) e1.Langs).bind fun u2 =>
  ((app 32 ([] : List IVersion) e1.Versions).bind fun u3 =>
  ((app 104 r100000301 ([(⟨e1.Target, e1.Control, e1.Keys, e1.Private, u2, u3⟩ : IResource)] : List IResource)).bind fun u4 =>
  S_l15Copy_b0 k n (IntKind.wrap .i64 (x4 + (1 : Int))) y1_0 y1_1 y2_0 y3_0 u4))))
  else some (r100000301))
noncomputable def S_l15Copy (k : Nat) (a0 : IOrigin) : Option (IOrigin) :=
    ((S_l15Copy_b0 k k (0 : Int) a0.Host a0.Resources ([] : List UInt8) a0.Host []).bind fun o5 =>
    some (⟨a0.Host, o5⟩ : IOrigin))
noncomputable def S_FindResource_b0 (k : Nat) : Nat → (List UInt8) → Int → (List UInt8) → (List IResource) → Option (Oc (Unit) (Int))
 | 0, _, _, _, _ => none
 | n + 1, x1, x5, y2_0, y2_1 =>
  (bif (decide (x5 < (y2_1.length : Int))) then ((idx y2_1 x5).bind fun e1 =>
  (bif (e1.Target == x1) then some (.oth (x5))
  else S_FindResource_b0 k n x1 (IntKind.wrap .i64 (x5 + (1 : Int))) y2_0 y2_1))
  else some (.nrm ()))
noncomputable def S_FindResource (k : Nat) (a0 : IOrigin) (a1 : List UInt8) : Option (Int) :=
    ((S_FindResource_b0 k k a1 (0 : Int) a0.Host a0.Resources).bind fun o2 =>
    oc o2 (fun o3 => some (-1 : Int))
    (fun o4 => some o4))
noncomputable def S_l1In (k : Nat) (a0 : Int) (a1 : Int) (a2 : Int) : Option (Bool) :=
    (bif (decide (a0 ≥ a1)) then some (decide (a0 ≤ a2)) else some false)
noncomputable def S_l4Letter (k : Nat) (a0 : Int) : Option (Bool) :=
    ((S_l1In k (IntKind.wrap .i64 a0) (97 : Int) (122 : Int)).bind fun w1 =>
    (bif w1 then some true else ((S_l1In k (IntKind.wrap .i64 a0) (65 : Int) (90 : Int)).bind fun w2 =>
    (bif w2 then some true else ((S_l1In k (IntKind.wrap .i64 a0) (48 : Int) (57 : Int)).bind fun w3 =>
    some w3)))))
noncomputable def S_l4Token_b0 (k : Nat) : Nat → Int → Int → Option (Oc (Unit) (Bool))
 | 0, _, _ => none
 | n + 1, x0, x3 =>
  (bif (decide (x3 < (15 : Int))) then ((idx ([33, 35, 36, 37, 38, 39, 42, 43, 45, 46, 94, 95, 124, 126, 96] : List UInt8) x3).bind fun c1 =>
  (bif (x0 == (UInt8.toNat c1 : Int)) then some (.oth (true))
  else S_l4Token_b0 k n x0 (IntKind.wrap .i64 (x3 + (1 : Int)))))
  else some (.nrm ()))
noncomputable def S_l4Token (k : Nat) (a0 : Int) : Option (Bool) :=
    ((S_l4Token_b0 k k a0 (0 : Int)).bind fun o2 =>
    oc o2 (fun o3 => ((S_l4Letter k a0).bind fun w5 =>
    some w5))
    (fun o4 => some o4))
noncomputable def S_IsToken_b0 (k : Nat) : Nat → (List UInt8) → Int → Option (Oc (Unit) (Bool))
 | 0, _, _ => none
 | n + 1, x0, x3 =>
  (bif (decide (x3 < (x0.length : Int))) then ((idx x0 x3).bind fun c1 =>
  ((S_l4Token k (UInt8.toNat c1 : Int)).bind fun w2 =>
  (bif (!w2) then some (.oth (false))
  else S_IsToken_b0 k n x0 (IntKind.wrap .i64 (x3 + (1 : Int))))))
  else some (.nrm ()))
noncomputable def S_IsToken (k : Nat) (a0 : List UInt8) : Option (Bool) :=
    ((S_IsToken_b0 k k a0 (0 : Int)).bind fun o3 =>
    oc o3 (fun o4 => ((S_l1In k (a0.length : Int) (1 : Int) (40 : Int)).bind fun w6 =>
    some w6))
    (fun o5 => some o5))
noncomputable def S_LowerText_c18 (k : Nat) (x4 : Int) (x18 : Bool) (r3 : List Int) : Option ((List Int)) :=
    (bif x18 then ((idx r3 x4).bind fun _ =>
    ((idx r3 x4).bind fun e3 =>
    ((idx r3 x4).bind fun _ =>
    ((idx r3 x4).bind fun e4 =>
    some (((r3).set (x4).toNat (IntKind.wrap .u8 (e3 + (32 : Int)))))))))
    else some (r3))
noncomputable def S_LowerText_b1 (k : Nat) (x4 : Int) (r3 : List Int) : Option ((List Int)) :=
    ((idx r3 x4).bind fun _ =>
    ((idx r3 x4).bind fun e1 =>
    ((S_l1In k (IntKind.wrap .i64 e1) (65 : Int) (90 : Int)).bind fun w2 =>
    ((S_LowerText_c18 k x4 w2 r3).bind fun o3 =>
    some (o3)))))
noncomputable def S_LowerText_b0 (k : Nat) : Nat → Int → (List Int) → Option ((List Int))
 | 0, _, _ => none
 | n + 1, x4, r3 =>
  (bif (decide (x4 < (r3.length : Int))) then ((S_LowerText_b1 k x4 r3).bind fun o1 =>
  S_LowerText_b0 k n (IntKind.wrap .i64 (x4 + (1 : Int))) o1)
  else some (r3))
noncomputable def S_LowerText (k : Nat) (a0 : List UInt8) : Option ((List UInt8)) :=
    ((S_LowerText_b0 k k (0 : Int) (intsOf a0)).bind fun o2 =>
    some (bytesOf o2))
noncomputable def S_l5Name (k : Nat) (a0 : List UInt8) : Option (Bool) :=
    ((S_IsToken k a0).bind fun w1 =>
    (bif w1 then ((S_LowerText k a0).bind fun w2 =>
    some (w2 == a0)) else some false))
noncomputable def S_SplitTarget_b0 (k : Nat) : Nat → (List UInt8) → Int → Option (Oc (Unit) ((List UInt8) × (List UInt8) × Bool))
 | 0, _, _ => none
 | n + 1, x0, x5 =>
  (bif (decide (x5 < (x0.length : Int))) then ((idx x0 x5).bind fun c1 =>
  (bif ((UInt8.toNat c1 : Int) == (63 : Int)) then ((ssub x0 (0 : Int) x5).bind fun t2 =>
  ((ssub x0 (IntKind.wrap .i64 (x5 + (1 : Int))) (x0.length : Int)).bind fun t3 =>
  some (.oth ((t2, t3, true)))))
  else S_SplitTarget_b0 k n x0 (IntKind.wrap .i64 (x5 + (1 : Int)))))
  else some (.nrm ()))
noncomputable def S_SplitTarget (k : Nat) (a0 : List UInt8) : Option ((List UInt8) × (List UInt8) × Bool) :=
    ((S_SplitTarget_b0 k k a0 (0 : Int)).bind fun o4 =>
    oc o4 (fun o5 => some (a0, ([] : List UInt8), false))
    (fun o6 => some o6))
noncomputable def S_l12Hex (k : Nat) (a0 : Int) : Option (Int) :=
    ((S_l1In k (IntKind.wrap .i64 a0) (48 : Int) (57 : Int)).bind fun w1 =>
    (bif w1 then some (IntKind.wrap .i64 (IntKind.wrap .u8 (a0 - (48 : Int))))
    else ((S_l1In k (IntKind.wrap .i64 a0) (97 : Int) (102 : Int)).bind fun w2 =>
    (bif w2 then some (IntKind.wrap .i64 ((IntKind.wrap .i64 (IntKind.wrap .u8 (a0 - (97 : Int)))) + (10 : Int)))
    else ((S_l1In k (IntKind.wrap .i64 a0) (65 : Int) (70 : Int)).bind fun w3 =>
    (bif w3 then some (IntKind.wrap .i64 ((IntKind.wrap .i64 (IntKind.wrap .u8 (a0 - (65 : Int)))) + (10 : Int)))
    else some (-1 : Int)))))))
noncomputable def S_l12Plain_c75 (k : Nat) (x0 : List UInt8) (x5 : Int) (x6 : Int) (x75 : Bool) (r4 : List Int) : Option ((List Int)) :=
    (bif x75 then ((app 1 r4 ([x6] : List Int)).bind fun u13 =>
    some (u13))
    else ((shrI .u8 x6 (4 : Int)).bind fun q14 =>
    ((idx ([48, 49, 50, 51, 52, 53, 54, 55, 56, 57, 65, 66, 67, 68, 69, 70] : List UInt8) q14).bind fun c15 =>
    ((idx ([48, 49, 50, 51, 52, 53, 54, 55, 56, 57, 65, 66, 67, 68, 69, 70] : List UInt8) (andI .u8 x6 (15 : Int))).bind fun c16 =>
    ((app 1 r4 ([(37 : Int), (UInt8.toNat c15 : Int), (UInt8.toNat c16 : Int)] : List Int)).bind fun u17 =>
    some (u17))))))
noncomputable def S_l12Plain_b1 (k : Nat) (x0 : List UInt8) (x5 : Int) (r4 : List Int) : Option (Oc (Int × (List Int)) ((List UInt8) × Bool)) :=
    ((idx x0 x5).bind fun c1 =>
    (bif ((UInt8.toNat c1 : Int) != (37 : Int)) then ((idx x0 x5).bind fun c2 =>
    ((app 1 r4 ([(UInt8.toNat c2 : Int)] : List Int)).bind fun u3 =>
    some (.nrm (x5, u3))))
    else (bif (decide ((IntKind.wrap .i64 (x5 + (2 : Int))) ≥ (x0.length : Int))) then some (.oth ((([] : List UInt8), false))) else ((idx x0 (IntKind.wrap .i64 (x5 + (1 : Int)))).bind fun c4 =>
    ((S_l12Hex k (UInt8.toNat c4 : Int)).bind fun w5 =>
    (bif (decide (w5 < (0 : Int))) then some (.oth ((([] : List UInt8), false))) else ((idx x0 (IntKind.wrap .i64 (x5 + (2 : Int)))).bind fun c6 =>
    ((S_l12Hex k (UInt8.toNat c6 : Int)).bind fun w7 =>
    (bif (decide (w7 < (0 : Int))) then some (.oth ((([] : List UInt8), false)))
    else ((idx x0 (IntKind.wrap .i64 (x5 + (1 : Int)))).bind fun c8 =>
    ((S_l12Hex k (UInt8.toNat c8 : Int)).bind fun w9 =>
    ((idx x0 (IntKind.wrap .i64 (x5 + (2 : Int)))).bind fun c10 =>
    ((S_l12Hex k (UInt8.toNat c10 : Int)).bind fun w11 =>
    ((S_l4Letter k (IntKind.wrap .u8 (IntKind.wrap .i64 ((IntKind.wrap .i64 ((16 : Int) * w9)) + w11)))).bind fun w12 =>
    (bif w12 then ((S_l12Plain_c75 k x0 x5 (IntKind.wrap .u8 (IntKind.wrap .i64 ((IntKind.wrap .i64 ((16 : Int) * w9)) + w11))) true r4).bind fun o13 =>
    some (.nrm ((IntKind.wrap .i64 (x5 + (2 : Int))), o13))) else (bif ((IntKind.wrap .u8 (IntKind.wrap .i64 ((IntKind.wrap .i64 ((16 : Int) * w9)) + w11))) == (45 : Int)) then ((S_l12Plain_c75 k x0 x5 (IntKind.wrap .u8 (IntKind.wrap .i64 ((IntKind.wrap .i64 ((16 : Int) * w9)) + w11))) true r4).bind fun o14 =>
    some (.nrm ((IntKind.wrap .i64 (x5 + (2 : Int))), o14))) else (bif ((IntKind.wrap .u8 (IntKind.wrap .i64 ((IntKind.wrap .i64 ((16 : Int) * w9)) + w11))) == (46 : Int)) then ((S_l12Plain_c75 k x0 x5 (IntKind.wrap .u8 (IntKind.wrap .i64 ((IntKind.wrap .i64 ((16 : Int) * w9)) + w11))) true r4).bind fun o15 =>
    some (.nrm ((IntKind.wrap .i64 (x5 + (2 : Int))), o15))) else (bif ((IntKind.wrap .u8 (IntKind.wrap .i64 ((IntKind.wrap .i64 ((16 : Int) * w9)) + w11))) == (95 : Int)) then ((S_l12Plain_c75 k x0 x5 (IntKind.wrap .u8 (IntKind.wrap .i64 ((IntKind.wrap .i64 ((16 : Int) * w9)) + w11))) true r4).bind fun o16 =>
    some (.nrm ((IntKind.wrap .i64 (x5 + (2 : Int))), o16))) else ((S_l12Plain_c75 k x0 x5 (IntKind.wrap .u8 (IntKind.wrap .i64 ((IntKind.wrap .i64 ((16 : Int) * w9)) + w11))) ((IntKind.wrap .u8 (IntKind.wrap .i64 ((IntKind.wrap .i64 ((16 : Int) * w9)) + w11))) == (126 : Int)) r4).bind fun o17 =>
    some (.nrm ((IntKind.wrap .i64 (x5 + (2 : Int))), o17)))))))))))))))))))))
noncomputable def S_l12Plain_b0 (k : Nat) : Nat → (List UInt8) → Int → (List Int) → Option (Oc ((List Int)) ((List UInt8) × Bool))
 | 0, _, _, _ => none
 | n + 1, x0, x5, r4 =>
  (bif (decide (x5 < (x0.length : Int))) then ((S_l12Plain_b1 k x0 x5 r4).bind fun o1 =>
  oc o1 (fun o2 => S_l12Plain_b0 k n x0 (IntKind.wrap .i64 (o2.1 + (1 : Int))) o2.2)
  (fun o3 => some (.oth (o3))))
  else some (.nrm r4))
noncomputable def S_l12Plain (k : Nat) (a0 : List UInt8) : Option ((List UInt8) × Bool) :=
    ((S_l12Plain_b0 k k a0 (0 : Int) ([] : List Int)).bind fun o4 =>
    oc o4 (fun o5 => some ((bytesOf o5), true))
    (fun o6 => some o6))
noncomputable def S_l12Split_c19 (k : Nat) (x0 : List UInt8) (x1 : Int) (x6 : Int) (x7 : Int) (x19 : Bool) (r5 : List (List UInt8)) : Option (Int × (List (List UInt8))) :=
    (bif x19 then ((ssub x0 x6 x7).bind fun t2 =>
    ((app 16 r5 ([t2] : List (List UInt8))).bind fun u3 =>
    some (((IntKind.wrap .i64 (x7 + (1 : Int))), u3))))
    else some ((x6, r5)))
noncomputable def S_l12Split_b1 (k : Nat) (x0 : List UInt8) (x1 : Int) (x6 : Int) (x7 : Int) (r5 : List (List UInt8)) : Option (Int × (List (List UInt8))) :=
    ((idx x0 x7).bind fun c1 =>
    ((S_l12Split_c19 k x0 x1 x6 x7 ((UInt8.toNat c1 : Int) == x1) r5).bind fun o2 =>
    some ((o2.1, o2.2))))
noncomputable def S_l12Split_b0 (k : Nat) : Nat → (List UInt8) → Int → Int → Int → (List (List UInt8)) → Option (Int × (List (List UInt8)))
 | 0, _, _, _, _, _ => none
 | n + 1, x0, x1, x6, x7, r5 =>
  (bif (decide (x7 < (x0.length : Int))) then ((S_l12Split_b1 k x0 x1 x6 x7 r5).bind fun o1 =>
  S_l12Split_b0 k n x0 x1 o1.1 (IntKind.wrap .i64 (x7 + (1 : Int))) o1.2)
  else some ((x6, r5)))
noncomputable def S_l12Split (k : Nat) (a0 : List UInt8) (a1 : Int) : Option ((List (List UInt8))) :=
    ((S_l12Split_b0 k k a0 a1 (0 : Int) (0 : Int) ([] : List (List UInt8))).bind fun o2 =>
    ((ssub a0 o2.1 (a0.length : Int)).bind fun t3 =>
    ((app 16 o2.2 ([t3] : List (List UInt8))).bind fun u4 =>
    some u4)))
noncomputable def S_l12Path_c40 (k : Nat) (x5 : Int) (x6 : Bool) (x40 : Bool) (r3 : List (List UInt8)) (r4 : List (List UInt8)) : Option (Bool × (List (List UInt8))) :=
    (bif x40 then ((idx r3 x5).bind fun _ =>
    ((idx r3 x5).bind fun e7 =>
    ((app 16 r4 ([e7] : List (List UInt8))).bind fun u8 =>
    some ((false, u8)))))
    else some ((x6, r4)))
noncomputable def S_l12Path_c24 (k : Nat) (x5 : Int) (x6 : Bool) (x24 : Bool) (r3 : List (List UInt8)) (r4 : List (List UInt8)) : Option (Bool × (List (List UInt8))) :=
    (bif x24 then ((ssub r4 (0 : Int) (IntKind.wrap .i64 ((r4.length : Int) - (1 : Int)))).bind fun t4 =>
    some ((x6, t4)))
    else ((idx r3 x5).bind fun _ =>
    ((idx r3 x5).bind fun e5 =>
    (bif (!(e5 == ([46] : List UInt8))) then ((idx r3 x5).bind fun _ =>
    ((idx r3 x5).bind fun e6 =>
    ((S_l12Path_c40 k x5 x6 (!(e6 == ([46, 46] : List UInt8))) r3 r4).bind fun o7 =>
    some ((o7.1, o7.2))))) else ((S_l12Path_c40 k x5 x6 false r3 r4).bind fun o8 =>
    some ((o8.1, o8.2)))))))
noncomputable def S_l12Path_b2 (k : Nat) (x5 : Int) (x6 : Bool) (r3 : List (List UInt8)) (r4 : List (List UInt8)) : Option (Bool × (List (List UInt8))) :=
    ((idx r3 x5).bind fun _ =>
    ((idx r3 x5).bind fun e3 =>
    (bif (e3 == ([46, 46] : List UInt8)) then ((S_l12Path_c24 k x5 x6 (decide ((r4.length : Int) > (0 : Int))) r3 r4).bind fun o4 =>
    some ((o4.1, o4.2))) else ((S_l12Path_c24 k x5 x6 false r3 r4).bind fun o5 =>
    some ((o5.1, o5.2))))))
noncomputable def S_l12Path_c60 (k : Nat) (x5 : Int) (x60 : Bool) (r3 : List (List UInt8)) (r4 : List (List UInt8)) : Option ((List (List UInt8))) :=
    (bif x60 then ((app 16 r4 ([([] : List UInt8)] : List (List UInt8))).bind fun u7 =>
    some (u7))
    else some (r4))
noncomputable def S_l12Path_b1 (k : Nat) (x5 : Int) (r3 : List (List UInt8)) (r4 : List (List UInt8)) : Option ((List (List UInt8))) :=
    ((S_l12Path_b2 k x5 (x5 == (IntKind.wrap .i64 ((r3.length : Int) - (1 : Int)))) r3 r4).bind fun o3 =>
    ((S_l12Path_c60 k x5 o3.1 r3 o3.2).bind fun o4 =>
    some (o4)))
noncomputable def S_l12Path_b0 (k : Nat) : Nat → Int → (List (List UInt8)) → (List (List UInt8)) → Option ((List (List UInt8)))
 | 0, _, _, _ => none
 | n + 1, x5, r3, r4 =>
  (bif (decide (x5 < (r3.length : Int))) then ((S_l12Path_b1 k x5 r3 r4).bind fun o3 =>
  S_l12Path_b0 k n (IntKind.wrap .i64 (x5 + (1 : Int))) r3 o3)
  else some (r4))
noncomputable def S_l12Path_b3 (k : Nat) : Nat → (List UInt8) → Int → (List (List UInt8)) → Option ((List UInt8))
 | 0, _, _, _ => none
 | n + 1, x7, x8, r4 =>
  (bif (decide (x8 < (r4.length : Int))) then ((cat x7 ([47] : List UInt8)).bind fun t5 =>
  ((idx r4 x8).bind fun _ =>
  ((idx r4 x8).bind fun e6 =>
  ((cat t5 e6).bind fun t7 =>
  S_l12Path_b3 k n t7 (IntKind.wrap .i64 (x8 + (1 : Int))) r4))))
  else some (x7))
noncomputable def S_l12Path (k : Nat) (a0 : List UInt8) : Option ((List UInt8)) :=
    ((ssub a0 (1 : Int) (a0.length : Int)).bind fun t1 =>
    ((S_l12Split k t1 (47 : Int)).bind fun w2 =>
    ((S_l12Path_b0 k k (0 : Int) w2 ([] : List (List UInt8))).bind fun o4 =>
    ((S_l12Path_b3 k k ([] : List UInt8) (0 : Int) o4).bind fun o8 =>
    some o8))))
noncomputable def S_l12Query_b2 (k : Nat) : Nat → Int → Int → (List (List UInt8)) → (List (List UInt8)) → Option (Int)
 | 0, _, _, _, _ => none
 | n + 1, x5, x6, r3, r4 =>
  (bif (decide (x6 > (0 : Int))) then ((idx r3 x5).bind fun _ =>
  ((idx r3 x5).bind fun e2 =>
  ((idx r4 (IntKind.wrap .i64 (x6 - (1 : Int)))).bind fun _ =>
  ((idx r4 (IntKind.wrap .i64 (x6 - (1 : Int)))).bind fun e3 =>
  (bif (Op.bytesLess e2 e3) then S_l12Query_b2 k n x5 (IntKind.wrap .i64 (x6 - (1 : Int))) r3 r4
  else some (x6)))))) else some (x6))
noncomputable def S_l12Query_c40 (k : Nat) (x5 : Int) (x6 : Int) (x40 : Bool) (r3 : List (List UInt8)) (r4 : List (List UInt8)) : Option ((List (List UInt8))) :=
    (bif x40 then ((ssub r4 (0 : Int) x6).bind fun t6 =>
    ((app 16 ([] : List (List UInt8)) t6).bind fun u7 =>
    ((idx r3 x5).bind fun _ =>
    ((idx r3 x5).bind fun e8 =>
    ((app 16 u7 ([e8] : List (List UInt8))).bind fun u9 =>
    ((ssub r4 x6 (r4.length : Int)).bind fun t10 =>
    ((app 16 u9 t10).bind fun u11 =>
    some (u11))))))))
    else some (r4))
noncomputable def S_l12Query_b1 (k : Nat) (x5 : Int) (r3 : List (List UInt8)) (r4 : List (List UInt8)) : Option ((List (List UInt8))) :=
    ((S_l12Query_b2 k k x5 (r4.length : Int) r3 r4).bind fun o2 =>
    ((idx r3 x5).bind fun _ =>
    ((idx r3 x5).bind fun e3 =>
    ((S_l12Query_c40 k x5 o2 (!(e3 == ([] : List UInt8))) r3 r4).bind fun o4 =>
    some (o4)))))
noncomputable def S_l12Query_b0 (k : Nat) : Nat → Int → (List (List UInt8)) → (List (List UInt8)) → Option ((List (List UInt8)))
 | 0, _, _, _ => none
 | n + 1, x5, r3, r4 =>
  (bif (decide (x5 < (r3.length : Int))) then ((S_l12Query_b1 k x5 r3 r4).bind fun o2 =>
  S_l12Query_b0 k n (IntKind.wrap .i64 (x5 + (1 : Int))) r3 o2)
  else some (r4))
noncomputable def S_l12Query_c63 (k : Nat) (x7 : List UInt8) (x8 : Int) (x63 : Bool) (r4 : List (List UInt8)) : Option ((List UInt8)) :=
    (bif x63 then ((cat x7 ([38] : List UInt8)).bind fun t4 =>
    some (t4))
    else some (x7))
noncomputable def S_l12Query_b5 (k : Nat) (x7 : List UInt8) (x8 : Int) (r4 : List (List UInt8)) : Option ((List UInt8)) :=
    ((S_l12Query_c63 k x7 x8 (decide (x8 > (0 : Int))) r4).bind fun o4 =>
    ((idx r4 x8).bind fun _ =>
    ((idx r4 x8).bind fun e5 =>
    ((cat o4 e5).bind fun t6 =>
    some (t6)))))
noncomputable def S_l12Query_b4 (k : Nat) : Nat → (List UInt8) → Int → (List (List UInt8)) → Option ((List UInt8))
 | 0, _, _, _ => none
 | n + 1, x7, x8, r4 =>
  (bif (decide (x8 < (r4.length : Int))) then ((S_l12Query_b5 k x7 x8 r4).bind fun o4 =>
  S_l12Query_b4 k n o4 (IntKind.wrap .i64 (x8 + (1 : Int))) r4)
  else some (x7))
noncomputable def S_l12Query (k : Nat) (a0 : List UInt8) : Option ((List UInt8)) :=
    ((S_l12Split k a0 (38 : Int)).bind fun w1 =>
    ((S_l12Query_b0 k k (0 : Int) w1 ([] : List (List UInt8))).bind fun o3 =>
    ((S_l12Query_b4 k k ([] : List UInt8) (0 : Int) o3).bind fun o5 =>
    some o5)))
noncomputable def S_NormalTarget_c50 (k : Nat) (x11 : List UInt8) (x12 : List UInt8) (x50 : Bool) : Option ((List UInt8)) :=
    (bif x50 then ((cat x11 ([63] : List UInt8)).bind fun t7 =>
    ((cat t7 x12).bind fun t8 =>
    some (t8)))
    else some (x11))
noncomputable def S_NormalTarget (k : Nat) (a0 : List UInt8) : Option ((List UInt8) × Bool) :=
    ((S_SplitTarget k a0).bind fun w1 =>
    ((S_l12Plain k w1.1).bind fun w2 =>
    ((S_l12Plain k w1.2.1).bind fun w3 =>
    (bif (!w2.2) then some (([] : List UInt8), false) else (bif (!w3.2) then some (([] : List UInt8), false) else (bif ((w2.1.length : Int) == (0 : Int)) then some (([] : List UInt8), false) else ((idx w2.1 (0 : Int)).bind fun c4 =>
    (bif ((UInt8.toNat c4 : Int) != (47 : Int)) then some (([] : List UInt8), false)
    else ((S_l12Path k w2.1).bind fun w5 =>
    ((S_l12Query k w3.1).bind fun w6 =>
    ((S_NormalTarget_c50 k w5 w6 (!(w6 == ([] : List UInt8)))).bind fun o9 =>
    some (o9, true))))))))))))
noncomputable def S_IsNormalTarget (k : Nat) (a0 : List UInt8) : Option (Bool) :=
    ((S_NormalTarget k a0).bind fun w1 =>
    (bif w1.2 then some (w1.1 == a0) else some false))
noncomputable def S_l4Blank (k : Nat) (a0 : Int) : Option (Bool) :=
    (bif (a0 == (32 : Int)) then some true else some (a0 == (9 : Int)))
noncomputable def S_TrimText_b0 (k : Nat) : Nat → (List UInt8) → Option ((List UInt8))
 | 0, _ => none
 | n + 1, x0 =>
  (bif (decide ((x0.length : Int) > (0 : Int))) then ((idx x0 (0 : Int)).bind fun c1 =>
  ((S_l4Blank k (UInt8.toNat c1 : Int)).bind fun w2 =>
  (bif w2 then ((ssub x0 (1 : Int) (x0.length : Int)).bind fun t3 =>
  S_TrimText_b0 k n t3)
  else some (x0)))) else some (x0))
noncomputable def S_TrimText_b2 (k : Nat) : Nat → (List UInt8) → Option ((List UInt8))
 | 0, _ => none
 | n + 1, x0 =>
  (bif (decide ((x0.length : Int) > (0 : Int))) then ((idx x0 (IntKind.wrap .i64 ((x0.length : Int) - (1 : Int)))).bind fun c5 =>
  ((S_l4Blank k (UInt8.toNat c5 : Int)).bind fun w6 =>
  (bif w6 then ((ssub x0 (0 : Int) (IntKind.wrap .i64 ((x0.length : Int) - (1 : Int)))).bind fun t7 =>
  S_TrimText_b2 k n t7)
  else some (x0)))) else some (x0))
noncomputable def S_TrimText (k : Nat) (a0 : List UInt8) : Option ((List UInt8)) :=
    ((S_TrimText_b0 k k a0).bind fun o4 =>
    ((S_TrimText_b2 k k o4).bind fun o8 =>
    some o8))
noncomputable def S_l5Value_b0 (k : Nat) : Nat → (List UInt8) → Int → Option (Oc (Unit) (Bool))
 | 0, _, _ => none
 | n + 1, x0, x3 =>
  (bif (decide (x3 < (x0.length : Int))) then ((idx x0 x3).bind fun c1 =>
  ((S_l1In k (IntKind.wrap .i64 (UInt8.toNat c1 : Int)) (32 : Int) (126 : Int)).bind fun w2 =>
  (bif (!w2) then ((idx x0 x3).bind fun c3 =>
  (bif ((UInt8.toNat c3 : Int) != (9 : Int)) then some (.oth (false))
  else S_l5Value_b0 k n x0 (IntKind.wrap .i64 (x3 + (1 : Int))))) else S_l5Value_b0 k n x0 (IntKind.wrap .i64 (x3 + (1 : Int))))))
  else some (.nrm ()))
noncomputable def S_l5Value (k : Nat) (a0 : List UInt8) : Option (Bool) :=
    ((S_l5Value_b0 k k a0 (0 : Int)).bind fun o4 =>
    oc o4 (fun o5 => (bif (decide ((a0.length : Int) ≤ (200 : Int))) then ((S_TrimText k a0).bind fun w7 =>
    some (w7 == a0)) else some false))
    (fun o6 => some o6))
noncomputable def S_l15Keys_b0 (k : Nat) : Nat → Int → (List (List UInt8)) → Option (Oc (Unit) (Bool))
 | 0, _, _ => none
 | n + 1, x4, r3 =>
  (bif (decide (x4 < (r3.length : Int))) then ((idx r3 x4).bind fun _ =>
  ((idx r3 x4).bind fun e2 =>
  ((S_IsToken k e2).bind fun w3 =>
  (bif (!w3) then some (.oth (false))
  else S_l15Keys_b0 k n (IntKind.wrap .i64 (x4 + (1 : Int))) r3))))
  else some (.nrm ()))
noncomputable def S_l15Keys (k : Nat) (a0 : List UInt8) : Option (Bool) :=
    (bif (a0 == ([] : List UInt8)) then some true
    else ((S_l12Split k a0 (32 : Int)).bind fun w1 =>
    ((S_l15Keys_b0 k k (0 : Int) w1).bind fun o4 =>
    oc o4 (fun o5 => some (decide ((w1.length : Int) ≤ (4 : Int))))
    (fun o6 => some o6))))
noncomputable def S_l15Resource_b2 (k : Nat) : Nat → Int → Int → (List UInt8) → (List UInt8) → (List UInt8) → Bool → (List (List UInt8)) → (List IVersion) → Option (Oc (Unit) (Bool))
 | 0, _, _, _, _, _, _, _, _ => none
 | n + 1, x3, x4, y1_0, y1_1, y1_2, y1_3, y1_4, y1_5 =>
  (bif (decide (x4 < x3)) then ((idx y1_4 x4).bind fun e1 =>
  ((idx y1_4 x3).bind fun e2 =>
  (bif (e1 == e2) then some (.oth (false))
  else S_l15Resource_b2 k n x3 (IntKind.wrap .i64 (x4 + (1 : Int))) y1_0 y1_1 y1_2 y1_3 y1_4 y1_5)))
  else some (.nrm ()))
noncomputable def S_l15Resource_b0 (k : Nat) : Nat → Int → (List UInt8) → (List UInt8) → (List UInt8) → Bool → (List (List UInt8)) → (List IVersion) → Option (Oc (Unit) (Bool))
 | 0, _, _, _, _, _, _, _ => none
 | n + 1, x3, y1_0, y1_1, y1_2, y1_3, y1_4, y1_5 =>
  (bif (decide (x3 < (y1_4.length : Int))) then ((S_l15Resource_b2 k k x3 (0 : Int) y1_0 y1_1 y1_2 y1_3 y1_4 y1_5).bind fun o1 =>
  oc o1 (fun o2 => ((idx y1_4 x3).bind fun e4 =>
  ((S_l5Name k e4).bind fun w5 =>
  (bif (!w5) then some (.oth (false)) else ((idx y1_4 x3).bind fun e6 =>
  (bif (decide ((e6.length : Int) > (8 : Int))) then some (.oth (false)) else ((idx y1_4 x3).bind fun e7 =>
  (bif (e7 == ([42] : List UInt8)) then some (.oth (false))
  else S_l15Resource_b0 k n (IntKind.wrap .i64 (x3 + (1 : Int))) y1_0 y1_1 y1_2 y1_3 y1_4 y1_5))))))))
  (fun o3 => some (.oth (o3))))
  else some (.nrm ()))
noncomputable def S_l15Resource_b4 (k : Nat) : Nat → Int → (List UInt8) → (List UInt8) → (List UInt8) → Bool → (List (List UInt8)) → (List IVersion) → Option (Oc (Unit) (Bool))
 | 0, _, _, _, _, _, _, _ => none
 | n + 1, x5, y1_0, y1_1, y1_2, y1_3, y1_4, y1_5 =>
  (bif (decide (x5 < (y1_5.length : Int))) then ((idx y1_5 x5).bind fun e11 =>
  ((S_l1In k e11.At (0 : Int) (4102444799 : Int)).bind fun w12 =>
  (bif (!w12) then some (.oth (false)) else (bif (decide ((e11.Text.length : Int) > (400 : Int))) then some (.oth (false)) else (bif (decide (x5 > (0 : Int))) then ((idx y1_5 (IntKind.wrap .i64 (x5 - (1 : Int)))).bind fun e13 =>
  (bif (decide (e13.At ≥ e11.At)) then some (.oth (false))
  else S_l15Resource_b4 k n (IntKind.wrap .i64 (x5 + (1 : Int))) y1_0 y1_1 y1_2 y1_3 y1_4 y1_5)) else S_l15Resource_b4 k n (IntKind.wrap .i64 (x5 + (1 : Int))) y1_0 y1_1 y1_2 y1_3 y1_4 y1_5)))))
  else some (.nrm ()))
noncomputable def S_l15Resource (k : Nat) (a0 : IResource) : Option (Bool) :=
    ((S_l15Resource_b0 k k (0 : Int) a0.Target a0.Control a0.Keys a0.Private a0.Langs a0.Versions).bind fun o8 =>
    oc o8 (fun o9 => ((S_l15Resource_b4 k k (0 : Int) a0.Target a0.Control a0.Keys a0.Private a0.Langs a0.Versions).bind fun o14 =>
    oc o14 (fun o15 => ((S_IsNormalTarget k a0.Target).bind fun w17 =>
    (bif w17 then (bif (decide ((a0.Target.length : Int) ≤ (100 : Int))) then ((S_l5Value k a0.Control).bind fun w18 =>
    (bif w18 then (bif (decide ((a0.Control.length : Int) ≤ (150 : Int))) then ((S_l15Keys k a0.Keys).bind fun w19 =>
    (bif w19 then (bif (decide ((a0.Langs.length : Int) ≤ (4 : Int))) then ((S_l1In k (a0.Versions.length : Int) (1 : Int) (8 : Int)).bind fun w20 =>
    some w20) else some false) else some false)) else some false) else some false)) else some false) else some false)))
    (fun o16 => some o16)))
    (fun o10 => some o10))
noncomputable def S_JoinList_c12 (k : Nat) (x0 : List (List UInt8)) (x3 : List UInt8) (x4 : Int) (x12 : Bool) : Option ((List UInt8)) :=
    (bif x12 then ((cat x3 ([44, 32] : List UInt8)).bind fun t1 =>
    some (t1))
    else some (x3))
noncomputable def S_JoinList_b1 (k : Nat) (x0 : List (List UInt8)) (x3 : List UInt8) (x4 : Int) : Option ((List UInt8)) :=
    ((S_JoinList_c12 k x0 x3 x4 (decide (x4 > (0 : Int)))).bind fun o1 =>
    ((idx x0 x4).bind fun e2 =>
    ((cat o1 e2).bind fun t3 =>
    some (t3))))
noncomputable def S_JoinList_b0 (k : Nat) : Nat → (List (List UInt8)) → (List UInt8) → Int → Option ((List UInt8))
 | 0, _, _, _ => none
 | n + 1, x0, x3, x4 =>
  (bif (decide (x4 < (x0.length : Int))) then ((S_JoinList_b1 k x0 x3 x4).bind fun o1 =>
  S_JoinList_b0 k n x0 o1 (IntKind.wrap .i64 (x4 + (1 : Int))))
  else some (x3))
noncomputable def S_JoinList (k : Nat) (a0 : List (List UInt8)) : Option ((List UInt8)) :=
    ((S_JoinList_b0 k k a0 ([] : List UInt8) (0 : Int)).bind fun o2 =>
    some o2)
noncomputable def S_GetField_c21 (k : Nat) (x0 : List IField) (x1 : List UInt8) (x7 : Int) (x21 : Bool) (r6 : List (List UInt8)) : Option ((List (List UInt8))) :=
    (bif x21 then ((idx x0 x7).bind fun e2 =>
    ((app 16 r6 ([e2.Value] : List (List UInt8))).bind fun u3 =>
    some (u3)))
    else some (r6))
noncomputable def S_GetField_b1 (k : Nat) (x0 : List IField) (x1 : List UInt8) (x7 : Int) (r6 : List (List UInt8)) : Option ((List (List UInt8))) :=
    ((idx x0 x7).bind fun e1 =>
    ((S_GetField_c21 k x0 x1 x7 (e1.Name == x1) r6).bind fun o2 =>
    some (o2)))
noncomputable def S_GetField_b0 (k : Nat) : Nat → (List IField) → (List UInt8) → Int → (List (List UInt8)) → Option ((List (List UInt8)))
 | 0, _, _, _, _ => none
 | n + 1, x0, x1, x7, r6 =>
  (bif (decide (x7 < (x0.length : Int))) then ((S_GetField_b1 k x0 x1 x7 r6).bind fun o1 =>
  S_GetField_b0 k n x0 x1 (IntKind.wrap .i64 (x7 + (1 : Int))) o1)
  else some (r6))
noncomputable def S_GetField (k : Nat) (a0 : List IField) (a1 : List UInt8) : Option ((List UInt8) × Bool) :=
    ((S_GetField_b0 k k a0 a1 (0 : Int) ([] : List (List UInt8))).bind fun o2 =>
    ((S_JoinList k o2).bind fun w3 =>
    some (w3, (decide ((o2.length : Int) > (0 : Int))))))
noncomputable def S_AreFields_b0 (k : Nat) : Nat → (List IField) → Int → Option (Oc (Unit) (Bool))
 | 0, _, _ => none
 | n + 1, x0, x3 =>
  (bif (decide (x3 < (x0.length : Int))) then ((idx x0 x3).bind fun e1 =>
  ((S_l5Name k e1.Name).bind fun w2 =>
  (bif (!w2) then some (.oth (false)) else ((idx x0 x3).bind fun e3 =>
  ((S_l5Value k e3.Value).bind fun w4 =>
  (bif (!w4) then some (.oth (false))
  else S_AreFields_b0 k n x0 (IntKind.wrap .i64 (x3 + (1 : Int)))))))))
  else some (.nrm ()))
noncomputable def S_AreFields (k : Nat) (a0 : List IField) : Option (Bool) :=
    ((S_AreFields_b0 k k a0 (0 : Int)).bind fun o5 =>
    oc o5 (fun o6 => some (decide ((a0.length : Int) ≤ (24 : Int))))
    (fun o7 => some o7))
noncomputable def S_l11Fields (k : Nat) (a0 : List IField) : Option (Bool) :=
    ((S_GetField k a0 ([99, 111, 110, 116, 101, 110, 116, 45, 108, 101, 110, 103, 116, 104] : List UInt8)).bind fun w1 =>
    ((S_AreFields k a0).bind fun w2 =>
    (bif w2 then (bif (decide ((a0.length : Int) < (24 : Int))) then some (!w1.2) else some false) else some false)))
noncomputable def S_IsRequest_b0 (k : Nat) : Nat → Int → (List UInt8) → (List UInt8) → (List UInt8) → (List IField) → Option (Oc (Unit) (Bool))
 | 0, _, _, _, _, _ => none
 | n + 1, x3, y1_0, y1_1, y1_2, y1_3 =>
  (bif (decide (x3 < (y1_0.length : Int))) then ((idx y1_0 x3).bind fun c1 =>
  ((S_l1In k (IntKind.wrap .i64 (UInt8.toNat c1 : Int)) (97 : Int) (122 : Int)).bind fun w2 =>
  (bif w2 then some (.oth (false))
  else S_IsRequest_b0 k n (IntKind.wrap .i64 (x3 + (1 : Int))) y1_0 y1_1 y1_2 y1_3)))
  else some (.nrm ()))
noncomputable def S_IsRequest_b2 (k : Nat) : Nat → Int → (List UInt8) → (List UInt8) → (List UInt8) → (List IField) → Option (Oc (Unit) (Bool))
 | 0, _, _, _, _, _ => none
 | n + 1, x4, y1_0, y1_1, y1_2, y1_3 =>
  (bif (decide (x4 < (y1_1.length : Int))) then ((idx y1_1 x4).bind fun c6 =>
  ((S_l1In k (IntKind.wrap .i64 (UInt8.toNat c6 : Int)) (97 : Int) (122 : Int)).bind fun w7 =>
  (bif (!w7) then ((S_l1In k (IntKind.wrap .i64 (UInt8.toNat c6 : Int)) (48 : Int) (57 : Int)).bind fun w8 =>
  (bif (!w8) then (bif ((UInt8.toNat c6 : Int) != (45 : Int)) then (bif ((UInt8.toNat c6 : Int) != (46 : Int)) then some (.oth (false))
  else S_IsRequest_b2 k n (IntKind.wrap .i64 (x4 + (1 : Int))) y1_0 y1_1 y1_2 y1_3) else S_IsRequest_b2 k n (IntKind.wrap .i64 (x4 + (1 : Int))) y1_0 y1_1 y1_2 y1_3) else S_IsRequest_b2 k n (IntKind.wrap .i64 (x4 + (1 : Int))) y1_0 y1_1 y1_2 y1_3)) else S_IsRequest_b2 k n (IntKind.wrap .i64 (x4 + (1 : Int))) y1_0 y1_1 y1_2 y1_3)))
  else some (.nrm ()))
noncomputable def S_IsRequest_b4 (k : Nat) : Nat → Int → (List UInt8) → (List UInt8) → (List UInt8) → (List IField) → Option (Oc (Unit) (Bool))
 | 0, _, _, _, _, _ => none
 | n + 1, x6, y1_0, y1_1, y1_2, y1_3 =>
  (bif (decide (x6 < (y1_2.length : Int))) then ((idx y1_2 x6).bind fun c12 =>
  ((S_l1In k (IntKind.wrap .i64 (UInt8.toNat c12 : Int)) (33 : Int) (126 : Int)).bind fun w13 =>
  (bif (!w13) then some (.oth (false))
  else S_IsRequest_b4 k n (IntKind.wrap .i64 (x6 + (1 : Int))) y1_0 y1_1 y1_2 y1_3)))
  else some (.nrm ()))
noncomputable def S_IsRequest (k : Nat) (a0 : IRequest) : Option (Bool) :=
    ((S_IsRequest_b0 k k (0 : Int) a0.Method a0.Host a0.Target a0.Fields).bind fun o3 =>
    oc o3 (fun o4 => ((S_IsRequest_b2 k k (0 : Int) a0.Method a0.Host a0.Target a0.Fields).bind fun o9 =>
    oc o9 (fun o10 => ((S_IsRequest_b4 k k (0 : Int) a0.Method a0.Host a0.Target a0.Fields).bind fun o14 =>
    oc o14 (fun o15 => ((S_GetField k a0.Fields ([104, 111, 115, 116] : List UInt8)).bind fun w17 =>
    ((S_IsToken k a0.Method).bind fun w18 =>
    (bif w18 then ((S_l1In k (a0.Host.length : Int) (1 : Int) (40 : Int)).bind fun w19 =>
    (bif w19 then ((S_l1In k (a0.Target.length : Int) (1 : Int) (100 : Int)).bind fun w20 =>
    (bif w20 then ((idx a0.Target (0 : Int)).bind fun c21 =>
    (bif ((UInt8.toNat c21 : Int) == (47 : Int)) then ((S_l11Fields k a0.Fields).bind fun w22 =>
    (bif w22 then some (!w17.2) else some false)) else some false)) else some false)) else some false)) else some false))))
    (fun o16 => some o16)))
    (fun o11 => some o11)))
    (fun o5 => some o5))
noncomputable def S_IsOrigin_b0 (k : Nat) : Nat → Int → (List UInt8) → (List IResource) → Option (Oc (Unit) (Bool))
 | 0, _, _, _ => none
 | n + 1, x3, y1_0, y1_1 =>
  (bif (decide (x3 < (y1_1.length : Int))) then ((idx y1_1 x3).bind fun e1 =>
  ((S_l15Resource k e1).bind fun w2 =>
  (bif (!w2) then some (.oth (false)) else ((idx y1_1 x3).bind fun e3 =>
  ((S_FindResource k (⟨y1_0, y1_1⟩ : IOrigin) e3.Target).bind fun w4 =>
  (bif (w4 != x3) then some (.oth (false))
  else S_IsOrigin_b0 k n (IntKind.wrap .i64 (x3 + (1 : Int))) y1_0 y1_1))))))
  else some (.nrm ()))
noncomputable def S_IsOrigin (k : Nat) (a0 : IOrigin) : Option (Bool) :=
    ((S_IsOrigin_b0 k k (0 : Int) a0.Host a0.Resources).bind fun o5 =>
    oc o5 (fun o6 => (bif (decide ((a0.Resources.length : Int) ≤ (12 : Int))) then ((S_IsRequest k (⟨([71, 69, 84] : List UInt8), a0.Host, ([47] : List UInt8), []⟩ : IRequest)).bind fun w8 =>
    some w8) else some false))
    (fun o7 => some o7))
noncomputable def S_PublishPage (k : Nat) (a0 : IOrigin) (a1 : List UInt8) (a2 : IVersion) : Option (IOrigin × Bool) :=
    ((S_l15Copy k a0).bind fun w1 =>
    ((S_FindResource k a0 a1).bind fun w2 =>
    (bif (decide (w2 < (0 : Int))) then some (w1, false) else ((S_IsOrigin k a0).bind fun w3 =>
    (bif (!w3) then some (w1, false)
    else ((idx w1.Resources w2).bind fun _ =>
    ((idx w1.Resources w2).bind fun e4 =>
    ((app 32 e4.Versions ([a2] : List IVersion)).bind fun u5 =>
    ((idx w1.Resources w2).bind fun _ =>
    (guardT (w2 == w2) <| ((idx ((w1.Resources).set (w2).toNat (⟨e4.Target, e4.Control, e4.Keys, e4.Private, e4.Langs, u5⟩ : IResource)) w2).bind fun _ =>
    ((idx ((w1.Resources).set (w2).toNat (⟨e4.Target, e4.Control, e4.Keys, e4.Private, e4.Langs, u5⟩ : IResource)) w2).bind fun e6 =>
    ((S_l15Resource k e6).bind fun w7 =>
    (bif (!w7) then ((S_l15Copy k a0).bind fun w8 =>
    some (w8, false))
    else some ((⟨w1.Host, ((((w1.Resources).set (w2).toNat (⟨e4.Target, e4.Control, e4.Keys, e4.Private, e4.Langs, u5⟩ : IResource))).set (w2).toNat e6)⟩ : IOrigin), true)))))))))))))))
noncomputable def slices_Clone_string (k : Nat) (a0 : List (List UInt8)) : Option ((List (List UInt8))) :=
    app 16 [] a0
noncomputable def slices_Clone_IVersion (k : Nat) (a0 : List IVersion) : Option ((List IVersion)) :=
    app 32 [] a0
noncomputable def I_copyOrigin_b0 (k : Nat) : Nat → (List IResource) → Int → Int → (List UInt8) → (List UInt8) → (List IResource) → Option ((List IResource))
 | 0, _, _, _, _, _, _ => none
 | n + 1, x10, x11, x12, y2_0, y3_0, r100000301 =>
  (bif (decide (x12 < x11)) then ((idx x10 x12).bind fun e1 =>
  ((slices_Clone_string k e1.Langs).bind fun w2 =>
  ((slices_Clone_IVersion k e1.Versions).bind fun w3 =>
  ((app 104 r100000301 ([(⟨e1.Target, e1.Control, e1.Keys, e1.Private, w2, w3⟩ : IResource)] : List IResource)).bind fun u4 =>
  I_copyOrigin_b0 k n x10 x11 (IntKind.wrap .i64 (x12 + (1 : Int))) y2_0 y3_0 u4))))
  else some (r100000301))
noncomputable def I_copyOrigin (k : Nat) (a0 : IOrigin) : Option (IOrigin) :=
    ((I_copyOrigin_b0 k k a0.Resources (a0.Resources.length : Int) (0 : Int) ([] : List UInt8) a0.Host []).bind fun o5 =>
    some (⟨a0.Host, o5⟩ : IOrigin))
noncomputable def I_FindResource_1 (k : Nat) (a0 : IResource) (f0_0 : List UInt8) : Option (Bool) :=
    some (a0.Target == f0_0)
noncomputable def slices_IndexFunc_IResource_at_I_FindResource_1_b0 (k : Nat) : Nat → (List IResource) → (List UInt8) → Int → Int → Option (Oc (Unit) (Int))
 | 0, _, _, _, _ => none
 | n + 1, x0, x1_0_0, x7, x8 =>
  (bif (decide (x8 < x7)) then ((idx x0 x8).bind fun e1 =>
  ((I_FindResource_1 k e1 x1_0_0).bind fun w2 =>
  (bif w2 then some (.oth (x8))
  else slices_IndexFunc_IResource_at_I_FindResource_1_b0 k n x0 x1_0_0 x7 (IntKind.wrap .i64 (x8 + (1 : Int))))))
  else some (.nrm ()))
noncomputable def slices_IndexFunc_IResource_at_I_FindResource_1 (k : Nat) (a0 : List IResource) (a1_0_0 : List UInt8) : Option (Int) :=
    ((slices_IndexFunc_IResource_at_I_FindResource_1_b0 k k a0 a1_0_0 (a0.length : Int) (0 : Int)).bind fun o3 =>
    oc o3 (fun o4 => some (-1 : Int))
    (fun o5 => some o5))
noncomputable def I_FindResource (k : Nat) (a0 : IOrigin) (a1 : List UInt8) : Option (Int) :=
    ((slices_IndexFunc_IResource_at_I_FindResource_1 k a0.Resources a1).bind fun w1 =>
    some w1)
noncomputable def strings_IndexByte (k : Nat) (a0 : List UInt8) (a1 : Int) : Option (Int) :=
    indexByteO a0 a1
noncomputable def I_isTokenByte (k : Nat) (a0 : Int) : Option (Bool) :=
    (bif (decide (a0 ≥ (97 : Int))) then (bif (decide (a0 ≤ (122 : Int))) then some true else (bif (decide (a0 ≥ (65 : Int))) then (bif (decide (a0 ≤ (90 : Int))) then some true else (bif (decide (a0 ≥ (48 : Int))) then (bif (decide (a0 ≤ (57 : Int))) then some true else ((strings_IndexByte k ([33, 35, 36, 37, 38, 39, 42, 43, 45, 46, 94, 95, 124, 126] : List UInt8) a0).bind fun w1 =>
    (bif (decide (w1 ≥ (0 : Int))) then some true else some (a0 == (96 : Int))))) else ((strings_IndexByte k ([33, 35, 36, 37, 38, 39, 42, 43, 45, 46, 94, 95, 124, 126] : List UInt8) a0).bind fun w2 =>
    (bif (decide (w2 ≥ (0 : Int))) then some true else some (a0 == (96 : Int)))))) else (bif (decide (a0 ≥ (48 : Int))) then (bif (decide (a0 ≤ (57 : Int))) then some true else ((strings_IndexByte k ([33, 35, 36, 37, 38, 39, 42, 43, 45, 46, 94, 95, 124, 126] : List UInt8) a0).bind fun w3 =>
    (bif (decide (w3 ≥ (0 : Int))) then some true else some (a0 == (96 : Int))))) else ((strings_IndexByte k ([33, 35, 36, 37, 38, 39, 42, 43, 45, 46, 94, 95, 124, 126] : List UInt8) a0).bind fun w4 =>
    (bif (decide (w4 ≥ (0 : Int))) then some true else some (a0 == (96 : Int))))))) else (bif (decide (a0 ≥ (65 : Int))) then (bif (decide (a0 ≤ (90 : Int))) then some true else (bif (decide (a0 ≥ (48 : Int))) then (bif (decide (a0 ≤ (57 : Int))) then some true else ((strings_IndexByte k ([33, 35, 36, 37, 38, 39, 42, 43, 45, 46, 94, 95, 124, 126] : List UInt8) a0).bind fun w5 =>
    (bif (decide (w5 ≥ (0 : Int))) then some true else some (a0 == (96 : Int))))) else ((strings_IndexByte k ([33, 35, 36, 37, 38, 39, 42, 43, 45, 46, 94, 95, 124, 126] : List UInt8) a0).bind fun w6 =>
    (bif (decide (w6 ≥ (0 : Int))) then some true else some (a0 == (96 : Int)))))) else (bif (decide (a0 ≥ (48 : Int))) then (bif (decide (a0 ≤ (57 : Int))) then some true else ((strings_IndexByte k ([33, 35, 36, 37, 38, 39, 42, 43, 45, 46, 94, 95, 124, 126] : List UInt8) a0).bind fun w7 =>
    (bif (decide (w7 ≥ (0 : Int))) then some true else some (a0 == (96 : Int))))) else ((strings_IndexByte k ([33, 35, 36, 37, 38, 39, 42, 43, 45, 46, 94, 95, 124, 126] : List UInt8) a0).bind fun w8 =>
    (bif (decide (w8 ≥ (0 : Int))) then some true else some (a0 == (96 : Int)))))))
noncomputable def I_inRange (k : Nat) (a0 : Int) (a1 : Int) (a2 : Int) : Option (Bool) :=
    (bif (decide (a1 ≤ a0)) then some (decide (a0 ≤ a2)) else some false)
noncomputable def I_IsToken_b0 (k : Nat) : Nat → (List UInt8) → Int → Int → Option (Oc (Unit) (Bool))
 | 0, _, _, _ => none
 | n + 1, x0, x5, x6 =>
  (bif (decide (x6 < x5)) then ((idx x0 x6).bind fun c1 =>
  ((I_isTokenByte k (UInt8.toNat c1 : Int)).bind fun w2 =>
  (bif (!w2) then some (.oth (false))
  else I_IsToken_b0 k n x0 x5 (IntKind.wrap .i64 (x6 + (1 : Int))))))
  else some (.nrm ()))
noncomputable def I_IsToken (k : Nat) (a0 : List UInt8) : Option (Bool) :=
    ((I_IsToken_b0 k k a0 (a0.length : Int) (0 : Int)).bind fun o3 =>
    oc o3 (fun o4 => ((I_inRange k (a0.length : Int) (1 : Int) (40 : Int)).bind fun w6 =>
    some w6))
    (fun o5 => some o5))
noncomputable def strings_ToUpper (k : Nat) (a0 : List UInt8) : Option ((List UInt8)) :=
    toUpperO a0
noncomputable def I_isHost_b0 (k : Nat) : Nat → (List UInt8) → Int → Int → Option (Oc (Unit) (Bool))
 | 0, _, _, _ => none
 | n + 1, x0, x6, x7 =>
  (bif (decide (x7 < x6)) then ((idx x0 x7).bind fun c1 =>
  (bif (decide ((UInt8.toNat c1 : Int) ≥ (97 : Int))) then (bif (decide ((UInt8.toNat c1 : Int) ≤ (122 : Int))) then (bif (!true) then some (.oth (false))
  else I_isHost_b0 k n x0 x6 (IntKind.wrap .i64 (x7 + (1 : Int)))) else (bif (decide ((UInt8.toNat c1 : Int) ≥ (48 : Int))) then (bif (decide ((UInt8.toNat c1 : Int) ≤ (57 : Int))) then (bif (!true) then some (.oth (false))
  else I_isHost_b0 k n x0 x6 (IntKind.wrap .i64 (x7 + (1 : Int)))) else (bif ((UInt8.toNat c1 : Int) == (45 : Int)) then (bif (!true) then some (.oth (false))
  else I_isHost_b0 k n x0 x6 (IntKind.wrap .i64 (x7 + (1 : Int)))) else (bif (!((UInt8.toNat c1 : Int) == (46 : Int))) then some (.oth (false))
  else I_isHost_b0 k n x0 x6 (IntKind.wrap .i64 (x7 + (1 : Int)))))) else (bif ((UInt8.toNat c1 : Int) == (45 : Int)) then (bif (!true) then some (.oth (false))
  else I_isHost_b0 k n x0 x6 (IntKind.wrap .i64 (x7 + (1 : Int)))) else (bif (!((UInt8.toNat c1 : Int) == (46 : Int))) then some (.oth (false))
  else I_isHost_b0 k n x0 x6 (IntKind.wrap .i64 (x7 + (1 : Int))))))) else (bif (decide ((UInt8.toNat c1 : Int) ≥ (48 : Int))) then (bif (decide ((UInt8.toNat c1 : Int) ≤ (57 : Int))) then (bif (!true) then some (.oth (false))
  else I_isHost_b0 k n x0 x6 (IntKind.wrap .i64 (x7 + (1 : Int)))) else (bif ((UInt8.toNat c1 : Int) == (45 : Int)) then (bif (!true) then some (.oth (false))
  else I_isHost_b0 k n x0 x6 (IntKind.wrap .i64 (x7 + (1 : Int)))) else (bif (!((UInt8.toNat c1 : Int) == (46 : Int))) then some (.oth (false))
  else I_isHost_b0 k n x0 x6 (IntKind.wrap .i64 (x7 + (1 : Int)))))) else (bif ((UInt8.toNat c1 : Int) == (45 : Int)) then (bif (!true) then some (.oth (false))
  else I_isHost_b0 k n x0 x6 (IntKind.wrap .i64 (x7 + (1 : Int)))) else (bif (!((UInt8.toNat c1 : Int) == (46 : Int))) then some (.oth (false))
  else I_isHost_b0 k n x0 x6 (IntKind.wrap .i64 (x7 + (1 : Int))))))))
  else some (.nrm ()))
noncomputable def I_isHost (k : Nat) (a0 : List UInt8) : Option (Bool) :=
    ((I_isHost_b0 k k a0 (a0.length : Int) (0 : Int)).bind fun o2 =>
    oc o2 (fun o3 => ((I_inRange k (a0.length : Int) (1 : Int) (40 : Int)).bind fun w5 =>
    some w5))
    (fun o4 => some o4))
noncomputable def I_LowerText_c20 (k : Nat) (x4 : Int) (x5 : Int) (x9 : Int) (x10 : Int) (x20 : Bool) (r8 : List Int) : Option ((List Int)) :=
    (bif x20 then ((idx r8 x4).bind fun _ =>
    ((idx r8 x4).bind fun e2 =>
    some (((r8).set (x4).toNat (IntKind.wrap .u8 (x5 + (32 : Int)))))))
    else some (r8))
noncomputable def I_LowerText_b1 (k : Nat) (x9 : Int) (x10 : Int) (r8 : List Int) : Option ((List Int)) :=
    ((idx r8 x10).bind fun _ =>
    ((idx r8 x10).bind fun e1 =>
    (bif (decide (e1 ≥ (65 : Int))) then ((I_LowerText_c20 k x10 e1 x9 x10 (decide (e1 ≤ (90 : Int))) r8).bind fun o2 =>
    some (o2)) else ((I_LowerText_c20 k x10 e1 x9 x10 false r8).bind fun o3 =>
    some (o3)))))
noncomputable def I_LowerText_b0 (k : Nat) : Nat → Int → Int → (List Int) → Option ((List Int))
 | 0, _, _, _ => none
 | n + 1, x9, x10, r8 =>
  (bif (decide (x10 < x9)) then ((I_LowerText_b1 k x9 x10 r8).bind fun o1 =>
  I_LowerText_b0 k n x9 (IntKind.wrap .i64 (x10 + (1 : Int))) o1)
  else some (r8))
noncomputable def I_LowerText (k : Nat) (a0 : List UInt8) : Option ((List UInt8)) :=
    ((I_LowerText_b0 k k ((intsOf a0).length : Int) (0 : Int) (intsOf a0)).bind fun o2 =>
    some (bytesOf o2))
noncomputable def strings_Trim (k : Nat) (a0 : List UInt8) (a1 : List UInt8) : Option ((List UInt8)) :=
    trimO a0 a1
noncomputable def I_TrimText (k : Nat) (a0 : List UInt8) : Option ((List UInt8)) :=
    ((strings_Trim k a0 ([32, 9] : List UInt8)).bind fun w1 =>
    some w1)
noncomputable def I_isFieldValue_b0 (k : Nat) : Nat → (List UInt8) → Int → Int → Option (Oc (Unit) (Bool))
 | 0, _, _, _ => none
 | n + 1, x0, x5, x6 =>
  (bif (decide (x6 < x5)) then ((idx x0 x6).bind fun c1 =>
  (bif ((UInt8.toNat c1 : Int) != (9 : Int)) then ((idx x0 x6).bind fun c2 =>
  ((I_inRange k (IntKind.wrap .i64 (UInt8.toNat c2 : Int)) (32 : Int) (126 : Int)).bind fun w3 =>
  (bif (!w3) then some (.oth (false))
  else I_isFieldValue_b0 k n x0 x5 (IntKind.wrap .i64 (x6 + (1 : Int)))))) else I_isFieldValue_b0 k n x0 x5 (IntKind.wrap .i64 (x6 + (1 : Int)))))
  else some (.nrm ()))
noncomputable def I_isFieldValue (k : Nat) (a0 : List UInt8) : Option (Bool) :=
    ((I_isFieldValue_b0 k k a0 (a0.length : Int) (0 : Int)).bind fun o4 =>
    oc o4 (fun o5 => (bif (decide ((a0.length : Int) ≤ (200 : Int))) then ((I_TrimText k a0).bind fun w7 =>
    some (w7 == a0)) else some false))
    (fun o6 => some o6))
noncomputable def I_AreFields_b0 (k : Nat) : Nat → (List IField) → (List IField) → Int → Int → Option (Oc (Unit) (Bool))
 | 0, _, _, _, _ => none
 | n + 1, x0, x5, x6, x7 =>
  (bif (decide (x7 < x6)) then ((idx x5 x7).bind fun e1 =>
  ((I_IsToken k e1.Name).bind fun w2 =>
  (bif (!w2) then some (.oth (false)) else ((I_LowerText k e1.Name).bind fun w3 =>
  (bif (!(w3 == e1.Name)) then some (.oth (false)) else ((I_isFieldValue k e1.Value).bind fun w4 =>
  (bif (!w4) then some (.oth (false))
  else I_AreFields_b0 k n x0 x5 x6 (IntKind.wrap .i64 (x7 + (1 : Int))))))))))
  else some (.nrm ()))
noncomputable def I_AreFields (k : Nat) (a0 : List IField) : Option (Bool) :=
    ((I_AreFields_b0 k k a0 a0 (a0.length : Int) (0 : Int)).bind fun o5 =>
    oc o5 (fun o6 => some (decide ((a0.length : Int) ≤ (24 : Int))))
    (fun o7 => some o7))
noncomputable def I_hasField_1 (k : Nat) (a0 : IField) (f0_0 : List UInt8) : Option (Bool) :=
    some (a0.Name == f0_0)
noncomputable def slices_IndexFunc_IField_at_I_hasField_1_b0 (k : Nat) : Nat → (List IField) → (List UInt8) → Int → Int → Option (Oc (Unit) (Int))
 | 0, _, _, _, _ => none
 | n + 1, x0, x1_0_0, x7, x8 =>
  (bif (decide (x8 < x7)) then ((idx x0 x8).bind fun e1 =>
  ((I_hasField_1 k e1 x1_0_0).bind fun w2 =>
  (bif w2 then some (.oth (x8))
  else slices_IndexFunc_IField_at_I_hasField_1_b0 k n x0 x1_0_0 x7 (IntKind.wrap .i64 (x8 + (1 : Int))))))
  else some (.nrm ()))
noncomputable def slices_IndexFunc_IField_at_I_hasField_1 (k : Nat) (a0 : List IField) (a1_0_0 : List UInt8) : Option (Int) :=
    ((slices_IndexFunc_IField_at_I_hasField_1_b0 k k a0 a1_0_0 (a0.length : Int) (0 : Int)).bind fun o3 =>
    oc o3 (fun o4 => some (-1 : Int))
    (fun o5 => some o5))
noncomputable def slices_ContainsFunc_IField_at_I_hasField_1 (k : Nat) (a0 : List IField) (a1_0_0 : List UInt8) : Option (Bool) :=
    ((slices_IndexFunc_IField_at_I_hasField_1 k a0 a1_0_0).bind fun w1 =>
    some (decide (w1 ≥ (0 : Int))))
noncomputable def I_hasField (k : Nat) (a0 : List IField) (a1 : List UInt8) : Option (Bool) :=
    ((slices_ContainsFunc_IField_at_I_hasField_1 k a0 a1).bind fun w1 =>
    some w1)
noncomputable def I_IsRequest_b0 (k : Nat) : Nat → Int → Int → (List UInt8) → (List UInt8) → (List UInt8) → (List IField) → Option (Oc (Unit) (Bool))
 | 0, _, _, _, _, _, _ => none
 | n + 1, x37, x38, y1_0, y1_1, y1_2, y1_3 =>
  (bif (decide (x38 < x37)) then ((idx y1_2 x38).bind fun c6 =>
  ((I_inRange k (IntKind.wrap .i64 (UInt8.toNat c6 : Int)) (33 : Int) (126 : Int)).bind fun w7 =>
  (bif (!w7) then some (.oth (false))
  else I_IsRequest_b0 k n x37 (IntKind.wrap .i64 (x38 + (1 : Int))) y1_0 y1_1 y1_2 y1_3)))
  else some (.nrm ()))
noncomputable def I_IsRequest (k : Nat) (a0 : IRequest) : Option (Bool) :=
    ((I_IsToken k a0.Method).bind fun w1 =>
    (bif (!w1) then some false else ((strings_ToUpper k a0.Method).bind fun w2 =>
    (bif (!(w2 == a0.Method)) then some false else ((I_isHost k a0.Host).bind fun w3 =>
    (bif (!w3) then some false else ((I_inRange k (a0.Target.length : Int) (1 : Int) (100 : Int)).bind fun w4 =>
    (bif (!w4) then some false else ((idx a0.Target (0 : Int)).bind fun c5 =>
    (bif ((UInt8.toNat c5 : Int) != (47 : Int)) then some false
    else ((I_IsRequest_b0 k k (a0.Target.length : Int) (0 : Int) a0.Method a0.Host a0.Target a0.Fields).bind fun o8 =>
    oc o8 (fun o9 => ((I_AreFields k a0.Fields).bind fun w11 =>
    (bif w11 then (bif (decide ((a0.Fields.length : Int) < (24 : Int))) then ((I_hasField k a0.Fields ([104, 111, 115, 116] : List UInt8)).bind fun w12 =>
    (bif (!w12) then ((I_hasField k a0.Fields ([99, 111, 110, 116, 101, 110, 116, 45, 108, 101, 110, 103, 116, 104] : List UInt8)).bind fun w13 =>
    some (!w13)) else some false)) else some false) else some false)))
    (fun o10 => some o10))))))))))))
noncomputable def strings_Cut (k : Nat) (a0 : List UInt8) (a1 : List UInt8) : Option ((List UInt8) × (List UInt8) × Bool) :=
    cutO a0 a1
noncomputable def I_SplitTarget (k : Nat) (a0 : List UInt8) : Option ((List UInt8) × (List UInt8) × Bool) :=
    ((strings_Cut k a0 ([63] : List UInt8)).bind fun w1 =>
    some (w1.1, w1.2.1, w1.2.2))
noncomputable def I_hexDigit_c8 (k : Nat) (x0 : Int) (x8 : Bool) : Option (Int) :=
    (bif x8 then some ((IntKind.wrap .u8 (x0 - (32 : Int))))
    else some (x0))
noncomputable def I_hexDigit (k : Nat) (a0 : Int) : Option (Int) :=
    (bif (decide (a0 ≥ (97 : Int))) then ((I_hexDigit_c8 k a0 (decide (a0 ≤ (102 : Int)))).bind fun o1 =>
    ((strings_IndexByte k ([48, 49, 50, 51, 52, 53, 54, 55, 56, 57, 65, 66, 67, 68, 69, 70] : List UInt8) o1).bind fun w2 =>
    some w2)) else ((I_hexDigit_c8 k a0 false).bind fun o3 =>
    ((strings_IndexByte k ([48, 49, 50, 51, 52, 53, 54, 55, 56, 57, 65, 66, 67, 68, 69, 70] : List UInt8) o3).bind fun w4 =>
    some w4)))
noncomputable def I_decodedTarget_c88 (k : Nat) (x0 : List UInt8) (x5 : Int) (x6 : Int) (x7 : Int) (x8 : Int) (x88 : Bool) (r4 : List Int) : Option ((List Int)) :=
    (bif x88 then ((app 1 r4 ([x8] : List Int)).bind fun u12 =>
    some (u12))
    else ((idx ([48, 49, 50, 51, 52, 53, 54, 55, 56, 57, 65, 66, 67, 68, 69, 70] : List UInt8) x6).bind fun c13 =>
    ((idx ([48, 49, 50, 51, 52, 53, 54, 55, 56, 57, 65, 66, 67, 68, 69, 70] : List UInt8) x7).bind fun c14 =>
    ((app 1 r4 ([(37 : Int), (UInt8.toNat c13 : Int), (UInt8.toNat c14 : Int)] : List Int)).bind fun u15 =>
    some (u15)))))
noncomputable def I_decodedTarget_b1 (k : Nat) (x0 : List UInt8) (x5 : Int) (r4 : List Int) : Option (Oc (Int × (List Int)) ((List UInt8) × Bool)) :=
    ((idx x0 x5).bind fun c1 =>
    (bif ((UInt8.toNat c1 : Int) != (37 : Int)) then ((idx x0 x5).bind fun c2 =>
    ((app 1 r4 ([(UInt8.toNat c2 : Int)] : List Int)).bind fun u3 =>
    some (.nrm (x5, u3))))
    else (bif (decide ((IntKind.wrap .i64 (x5 + (2 : Int))) ≥ (x0.length : Int))) then some (.oth ((([] : List UInt8), false))) else ((idx x0 (IntKind.wrap .i64 (x5 + (1 : Int)))).bind fun c4 =>
    ((I_hexDigit k (UInt8.toNat c4 : Int)).bind fun w5 =>
    (bif (decide (w5 < (0 : Int))) then some (.oth ((([] : List UInt8), false))) else ((idx x0 (IntKind.wrap .i64 (x5 + (2 : Int)))).bind fun c6 =>
    ((I_hexDigit k (UInt8.toNat c6 : Int)).bind fun w7 =>
    (bif (decide (w7 < (0 : Int))) then some (.oth ((([] : List UInt8), false)))
    else ((idx x0 (IntKind.wrap .i64 (x5 + (1 : Int)))).bind fun c8 =>
    ((I_hexDigit k (UInt8.toNat c8 : Int)).bind fun w9 =>
    ((idx x0 (IntKind.wrap .i64 (x5 + (2 : Int)))).bind fun c10 =>
    ((I_hexDigit k (UInt8.toNat c10 : Int)).bind fun w11 =>
    (bif (decide ((IntKind.wrap .u8 (IntKind.wrap .i64 ((IntKind.wrap .i64 ((16 : Int) * w9)) + w11))) ≥ (97 : Int))) then (bif (decide ((IntKind.wrap .u8 (IntKind.wrap .i64 ((IntKind.wrap .i64 ((16 : Int) * w9)) + w11))) ≤ (122 : Int))) then ((I_decodedTarget_c88 k x0 x5 w9 w11 (IntKind.wrap .u8 (IntKind.wrap .i64 ((IntKind.wrap .i64 ((16 : Int) * w9)) + w11))) true r4).bind fun o12 =>
    some (.nrm ((IntKind.wrap .i64 (x5 + (2 : Int))), o12))) else (bif (decide ((IntKind.wrap .u8 (IntKind.wrap .i64 ((IntKind.wrap .i64 ((16 : Int) * w9)) + w11))) ≥ (65 : Int))) then (bif (decide ((IntKind.wrap .u8 (IntKind.wrap .i64 ((IntKind.wrap .i64 ((16 : Int) * w9)) + w11))) ≤ (90 : Int))) then ((I_decodedTarget_c88 k x0 x5 w9 w11 (IntKind.wrap .u8 (IntKind.wrap .i64 ((IntKind.wrap .i64 ((16 : Int) * w9)) + w11))) true r4).bind fun o13 =>
    some (.nrm ((IntKind.wrap .i64 (x5 + (2 : Int))), o13))) else (bif (decide ((IntKind.wrap .u8 (IntKind.wrap .i64 ((IntKind.wrap .i64 ((16 : Int) * w9)) + w11))) ≥ (48 : Int))) then (bif (decide ((IntKind.wrap .u8 (IntKind.wrap .i64 ((IntKind.wrap .i64 ((16 : Int) * w9)) + w11))) ≤ (57 : Int))) then ((I_decodedTarget_c88 k x0 x5 w9 w11 (IntKind.wrap .u8 (IntKind.wrap .i64 ((IntKind.wrap .i64 ((16 : Int) * w9)) + w11))) true r4).bind fun o14 =>
    some (.nrm ((IntKind.wrap .i64 (x5 + (2 : Int))), o14))) else ((strings_IndexByte k ([45, 46, 95, 126] : List UInt8) (IntKind.wrap .u8 (IntKind.wrap .i64 ((IntKind.wrap .i64 ((16 : Int) * w9)) + w11)))).bind fun w15 =>
    ((I_decodedTarget_c88 k x0 x5 w9 w11 (IntKind.wrap .u8 (IntKind.wrap .i64 ((IntKind.wrap .i64 ((16 : Int) * w9)) + w11))) (decide (w15 ≥ (0 : Int))) r4).bind fun o16 =>
    some (.nrm ((IntKind.wrap .i64 (x5 + (2 : Int))), o16))))) else ((strings_IndexByte k ([45, 46, 95, 126] : List UInt8) (IntKind.wrap .u8 (IntKind.wrap .i64 ((IntKind.wrap .i64 ((16 : Int) * w9)) + w11)))).bind fun w17 =>
    ((I_decodedTarget_c88 k x0 x5 w9 w11 (IntKind.wrap .u8 (IntKind.wrap .i64 ((IntKind.wrap .i64 ((16 : Int) * w9)) + w11))) (decide (w17 ≥ (0 : Int))) r4).bind fun o18 =>
    some (.nrm ((IntKind.wrap .i64 (x5 + (2 : Int))), o18)))))) else (bif (decide ((IntKind.wrap .u8 (IntKind.wrap .i64 ((IntKind.wrap .i64 ((16 : Int) * w9)) + w11))) ≥ (48 : Int))) then (bif (decide ((IntKind.wrap .u8 (IntKind.wrap .i64 ((IntKind.wrap .i64 ((16 : Int) * w9)) + w11))) ≤ (57 : Int))) then ((I_decodedTarget_c88 k x0 x5 w9 w11 (IntKind.wrap .u8 (IntKind.wrap .i64 ((IntKind.wrap .i64 ((16 : Int) * w9)) + w11))) true r4).bind fun o19 =>
    some (.nrm ((IntKind.wrap .i64 (x5 + (2 : Int))), o19))) else ((strings_IndexByte k ([45, 46, 95, 126] : List UInt8) (IntKind.wrap .u8 (IntKind.wrap .i64 ((IntKind.wrap .i64 ((16 : Int) * w9)) + w11)))).bind fun w20 =>
    ((I_decodedTarget_c88 k x0 x5 w9 w11 (IntKind.wrap .u8 (IntKind.wrap .i64 ((IntKind.wrap .i64 ((16 : Int) * w9)) + w11))) (decide (w20 ≥ (0 : Int))) r4).bind fun o21 =>
    some (.nrm ((IntKind.wrap .i64 (x5 + (2 : Int))), o21))))) else ((strings_IndexByte k ([45, 46, 95, 126] : List UInt8) (IntKind.wrap .u8 (IntKind.wrap .i64 ((IntKind.wrap .i64 ((16 : Int) * w9)) + w11)))).bind fun w22 =>
    ((I_decodedTarget_c88 k x0 x5 w9 w11 (IntKind.wrap .u8 (IntKind.wrap .i64 ((IntKind.wrap .i64 ((16 : Int) * w9)) + w11))) (decide (w22 ≥ (0 : Int))) r4).bind fun o23 =>
    some (.nrm ((IntKind.wrap .i64 (x5 + (2 : Int))), o23))))))) else (bif (decide ((IntKind.wrap .u8 (IntKind.wrap .i64 ((IntKind.wrap .i64 ((16 : Int) * w9)) + w11))) ≥ (65 : Int))) then (bif (decide ((IntKind.wrap .u8 (IntKind.wrap .i64 ((IntKind.wrap .i64 ((16 : Int) * w9)) + w11))) ≤ (90 : Int))) then ((I_decodedTarget_c88 k x0 x5 w9 w11 (IntKind.wrap .u8 (IntKind.wrap .i64 ((IntKind.wrap .i64 ((16 : Int) * w9)) + w11))) true r4).bind fun o24 =>
    some (.nrm ((IntKind.wrap .i64 (x5 + (2 : Int))), o24))) else (bif (decide ((IntKind.wrap .u8 (IntKind.wrap .i64 ((IntKind.wrap .i64 ((16 : Int) * w9)) + w11))) ≥ (48 : Int))) then (bif (decide ((IntKind.wrap .u8 (IntKind.wrap .i64 ((IntKind.wrap .i64 ((16 : Int) * w9)) + w11))) ≤ (57 : Int))) then ((I_decodedTarget_c88 k x0 x5 w9 w11 (IntKind.wrap .u8 (IntKind.wrap .i64 ((IntKind.wrap .i64 ((16 : Int) * w9)) + w11))) true r4).bind fun o25 =>
    some (.nrm ((IntKind.wrap .i64 (x5 + (2 : Int))), o25))) else ((strings_IndexByte k ([45, 46, 95, 126] : List UInt8) (IntKind.wrap .u8 (IntKind.wrap .i64 ((IntKind.wrap .i64 ((16 : Int) * w9)) + w11)))).bind fun w26 =>
    ((I_decodedTarget_c88 k x0 x5 w9 w11 (IntKind.wrap .u8 (IntKind.wrap .i64 ((IntKind.wrap .i64 ((16 : Int) * w9)) + w11))) (decide (w26 ≥ (0 : Int))) r4).bind fun o27 =>
    some (.nrm ((IntKind.wrap .i64 (x5 + (2 : Int))), o27))))) else ((strings_IndexByte k ([45, 46, 95, 126] : List UInt8) (IntKind.wrap .u8 (IntKind.wrap .i64 ((IntKind.wrap .i64 ((16 : Int) * w9)) + w11)))).bind fun w28 =>
    ((I_decodedTarget_c88 k x0 x5 w9 w11 (IntKind.wrap .u8 (IntKind.wrap .i64 ((IntKind.wrap .i64 ((16 : Int) * w9)) + w11))) (decide (w28 ≥ (0 : Int))) r4).bind fun o29 =>
    some (.nrm ((IntKind.wrap .i64 (x5 + (2 : Int))), o29)))))) else (bif (decide ((IntKind.wrap .u8 (IntKind.wrap .i64 ((IntKind.wrap .i64 ((16 : Int) * w9)) + w11))) ≥ (48 : Int))) then (bif (decide ((IntKind.wrap .u8 (IntKind.wrap .i64 ((IntKind.wrap .i64 ((16 : Int) * w9)) + w11))) ≤ (57 : Int))) then ((I_decodedTarget_c88 k x0 x5 w9 w11 (IntKind.wrap .u8 (IntKind.wrap .i64 ((IntKind.wrap .i64 ((16 : Int) * w9)) + w11))) true r4).bind fun o30 =>
    some (.nrm ((IntKind.wrap .i64 (x5 + (2 : Int))), o30))) else ((strings_IndexByte k ([45, 46, 95, 126] : List UInt8) (IntKind.wrap .u8 (IntKind.wrap .i64 ((IntKind.wrap .i64 ((16 : Int) * w9)) + w11)))).bind fun w31 =>
    ((I_decodedTarget_c88 k x0 x5 w9 w11 (IntKind.wrap .u8 (IntKind.wrap .i64 ((IntKind.wrap .i64 ((16 : Int) * w9)) + w11))) (decide (w31 ≥ (0 : Int))) r4).bind fun o32 =>
    some (.nrm ((IntKind.wrap .i64 (x5 + (2 : Int))), o32))))) else ((strings_IndexByte k ([45, 46, 95, 126] : List UInt8) (IntKind.wrap .u8 (IntKind.wrap .i64 ((IntKind.wrap .i64 ((16 : Int) * w9)) + w11)))).bind fun w33 =>
    ((I_decodedTarget_c88 k x0 x5 w9 w11 (IntKind.wrap .u8 (IntKind.wrap .i64 ((IntKind.wrap .i64 ((16 : Int) * w9)) + w11))) (decide (w33 ≥ (0 : Int))) r4).bind fun o34 =>
    some (.nrm ((IntKind.wrap .i64 (x5 + (2 : Int))), o34))))))))))))))))))))
noncomputable def I_decodedTarget_b0 (k : Nat) : Nat → (List UInt8) → Int → (List Int) → Option (Oc ((List Int)) ((List UInt8) × Bool))
 | 0, _, _, _ => none
 | n + 1, x0, x5, r4 =>
  (bif (decide (x5 < (x0.length : Int))) then ((I_decodedTarget_b1 k x0 x5 r4).bind fun o1 =>
  oc o1 (fun o2 => I_decodedTarget_b0 k n x0 (IntKind.wrap .i64 (o2.1 + (1 : Int))) o2.2)
  (fun o3 => some (.oth (o3))))
  else some (.nrm r4))
noncomputable def I_decodedTarget (k : Nat) (a0 : List UInt8) : Option ((List UInt8) × Bool) :=
    ((I_decodedTarget_b0 k k a0 (0 : Int) ([] : List Int)).bind fun o4 =>
    oc o4 (fun o5 => some ((bytesOf o5), true))
    (fun o6 => some o6))
noncomputable def internal_stringslite_HasPrefix (k : Nat) (a0 : List UInt8) (a1 : List UInt8) : Option (Bool) :=
    (bif (decide ((a0.length : Int) ≥ (a1.length : Int))) then ((ssub a0 (0 : Int) (a1.length : Int)).bind fun t1 =>
    some (t1 == a1)) else some false)
noncomputable def strings_HasPrefix (k : Nat) (a0 : List UInt8) (a1 : List UInt8) : Option (Bool) :=
    ((internal_stringslite_HasPrefix k a0 a1).bind fun w1 =>
    some w1)
noncomputable def strings_Split (k : Nat) (a0 : List UInt8) (a1 : List UInt8) : Option ((List (List UInt8))) :=
    splitO a0 a1
noncomputable def I_cleanComponents_c20 (k : Nat) (x0 : List (List UInt8)) (x4 : Int) (x5 : List UInt8) (x7 : List (List UInt8)) (x8 : Int) (x9 : Int) (x20 : Bool) (r3 : List (List UInt8)) : Option ((List (List UInt8))) :=
    (bif x20 then ((ssub r3 (0 : Int) (IntKind.wrap .i64 ((r3.length : Int) - (1 : Int)))).bind fun t2 =>
    some (t2))
    else some (r3))
noncomputable def I_cleanComponents_c37 (k : Nat) (x0 : List (List UInt8)) (x7 : List (List UInt8)) (x8 : Int) (x9 : Int) (x37 : Bool) (r3 : List (List UInt8)) : Option ((List (List UInt8))) :=
    (bif x37 then ((app 16 r3 ([([] : List UInt8)] : List (List UInt8))).bind fun u5 =>
    some (u5))
    else some (r3))
noncomputable def I_cleanComponents_c26 (k : Nat) (x0 : List (List UInt8)) (x4 : Int) (x5 : List UInt8) (x7 : List (List UInt8)) (x8 : Int) (x9 : Int) (x26 : Bool) (r3 : List (List UInt8)) : Option ((List (List UInt8))) :=
    (bif x26 then ((app 16 r3 ([x5] : List (List UInt8))).bind fun u4 =>
    some (u4))
    else ((I_cleanComponents_c37 k x0 x7 x8 x9 (x4 == (IntKind.wrap .i64 ((x0.length : Int) - (1 : Int)))) r3).bind fun o5 =>
    some (o5)))
noncomputable def I_cleanComponents_b2 (k : Nat) (x0 : List (List UInt8)) (x4 : Int) (x5 : List UInt8) (x7 : List (List UInt8)) (x8 : Int) (x9 : Int) (r3 : List (List UInt8)) : Option ((List (List UInt8))) :=
    (bif (!(x5 == ([46] : List UInt8))) then ((I_cleanComponents_c26 k x0 x4 x5 x7 x8 x9 (!(x5 == ([46, 46] : List UInt8))) r3).bind fun o4 =>
    some (o4)) else ((I_cleanComponents_c26 k x0 x4 x5 x7 x8 x9 false r3).bind fun o5 =>
    some (o5)))
noncomputable def I_cleanComponents_b1 (k : Nat) (x0 : List (List UInt8)) (x7 : List (List UInt8)) (x8 : Int) (x9 : Int) (r3 : List (List UInt8)) : Option ((List (List UInt8))) :=
    ((idx x7 x9).bind fun e1 =>
    (bif (e1 == ([46, 46] : List UInt8)) then ((I_cleanComponents_c20 k x0 x9 e1 x7 x8 x9 (decide ((r3.length : Int) > (0 : Int))) r3).bind fun o2 =>
    ((I_cleanComponents_b2 k x0 x9 e1 x7 x8 x9 o2).bind fun o3 =>
    some (o3))) else ((I_cleanComponents_c20 k x0 x9 e1 x7 x8 x9 false r3).bind fun o4 =>
    ((I_cleanComponents_b2 k x0 x9 e1 x7 x8 x9 o4).bind fun o5 =>
    some (o5)))))
noncomputable def I_cleanComponents_b0 (k : Nat) : Nat → (List (List UInt8)) → (List (List UInt8)) → Int → Int → (List (List UInt8)) → Option ((List (List UInt8)))
 | 0, _, _, _, _, _ => none
 | n + 1, x0, x7, x8, x9, r3 =>
  (bif (decide (x9 < x8)) then ((I_cleanComponents_b1 k x0 x7 x8 x9 r3).bind fun o1 =>
  I_cleanComponents_b0 k n x0 x7 x8 (IntKind.wrap .i64 (x9 + (1 : Int))) o1)
  else some (r3))
noncomputable def I_cleanComponents (k : Nat) (a0 : List (List UInt8)) : Option ((List (List UInt8))) :=
    ((I_cleanComponents_b0 k k a0 a0 (a0.length : Int) (0 : Int) ([] : List (List UInt8))).bind fun o2 =>
    some o2)
noncomputable def strings_Join (k : Nat) (a0 : List (List UInt8)) (a1 : List UInt8) : Option ((List UInt8)) :=
    joinO a0 a1
noncomputable def I_NormalTarget_1 (k : Nat) (a0 : List UInt8) : Option (Bool) :=
    some (a0 == ([] : List UInt8))
noncomputable def slices_IndexFunc_string_at_I_NormalTarget_1_b0 (k : Nat) : Nat → (List (List UInt8)) → Int → Int → Option (Oc (Unit) (Int))
 | 0, _, _, _ => none
 | n + 1, x0, x7, x8 =>
  (bif (decide (x8 < x7)) then ((idx x0 x8).bind fun e1 =>
  ((I_NormalTarget_1 k e1).bind fun w2 =>
  (bif w2 then some (.oth (x8))
  else slices_IndexFunc_string_at_I_NormalTarget_1_b0 k n x0 x7 (IntKind.wrap .i64 (x8 + (1 : Int))))))
  else some (.nrm ()))
noncomputable def slices_IndexFunc_string_at_I_NormalTarget_1 (k : Nat) (a0 : List (List UInt8)) : Option (Int) :=
    ((slices_IndexFunc_string_at_I_NormalTarget_1_b0 k k a0 (a0.length : Int) (0 : Int)).bind fun o3 =>
    oc o3 (fun o4 => some (-1 : Int))
    (fun o5 => some o5))
noncomputable def slices_DeleteFunc_string_at_I_NormalTarget_1_c29 (k : Nat) (x5 : Int) (x6 : Int) (x7 : List UInt8) (x29 : Bool) (r0 : List (List UInt8)) : Option (Int × (List (List UInt8))) :=
    (bif x29 then ((idx r0 x5).bind fun _ =>
    ((idx r0 x5).bind fun e4 =>
    some (((IntKind.wrap .i64 (x5 + (1 : Int))), ((r0).set (x5).toNat x7)))))
    else some ((x5, r0)))
noncomputable def slices_DeleteFunc_string_at_I_NormalTarget_1_b1 (k : Nat) (x5 : Int) (x6 : Int) (r0 : List (List UInt8)) : Option (Int × (List (List UInt8))) :=
    ((idx r0 x6).bind fun _ =>
    ((idx r0 x6).bind fun e2 =>
    ((I_NormalTarget_1 k e2).bind fun w3 =>
    ((slices_DeleteFunc_string_at_I_NormalTarget_1_c29 k x5 x6 e2 (!w3) r0).bind fun o4 =>
    some ((o4.1, o4.2))))))
noncomputable def slices_DeleteFunc_string_at_I_NormalTarget_1_b0 (k : Nat) : Nat → Int → Int → (List (List UInt8)) → Option (Int × (List (List UInt8)))
 | 0, _, _, _ => none
 | n + 1, x5, x6, r0 =>
  (bif (decide (x6 < (r0.length : Int))) then ((slices_DeleteFunc_string_at_I_NormalTarget_1_b1 k x5 x6 r0).bind fun o2 =>
  slices_DeleteFunc_string_at_I_NormalTarget_1_b0 k n o2.1 (IntKind.wrap .i64 (x6 + (1 : Int))) o2.2)
  else some ((x5, r0)))
noncomputable def slices_DeleteFunc_string_at_I_NormalTarget_1 (k : Nat) (a0 : List (List UInt8)) : Option ((List (List UInt8))) :=
    ((slices_IndexFunc_string_at_I_NormalTarget_1 k a0).bind fun w1 =>
    (bif (w1 == (-1 : Int)) then some a0
    else ((slices_DeleteFunc_string_at_I_NormalTarget_1_b0 k k w1 (IntKind.wrap .i64 (w1 + (1 : Int))) a0).bind fun o3 =>
    ((ssub o3.2 o3.1 (o3.2.length : Int)).bind fun _ =>
    ((ssub (o3.2.take (Int.toNat o3.1) ++ List.replicate (o3.2.length - (Int.toNat o3.1)) ([] : List UInt8)) (0 : Int) o3.1).bind fun t5 =>
    some t5)))))
noncomputable def slices_Sort_string (k : Nat) (a0 : List (List UInt8)) : Option ((List (List UInt8))) :=
    sortO a0
noncomputable def I_NormalTarget_c51 (k : Nat) (x9 : List UInt8) (x51 : Bool) (r10 : List (List UInt8)) : Option ((List UInt8)) :=
    (bif x51 then ((strings_Join k r10 ([38] : List UInt8)).bind fun w13 =>
    ((cat ([63] : List UInt8) w13).bind fun t14 =>
    ((cat x9 t14).bind fun t15 =>
    some (t15))))
    else some (x9))
noncomputable def I_NormalTarget (k : Nat) (a0 : List UInt8) : Option ((List UInt8) × Bool) :=
    ((I_SplitTarget k a0).bind fun w1 =>
    ((I_decodedTarget k w1.1).bind fun w2 =>
    ((I_decodedTarget k w1.2.1).bind fun w3 =>
    (bif (!w2.2) then some (([] : List UInt8), false) else (bif (!w3.2) then some (([] : List UInt8), false) else ((strings_HasPrefix k w2.1 ([47] : List UInt8)).bind fun w4 =>
    (bif (!w4) then some (([] : List UInt8), false)
    else ((ssub w2.1 (1 : Int) (w2.1.length : Int)).bind fun t5 =>
    ((strings_Split k t5 ([47] : List UInt8)).bind fun w6 =>
    ((I_cleanComponents k w6).bind fun w7 =>
    ((strings_Join k w7 ([47] : List UInt8)).bind fun w8 =>
    ((cat ([47] : List UInt8) w8).bind fun t9 =>
    ((strings_Split k w3.1 ([38] : List UInt8)).bind fun w10 =>
    ((slices_DeleteFunc_string_at_I_NormalTarget_1 k w10).bind fun w11 =>
    ((slices_Sort_string k w11).bind fun w12 =>
    ((I_NormalTarget_c51 k t9 (decide ((w12.length : Int) > (0 : Int))) w12).bind fun o16 =>
    some (o16, true)))))))))))))))))
noncomputable def I_IsNormalTarget (k : Nat) (a0 : List UInt8) : Option (Bool) :=
    ((I_NormalTarget k a0).bind fun w1 =>
    (bif w1.2 then some (w1.1 == a0) else some false))
noncomputable def I_areKeys_1 (k : Nat) (a0 : List UInt8) : Option (Bool) :=
    ((I_IsToken k a0).bind fun w1 =>
    some (!w1))
noncomputable def slices_IndexFunc_string_at_I_areKeys_1_b0 (k : Nat) : Nat → (List (List UInt8)) → Int → Int → Option (Oc (Unit) (Int))
 | 0, _, _, _ => none
 | n + 1, x0, x7, x8 =>
  (bif (decide (x8 < x7)) then ((idx x0 x8).bind fun e1 =>
  ((I_areKeys_1 k e1).bind fun w2 =>
  (bif w2 then some (.oth (x8))
  else slices_IndexFunc_string_at_I_areKeys_1_b0 k n x0 x7 (IntKind.wrap .i64 (x8 + (1 : Int))))))
  else some (.nrm ()))
noncomputable def slices_IndexFunc_string_at_I_areKeys_1 (k : Nat) (a0 : List (List UInt8)) : Option (Int) :=
    ((slices_IndexFunc_string_at_I_areKeys_1_b0 k k a0 (a0.length : Int) (0 : Int)).bind fun o3 =>
    oc o3 (fun o4 => some (-1 : Int))
    (fun o5 => some o5))
noncomputable def slices_ContainsFunc_string_at_I_areKeys_1 (k : Nat) (a0 : List (List UInt8)) : Option (Bool) :=
    ((slices_IndexFunc_string_at_I_areKeys_1 k a0).bind fun w1 =>
    some (decide (w1 ≥ (0 : Int))))
noncomputable def I_areKeys (k : Nat) (a0 : List UInt8) : Option (Bool) :=
    ((strings_Split k a0 ([32] : List UInt8)).bind fun w1 =>
    (bif (a0 == ([] : List UInt8)) then some true else (bif (decide ((w1.length : Int) ≤ (4 : Int))) then ((slices_ContainsFunc_string_at_I_areKeys_1 k w1).bind fun w2 =>
    some (!w2)) else some false)))
noncomputable def slices_Index_string_b0 (k : Nat) : Nat → (List (List UInt8)) → (List UInt8) → Int → Int → Option (Oc (Unit) (Int))
 | 0, _, _, _, _ => none
 | n + 1, x0, x1, x7, x8 =>
  (bif (decide (x8 < x7)) then ((idx x0 x8).bind fun e1 =>
  (bif (x1 == e1) then some (.oth (x8))
  else slices_Index_string_b0 k n x0 x1 x7 (IntKind.wrap .i64 (x8 + (1 : Int)))))
  else some (.nrm ()))
noncomputable def slices_Index_string (k : Nat) (a0 : List (List UInt8)) (a1 : List UInt8) : Option (Int) :=
    ((slices_Index_string_b0 k k a0 a1 (a0.length : Int) (0 : Int)).bind fun o2 =>
    oc o2 (fun o3 => some (-1 : Int))
    (fun o4 => some o4))
noncomputable def slices_Contains_string (k : Nat) (a0 : List (List UInt8)) (a1 : List UInt8) : Option (Bool) :=
    ((slices_Index_string k a0 a1).bind fun w1 =>
    some (decide (w1 ≥ (0 : Int))))
noncomputable def I_isResource_b0 (k : Nat) : Nat → (List (List UInt8)) → Int → Int → (List UInt8) → (List UInt8) → (List UInt8) → Bool → (List (List UInt8)) → (List IVersion) → Option (Oc (Unit) (Bool))
 | 0, _, _, _, _, _, _, _, _, _ => none
 | n + 1, x49, x50, x51, y1_0, y1_1, y1_2, y1_3, y1_4, y1_5 =>
  (bif (decide (x51 < x50)) then ((idx x49 x51).bind fun e5 =>
  ((I_IsToken k e5).bind fun w6 =>
  (bif (!w6) then some (.oth (false)) else ((I_LowerText k e5).bind fun w7 =>
  (bif (!(w7 == e5)) then some (.oth (false)) else (bif (decide ((e5.length : Int) > (8 : Int))) then some (.oth (false)) else (bif (e5 == ([42] : List UInt8)) then some (.oth (false)) else ((ssub y1_4 (0 : Int) x51).bind fun t8 =>
  ((slices_Contains_string k t8 e5).bind fun w9 =>
  (bif w9 then some (.oth (false))
  else I_isResource_b0 k n x49 x50 (IntKind.wrap .i64 (x51 + (1 : Int))) y1_0 y1_1 y1_2 y1_3 y1_4 y1_5))))))))))
  else some (.nrm ()))
noncomputable def I_isResource_b2 (k : Nat) : Nat → (List IVersion) → Int → Int → (List UInt8) → (List UInt8) → (List UInt8) → Bool → (List (List UInt8)) → (List IVersion) → Option (Oc (Unit) (Bool))
 | 0, _, _, _, _, _, _, _, _, _ => none
 | n + 1, x84, x85, x86, y1_0, y1_1, y1_2, y1_3, y1_4, y1_5 =>
  (bif (decide (x86 < x85)) then ((idx x84 x86).bind fun e13 =>
  ((I_inRange k e13.At (0 : Int) (4102444799 : Int)).bind fun w14 =>
  (bif (!w14) then some (.oth (false)) else (bif (decide (x86 > (0 : Int))) then ((idx y1_5 (IntKind.wrap .i64 (x86 - (1 : Int)))).bind fun e15 =>
  (bif (decide (e15.At ≥ e13.At)) then some (.oth (false)) else (bif (decide ((e13.Text.length : Int) > (400 : Int))) then some (.oth (false))
  else I_isResource_b2 k n x84 x85 (IntKind.wrap .i64 (x86 + (1 : Int))) y1_0 y1_1 y1_2 y1_3 y1_4 y1_5))) else (bif (decide ((e13.Text.length : Int) > (400 : Int))) then some (.oth (false))
  else I_isResource_b2 k n x84 x85 (IntKind.wrap .i64 (x86 + (1 : Int))) y1_0 y1_1 y1_2 y1_3 y1_4 y1_5)))))
  else some (.nrm ()))
noncomputable def I_isResource (k : Nat) (a0 : IResource) : Option (Bool) :=
    ((I_IsNormalTarget k a0.Target).bind fun w1 =>
    (bif (!w1) then some false else (bif (decide ((a0.Target.length : Int) > (100 : Int))) then some false else ((I_isFieldValue k a0.Control).bind fun w2 =>
    (bif (!w2) then some false else (bif (decide ((a0.Control.length : Int) > (150 : Int))) then some false else ((I_areKeys k a0.Keys).bind fun w3 =>
    (bif (!w3) then some false else (bif (decide ((a0.Langs.length : Int) > (4 : Int))) then some false else ((I_inRange k (a0.Versions.length : Int) (1 : Int) (8 : Int)).bind fun w4 =>
    (bif (!w4) then some false
    else ((I_isResource_b0 k k a0.Langs (a0.Langs.length : Int) (0 : Int) a0.Target a0.Control a0.Keys a0.Private a0.Langs a0.Versions).bind fun o10 =>
    oc o10 (fun o11 => ((I_isResource_b2 k k a0.Versions (a0.Versions.length : Int) (0 : Int) a0.Target a0.Control a0.Keys a0.Private a0.Langs a0.Versions).bind fun o16 =>
    oc o16 (fun o17 => some true)
    (fun o18 => some o18)))
    (fun o12 => some o12)))))))))))))
noncomputable def I_IsOrigin_b0 (k : Nat) : Nat → (List IResource) → Int → Int → (List UInt8) → (List IResource) → Option (Oc (Unit) (Bool))
 | 0, _, _, _, _, _ => none
 | n + 1, x17, x18, x19, y1_0, y1_1 =>
  (bif (decide (x19 < x18)) then ((idx x17 x19).bind fun e2 =>
  ((I_FindResource k (⟨y1_0, y1_1⟩ : IOrigin) e2.Target).bind fun w3 =>
  (bif (w3 != x19) then some (.oth (false)) else ((I_isResource k e2).bind fun w4 =>
  (bif (!w4) then some (.oth (false))
  else I_IsOrigin_b0 k n x17 x18 (IntKind.wrap .i64 (x19 + (1 : Int))) y1_0 y1_1)))))
  else some (.nrm ()))
noncomputable def I_IsOrigin (k : Nat) (a0 : IOrigin) : Option (Bool) :=
    (bif (decide ((a0.Resources.length : Int) > (12 : Int))) then some false else ((I_IsRequest k (⟨([71, 69, 84] : List UInt8), a0.Host, ([47] : List UInt8), []⟩ : IRequest)).bind fun w1 =>
    (bif (!w1) then some false
    else ((I_IsOrigin_b0 k k a0.Resources (a0.Resources.length : Int) (0 : Int) a0.Host a0.Resources).bind fun o5 =>
    oc o5 (fun o6 => some true)
    (fun o7 => some o7)))))
noncomputable def I_PublishPage (k : Nat) (a0 : IOrigin) (a1 : List UInt8) (a2 : IVersion) : Option (IOrigin × Bool) :=
    ((I_copyOrigin k a0).bind fun w1 =>
    ((I_FindResource k a0 a1).bind fun w2 =>
    (bif (decide (w2 < (0 : Int))) then some (w1, false) else ((I_IsOrigin k a0).bind fun w3 =>
    (bif (!w3) then some (w1, false)
    else ((idx w1.Resources w2).bind fun _ =>
    ((idx w1.Resources w2).bind fun e4 =>
    ((app 32 e4.Versions ([a2] : List IVersion)).bind fun u5 =>
    ((idx w1.Resources w2).bind fun _ =>
    (guardT (w2 == w2) <| ((I_IsOrigin k (⟨w1.Host, ((w1.Resources).set (w2).toNat (⟨e4.Target, e4.Control, e4.Keys, e4.Private, e4.Langs, u5⟩ : IResource))⟩ : IOrigin)).bind fun w6 =>
    (bif (!w6) then ((I_copyOrigin k a0).bind fun w7 =>
    some (w7, false))
    else some ((⟨w1.Host, ((w1.Resources).set (w2).toNat (⟨e4.Target, e4.Control, e4.Keys, e4.Private, e4.Langs, u5⟩ : IResource))⟩ : IOrigin), true)))))))))))))
noncomputable def L_eqStringS_b0 (k : Nat) : Nat → (List (List UInt8)) → (List (List UInt8)) → Int → Option (Oc (Unit) (Bool))
 | 0, _, _, _ => none
 | n + 1, x0, x1, x5 =>
  (bif (decide (x5 < (x0.length : Int))) then ((idx x0 x5).bind fun e1 =>
  ((idx x1 x5).bind fun e2 =>
  (bif (!(e1 == e2)) then some (.oth (false))
  else L_eqStringS_b0 k n x0 x1 (IntKind.wrap .i64 (x5 + (1 : Int))))))
  else some (.nrm ()))
noncomputable def L_eqStringS (k : Nat) (a0 : List (List UInt8)) (a1 : List (List UInt8)) : Option (Bool) :=
    (bif ((a0.length : Int) != (a1.length : Int)) then some false
    else ((L_eqStringS_b0 k k a0 a1 (0 : Int)).bind fun o3 =>
    oc o3 (fun o4 => some true)
    (fun o5 => some o5)))
noncomputable def L_eqVersion (k : Nat) (a0 : IVersion) (a1 : IVersion) : Option (Bool) :=
    (bif (a0.At != a1.At) then some false
    else (bif (!(a0.Text == a1.Text)) then some false
    else (bif (!(a0.Gone == a1.Gone)) then some false
    else some true)))
noncomputable def L_eqVersionS_b0 (k : Nat) : Nat → (List IVersion) → (List IVersion) → Int → Option (Oc (Unit) (Bool))
 | 0, _, _, _ => none
 | n + 1, x0, x1, x5 =>
  (bif (decide (x5 < (x0.length : Int))) then ((idx x0 x5).bind fun e1 =>
  ((idx x1 x5).bind fun e2 =>
  ((L_eqVersion k e1 e2).bind fun w3 =>
  (bif (!w3) then some (.oth (false))
  else L_eqVersionS_b0 k n x0 x1 (IntKind.wrap .i64 (x5 + (1 : Int)))))))
  else some (.nrm ()))
noncomputable def L_eqVersionS (k : Nat) (a0 : List IVersion) (a1 : List IVersion) : Option (Bool) :=
    (bif ((a0.length : Int) != (a1.length : Int)) then some false
    else ((L_eqVersionS_b0 k k a0 a1 (0 : Int)).bind fun o4 =>
    oc o4 (fun o5 => some true)
    (fun o6 => some o6)))
noncomputable def L_eqResource (k : Nat) (a0 : IResource) (a1 : IResource) : Option (Bool) :=
    (bif (!(a0.Target == a1.Target)) then some false
    else (bif (!(a0.Control == a1.Control)) then some false
    else (bif (!(a0.Keys == a1.Keys)) then some false
    else (bif (!(a0.Private == a1.Private)) then some false
    else ((L_eqStringS k a0.Langs a1.Langs).bind fun w1 =>
    (bif (!w1) then some false
    else ((L_eqVersionS k a0.Versions a1.Versions).bind fun w2 =>
    (bif (!w2) then some false
    else some true))))))))
noncomputable def L_eqResourceS_b0 (k : Nat) : Nat → (List IResource) → (List IResource) → Int → Option (Oc (Unit) (Bool))
 | 0, _, _, _ => none
 | n + 1, x0, x1, x5 =>
  (bif (decide (x5 < (x0.length : Int))) then ((idx x0 x5).bind fun e1 =>
  ((idx x1 x5).bind fun e2 =>
  ((L_eqResource k e1 e2).bind fun w3 =>
  (bif (!w3) then some (.oth (false))
  else L_eqResourceS_b0 k n x0 x1 (IntKind.wrap .i64 (x5 + (1 : Int)))))))
  else some (.nrm ()))
noncomputable def L_eqResourceS (k : Nat) (a0 : List IResource) (a1 : List IResource) : Option (Bool) :=
    (bif ((a0.length : Int) != (a1.length : Int)) then some false
    else ((L_eqResourceS_b0 k k a0 a1 (0 : Int)).bind fun o4 =>
    oc o4 (fun o5 => some true)
    (fun o6 => some o6)))
noncomputable def L_eqOrigin (k : Nat) (a0 : IOrigin) (a1 : IOrigin) : Option (Bool) :=
    (bif (!(a0.Host == a1.Host)) then some false
    else ((L_eqResourceS k a0.Resources a1.Resources).bind fun w1 =>
    (bif (!w1) then some false
    else some true)))
noncomputable def L_markText_b0 (k : Nat) : Nat → Int → (List UInt8) → Option ((List UInt8))
 | 0, _, _ => none
 | n + 1, x0, x3 =>
  (bif (decide (x0 > (0 : Int))) then ((md x0 (10 : Int)).bind fun q1 =>
  ((cat (bytesOf ([(IntKind.wrap .u8 (IntKind.wrap .i64 ((48 : Int) + q1)))] : List Int)) x3).bind fun t2 =>
  ((dv x0 (10 : Int)).bind fun q3 =>
  L_markText_b0 k n (IntKind.wrap .i64 q3) t2)))
  else some (x3))
noncomputable def L_markText (k : Nat) (a0 : Int) : Option ((List UInt8)) :=
    (bif (decide (a0 ≤ (0 : Int))) then some ([109, 48] : List UInt8)
    else ((L_markText_b0 k k a0 ([] : List UInt8)).bind fun o4 =>
    ((cat ([109] : List UInt8) o4).bind fun t5 =>
    some t5)))
noncomputable def L_markStringS_b0 (k : Nat) : Nat → Int → Int → (List (List UInt8)) → Option (Int × (List (List UInt8)))
 | 0, _, _, _ => none
 | n + 1, x1, x5, r0 =>
  (bif (decide (x5 < (r0.length : Int))) then ((L_markText k x1).bind fun w1 =>
  ((idx r0 x5).bind fun _ =>
  ((idx r0 x5).bind fun e2 =>
  L_markStringS_b0 k n (IntKind.wrap .i64 (x1 + (1 : Int))) (IntKind.wrap .i64 (x5 + (1 : Int))) ((r0).set (x5).toNat w1))))
  else some ((x1, r0)))
noncomputable def L_markStringS (k : Nat) (a0 : List (List UInt8)) (a1 : Int) : Option (Int × (List (List UInt8))) :=
    ((L_markStringS_b0 k k a1 (0 : Int) a0).bind fun o3 =>
    some (o3.1, o3.2))
noncomputable def L_markVersionS_b0 (k : Nat) : Nat → Int → Int → (List IVersion) → Option (Int × (List IVersion))
 | 0, _, _, _ => none
 | n + 1, x1, x5, r0 =>
  (bif (decide (x5 < (r0.length : Int))) then ((idx r0 x5).bind fun _ =>
  ((idx r0 x5).bind fun e1 =>
  ((L_markText k (IntKind.wrap .i64 (x1 + (1 : Int)))).bind fun w2 =>
  ((idx ((r0).set (x5).toNat (⟨x1, e1.Text, e1.Gone⟩ : IVersion)) x5).bind fun _ =>
  ((idx ((r0).set (x5).toNat (⟨x1, e1.Text, e1.Gone⟩ : IVersion)) x5).bind fun e3 =>
  ((md (IntKind.wrap .i64 ((IntKind.wrap .i64 (x1 + (1 : Int))) + (1 : Int))) (3 : Int)).bind fun q4 =>
  ((idx ((((r0).set (x5).toNat (⟨x1, e1.Text, e1.Gone⟩ : IVersion))).set (x5).toNat (⟨e3.At, w2, e3.Gone⟩ : IVersion)) x5).bind fun _ =>
  ((idx ((((r0).set (x5).toNat (⟨x1, e1.Text, e1.Gone⟩ : IVersion))).set (x5).toNat (⟨e3.At, w2, e3.Gone⟩ : IVersion)) x5).bind fun e5 =>
  L_markVersionS_b0 k n (IntKind.wrap .i64 ((IntKind.wrap .i64 ((IntKind.wrap .i64 (x1 + (1 : Int))) + (1 : Int))) + (1 : Int))) (IntKind.wrap .i64 (x5 + (1 : Int))) ((((((r0).set (x5).toNat (⟨x1, e1.Text, e1.Gone⟩ : IVersion))).set (x5).toNat (⟨e3.At, w2, e3.Gone⟩ : IVersion))).set (x5).toNat (⟨e5.At, e5.Text, (q4 == (0 : Int))⟩ : IVersion))))))))))
  else some ((x1, r0)))
noncomputable def L_markVersionS (k : Nat) (a0 : List IVersion) (a1 : Int) : Option (Int × (List IVersion)) :=
    ((L_markVersionS_b0 k k a1 (0 : Int) a0).bind fun o6 =>
    some (o6.1, o6.2))
noncomputable def L_markResourceS_b0 (k : Nat) : Nat → Int → Int → (List IResource) → Option (Int × (List IResource))
 | 0, _, _, _ => none
 | n + 1, x1, x5, r0 =>
  (bif (decide (x5 < (r0.length : Int))) then ((L_markText k x1).bind fun w1 =>
  ((idx r0 x5).bind fun _ =>
  ((idx r0 x5).bind fun e2 =>
  ((L_markText k (IntKind.wrap .i64 (x1 + (1 : Int)))).bind fun w3 =>
  ((idx ((r0).set (x5).toNat (⟨w1, e2.Control, e2.Keys, e2.Private, e2.Langs, e2.Versions⟩ : IResource)) x5).bind fun _ =>
  ((idx ((r0).set (x5).toNat (⟨w1, e2.Control, e2.Keys, e2.Private, e2.Langs, e2.Versions⟩ : IResource)) x5).bind fun e4 =>
  ((L_markText k (IntKind.wrap .i64 ((IntKind.wrap .i64 (x1 + (1 : Int))) + (1 : Int)))).bind fun w5 =>
  ((idx ((((r0).set (x5).toNat (⟨w1, e2.Control, e2.Keys, e2.Private, e2.Langs, e2.Versions⟩ : IResource))).set (x5).toNat (⟨e4.Target, w3, e4.Keys, e4.Private, e4.Langs, e4.Versions⟩ : IResource)) x5).bind fun _ =>
  ((idx ((((r0).set (x5).toNat (⟨w1, e2.Control, e2.Keys, e2.Private, e2.Langs, e2.Versions⟩ : IResource))).set (x5).toNat (⟨e4.Target, w3, e4.Keys, e4.Private, e4.Langs, e4.Versions⟩ : IResource)) x5).bind fun e6 =>
  ((md (IntKind.wrap .i64 ((IntKind.wrap .i64 ((IntKind.wrap .i64 (x1 + (1 : Int))) + (1 : Int))) + (1 : Int))) (3 : Int)).bind fun q7 =>
  ((idx ((((((r0).set (x5).toNat (⟨w1, e2.Control, e2.Keys, e2.Private, e2.Langs, e2.Versions⟩ : IResource))).set (x5).toNat (⟨e4.Target, w3, e4.Keys, e4.Private, e4.Langs, e4.Versions⟩ : IResource))).set (x5).toNat (⟨e6.Target, e6.Control, w5, e6.Private, e6.Langs, e6.Versions⟩ : IResource)) x5).bind fun _ =>
  ((idx ((((((r0).set (x5).toNat (⟨w1, e2.Control, e2.Keys, e2.Private, e2.Langs, e2.Versions⟩ : IResource))).set (x5).toNat (⟨e4.Target, w3, e4.Keys, e4.Private, e4.Langs, e4.Versions⟩ : IResource))).set (x5).toNat (⟨e6.Target, e6.Control, w5, e6.Private, e6.Langs, e6.Versions⟩ : IResource)) x5).bind fun e8 =>
  ((idx ((((((((r0).set (x5).toNat (⟨w1, e2.Control, e2.Keys, e2.Private, e2.Langs, e2.Versions⟩ : IResource))).set (x5).toNat (⟨e4.Target, w3, e4.Keys, e4.Private, e4.Langs, e4.Versions⟩ : IResource))).set (x5).toNat (⟨e6.Target, e6.Control, w5, e6.Private, e6.Langs, e6.Versions⟩ : IResource))).set (x5).toNat (⟨e8.Target, e8.Control, e8.Keys, (q7 == (0 : Int)), e8.Langs, e8.Versions⟩ : IResource)) x5).bind fun _ =>
  ((idx ((((((((r0).set (x5).toNat (⟨w1, e2.Control, e2.Keys, e2.Private, e2.Langs, e2.Versions⟩ : IResource))).set (x5).toNat (⟨e4.Target, w3, e4.Keys, e4.Private, e4.Langs, e4.Versions⟩ : IResource))).set (x5).toNat (⟨e6.Target, e6.Control, w5, e6.Private, e6.Langs, e6.Versions⟩ : IResource))).set (x5).toNat (⟨e8.Target, e8.Control, e8.Keys, (q7 == (0 : Int)), e8.Langs, e8.Versions⟩ : IResource)) x5).bind fun e9 =>
  ((L_markStringS k e9.Langs (IntKind.wrap .i64 ((IntKind.wrap .i64 ((IntKind.wrap .i64 ((IntKind.wrap .i64 (x1 + (1 : Int))) + (1 : Int))) + (1 : Int))) + (1 : Int)))).bind fun w10 =>
  ((idx ((((((((((r0).set (x5).toNat (⟨w1, e2.Control, e2.Keys, e2.Private, e2.Langs, e2.Versions⟩ : IResource))).set (x5).toNat (⟨e4.Target, w3, e4.Keys, e4.Private, e4.Langs, e4.Versions⟩ : IResource))).set (x5).toNat (⟨e6.Target, e6.Control, w5, e6.Private, e6.Langs, e6.Versions⟩ : IResource))).set (x5).toNat (⟨e8.Target, e8.Control, e8.Keys, (q7 == (0 : Int)), e8.Langs, e8.Versions⟩ : IResource))).set (x5).toNat (⟨e9.Target, e9.Control, e9.Keys, e9.Private, w10.2, e9.Versions⟩ : IResource)) x5).bind fun _ =>
  ((idx ((((((((((r0).set (x5).toNat (⟨w1, e2.Control, e2.Keys, e2.Private, e2.Langs, e2.Versions⟩ : IResource))).set (x5).toNat (⟨e4.Target, w3, e4.Keys, e4.Private, e4.Langs, e4.Versions⟩ : IResource))).set (x5).toNat (⟨e6.Target, e6.Control, w5, e6.Private, e6.Langs, e6.Versions⟩ : IResource))).set (x5).toNat (⟨e8.Target, e8.Control, e8.Keys, (q7 == (0 : Int)), e8.Langs, e8.Versions⟩ : IResource))).set (x5).toNat (⟨e9.Target, e9.Control, e9.Keys, e9.Private, w10.2, e9.Versions⟩ : IResource)) x5).bind fun e11 =>
  ((L_markVersionS k e11.Versions w10.1).bind fun w12 =>
  L_markResourceS_b0 k n w12.1 (IntKind.wrap .i64 (x5 + (1 : Int))) ((((((((((((r0).set (x5).toNat (⟨w1, e2.Control, e2.Keys, e2.Private, e2.Langs, e2.Versions⟩ : IResource))).set (x5).toNat (⟨e4.Target, w3, e4.Keys, e4.Private, e4.Langs, e4.Versions⟩ : IResource))).set (x5).toNat (⟨e6.Target, e6.Control, w5, e6.Private, e6.Langs, e6.Versions⟩ : IResource))).set (x5).toNat (⟨e8.Target, e8.Control, e8.Keys, (q7 == (0 : Int)), e8.Langs, e8.Versions⟩ : IResource))).set (x5).toNat (⟨e9.Target, e9.Control, e9.Keys, e9.Private, w10.2, e9.Versions⟩ : IResource))).set (x5).toNat (⟨e11.Target, e11.Control, e11.Keys, e11.Private, e11.Langs, w12.2⟩ : IResource))))))))))))))))))))
  else some ((x1, r0)))
noncomputable def L_markResourceS (k : Nat) (a0 : List IResource) (a1 : Int) : Option (Int × (List IResource)) :=
    ((L_markResourceS_b0 k k a1 (0 : Int) a0).bind fun o13 =>
    some (o13.1, o13.2))
noncomputable def L_markOrigin (k : Nat) (a0 : IOrigin) (a1 : Int) : Option (Int × IOrigin) :=
    ((L_markResourceS k a0.Resources a1).bind fun w1 =>
    some (w1.1, (⟨a0.Host, w1.2⟩ : IOrigin)))
def L_markOrigin_f (k : Nat) : ArT D (.a [.ks, .kl 87]) → Int → Option (Int × ArT D (.a [.ks, .kl 87])) := fun x n => (L_markOrigin k (⟨x.1, x.2.1⟩ : IOrigin) n).map fun r => (r.1, (r.2.Host, r.2.Resources, ()))
noncomputable def L_heldStringS_b0 (k : Nat) : Nat → (List (List UInt8)) → Int → Int → Option (Oc (Int) (Int))
 | 0, _, _, _ => none
 | n + 1, x0, x1, x5 =>
  (bif (decide (x5 < (x0.length : Int))) then ((idx x0 x5).bind fun e1 =>
  ((L_markText k x1).bind fun w2 =>
  (bif (!(e1 == w2)) then some (.oth ((-1 : Int)))
  else L_heldStringS_b0 k n x0 (IntKind.wrap .i64 (x1 + (1 : Int))) (IntKind.wrap .i64 (x5 + (1 : Int))))))
  else some (.nrm x1))
noncomputable def L_heldStringS (k : Nat) (a0 : List (List UInt8)) (a1 : Int) : Option (Int) :=
    ((L_heldStringS_b0 k k a0 a1 (0 : Int)).bind fun o3 =>
    oc o3 (fun o4 => some o4)
    (fun o5 => some o5))
noncomputable def L_heldVersionS_b0 (k : Nat) : Nat → (List IVersion) → Int → Int → Option (Oc (Int) (Int))
 | 0, _, _, _ => none
 | n + 1, x0, x1, x5 =>
  (bif (decide (x5 < (x0.length : Int))) then ((idx x0 x5).bind fun e1 =>
  (bif (e1.At != x1) then some (.oth ((-1 : Int)))
  else ((idx x0 x5).bind fun e2 =>
  ((L_markText k (IntKind.wrap .i64 (x1 + (1 : Int)))).bind fun w3 =>
  (bif (!(e2.Text == w3)) then some (.oth ((-1 : Int)))
  else ((idx x0 x5).bind fun e4 =>
  ((md (IntKind.wrap .i64 ((IntKind.wrap .i64 (x1 + (1 : Int))) + (1 : Int))) (3 : Int)).bind fun q5 =>
  (bif (!(e4.Gone == (q5 == (0 : Int)))) then some (.oth ((-1 : Int)))
  else L_heldVersionS_b0 k n x0 (IntKind.wrap .i64 ((IntKind.wrap .i64 ((IntKind.wrap .i64 (x1 + (1 : Int))) + (1 : Int))) + (1 : Int))) (IntKind.wrap .i64 (x5 + (1 : Int)))))))))))
  else some (.nrm x1))
noncomputable def L_heldVersionS (k : Nat) (a0 : List IVersion) (a1 : Int) : Option (Int) :=
    ((L_heldVersionS_b0 k k a0 a1 (0 : Int)).bind fun o6 =>
    oc o6 (fun o7 => some o7)
    (fun o8 => some o8))
noncomputable def L_heldResourceS_b0 (k : Nat) : Nat → (List IResource) → Int → Int → Option (Oc (Int) (Int))
 | 0, _, _, _ => none
 | n + 1, x0, x1, x5 =>
  (bif (decide (x5 < (x0.length : Int))) then ((idx x0 x5).bind fun e1 =>
  ((L_markText k x1).bind fun w2 =>
  (bif (!(e1.Target == w2)) then some (.oth ((-1 : Int)))
  else ((idx x0 x5).bind fun e3 =>
  ((L_markText k (IntKind.wrap .i64 (x1 + (1 : Int)))).bind fun w4 =>
  (bif (!(e3.Control == w4)) then some (.oth ((-1 : Int)))
  else ((idx x0 x5).bind fun e5 =>
  ((L_markText k (IntKind.wrap .i64 ((IntKind.wrap .i64 (x1 + (1 : Int))) + (1 : Int)))).bind fun w6 =>
  (bif (!(e5.Keys == w6)) then some (.oth ((-1 : Int)))
  else ((idx x0 x5).bind fun e7 =>
  ((md (IntKind.wrap .i64 ((IntKind.wrap .i64 ((IntKind.wrap .i64 (x1 + (1 : Int))) + (1 : Int))) + (1 : Int))) (3 : Int)).bind fun q8 =>
  (bif (!(e7.Private == (q8 == (0 : Int)))) then some (.oth ((-1 : Int)))
  else ((idx x0 x5).bind fun e9 =>
  ((L_heldStringS k e9.Langs (IntKind.wrap .i64 ((IntKind.wrap .i64 ((IntKind.wrap .i64 ((IntKind.wrap .i64 (x1 + (1 : Int))) + (1 : Int))) + (1 : Int))) + (1 : Int)))).bind fun w10 =>
  (bif (decide (w10 < (0 : Int))) then some (.oth ((-1 : Int)))
  else ((idx x0 x5).bind fun e11 =>
  ((L_heldVersionS k e11.Versions w10).bind fun w12 =>
  (bif (decide (w12 < (0 : Int))) then some (.oth ((-1 : Int)))
  else L_heldResourceS_b0 k n x0 w12 (IntKind.wrap .i64 (x5 + (1 : Int)))))))))))))))))))))
  else some (.nrm x1))
noncomputable def L_heldResourceS (k : Nat) (a0 : List IResource) (a1 : Int) : Option (Int) :=
    ((L_heldResourceS_b0 k k a0 a1 (0 : Int)).bind fun o13 =>
    oc o13 (fun o14 => some o14)
    (fun o15 => some o15))
noncomputable def L_heldOrigin (k : Nat) (a0 : IOrigin) (a1 : Int) : Option (Int) :=
    ((L_heldResourceS k a0.Resources a1).bind fun w1 =>
    (bif (decide (w1 < (0 : Int))) then some (-1 : Int)
    else some w1))
noncomputable def L_FnExactPublishPage (k : Nat) (a0 : LOrigin) (a1 : List UInt8) (a2 : LVersion) : Option (Bool) :=
    (bif (decide ((a1.length : Int) > (1048576 : Int))) then some true
    else ((L_szOrigin k a0 (1048576 : Int)).bind fun w1 =>
    (bif (decide (w1 < (0 : Int))) then some true
    else ((L_szVersion k a2 w1).bind fun w2 =>
    (bif (decide (w2 < (0 : Int))) then some true
    else ((L_toOrigin k a0).bind fun w3 =>
    ((L_toVersion k a2).bind fun w4 =>
    ((S_PublishPage k w3 a1 w4).bind fun w5 =>
    ((L_toOrigin k a0).bind fun w6 =>
    ((L_toVersion k a2).bind fun w7 =>
    ((I_PublishPage k w6 a1 w7).bind fun w8 =>
    ((L_eqOrigin k w8.1 w5.1).bind fun w9 =>
    (bif (!w9) then some false else (bif (!(w8.2 == w5.2)) then some false
    else ((L_toOrigin k a0).bind fun w10 =>
    ((L_eqOrigin k w6 w10).bind fun w11 =>
    (bif (!w11) then some false
    else ((L_markOrigin_f k (w6.Host, w6.Resources, ()) (1 : Int)).bind fun w12 =>
    (bif (decide (w12.1 < (0 : Int))) then some false else ((L_eqOrigin k w8.1 w5.1).bind fun w13 =>
    (bif (!w13) then some false else (bif (!(w8.2 == w5.2)) then some false
    else ((L_markOrigin_f k (w8.1.Host, w8.1.Resources, ()) (1 : Int)).bind fun w14 =>
    ((L_heldOrigin k (⟨w8.1.Host, w14.2.2.1⟩ : IOrigin) (1 : Int)).bind fun w15 =>
    (bif (decide (w15 < (0 : Int))) then some false
    else (bif (w15 != w14.1) then some false
    else ((L_toOrigin k a0).bind fun w16 =>
    ((L_toVersion k a2).bind fun w17 =>
    ((I_PublishPage k w16 a1 w17).bind fun w18 =>
    ((L_eqOrigin k w18.1 w5.1).bind fun w19 =>
    (bif (!w19) then some false else (bif (!(w18.2 == w5.2)) then some false
    else ((L_heldOrigin k (⟨w8.1.Host, w14.2.2.1⟩ : IOrigin) (1 : Int)).bind fun w20 =>
    (bif (decide (w20 < (0 : Int))) then some false
    else (bif (w20 != w14.1) then some false
    else some true)))))))))))))))))))))))))))))))))))
end
end Go.YtnidlohhndpjdaaGreatDoor
