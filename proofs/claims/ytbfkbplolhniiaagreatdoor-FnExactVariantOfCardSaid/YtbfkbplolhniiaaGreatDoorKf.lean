/- Functions over lists. Nothing is claimed here. -/
import Derived.Test.YtbfkbplolhniiaaGreatDoorKt
set_option linter.unusedVariables false
set_option linter.unusedSimpArgs false
set_option maxRecDepth 100000
namespace Go.YtbfkbplolhniiaaGreatDoor
open Go Go.RowKit Go.Pv
noncomputable section

/-! loop.example/g03012/laws.szStringS -/
noncomputable def L_szStringS_b0 (k : Nat) : Nat → (List (List UInt8)) → Int → Int → Option (Oc (Int) (Int))
  | 0, _, _, _ => none
  | n + 1, x0, x1, x5 =>
    (bif (decide (x5 < (x0.length : Int))) then ((idx x0 x5).bind fun e1 =>
    (bif (decide ((IntKind.wrap .i64 (x1 - (e1.length : Int))) < (0 : Int))) then some (.oth ((-1 : Int)))
    else L_szStringS_b0 k n x0 (IntKind.wrap .i64 (x1 - (e1.length : Int))) (IntKind.wrap .i64 (x5 + (1 : Int)))))
    else some (.nrm x1))
noncomputable def L_szStringS (k : Nat) (a0 : List (List UInt8)) (a1 : Int) : Option (Int) :=
    (bif (decide ((IntKind.wrap .i64 (a1 - (a0.length : Int))) < (0 : Int))) then some (-1 : Int)
    else ((L_szStringS_b0 k k a0 (IntKind.wrap .i64 (a1 - (a0.length : Int))) (0 : Int)).bind fun o2 =>
    oc o2 (fun o3 => some o3)
    (fun o4 => some o4)))
/-! loop.example/g03012/laws.szVersion -/
noncomputable def L_szVersion (k : Nat) (a0 : LVersion) (a1 : Int) : Option (Int) :=
    (bif (decide ((IntKind.wrap .i64 (a1 - (a0.Text.length : Int))) < (0 : Int))) then some (-1 : Int)
    else some (IntKind.wrap .i64 (a1 - (a0.Text.length : Int))))
/-! loop.example/g03012/laws.szVersionS -/
noncomputable def L_szVersionS_b0 (k : Nat) : Nat → (List LVersion) → Int → Int → Option (Oc (Int) (Int))
  | 0, _, _, _ => none
  | n + 1, x0, x1, x5 =>
    (bif (decide (x5 < (x0.length : Int))) then ((idx x0 x5).bind fun e1 =>
    ((L_szVersion k e1 x1).bind fun w2 =>
    (bif (decide (w2 < (0 : Int))) then some (.oth ((-1 : Int)))
    else L_szVersionS_b0 k n x0 w2 (IntKind.wrap .i64 (x5 + (1 : Int))))))
    else some (.nrm x1))
noncomputable def L_szVersionS (k : Nat) (a0 : List LVersion) (a1 : Int) : Option (Int) :=
    (bif (decide ((IntKind.wrap .i64 (a1 - (a0.length : Int))) < (0 : Int))) then some (-1 : Int)
    else ((L_szVersionS_b0 k k a0 (IntKind.wrap .i64 (a1 - (a0.length : Int))) (0 : Int)).bind fun o3 =>
    oc o3 (fun o4 => some o4)
    (fun o5 => some o5)))
/-! loop.example/g03012/laws.szResource -/
noncomputable def L_szResource (k : Nat) (a0 : LResource) (a1 : Int) : Option (Int) :=
    (bif (decide ((IntKind.wrap .i64 (a1 - (a0.Target.length : Int))) < (0 : Int))) then some (-1 : Int)
    else (bif (decide ((IntKind.wrap .i64 ((IntKind.wrap .i64 (a1 - (a0.Target.length : Int))) - (a0.Control.length : Int))) < (0 : Int))) then some (-1 : Int)
    else (bif (decide ((IntKind.wrap .i64 ((IntKind.wrap .i64 ((IntKind.wrap .i64 (a1 - (a0.Target.length : Int))) - (a0.Control.length : Int))) - (a0.Keys.length : Int))) < (0 : Int))) then some (-1 : Int)
    else ((L_szStringS k a0.Langs (IntKind.wrap .i64 ((IntKind.wrap .i64 ((IntKind.wrap .i64 (a1 - (a0.Target.length : Int))) - (a0.Control.length : Int))) - (a0.Keys.length : Int)))).bind fun w1 =>
    (bif (decide (w1 < (0 : Int))) then some (-1 : Int)
    else ((L_szVersionS k a0.Versions w1).bind fun w2 =>
    (bif (decide (w2 < (0 : Int))) then some (-1 : Int)
    else some w2)))))))
/-! loop.example/g03012/laws.szField -/
noncomputable def L_szField (k : Nat) (a0 : LField) (a1 : Int) : Option (Int) :=
    (bif (decide ((IntKind.wrap .i64 (a1 - (a0.Name.length : Int))) < (0 : Int))) then some (-1 : Int)
    else (bif (decide ((IntKind.wrap .i64 ((IntKind.wrap .i64 (a1 - (a0.Name.length : Int))) - (a0.Value.length : Int))) < (0 : Int))) then some (-1 : Int)
    else some (IntKind.wrap .i64 ((IntKind.wrap .i64 (a1 - (a0.Name.length : Int))) - (a0.Value.length : Int)))))
/-! loop.example/g03012/laws.szFieldS -/
noncomputable def L_szFieldS_b0 (k : Nat) : Nat → (List LField) → Int → Int → Option (Oc (Int) (Int))
  | 0, _, _, _ => none
  | n + 1, x0, x1, x5 =>
    (bif (decide (x5 < (x0.length : Int))) then ((idx x0 x5).bind fun e1 =>
    ((L_szField k e1 x1).bind fun w2 =>
    (bif (decide (w2 < (0 : Int))) then some (.oth ((-1 : Int)))
    else L_szFieldS_b0 k n x0 w2 (IntKind.wrap .i64 (x5 + (1 : Int))))))
    else some (.nrm x1))
noncomputable def L_szFieldS (k : Nat) (a0 : List LField) (a1 : Int) : Option (Int) :=
    (bif (decide ((IntKind.wrap .i64 (a1 - (a0.length : Int))) < (0 : Int))) then some (-1 : Int)
    else ((L_szFieldS_b0 k k a0 (IntKind.wrap .i64 (a1 - (a0.length : Int))) (0 : Int)).bind fun o3 =>
    oc o3 (fun o4 => some o4)
    (fun o5 => some o5)))
/-! loop.example/g03012/laws.szRequest -/
noncomputable def L_szRequest (k : Nat) (a0 : LRequest) (a1 : Int) : Option (Int) :=
    (bif (decide ((IntKind.wrap .i64 (a1 - (a0.Method.length : Int))) < (0 : Int))) then some (-1 : Int)
    else (bif (decide ((IntKind.wrap .i64 ((IntKind.wrap .i64 (a1 - (a0.Method.length : Int))) - (a0.Host.length : Int))) < (0 : Int))) then some (-1 : Int)
    else (bif (decide ((IntKind.wrap .i64 ((IntKind.wrap .i64 ((IntKind.wrap .i64 (a1 - (a0.Method.length : Int))) - (a0.Host.length : Int))) - (a0.Target.length : Int))) < (0 : Int))) then some (-1 : Int)
    else ((L_szFieldS k a0.Fields (IntKind.wrap .i64 ((IntKind.wrap .i64 ((IntKind.wrap .i64 (a1 - (a0.Method.length : Int))) - (a0.Host.length : Int))) - (a0.Target.length : Int)))).bind fun w1 =>
    (bif (decide (w1 < (0 : Int))) then some (-1 : Int)
    else some w1)))))
/-! loop.example/g03012/laws.toStringS -/
noncomputable def L_toStringS_b0 (k : Nat) : Nat → (List (List UInt8)) → Int → (List (List UInt8)) → Option ((List (List UInt8)))
  | 0, _, _, _ => none
  | n + 1, x0, x4, r3 =>
    (bif (decide (x4 < (x0.length : Int))) then ((idx x0 x4).bind fun e2 =>
    ((idx r3 x4).bind fun _ =>
    ((idx r3 x4).bind fun e3 =>
    L_toStringS_b0 k n x0 (IntKind.wrap .i64 (x4 + (1 : Int))) ((r3).set (x4).toNat e2))))
    else some (r3))
noncomputable def L_toStringS (k : Nat) (a0 : List (List UInt8)) : Option ((List (List UInt8))) :=
    (guardT ((a0.length : Int) == (a0.length : Int)) <| (mks 16 (a0.length : Int) ([] : List UInt8)).bind fun u1 =>
    ((L_toStringS_b0 k k a0 (0 : Int) u1).bind fun o4 =>
    some o4))
/-! loop.example/g03012/laws.toVersion -/
noncomputable def L_toVersion (k : Nat) (a0 : LVersion) : Option (IVersion) :=
    some (⟨a0.At, a0.Text, a0.Gone⟩ : IVersion)
/-! loop.example/g03012/laws.toVersionS -/
noncomputable def L_toVersionS_b0 (k : Nat) : Nat → (List LVersion) → Int → (List IVersion) → Option ((List IVersion))
  | 0, _, _, _ => none
  | n + 1, x0, x4, r3 =>
    (bif (decide (x4 < (x0.length : Int))) then ((idx x0 x4).bind fun e2 =>
    ((L_toVersion k e2).bind fun w3 =>
    ((idx r3 x4).bind fun _ =>
    ((idx r3 x4).bind fun e4 =>
    L_toVersionS_b0 k n x0 (IntKind.wrap .i64 (x4 + (1 : Int))) ((r3).set (x4).toNat w3)))))
    else some (r3))
noncomputable def L_toVersionS (k : Nat) (a0 : List LVersion) : Option ((List IVersion)) :=
    (guardT ((a0.length : Int) == (a0.length : Int)) <| (mks 32 (a0.length : Int) (⟨(0 : Int), ([] : List UInt8), false⟩ : IVersion)).bind fun u1 =>
    ((L_toVersionS_b0 k k a0 (0 : Int) u1).bind fun o5 =>
    some o5))
/-! loop.example/g03012/laws.toResource -/
noncomputable def L_toResource (k : Nat) (a0 : LResource) : Option (IResource) :=
    ((L_toStringS k a0.Langs).bind fun w1 =>
    ((L_toVersionS k a0.Versions).bind fun w2 =>
    some (⟨a0.Target, a0.Control, a0.Keys, a0.Private, w1, w2⟩ : IResource)))
/-! loop.example/g03012/laws.toField -/
noncomputable def L_toField (k : Nat) (a0 : LField) : Option (IField) :=
    some (⟨a0.Name, a0.Value⟩ : IField)
/-! loop.example/g03012/laws.toFieldS -/
noncomputable def L_toFieldS_b0 (k : Nat) : Nat → (List LField) → Int → (List IField) → Option ((List IField))
  | 0, _, _, _ => none
  | n + 1, x0, x4, r3 =>
    (bif (decide (x4 < (x0.length : Int))) then ((idx x0 x4).bind fun e2 =>
    ((L_toField k e2).bind fun w3 =>
    ((idx r3 x4).bind fun _ =>
    ((idx r3 x4).bind fun e4 =>
    L_toFieldS_b0 k n x0 (IntKind.wrap .i64 (x4 + (1 : Int))) ((r3).set (x4).toNat w3)))))
    else some (r3))
noncomputable def L_toFieldS (k : Nat) (a0 : List LField) : Option ((List IField)) :=
    (guardT ((a0.length : Int) == (a0.length : Int)) <| (mks 32 (a0.length : Int) (⟨([] : List UInt8), ([] : List UInt8)⟩ : IField)).bind fun u1 =>
    ((L_toFieldS_b0 k k a0 (0 : Int) u1).bind fun o5 =>
    some o5))
/-! loop.example/g03012/laws.toRequest -/
noncomputable def L_toRequest (k : Nat) (a0 : LRequest) : Option (IRequest) :=
    ((L_toFieldS k a0.Fields).bind fun w1 =>
    some (⟨a0.Method, a0.Host, a0.Target, w1⟩ : IRequest))
/-! loop.example/g03012/spec.JoinList -/
noncomputable def S_JoinList_c12 (k : Nat) (x0 : List (List UInt8)) (x3 : List UInt8) (x4 : Int) (x12 : Bool) : Option ((List UInt8)) :=
    (bif x12 then ((cat x3 ([44, 32] : List UInt8)).bind fun t1 =>
    some (t1))
    else some (x3))
noncomputable def S_JoinList_b1 (k : Nat) (x0 : List (List UInt8)) (x3 : List UInt8) (x4 : Int) : Option ((List UInt8)) :=
    ((S_JoinList_c12 k x0 x3 x4 (decide (x4 > (0 : Int)))).bind fun o1 =>
    ((idx x0 x4).bind fun e2 =>
    ((cat o1 e2).bind fun t3 =>
    some (t3))))
noncomputable def S_JoinList_b0 (k : Nat) : Nat → (List (List UInt8)) → (List UInt8) → Int → Option ((List UInt8))
  | 0, _, _, _ => none
  | n + 1, x0, x3, x4 =>
    (bif (decide (x4 < (x0.length : Int))) then ((S_JoinList_b1 k x0 x3 x4).bind fun o1 =>
    S_JoinList_b0 k n x0 o1 (IntKind.wrap .i64 (x4 + (1 : Int))))
    else some (x3))
noncomputable def S_JoinList (k : Nat) (a0 : List (List UInt8)) : Option ((List UInt8)) :=
    ((S_JoinList_b0 k k a0 ([] : List UInt8) (0 : Int)).bind fun o2 =>
    some o2)
/-! loop.example/g03012/spec.GetField -/
noncomputable def S_GetField_c21 (k : Nat) (x0 : List IField) (x1 : List UInt8) (x7 : Int) (x21 : Bool) (r6 : List (List UInt8)) : Option ((List (List UInt8))) :=
    (bif x21 then ((idx x0 x7).bind fun e2 =>
    ((app 16 r6 ([e2.Value] : List (List UInt8))).bind fun u3 =>
    some (u3)))
    else some (r6))
noncomputable def S_GetField_b1 (k : Nat) (x0 : List IField) (x1 : List UInt8) (x7 : Int) (r6 : List (List UInt8)) : Option ((List (List UInt8))) :=
    ((idx x0 x7).bind fun e1 =>
    ((S_GetField_c21 k x0 x1 x7 (e1.Name == x1) r6).bind fun o2 =>
    some (o2)))
noncomputable def S_GetField_b0 (k : Nat) : Nat → (List IField) → (List UInt8) → Int → (List (List UInt8)) → Option ((List (List UInt8)))
  | 0, _, _, _, _ => none
  | n + 1, x0, x1, x7, r6 =>
    (bif (decide (x7 < (x0.length : Int))) then ((S_GetField_b1 k x0 x1 x7 r6).bind fun o1 =>
    S_GetField_b0 k n x0 x1 (IntKind.wrap .i64 (x7 + (1 : Int))) o1)
    else some (r6))
noncomputable def S_GetField (k : Nat) (a0 : List IField) (a1 : List UInt8) : Option ((List UInt8) × Bool) :=
    ((S_GetField_b0 k k a0 a1 (0 : Int) ([] : List (List UInt8))).bind fun o2 =>
    ((S_JoinList k o2).bind fun w3 =>
    some (w3, (decide ((o2.length : Int) > (0 : Int))))))
/-! loop.example/g03012/spec.l5Get -/
noncomputable def S_l5Get (k : Nat) (a0 : List IField) (a1 : List UInt8) : Option ((List UInt8)) :=
    ((S_GetField k a0 a1).bind fun w1 =>
    some w1.1)
/-! loop.example/g03012/spec.l4Cut -/
noncomputable def S_l4Cut_c33 (k : Nat) (x0 : List UInt8) (x1 : Int) (x6 : Int) (x7 : Bool) (x8 : Int) (x33 : Bool) (r5 : List (List UInt8)) : Option (Int × (List (List UInt8))) :=
    (bif x33 then ((ssub x0 x6 x8).bind fun t4 =>
    ((app 16 r5 ([t4] : List (List UInt8))).bind fun u5 =>
    some (((IntKind.wrap .i64 (x8 + (1 : Int))), u5))))
    else some ((x6, r5)))
noncomputable def S_l4Cut_c26 (k : Nat) (x0 : List UInt8) (x1 : Int) (x6 : Int) (x7 : Bool) (x8 : Int) (x26 : Bool) (r5 : List (List UInt8)) : Option (Int × Bool × (List (List UInt8))) :=
    (bif x26 then some ((x6, (!x7), r5))
    else (bif (!x7) then ((idx x0 x8).bind fun c3 =>
    ((S_l4Cut_c33 k x0 x1 x6 x7 x8 ((UInt8.toNat c3 : Int) == x1) r5).bind fun o4 =>
    some ((o4.1, x7, o4.2)))) else ((S_l4Cut_c33 k x0 x1 x6 x7 x8 false r5).bind fun o5 =>
    some ((o5.1, x7, o5.2)))))
noncomputable def S_l4Cut_c16 (k : Nat) (x0 : List UInt8) (x1 : Int) (x6 : Int) (x7 : Bool) (x8 : Int) (x16 : Bool) (r5 : List (List UInt8)) : Option (Int × Bool × Int × (List (List UInt8))) :=
    (bif x16 then some ((x6, x7, (IntKind.wrap .i64 (x8 + (1 : Int))), r5))
    else ((idx x0 x8).bind fun c2 =>
    ((S_l4Cut_c26 k x0 x1 x6 x7 x8 ((UInt8.toNat c2 : Int) == (34 : Int)) r5).bind fun o3 =>
    some ((o3.1, o3.2.1, x8, o3.2.2)))))
noncomputable def S_l4Cut_b2 (k : Nat) (x0 : List UInt8) (x1 : Int) (x6 : Int) (x7 : Bool) (x8 : Int) (r5 : List (List UInt8)) : Option (Int × Bool × Int × (List (List UInt8))) :=
    (bif x7 then ((idx x0 x8).bind fun c1 =>
    ((S_l4Cut_c16 k x0 x1 x6 x7 x8 ((UInt8.toNat c1 : Int) == (92 : Int)) r5).bind fun o2 =>
    some ((o2.1, o2.2.1, o2.2.2.1, o2.2.2.2)))) else ((S_l4Cut_c16 k x0 x1 x6 x7 x8 false r5).bind fun o3 =>
    some ((o3.1, o3.2.1, o3.2.2.1, o3.2.2.2))))
noncomputable def S_l4Cut_b1 (k : Nat) (x0 : List UInt8) (x1 : Int) (x6 : Int) (x7 : Bool) (x8 : Int) (r5 : List (List UInt8)) : Option (Int × Bool × Int × (List (List UInt8))) :=
    ((S_l4Cut_b2 k x0 x1 x6 x7 x8 r5).bind fun o1 =>
    some ((o1.1, o1.2.1, o1.2.2.1, o1.2.2.2)))
noncomputable def S_l4Cut_b0 (k : Nat) : Nat → (List UInt8) → Int → Int → Bool → Int → (List (List UInt8)) → Option (Int × (List (List UInt8)))
  | 0, _, _, _, _, _, _ => none
  | n + 1, x0, x1, x6, x7, x8, r5 =>
    (bif (decide (x8 < (x0.length : Int))) then ((S_l4Cut_b1 k x0 x1 x6 x7 x8 r5).bind fun o1 =>
    S_l4Cut_b0 k n x0 x1 o1.1 o1.2.1 (IntKind.wrap .i64 (o1.2.2.1 + (1 : Int))) o1.2.2.2)
    else some ((x6, r5)))
noncomputable def S_l4Cut (k : Nat) (a0 : List UInt8) (a1 : Int) : Option ((List (List UInt8))) :=
    ((S_l4Cut_b0 k k a0 a1 (0 : Int) false (0 : Int) ([] : List (List UInt8))).bind fun o2 =>
    ((ssub a0 o2.1 (a0.length : Int)).bind fun t3 =>
    ((app 16 o2.2 ([t3] : List (List UInt8))).bind fun u4 =>
    some u4)))
/-! loop.example/g03012/spec.l4Blank -/
noncomputable def S_l4Blank (k : Nat) (a0 : Int) : Option (Bool) :=
    (bif (a0 == (32 : Int)) then some true else some (a0 == (9 : Int)))
/-! loop.example/g03012/spec.TrimText -/
noncomputable def S_TrimText_b0 (k : Nat) : Nat → (List UInt8) → Option ((List UInt8))
  | 0, _ => none
  | n + 1, x0 =>
    (bif (decide ((x0.length : Int) > (0 : Int))) then ((idx x0 (0 : Int)).bind fun c1 =>
    ((S_l4Blank k (UInt8.toNat c1 : Int)).bind fun w2 =>
    (bif w2 then ((ssub x0 (1 : Int) (x0.length : Int)).bind fun t3 =>
    S_TrimText_b0 k n t3)
    else some (x0)))) else some (x0))
noncomputable def S_TrimText_b2 (k : Nat) : Nat → (List UInt8) → Option ((List UInt8))
  | 0, _ => none
  | n + 1, x0 =>
    (bif (decide ((x0.length : Int) > (0 : Int))) then ((idx x0 (IntKind.wrap .i64 ((x0.length : Int) - (1 : Int)))).bind fun c5 =>
    ((S_l4Blank k (UInt8.toNat c5 : Int)).bind fun w6 =>
    (bif w6 then ((ssub x0 (0 : Int) (IntKind.wrap .i64 ((x0.length : Int) - (1 : Int)))).bind fun t7 =>
    S_TrimText_b2 k n t7)
    else some (x0)))) else some (x0))
noncomputable def S_TrimText (k : Nat) (a0 : List UInt8) : Option ((List UInt8)) :=
    ((S_TrimText_b0 k k a0).bind fun o4 =>
    ((S_TrimText_b2 k k o4).bind fun o8 =>
    some o8))
/-! loop.example/g03012/spec.SplitList -/
noncomputable def S_SplitList_c22 (k : Nat) (x5 : Int) (x6 : List UInt8) (x22 : Bool) (r3 : List (List UInt8)) (r4 : List (List UInt8)) : Option ((List (List UInt8))) :=
    (bif x22 then ((app 16 r4 ([x6] : List (List UInt8))).bind fun u4 =>
    some (u4))
    else some (r4))
noncomputable def S_SplitList_b1 (k : Nat) (x5 : Int) (r3 : List (List UInt8)) (r4 : List (List UInt8)) : Option ((List (List UInt8))) :=
    ((idx r3 x5).bind fun _ =>
    ((idx r3 x5).bind fun e2 =>
    ((S_TrimText k e2).bind fun w3 =>
    ((S_SplitList_c22 k x5 w3 (!(w3 == ([] : List UInt8))) r3 r4).bind fun o4 =>
    some (o4)))))
noncomputable def S_SplitList_b0 (k : Nat) : Nat → Int → (List (List UInt8)) → (List (List UInt8)) → Option ((List (List UInt8)))
  | 0, _, _, _ => none
  | n + 1, x5, r3, r4 =>
    (bif (decide (x5 < (r3.length : Int))) then ((S_SplitList_b1 k x5 r3 r4).bind fun o2 =>
    S_SplitList_b0 k n (IntKind.wrap .i64 (x5 + (1 : Int))) r3 o2)
    else some (r4))
noncomputable def S_SplitList (k : Nat) (a0 : List UInt8) : Option ((List (List UInt8))) :=
    ((S_l4Cut k a0 (44 : Int)).bind fun w1 =>
    ((S_SplitList_b0 k k (0 : Int) w1 ([] : List (List UInt8))).bind fun o3 =>
    some o3))
/-! loop.example/g03012/spec.l12Split -/
noncomputable def S_l12Split_c19 (k : Nat) (x0 : List UInt8) (x1 : Int) (x6 : Int) (x7 : Int) (x19 : Bool) (r5 : List (List UInt8)) : Option (Int × (List (List UInt8))) :=
    (bif x19 then ((ssub x0 x6 x7).bind fun t2 =>
    ((app 16 r5 ([t2] : List (List UInt8))).bind fun u3 =>
    some (((IntKind.wrap .i64 (x7 + (1 : Int))), u3))))
    else some ((x6, r5)))
noncomputable def S_l12Split_b1 (k : Nat) (x0 : List UInt8) (x1 : Int) (x6 : Int) (x7 : Int) (r5 : List (List UInt8)) : Option (Int × (List (List UInt8))) :=
    ((idx x0 x7).bind fun c1 =>
    ((S_l12Split_c19 k x0 x1 x6 x7 ((UInt8.toNat c1 : Int) == x1) r5).bind fun o2 =>
    some ((o2.1, o2.2))))
noncomputable def S_l12Split_b0 (k : Nat) : Nat → (List UInt8) → Int → Int → Int → (List (List UInt8)) → Option (Int × (List (List UInt8)))
  | 0, _, _, _, _, _ => none
  | n + 1, x0, x1, x6, x7, r5 =>
    (bif (decide (x7 < (x0.length : Int))) then ((S_l12Split_b1 k x0 x1 x6 x7 r5).bind fun o1 =>
    S_l12Split_b0 k n x0 x1 o1.1 (IntKind.wrap .i64 (x7 + (1 : Int))) o1.2)
    else some ((x6, r5)))
noncomputable def S_l12Split (k : Nat) (a0 : List UInt8) (a1 : Int) : Option ((List (List UInt8))) :=
    ((S_l12Split_b0 k k a0 a1 (0 : Int) (0 : Int) ([] : List (List UInt8))).bind fun o2 =>
    ((ssub a0 o2.1 (a0.length : Int)).bind fun t3 =>
    ((app 16 o2.2 ([t3] : List (List UInt8))).bind fun u4 =>
    some u4)))
/-! loop.example/g03012/spec.l1In -/
noncomputable def S_l1In (k : Nat) (a0 : Int) (a1 : Int) (a2 : Int) : Option (Bool) :=
    (bif (decide (a0 ≥ a1)) then some (decide (a0 ≤ a2)) else some false)
/-! loop.example/g03012/spec.LowerText -/
noncomputable def S_LowerText_c18 (k : Nat) (x4 : Int) (x18 : Bool) (r3 : List Int) : Option ((List Int)) :=
    (bif x18 then ((idx r3 x4).bind fun _ =>
    ((idx r3 x4).bind fun e3 =>
    ((idx r3 x4).bind fun _ =>
    ((idx r3 x4).bind fun e4 =>
    some (((r3).set (x4).toNat (IntKind.wrap .u8 (e3 + (32 : Int)))))))))
    else some (r3))
noncomputable def S_LowerText_b1 (k : Nat) (x4 : Int) (r3 : List Int) : Option ((List Int)) :=
    ((idx r3 x4).bind fun _ =>
    ((idx r3 x4).bind fun e1 =>
    ((S_l1In k (IntKind.wrap .i64 e1) (65 : Int) (90 : Int)).bind fun w2 =>
    ((S_LowerText_c18 k x4 w2 r3).bind fun o3 =>
    some (o3)))))
noncomputable def S_LowerText_b0 (k : Nat) : Nat → Int → (List Int) → Option ((List Int))
  | 0, _, _ => none
  | n + 1, x4, r3 =>
    (bif (decide (x4 < (r3.length : Int))) then ((S_LowerText_b1 k x4 r3).bind fun o1 =>
    S_LowerText_b0 k n (IntKind.wrap .i64 (x4 + (1 : Int))) o1)
    else some (r3))
noncomputable def S_LowerText (k : Nat) (a0 : List UInt8) : Option ((List UInt8)) :=
    ((S_LowerText_b0 k k (0 : Int) (intsOf a0)).bind fun o2 =>
    some (bytesOf o2))
/-! loop.example/g03012/spec.SplitPair -/
noncomputable def S_SplitPair_b0 (k : Nat) : Nat → (List UInt8) → Int → Option (Oc (Unit) ((List UInt8) × (List UInt8) × Bool))
  | 0, _, _ => none
  | n + 1, x0, x5 =>
    (bif (decide (x5 < (x0.length : Int))) then ((idx x0 x5).bind fun c1 =>
    (bif ((UInt8.toNat c1 : Int) == (61 : Int)) then ((ssub x0 (0 : Int) x5).bind fun t2 =>
    ((S_TrimText k t2).bind fun w3 =>
    ((ssub x0 (IntKind.wrap .i64 (x5 + (1 : Int))) (x0.length : Int)).bind fun t4 =>
    ((S_TrimText k t4).bind fun w5 =>
    some (.oth ((w3, w5, true)))))))
    else S_SplitPair_b0 k n x0 (IntKind.wrap .i64 (x5 + (1 : Int)))))
    else some (.nrm ()))
noncomputable def S_SplitPair (k : Nat) (a0 : List UInt8) : Option ((List UInt8) × (List UInt8) × Bool) :=
    ((S_SplitPair_b0 k k a0 (0 : Int)).bind fun o6 =>
    oc o6 (fun o7 => ((S_TrimText k a0).bind fun w9 =>
    some (w9, ([] : List UInt8), false)))
    (fun o8 => some o8))
/-! loop.example/g03012/spec.l13Weight -/
noncomputable def S_l13Weight_b0 (k : Nat) : Nat → (List UInt8) → Int → Int → Int → Option (Oc (Int) (Int))
  | 0, _, _, _, _ => none
  | n + 1, x0, x3, x4, x5 =>
    (bif (decide (x5 < (x0.length : Int))) then ((idx x0 x5).bind fun c5 =>
    ((S_l1In k (IntKind.wrap .i64 (UInt8.toNat c5 : Int)) (48 : Int) (57 : Int)).bind fun w6 =>
    (bif (!w6) then some (.oth ((-1 : Int)))
    else ((idx x0 x5).bind fun c7 =>
    ((dv x4 (10 : Int)).bind fun q8 =>
    S_l13Weight_b0 k n x0 (IntKind.wrap .i64 (x3 + (IntKind.wrap .i64 (x4 * (IntKind.wrap .i64 (IntKind.wrap .u8 ((UInt8.toNat c7 : Int) - (48 : Int)))))))) (IntKind.wrap .i64 q8) (IntKind.wrap .i64 (x5 + (1 : Int))))))))
    else some (.nrm x3))
noncomputable def S_l13Weight (k : Nat) (a0 : List UInt8) : Option (Int) :=
    (bif ((a0.length : Int) == (0 : Int)) then some (-1 : Int) else (bif (decide ((a0.length : Int) > (5 : Int))) then some (-1 : Int) else ((idx a0 (0 : Int)).bind fun c1 =>
    (bif ((UInt8.toNat c1 : Int) != (48 : Int)) then ((idx a0 (0 : Int)).bind fun c2 =>
    (bif ((UInt8.toNat c2 : Int) != (49 : Int)) then some (-1 : Int) else (bif (decide ((a0.length : Int) > (1 : Int))) then ((idx a0 (1 : Int)).bind fun c3 =>
    (bif ((UInt8.toNat c3 : Int) != (46 : Int)) then some (-1 : Int)
    else ((idx a0 (0 : Int)).bind fun c4 =>
    ((S_l13Weight_b0 k k a0 (IntKind.wrap .i64 ((1000 : Int) * (IntKind.wrap .i64 (IntKind.wrap .u8 ((UInt8.toNat c4 : Int) - (48 : Int)))))) (100 : Int) (2 : Int)).bind fun o9 =>
    oc o9 (fun o10 => (bif (decide (o10 > (1000 : Int))) then some (-1 : Int)
    else some o10))
    (fun o11 => some o11))))) else ((idx a0 (0 : Int)).bind fun c12 =>
    ((S_l13Weight_b0 k k a0 (IntKind.wrap .i64 ((1000 : Int) * (IntKind.wrap .i64 (IntKind.wrap .u8 ((UInt8.toNat c12 : Int) - (48 : Int)))))) (100 : Int) (2 : Int)).bind fun o13 =>
    oc o13 (fun o14 => (bif (decide (o14 > (1000 : Int))) then some (-1 : Int)
    else some o14))
    (fun o15 => some o15)))))) else (bif (decide ((a0.length : Int) > (1 : Int))) then ((idx a0 (1 : Int)).bind fun c16 =>
    (bif ((UInt8.toNat c16 : Int) != (46 : Int)) then some (-1 : Int)
    else ((idx a0 (0 : Int)).bind fun c17 =>
    ((S_l13Weight_b0 k k a0 (IntKind.wrap .i64 ((1000 : Int) * (IntKind.wrap .i64 (IntKind.wrap .u8 ((UInt8.toNat c17 : Int) - (48 : Int)))))) (100 : Int) (2 : Int)).bind fun o18 =>
    oc o18 (fun o19 => (bif (decide (o19 > (1000 : Int))) then some (-1 : Int)
    else some o19))
    (fun o20 => some o20))))) else ((idx a0 (0 : Int)).bind fun c21 =>
    ((S_l13Weight_b0 k k a0 (IntKind.wrap .i64 ((1000 : Int) * (IntKind.wrap .i64 (IntKind.wrap .u8 ((UInt8.toNat c21 : Int) - (48 : Int)))))) (100 : Int) (2 : Int)).bind fun o22 =>
    oc o22 (fun o23 => (bif (decide (o23 > (1000 : Int))) then some (-1 : Int)
    else some o23))
    (fun o24 => some o24))))))))
/-! loop.example/g03012/spec.l4Letter -/
noncomputable def S_l4Letter (k : Nat) (a0 : Int) : Option (Bool) :=
    ((S_l1In k (IntKind.wrap .i64 a0) (97 : Int) (122 : Int)).bind fun w1 =>
    (bif w1 then some true else ((S_l1In k (IntKind.wrap .i64 a0) (65 : Int) (90 : Int)).bind fun w2 =>
    (bif w2 then some true else ((S_l1In k (IntKind.wrap .i64 a0) (48 : Int) (57 : Int)).bind fun w3 =>
    some w3)))))
/-! loop.example/g03012/spec.l4Token -/
noncomputable def S_l4Token_b0 (k : Nat) : Nat → Int → Int → Option (Oc (Unit) (Bool))
  | 0, _, _ => none
  | n + 1, x0, x3 =>
    (bif (decide (x3 < (15 : Int))) then ((idx ([33, 35, 36, 37, 38, 39, 42, 43, 45, 46, 94, 95, 124, 126, 96] : List UInt8) x3).bind fun c1 =>
    (bif (x0 == (UInt8.toNat c1 : Int)) then some (.oth (true))
    else S_l4Token_b0 k n x0 (IntKind.wrap .i64 (x3 + (1 : Int)))))
    else some (.nrm ()))
noncomputable def S_l4Token (k : Nat) (a0 : Int) : Option (Bool) :=
    ((S_l4Token_b0 k k a0 (0 : Int)).bind fun o2 =>
    oc o2 (fun o3 => ((S_l4Letter k a0).bind fun w5 =>
    some w5))
    (fun o4 => some o4))
/-! loop.example/g03012/spec.IsToken -/
noncomputable def S_IsToken_b0 (k : Nat) : Nat → (List UInt8) → Int → Option (Oc (Unit) (Bool))
  | 0, _, _ => none
  | n + 1, x0, x3 =>
    (bif (decide (x3 < (x0.length : Int))) then ((idx x0 x3).bind fun c1 =>
    ((S_l4Token k (UInt8.toNat c1 : Int)).bind fun w2 =>
    (bif (!w2) then some (.oth (false))
    else S_IsToken_b0 k n x0 (IntKind.wrap .i64 (x3 + (1 : Int))))))
    else some (.nrm ()))
noncomputable def S_IsToken (k : Nat) (a0 : List UInt8) : Option (Bool) :=
    ((S_IsToken_b0 k k a0 (0 : Int)).bind fun o3 =>
    oc o3 (fun o4 => ((S_l1In k (a0.length : Int) (1 : Int) (40 : Int)).bind fun w6 =>
    some w6))
    (fun o5 => some o5))
/-! loop.example/g03012/spec.ParseQualities -/
noncomputable def S_ParseQualities_c56 (k : Nat) (x5 : Int) (x56 : Bool) (r3 : List (List UInt8)) (r4 : List IQuality) (y7_0 : List UInt8) (y7_1 : Int) : Option (Int) :=
    (bif x56 then some ((-1 : Int))
    else some (y7_1))
noncomputable def S_ParseQualities_c33 (k : Nat) (x5 : Int) (x33 : Bool) (r3 : List (List UInt8)) (r4 : List IQuality) (r6 : List (List UInt8)) (y7_0 : List UInt8) (y7_1 : Int) : Option (Int) :=
    (bif x33 then ((idx r6 (1 : Int)).bind fun _ =>
    ((idx r6 (1 : Int)).bind fun e7 =>
    ((S_SplitPair k e7).bind fun w8 =>
    ((S_l13Weight k w8.2.1).bind fun w9 =>
    (bif (!w8.2.2) then ((S_ParseQualities_c56 k x5 true r3 r4 y7_0 w9).bind fun o10 =>
    some (o10)) else ((S_LowerText k w8.1).bind fun w11 =>
    (bif (!(w11 == ([113] : List UInt8))) then ((S_ParseQualities_c56 k x5 true r3 r4 y7_0 w9).bind fun o12 =>
    some (o12)) else ((S_ParseQualities_c56 k x5 (decide ((r6.length : Int) > (2 : Int))) r3 r4 y7_0 w9).bind fun o13 =>
    some (o13)))))))))
    else some (y7_1))
noncomputable def S_ParseQualities_c65 (k : Nat) (x5 : Int) (x65 : Bool) (r3 : List (List UInt8)) (r4 : List IQuality) (y7_0 : List UInt8) (y7_1 : Int) : Option ((List IQuality)) :=
    (bif x65 then ((app 24 r4 ([(⟨y7_0, y7_1⟩ : IQuality)] : List IQuality)).bind fun u16 =>
    some (u16))
    else some (r4))
noncomputable def S_ParseQualities_b1 (k : Nat) (x5 : Int) (r3 : List (List UInt8)) (r4 : List IQuality) : Option ((List IQuality)) :=
    ((idx r3 x5).bind fun _ =>
    ((idx r3 x5).bind fun e2 =>
    ((S_l12Split k e2 (59 : Int)).bind fun w3 =>
    ((idx w3 (0 : Int)).bind fun _ =>
    ((idx w3 (0 : Int)).bind fun e4 =>
    ((S_TrimText k e4).bind fun w5 =>
    ((S_LowerText k w5).bind fun w6 =>
    ((S_ParseQualities_c33 k x5 (decide ((w3.length : Int) > (1 : Int))) r3 r4 w3 w6 (1000 : Int)).bind fun o7 =>
    ((S_IsToken k w6).bind fun w8 =>
    (bif w8 then ((S_ParseQualities_c65 k x5 (decide (o7 ≥ (0 : Int))) r3 r4 w6 o7).bind fun o9 =>
    some (o9)) else ((S_ParseQualities_c65 k x5 false r3 r4 w6 o7).bind fun o10 =>
    some (o10))))))))))))
noncomputable def S_ParseQualities_b0 (k : Nat) : Nat → Int → (List (List UInt8)) → (List IQuality) → Option ((List IQuality))
  | 0, _, _, _ => none
  | n + 1, x5, r3, r4 =>
    (bif (decide (x5 < (r3.length : Int))) then ((S_ParseQualities_b1 k x5 r3 r4).bind fun o2 =>
    S_ParseQualities_b0 k n (IntKind.wrap .i64 (x5 + (1 : Int))) r3 o2)
    else some (r4))
noncomputable def S_ParseQualities (k : Nat) (a0 : List UInt8) : Option ((List IQuality)) :=
    ((S_SplitList k a0).bind fun w1 =>
    ((S_ParseQualities_b0 k k (0 : Int) w1 ([] : List IQuality)).bind fun o3 =>
    some o3))
/-! loop.example/g03012/spec.QualityOf -/
noncomputable def S_QualityOf_c20 (k : Nat) (x0 : List IQuality) (x1 : List UInt8) (x5 : Int) (x6 : Int) (x20 : Bool) : Option (Int) :=
    (bif x20 then ((idx x0 x6).bind fun e2 =>
    some (e2.Q))
    else some (x5))
noncomputable def S_QualityOf_b1 (k : Nat) (x0 : List IQuality) (x1 : List UInt8) (x5 : Int) (x6 : Int) : Option (Int) :=
    ((idx x0 x6).bind fun e1 =>
    ((S_QualityOf_c20 k x0 x1 x5 x6 (e1.Name == ([42] : List UInt8))).bind fun o2 =>
    some (o2)))
noncomputable def S_QualityOf_b0 (k : Nat) : Nat → (List IQuality) → (List UInt8) → Int → Int → Option (Int)
  | 0, _, _, _, _ => none
  | n + 1, x0, x1, x5, x6 =>
    (bif (decide (x6 ≥ (0 : Int))) then ((S_QualityOf_b1 k x0 x1 x5 x6).bind fun o1 =>
    S_QualityOf_b0 k n x0 x1 o1 (IntKind.wrap .i64 (x6 - (1 : Int))))
    else some (x5))
noncomputable def S_QualityOf_b2 (k : Nat) : Nat → (List IQuality) → (List UInt8) → Int → Int → Option (Oc (Unit) (Int))
  | 0, _, _, _, _ => none
  | n + 1, x0, x1, x5, x7 =>
    (bif (decide (x7 < (x0.length : Int))) then ((idx x0 x7).bind fun e3 =>
    (bif (e3.Name == x1) then ((idx x0 x7).bind fun e4 =>
    some (.oth (e4.Q)))
    else S_QualityOf_b2 k n x0 x1 x5 (IntKind.wrap .i64 (x7 + (1 : Int)))))
    else some (.nrm ()))
noncomputable def S_QualityOf (k : Nat) (a0 : List IQuality) (a1 : List UInt8) : Option (Int) :=
    ((S_QualityOf_b0 k k a0 a1 (0 : Int) (IntKind.wrap .i64 ((a0.length : Int) - (1 : Int)))).bind fun o2 =>
    ((S_QualityOf_b2 k k a0 a1 o2 (0 : Int)).bind fun o5 =>
    oc o5 (fun o6 => some o2)
    (fun o7 => some o7)))
/-! loop.example/g03012/spec.l1Word -/
noncomputable def S_l1Word (k : Nat) (a0 : List (List UInt8)) (a1 : Int) : Option ((List UInt8)) :=
    (bif (decide (a1 < (0 : Int))) then some ([] : List UInt8) else (bif (decide (a1 ≥ (a0.length : Int))) then some ([] : List UInt8)
    else ((idx a0 a1).bind fun e1 =>
    some e1)))
/-! loop.example/g03012/spec.ChooseName -/
noncomputable def S_ChooseName_c28 (k : Nat) (x0 : List (List UInt8)) (x6 : Int) (x7 : Int) (x28 : Bool) (r5 : List IQuality) : Option (Int) :=
    (bif x28 then some (x7)
    else some (x6))
noncomputable def S_ChooseName_b1 (k : Nat) (x0 : List (List UInt8)) (x6 : Int) (x7 : Int) (r5 : List IQuality) : Option (Int) :=
    ((idx x0 x7).bind fun e2 =>
    ((S_QualityOf k r5 e2).bind fun w3 =>
    ((idx x0 x6).bind fun e4 =>
    ((S_QualityOf k r5 e4).bind fun w5 =>
    ((S_ChooseName_c28 k x0 x6 x7 (decide (w3 > w5)) r5).bind fun o6 =>
    some (o6))))))
noncomputable def S_ChooseName_b0 (k : Nat) : Nat → (List (List UInt8)) → Int → Int → (List IQuality) → Option (Int)
  | 0, _, _, _, _ => none
  | n + 1, x0, x6, x7, r5 =>
    (bif (decide (x7 < (x0.length : Int))) then ((S_ChooseName_b1 k x0 x6 x7 r5).bind fun o2 =>
    S_ChooseName_b0 k n x0 o2 (IntKind.wrap .i64 (x7 + (1 : Int))) r5)
    else some (x6))
noncomputable def S_ChooseName (k : Nat) (a0 : List (List UInt8)) (a1 : List UInt8) : Option ((List UInt8)) :=
    ((S_ParseQualities k a1).bind fun w1 =>
    ((S_ChooseName_b0 k k a0 (0 : Int) (0 : Int) w1).bind fun o3 =>
    ((S_l1Word k a0 o3).bind fun w4 =>
    some w4)))
/-! loop.example/g03012/spec.VisitorOf -/
noncomputable def S_VisitorOf (k : Nat) (a0 : IRequest) : Option ((List UInt8)) :=
    ((S_l5Get k a0.Fields ([97, 117, 116, 104, 111, 114, 105, 122, 97, 116, 105, 111, 110] : List UInt8)).bind fun w1 =>
    ((S_SplitList k w1).bind fun w2 =>
    ((S_JoinList k w2).bind fun w3 =>
    ((S_IsToken k w3).bind fun w4 =>
    (bif (!w4) then some ([] : List UInt8) else (bif (decide ((w3.length : Int) > (20 : Int))) then some ([] : List UInt8)
    else some w3))))))
/-! loop.example/g03012/spec.VariantOf -/
noncomputable def S_VariantOf_c10 (k : Nat) (x6 : List UInt8) (x10 : Bool) (y2_0 : List UInt8) (y2_1 : List UInt8) (y2_2 : List UInt8) (y2_3 : Bool) (y2_4 : List (List UInt8)) (y2_5 : List IVersion) (y3_0 : List UInt8) (y3_1 : List UInt8) (y3_2 : List UInt8) (y3_3 : List IField) : Option ((List UInt8)) :=
    (bif x10 then ((S_l5Get k y3_3 ([97, 99, 99, 101, 112, 116, 45, 108, 97, 110, 103, 117, 97, 103, 101] : List UInt8)).bind fun w1 =>
    ((S_ChooseName k y2_4 w1).bind fun w2 =>
    some (w2)))
    else some (x6))
noncomputable def S_VariantOf (k : Nat) (a0 : IResource) (a1 : IRequest) : Option ((List UInt8) × (List UInt8)) :=
    ((S_VariantOf_c10 k ([] : List UInt8) (decide ((a0.Langs.length : Int) > (0 : Int))) a0.Target a0.Control a0.Keys a0.Private a0.Langs a0.Versions a1.Method a1.Host a1.Target a1.Fields).bind fun o3 =>
    (bif a0.Private then ((S_VisitorOf k a1).bind fun w4 =>
    some (o3, w4))
    else some (o3, ([] : List UInt8))))
/-! strings.Join -/
noncomputable def strings_Join (k : Nat) (a0 : List (List UInt8)) (a1 : List UInt8) : Option ((List UInt8)) :=
    joinO a0 a1
/-! loop.example/g03012/impl.JoinList -/
noncomputable def I_JoinList (k : Nat) (a0 : List (List UInt8)) : Option ((List UInt8)) :=
    ((strings_Join k a0 ([44, 32] : List UInt8)).bind fun w1 =>
    some w1)
/-! loop.example/g03012/impl.GetField -/
noncomputable def I_GetField_c19 (k : Nat) (x1 : List UInt8) (x10 : List IField) (x11 : Int) (x12 : Int) (x19 : Bool) (r6 : List (List UInt8)) (y8_0 : List UInt8) (y8_1 : List UInt8) : Option ((List (List UInt8))) :=
    (bif x19 then ((app 16 r6 ([y8_1] : List (List UInt8))).bind fun u2 =>
    some (u2))
    else some (r6))
noncomputable def I_GetField_b1 (k : Nat) (x1 : List UInt8) (x10 : List IField) (x11 : Int) (x12 : Int) (r6 : List (List UInt8)) : Option ((List (List UInt8))) :=
    ((idx x10 x12).bind fun e1 =>
    ((I_GetField_c19 k x1 x10 x11 x12 (e1.Name == x1) r6 e1.Name e1.Value).bind fun o2 =>
    some (o2)))
noncomputable def I_GetField_b0 (k : Nat) : Nat → (List UInt8) → (List IField) → Int → Int → (List (List UInt8)) → Option ((List (List UInt8)))
  | 0, _, _, _, _, _ => none
  | n + 1, x1, x10, x11, x12, r6 =>
    (bif (decide (x12 < x11)) then ((I_GetField_b1 k x1 x10 x11 x12 r6).bind fun o1 =>
    I_GetField_b0 k n x1 x10 x11 (IntKind.wrap .i64 (x12 + (1 : Int))) o1)
    else some (r6))
noncomputable def I_GetField (k : Nat) (a0 : List IField) (a1 : List UInt8) : Option ((List UInt8) × Bool) :=
    ((I_GetField_b0 k k a1 a0 (a0.length : Int) (0 : Int) ([] : List (List UInt8))).bind fun o2 =>
    ((I_JoinList k o2).bind fun w3 =>
    some (w3, (decide ((o2.length : Int) > (0 : Int))))))
/-! strings.Trim -/
noncomputable def strings_Trim (k : Nat) (a0 : List UInt8) (a1 : List UInt8) : Option ((List UInt8)) :=
    trimO a0 a1
/-! loop.example/g03012/impl.TrimText -/
noncomputable def I_TrimText (k : Nat) (a0 : List UInt8) : Option ((List UInt8)) :=
    ((strings_Trim k a0 ([32, 9] : List UInt8)).bind fun w1 =>
    some w1)
/-! loop.example/g03012/impl.SplitList -/
noncomputable def I_SplitList_c32 (k : Nat) (x0 : List UInt8) (x4 : Int) (x5 : Bool) (x6 : Int) (x32 : Bool) (r3 : List (List UInt8)) : Option (Bool) :=
    (bif x32 then some ((!x5))
    else some (x5))
noncomputable def I_SplitList_c41 (k : Nat) (x0 : List UInt8) (x4 : Int) (x5 : Bool) (x6 : Int) (x41 : Bool) (r3 : List (List UInt8)) : Option (Int) :=
    (bif x41 then some ((IntKind.wrap .i64 (x6 + (1 : Int))))
    else some (x6))
noncomputable def I_SplitList_c53 (k : Nat) (x0 : List UInt8) (x5 : Bool) (x6 : Int) (x7 : List UInt8) (x53 : Bool) (r3 : List (List UInt8)) : Option ((List (List UInt8))) :=
    (bif x53 then ((app 16 r3 ([x7] : List (List UInt8))).bind fun u14 =>
    some (u14))
    else some (r3))
noncomputable def I_SplitList_b1 (k : Nat) (x0 : List UInt8) (x4 : Int) (x5 : Bool) (x6 : Int) (r3 : List (List UInt8)) : Option (Int × Bool × Int × (List (List UInt8))) :=
    (bif (decide (x6 < (x0.length : Int))) then (bif x5 then ((idx x0 x6).bind fun c1 =>
    ((I_SplitList_c32 k x0 x4 x5 x6 ((UInt8.toNat c1 : Int) == (34 : Int)) r3).bind fun o2 =>
    (bif o2 then ((idx x0 x6).bind fun c3 =>
    ((I_SplitList_c41 k x0 x4 o2 x6 ((UInt8.toNat c3 : Int) == (92 : Int)) r3).bind fun o4 =>
    some ((x4, o2, o4, r3)))) else ((I_SplitList_c41 k x0 x4 o2 x6 false r3).bind fun o5 =>
    some ((x4, o2, o5, r3)))))) else ((idx x0 x6).bind fun c6 =>
    (bif ((UInt8.toNat c6 : Int) != (44 : Int)) then ((idx x0 x6).bind fun c7 =>
    ((I_SplitList_c32 k x0 x4 x5 x6 ((UInt8.toNat c7 : Int) == (34 : Int)) r3).bind fun o8 =>
    (bif o8 then ((idx x0 x6).bind fun c9 =>
    ((I_SplitList_c41 k x0 x4 o8 x6 ((UInt8.toNat c9 : Int) == (92 : Int)) r3).bind fun o10 =>
    some ((x4, o8, o10, r3)))) else ((I_SplitList_c41 k x0 x4 o8 x6 false r3).bind fun o11 =>
    some ((x4, o8, o11, r3))))))
    else ((ssub x0 x4 (if (x0.length : Int) < x6 then (x0.length : Int) else x6)).bind fun t12 =>
    ((I_TrimText k t12).bind fun w13 =>
    ((I_SplitList_c53 k x0 x5 x6 w13 (!(w13 == ([] : List UInt8))) r3).bind fun o14 =>
    some (((IntKind.wrap .i64 (x6 + (1 : Int))), x5, x6, o14)))))))) else ((ssub x0 x4 (if (x0.length : Int) < x6 then (x0.length : Int) else x6)).bind fun t15 =>
    ((I_TrimText k t15).bind fun w16 =>
    ((I_SplitList_c53 k x0 x5 x6 w16 (!(w16 == ([] : List UInt8))) r3).bind fun o17 =>
    some (((IntKind.wrap .i64 (x6 + (1 : Int))), x5, x6, o17))))))
noncomputable def I_SplitList_b0 (k : Nat) : Nat → (List UInt8) → Int → Bool → Int → (List (List UInt8)) → Option (Int × (List (List UInt8)))
  | 0, _, _, _, _, _ => none
  | n + 1, x0, x4, x5, x6, r3 =>
    (bif (decide (x6 ≤ (x0.length : Int))) then ((I_SplitList_b1 k x0 x4 x5 x6 r3).bind fun o1 =>
    I_SplitList_b0 k n x0 o1.1 o1.2.1 (IntKind.wrap .i64 (o1.2.2.1 + (1 : Int))) o1.2.2.2)
    else some ((x4, r3)))
noncomputable def I_SplitList_c69 (k : Nat) (x8 : List UInt8) (x69 : Bool) (r3 : List (List UInt8)) : Option ((List (List UInt8))) :=
    (bif x69 then ((app 16 r3 ([x8] : List (List UInt8))).bind fun u5 =>
    some (u5))
    else some (r3))
noncomputable def I_SplitList_c63 (k : Nat) (x0 : List UInt8) (x4 : Int) (x63 : Bool) (r3 : List (List UInt8)) : Option ((List (List UInt8))) :=
    (bif x63 then ((ssub x0 x4 (x0.length : Int)).bind fun t3 =>
    ((I_TrimText k t3).bind fun w4 =>
    ((I_SplitList_c69 k w4 (!(w4 == ([] : List UInt8))) r3).bind fun o5 =>
    some (o5))))
    else some (r3))
noncomputable def I_SplitList (k : Nat) (a0 : List UInt8) : Option ((List (List UInt8))) :=
    ((I_SplitList_b0 k k a0 (0 : Int) false (0 : Int) ([] : List (List UInt8))).bind fun o2 =>
    ((I_SplitList_c63 k a0 o2.1 (decide (o2.1 < (a0.length : Int))) o2.2).bind fun o6 =>
    some o6))
/-! strings.Split -/
noncomputable def strings_Split (k : Nat) (a0 : List UInt8) (a1 : List UInt8) : Option ((List (List UInt8))) :=
    splitO a0 a1
/-! loop.example/g03012/impl.LowerText -/
noncomputable def I_LowerText_c20 (k : Nat) (x4 : Int) (x5 : Int) (x9 : Int) (x10 : Int) (x20 : Bool) (r8 : List Int) : Option ((List Int)) :=
    (bif x20 then ((idx r8 x4).bind fun _ =>
    ((idx r8 x4).bind fun e2 =>
    some (((r8).set (x4).toNat (IntKind.wrap .u8 (x5 + (32 : Int)))))))
    else some (r8))
noncomputable def I_LowerText_b1 (k : Nat) (x9 : Int) (x10 : Int) (r8 : List Int) : Option ((List Int)) :=
    ((idx r8 x10).bind fun _ =>
    ((idx r8 x10).bind fun e1 =>
    (bif (decide (e1 ≥ (65 : Int))) then ((I_LowerText_c20 k x10 e1 x9 x10 (decide (e1 ≤ (90 : Int))) r8).bind fun o2 =>
    some (o2)) else ((I_LowerText_c20 k x10 e1 x9 x10 false r8).bind fun o3 =>
    some (o3)))))
noncomputable def I_LowerText_b0 (k : Nat) : Nat → Int → Int → (List Int) → Option ((List Int))
  | 0, _, _, _ => none
  | n + 1, x9, x10, r8 =>
    (bif (decide (x10 < x9)) then ((I_LowerText_b1 k x9 x10 r8).bind fun o1 =>
    I_LowerText_b0 k n x9 (IntKind.wrap .i64 (x10 + (1 : Int))) o1)
    else some (r8))
noncomputable def I_LowerText (k : Nat) (a0 : List UInt8) : Option ((List UInt8)) :=
    ((I_LowerText_b0 k k ((intsOf a0).length : Int) (0 : Int) (intsOf a0)).bind fun o2 =>
    some (bytesOf o2))
/-! strings.IndexByte -/
noncomputable def strings_IndexByte (k : Nat) (a0 : List UInt8) (a1 : Int) : Option (Int) :=
    indexByteO a0 a1
/-! loop.example/g03012/impl.isTokenByte -/
noncomputable def I_isTokenByte (k : Nat) (a0 : Int) : Option (Bool) :=
    (bif (decide (a0 ≥ (97 : Int))) then (bif (decide (a0 ≤ (122 : Int))) then some true else (bif (decide (a0 ≥ (65 : Int))) then (bif (decide (a0 ≤ (90 : Int))) then some true else (bif (decide (a0 ≥ (48 : Int))) then (bif (decide (a0 ≤ (57 : Int))) then some true else ((strings_IndexByte k ([33, 35, 36, 37, 38, 39, 42, 43, 45, 46, 94, 95, 124, 126] : List UInt8) a0).bind fun w1 =>
    (bif (decide (w1 ≥ (0 : Int))) then some true else some (a0 == (96 : Int))))) else ((strings_IndexByte k ([33, 35, 36, 37, 38, 39, 42, 43, 45, 46, 94, 95, 124, 126] : List UInt8) a0).bind fun w2 =>
    (bif (decide (w2 ≥ (0 : Int))) then some true else some (a0 == (96 : Int)))))) else (bif (decide (a0 ≥ (48 : Int))) then (bif (decide (a0 ≤ (57 : Int))) then some true else ((strings_IndexByte k ([33, 35, 36, 37, 38, 39, 42, 43, 45, 46, 94, 95, 124, 126] : List UInt8) a0).bind fun w3 =>
    (bif (decide (w3 ≥ (0 : Int))) then some true else some (a0 == (96 : Int))))) else ((strings_IndexByte k ([33, 35, 36, 37, 38, 39, 42, 43, 45, 46, 94, 95, 124, 126] : List UInt8) a0).bind fun w4 =>
    (bif (decide (w4 ≥ (0 : Int))) then some true else some (a0 == (96 : Int))))))) else (bif (decide (a0 ≥ (65 : Int))) then (bif (decide (a0 ≤ (90 : Int))) then some true else (bif (decide (a0 ≥ (48 : Int))) then (bif (decide (a0 ≤ (57 : Int))) then some true else ((strings_IndexByte k ([33, 35, 36, 37, 38, 39, 42, 43, 45, 46, 94, 95, 124, 126] : List UInt8) a0).bind fun w5 =>
    (bif (decide (w5 ≥ (0 : Int))) then some true else some (a0 == (96 : Int))))) else ((strings_IndexByte k ([33, 35, 36, 37, 38, 39, 42, 43, 45, 46, 94, 95, 124, 126] : List UInt8) a0).bind fun w6 =>
    (bif (decide (w6 ≥ (0 : Int))) then some true else some (a0 == (96 : Int)))))) else (bif (decide (a0 ≥ (48 : Int))) then (bif (decide (a0 ≤ (57 : Int))) then some true else ((strings_IndexByte k ([33, 35, 36, 37, 38, 39, 42, 43, 45, 46, 94, 95, 124, 126] : List UInt8) a0).bind fun w7 =>
    (bif (decide (w7 ≥ (0 : Int))) then some true else some (a0 == (96 : Int))))) else ((strings_IndexByte k ([33, 35, 36, 37, 38, 39, 42, 43, 45, 46, 94, 95, 124, 126] : List UInt8) a0).bind fun w8 =>
    (bif (decide (w8 ≥ (0 : Int))) then some true else some (a0 == (96 : Int)))))))
/-! loop.example/g03012/impl.inRange -/
noncomputable def I_inRange (k : Nat) (a0 : Int) (a1 : Int) (a2 : Int) : Option (Bool) :=
    (bif (decide (a1 ≤ a0)) then some (decide (a0 ≤ a2)) else some false)
/-! loop.example/g03012/impl.IsToken -/
noncomputable def I_IsToken_b0 (k : Nat) : Nat → (List UInt8) → Int → Int → Option (Oc (Unit) (Bool))
  | 0, _, _, _ => none
  | n + 1, x0, x5, x6 =>
    (bif (decide (x6 < x5)) then ((idx x0 x6).bind fun c1 =>
    ((I_isTokenByte k (UInt8.toNat c1 : Int)).bind fun w2 =>
    (bif (!w2) then some (.oth (false))
    else I_IsToken_b0 k n x0 x5 (IntKind.wrap .i64 (x6 + (1 : Int))))))
    else some (.nrm ()))
noncomputable def I_IsToken (k : Nat) (a0 : List UInt8) : Option (Bool) :=
    ((I_IsToken_b0 k k a0 (a0.length : Int) (0 : Int)).bind fun o3 =>
    oc o3 (fun o4 => ((I_inRange k (a0.length : Int) (1 : Int) (40 : Int)).bind fun w6 =>
    some w6))
    (fun o5 => some o5))
/-! strings.Cut -/
noncomputable def strings_Cut (k : Nat) (a0 : List UInt8) (a1 : List UInt8) : Option ((List UInt8) × (List UInt8) × Bool) :=
    cutO a0 a1
/-! loop.example/g03012/impl.SplitPair -/
noncomputable def I_SplitPair (k : Nat) (a0 : List UInt8) : Option ((List UInt8) × (List UInt8) × Bool) :=
    ((strings_Cut k a0 ([61] : List UInt8)).bind fun w1 =>
    ((I_TrimText k w1.1).bind fun w2 =>
    ((I_TrimText k w1.2.1).bind fun w3 =>
    some (w2, w3, w1.2.2))))
/-! loop.example/g03012/impl.weightIn -/
noncomputable def I_weightIn_b0 (k : Nat) : Nat → Int → Int → Int → Int → (List Int) → Option (Oc (Int) (Int × Bool))
  | 0, _, _, _, _, _ => none
  | n + 1, x7, x8, x35, x36, r34 =>
    (bif (decide (x36 < x35)) then ((idx r34 x36).bind fun _ =>
    ((idx r34 x36).bind fun e3 =>
    (bif (decide (e3 < (48 : Int))) then some (.oth (((0 : Int), false))) else (bif (decide (e3 > (57 : Int))) then some (.oth (((0 : Int), false)))
    else ((dv x8 (10 : Int)).bind fun q4 =>
    I_weightIn_b0 k n (IntKind.wrap .i64 (x7 + (IntKind.wrap .i64 (x8 * (IntKind.wrap .i64 (IntKind.wrap .u8 (e3 - (48 : Int)))))))) (IntKind.wrap .i64 q4) x35 (IntKind.wrap .i64 (x36 + (1 : Int))) r34)))))
    else some (.nrm x7))
noncomputable def I_weightIn (k : Nat) (a0 : List UInt8) : Option (Int × Bool) :=
    ((strings_Cut k a0 ([46] : List UInt8)).bind fun w1 =>
    (bif (!(w1.1 == ([48] : List UInt8))) then (bif (!(w1.1 == ([49] : List UInt8))) then some ((0 : Int), false) else (bif (decide ((w1.2.1.length : Int) > (3 : Int))) then some ((0 : Int), false)
    else ((idx w1.1 (0 : Int)).bind fun c2 =>
    ((I_weightIn_b0 k k (IntKind.wrap .i64 ((1000 : Int) * (IntKind.wrap .i64 (IntKind.wrap .u8 ((UInt8.toNat c2 : Int) - (48 : Int)))))) (100 : Int) ((intsOf w1.2.1).length : Int) (0 : Int) (intsOf w1.2.1)).bind fun o5 =>
    oc o5 (fun o6 => some (o6, (decide (o6 ≤ (1000 : Int)))))
    (fun o7 => some o7))))) else (bif (decide ((w1.2.1.length : Int) > (3 : Int))) then some ((0 : Int), false)
    else ((idx w1.1 (0 : Int)).bind fun c8 =>
    ((I_weightIn_b0 k k (IntKind.wrap .i64 ((1000 : Int) * (IntKind.wrap .i64 (IntKind.wrap .u8 ((UInt8.toNat c8 : Int) - (48 : Int)))))) (100 : Int) ((intsOf w1.2.1).length : Int) (0 : Int) (intsOf w1.2.1)).bind fun o9 =>
    oc o9 (fun o10 => some (o10, (decide (o10 ≤ (1000 : Int)))))
    (fun o11 => some o11))))))
/-! loop.example/g03012/impl.ParseQualities -/
noncomputable def I_ParseQualities_c40 (k : Nat) (x8 : Bool) (x17 : Int) (x18 : Int) (x40 : Bool) (r3 : List IQuality) (r6 : List (List UInt8)) (y7_0 : List UInt8) (y7_1 : Int) (r16 : List (List UInt8)) : Option (Bool × Int) :=
    (bif x40 then ((idx r6 (1 : Int)).bind fun _ =>
    ((idx r6 (1 : Int)).bind fun e8 =>
    ((I_SplitPair k e8).bind fun w9 =>
    ((I_weightIn k w9.2.1).bind fun w10 =>
    (bif x8 then (bif w9.2.2 then (bif w10.2 then (bif (w9.1 == ([113] : List UInt8)) then some ((true, w10.1)) else some (((w9.1 == ([81] : List UInt8)), w10.1))) else some ((false, w10.1))) else some ((false, w10.1))) else some ((false, w10.1)))))))
    else some ((x8, y7_1)))
noncomputable def I_ParseQualities_c71 (k : Nat) (x17 : Int) (x18 : Int) (x71 : Bool) (r3 : List IQuality) (y7_0 : List UInt8) (y7_1 : Int) (r16 : List (List UInt8)) : Option ((List IQuality)) :=
    (bif x71 then ((app 24 r3 ([(⟨y7_0, y7_1⟩ : IQuality)] : List IQuality)).bind fun u12 =>
    some (u12))
    else some (r3))
noncomputable def I_ParseQualities_b1 (k : Nat) (x17 : Int) (x18 : Int) (r3 : List IQuality) (r16 : List (List UInt8)) : Option ((List IQuality)) :=
    ((idx r16 x18).bind fun _ =>
    ((idx r16 x18).bind fun e2 =>
    ((strings_Split k e2 ([59] : List UInt8)).bind fun w3 =>
    ((idx w3 (0 : Int)).bind fun _ =>
    ((idx w3 (0 : Int)).bind fun e4 =>
    ((I_TrimText k e4).bind fun w5 =>
    ((I_LowerText k w5).bind fun w6 =>
    ((I_IsToken k w6).bind fun w7 =>
    (bif w7 then ((I_ParseQualities_c40 k (decide ((w3.length : Int) ≤ (2 : Int))) x17 x18 ((w3.length : Int) == (2 : Int)) r3 w3 w6 (1000 : Int) r16).bind fun o8 =>
    ((I_ParseQualities_c71 k x17 x18 o8.1 r3 w6 o8.2 r16).bind fun o9 =>
    some (o9))) else ((I_ParseQualities_c40 k false x17 x18 ((w3.length : Int) == (2 : Int)) r3 w3 w6 (1000 : Int) r16).bind fun o10 =>
    ((I_ParseQualities_c71 k x17 x18 o10.1 r3 w6 o10.2 r16).bind fun o11 =>
    some (o11))))))))))))
noncomputable def I_ParseQualities_b0 (k : Nat) : Nat → Int → Int → (List IQuality) → (List (List UInt8)) → Option ((List IQuality))
  | 0, _, _, _, _ => none
  | n + 1, x17, x18, r3, r16 =>
    (bif (decide (x18 < x17)) then ((I_ParseQualities_b1 k x17 x18 r3 r16).bind fun o2 =>
    I_ParseQualities_b0 k n x17 (IntKind.wrap .i64 (x18 + (1 : Int))) o2 r16)
    else some (r3))
noncomputable def I_ParseQualities (k : Nat) (a0 : List UInt8) : Option ((List IQuality)) :=
    ((I_SplitList k a0).bind fun w1 =>
    ((I_ParseQualities_b0 k k (w1.length : Int) (0 : Int) ([] : List IQuality) w1).bind fun o3 =>
    some o3))
/-! loop.example/g03012/impl.QualityOf -/
noncomputable def I_QualityOf_b2 (k : Nat) : Nat → (List IQuality) → (List UInt8) → Int → Int → (List IQuality) → Int → Int → (List (List UInt8)) → Option (Oc (Unit) (Int))
  | 0, _, _, _, _, _, _, _, _ => none
  | n + 1, x0, x6, x11, x12, x16, x17, x18, r10 =>
    (bif (decide (x18 < x17)) then ((idx x16 x18).bind fun e2 =>
    (bif (e2.Name == x6) then some (.oth (e2.Q))
    else I_QualityOf_b2 k n x0 x6 x11 x12 x16 x17 (IntKind.wrap .i64 (x18 + (1 : Int))) r10))
    else some (.nrm ()))
noncomputable def I_QualityOf_b0 (k : Nat) : Nat → (List IQuality) → Int → Int → (List (List UInt8)) → Option (Oc (Unit) (Int))
  | 0, _, _, _, _ => none
  | n + 1, x0, x11, x12, r10 =>
    (bif (decide (x12 < x11)) then ((idx r10 x12).bind fun _ =>
    ((idx r10 x12).bind fun e1 =>
    ((I_QualityOf_b2 k k x0 e1 x11 x12 x0 (x0.length : Int) (0 : Int) r10).bind fun o2 =>
    oc o2 (fun o3 => I_QualityOf_b0 k n x0 x11 (IntKind.wrap .i64 (x12 + (1 : Int))) r10)
    (fun o4 => some (.oth (o4))))))
    else some (.nrm ()))
noncomputable def I_QualityOf (k : Nat) (a0 : List IQuality) (a1 : List UInt8) : Option (Int) :=
    ((I_QualityOf_b0 k k a0 (([a1, ([42] : List UInt8)] : List (List UInt8)).length : Int) (0 : Int) ([a1, ([42] : List UInt8)] : List (List UInt8))).bind fun o5 =>
    oc o5 (fun o6 => some (0 : Int))
    (fun o7 => some o7))
/-! loop.example/g03012/impl.ChooseName -/
noncomputable def I_ChooseName_c28 (k : Nat) (x6 : List UInt8) (x8 : List UInt8) (x11 : List (List UInt8)) (x12 : Int) (x13 : Int) (x28 : Bool) (r5 : List IQuality) : Option ((List UInt8)) :=
    (bif x28 then some (x8)
    else some (x6))
noncomputable def I_ChooseName_b1 (k : Nat) (x6 : List UInt8) (x11 : List (List UInt8)) (x12 : Int) (x13 : Int) (r5 : List IQuality) : Option ((List UInt8)) :=
    ((idx x11 x13).bind fun e2 =>
    (bif (x13 == (0 : Int)) then ((I_ChooseName_c28 k x6 e2 x11 x12 x13 true r5).bind fun o3 =>
    some (o3)) else ((I_QualityOf k r5 e2).bind fun w4 =>
    ((I_QualityOf k r5 x6).bind fun w5 =>
    ((I_ChooseName_c28 k x6 e2 x11 x12 x13 (decide (w4 > w5)) r5).bind fun o6 =>
    some (o6))))))
noncomputable def I_ChooseName_b0 (k : Nat) : Nat → (List UInt8) → (List (List UInt8)) → Int → Int → (List IQuality) → Option ((List UInt8))
  | 0, _, _, _, _, _ => none
  | n + 1, x6, x11, x12, x13, r5 =>
    (bif (decide (x13 < x12)) then ((I_ChooseName_b1 k x6 x11 x12 x13 r5).bind fun o2 =>
    I_ChooseName_b0 k n o2 x11 x12 (IntKind.wrap .i64 (x13 + (1 : Int))) r5)
    else some (x6))
noncomputable def I_ChooseName (k : Nat) (a0 : List (List UInt8)) (a1 : List UInt8) : Option ((List UInt8)) :=
    ((I_ParseQualities k a1).bind fun w1 =>
    ((I_ChooseName_b0 k k ([] : List UInt8) a0 (a0.length : Int) (0 : Int) w1).bind fun o3 =>
    some o3))
/-! loop.example/g03012/impl.SelectingOf -/
noncomputable def I_SelectingOf_b0 (k : Nat) : Nat → (List (List UInt8)) → Int → Int → (List UInt8) → (List UInt8) → (List UInt8) → (List IField) → (List IField) → Option ((List IField))
  | 0, _, _, _, _, _, _, _, _ => none
  | n + 1, x11, x12, x13, y2_0, y2_1, y2_2, y2_3, r5 =>
    (bif (decide (x13 < x12)) then ((idx x11 x13).bind fun e1 =>
    ((I_GetField k y2_3 e1).bind fun w2 =>
    ((I_SplitList k w2.1).bind fun w3 =>
    ((I_JoinList k w3).bind fun w4 =>
    ((app 32 r5 ([(⟨e1, w4⟩ : IField)] : List IField)).bind fun u5 =>
    I_SelectingOf_b0 k n x11 x12 (IntKind.wrap .i64 (x13 + (1 : Int))) y2_0 y2_1 y2_2 y2_3 u5)))))
    else some (r5))
noncomputable def I_SelectingOf (k : Nat) (a0 : IRequest) (a1 : List (List UInt8)) : Option ((List IField)) :=
    ((I_SelectingOf_b0 k k a1 (a1.length : Int) (0 : Int) a0.Method a0.Host a0.Target a0.Fields ([] : List IField)).bind fun o6 =>
    some o6)
/-! loop.example/g03012/impl.VisitorOf -/
noncomputable def I_VisitorOf (k : Nat) (a0 : IRequest) : Option ((List UInt8)) :=
    ((I_SelectingOf k a0 ([([97, 117, 116, 104, 111, 114, 105, 122, 97, 116, 105, 111, 110] : List UInt8)] : List (List UInt8))).bind fun w1 =>
    ((idx w1 (0 : Int)).bind fun _ =>
    ((idx w1 (0 : Int)).bind fun e2 =>
    ((I_IsToken k e2.Value).bind fun w3 =>
    (bif (!w3) then some ([] : List UInt8) else (bif (decide ((e2.Value.length : Int) > (20 : Int))) then some ([] : List UInt8)
    else some e2.Value))))))
/-! loop.example/g03012/impl.VariantOf -/
noncomputable def I_VariantOf_c21 (k : Nat) (x8 : List UInt8) (x9 : List UInt8) (x21 : Bool) (y3_0 : List UInt8) (y3_1 : List UInt8) (y3_2 : List UInt8) (y3_3 : List IField) : Option ((List UInt8)) :=
    (bif x21 then ((I_VisitorOf k (⟨y3_0, y3_1, y3_2, y3_3⟩ : IRequest)).bind fun w3 =>
    some (w3))
    else some (x9))
noncomputable def I_VariantOf (k : Nat) (a0 : IResource) (a1 : IRequest) : Option ((List UInt8) × (List UInt8)) :=
    ((I_GetField k a1.Fields ([97, 99, 99, 101, 112, 116, 45, 108, 97, 110, 103, 117, 97, 103, 101] : List UInt8)).bind fun w1 =>
    ((I_ChooseName k a0.Langs w1.1).bind fun w2 =>
    ((I_VariantOf_c21 k w2 ([] : List UInt8) a0.Private a1.Method a1.Host a1.Target a1.Fields).bind fun o4 =>
    some (w2, o4))))
/-! loop.example/g03012/laws.eqStringS -/
noncomputable def L_eqStringS_b0 (k : Nat) : Nat → (List (List UInt8)) → (List (List UInt8)) → Int → Option (Oc (Unit) (Bool))
  | 0, _, _, _ => none
  | n + 1, x0, x1, x5 =>
    (bif (decide (x5 < (x0.length : Int))) then ((idx x0 x5).bind fun e1 =>
    ((idx x1 x5).bind fun e2 =>
    (bif (!(e1 == e2)) then some (.oth (false))
    else L_eqStringS_b0 k n x0 x1 (IntKind.wrap .i64 (x5 + (1 : Int))))))
    else some (.nrm ()))
noncomputable def L_eqStringS (k : Nat) (a0 : List (List UInt8)) (a1 : List (List UInt8)) : Option (Bool) :=
    (bif ((a0.length : Int) != (a1.length : Int)) then some false
    else ((L_eqStringS_b0 k k a0 a1 (0 : Int)).bind fun o3 =>
    oc o3 (fun o4 => some true)
    (fun o5 => some o5)))
/-! loop.example/g03012/laws.eqVersion -/
noncomputable def L_eqVersion (k : Nat) (a0 : IVersion) (a1 : IVersion) : Option (Bool) :=
    (bif (a0.At != a1.At) then some false
    else (bif (!(a0.Text == a1.Text)) then some false
    else (bif (!(a0.Gone == a1.Gone)) then some false
    else some true)))
/-! loop.example/g03012/laws.eqVersionS -/
noncomputable def L_eqVersionS_b0 (k : Nat) : Nat → (List IVersion) → (List IVersion) → Int → Option (Oc (Unit) (Bool))
  | 0, _, _, _ => none
  | n + 1, x0, x1, x5 =>
    (bif (decide (x5 < (x0.length : Int))) then ((idx x0 x5).bind fun e1 =>
    ((idx x1 x5).bind fun e2 =>
    ((L_eqVersion k e1 e2).bind fun w3 =>
    (bif (!w3) then some (.oth (false))
    else L_eqVersionS_b0 k n x0 x1 (IntKind.wrap .i64 (x5 + (1 : Int)))))))
    else some (.nrm ()))
noncomputable def L_eqVersionS (k : Nat) (a0 : List IVersion) (a1 : List IVersion) : Option (Bool) :=
    (bif ((a0.length : Int) != (a1.length : Int)) then some false
    else ((L_eqVersionS_b0 k k a0 a1 (0 : Int)).bind fun o4 =>
    oc o4 (fun o5 => some true)
    (fun o6 => some o6)))
/-! loop.example/g03012/laws.eqResource -/
noncomputable def L_eqResource (k : Nat) (a0 : IResource) (a1 : IResource) : Option (Bool) :=
    (bif (!(a0.Target == a1.Target)) then some false
    else (bif (!(a0.Control == a1.Control)) then some false
    else (bif (!(a0.Keys == a1.Keys)) then some false
    else (bif (!(a0.Private == a1.Private)) then some false
    else ((L_eqStringS k a0.Langs a1.Langs).bind fun w1 =>
    (bif (!w1) then some false
    else ((L_eqVersionS k a0.Versions a1.Versions).bind fun w2 =>
    (bif (!w2) then some false
    else some true))))))))
/-! loop.example/g03012/laws.eqField -/
noncomputable def L_eqField (k : Nat) (a0 : IField) (a1 : IField) : Option (Bool) :=
    (bif (!(a0.Name == a1.Name)) then some false
    else (bif (!(a0.Value == a1.Value)) then some false
    else some true))
/-! loop.example/g03012/laws.eqFieldS -/
noncomputable def L_eqFieldS_b0 (k : Nat) : Nat → (List IField) → (List IField) → Int → Option (Oc (Unit) (Bool))
  | 0, _, _, _ => none
  | n + 1, x0, x1, x5 =>
    (bif (decide (x5 < (x0.length : Int))) then ((idx x0 x5).bind fun e1 =>
    ((idx x1 x5).bind fun e2 =>
    ((L_eqField k e1 e2).bind fun w3 =>
    (bif (!w3) then some (.oth (false))
    else L_eqFieldS_b0 k n x0 x1 (IntKind.wrap .i64 (x5 + (1 : Int)))))))
    else some (.nrm ()))
noncomputable def L_eqFieldS (k : Nat) (a0 : List IField) (a1 : List IField) : Option (Bool) :=
    (bif ((a0.length : Int) != (a1.length : Int)) then some false
    else ((L_eqFieldS_b0 k k a0 a1 (0 : Int)).bind fun o4 =>
    oc o4 (fun o5 => some true)
    (fun o6 => some o6)))
/-! loop.example/g03012/laws.eqRequest -/
noncomputable def L_eqRequest (k : Nat) (a0 : IRequest) (a1 : IRequest) : Option (Bool) :=
    (bif (!(a0.Method == a1.Method)) then some false
    else (bif (!(a0.Host == a1.Host)) then some false
    else (bif (!(a0.Target == a1.Target)) then some false
    else ((L_eqFieldS k a0.Fields a1.Fields).bind fun w1 =>
    (bif (!w1) then some false
    else some true)))))
/-! loop.example/g03012/laws.FnExactVariantOf -/
noncomputable def L_FnExactVariantOf (k : Nat) (a0 : LResource) (a1 : LRequest) : Option (Bool) :=
    ((L_szResource k a0 (1048576 : Int)).bind fun w1 =>
    (bif (decide (w1 < (0 : Int))) then some true
    else ((L_szRequest k a1 w1).bind fun w2 =>
    (bif (decide (w2 < (0 : Int))) then some true
    else ((L_toResource k a0).bind fun w3 =>
    ((L_toRequest k a1).bind fun w4 =>
    ((S_VariantOf k w3 w4).bind fun w5 =>
    ((L_toResource k a0).bind fun w6 =>
    ((L_toRequest k a1).bind fun w7 =>
    ((I_VariantOf k w6 w7).bind fun w8 =>
    (bif (!(w8.1 == w5.1)) then some false else (bif (!(w8.2 == w5.2)) then some false
    else ((L_toResource k a0).bind fun w9 =>
    ((L_eqResource k w6 w9).bind fun w10 =>
    (bif (!w10) then some false
    else ((L_toRequest k a1).bind fun w11 =>
    ((L_eqRequest k w7 w11).bind fun w12 =>
    (bif (!w12) then some false
    else some true))))))))))))))))))

end
end Go.YtbfkbplolhniiaaGreatDoor
