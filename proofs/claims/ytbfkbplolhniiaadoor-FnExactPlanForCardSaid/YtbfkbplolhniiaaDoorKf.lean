/- Functions over lists. Nothing is claimed here. -/
import Derived.Test.YtbfkbplolhniiaaDoorKt
set_option linter.unusedVariables false
set_option linter.unusedSimpArgs false
set_option maxRecDepth 100000
namespace Go.YtbfkbplolhniiaaDoor
open Go Go.RowKit Go.Pv
noncomputable section

/-! loop.example/g03012/laws.szField -/
noncomputable def L_szField (k : Nat) (a0 : LField) (a1 : Int) : Option (Int) :=
    (bif (decide ((IntKind.wrap .i64 (a1 - (a0.Name.length : Int))) < (0 : Int))) then some (-1 : Int)
    else (bif (decide ((IntKind.wrap .i64 ((IntKind.wrap .i64 (a1 - (a0.Name.length : Int))) - (a0.Value.length : Int))) < (0 : Int))) then some (-1 : Int)
    else some (IntKind.wrap .i64 ((IntKind.wrap .i64 (a1 - (a0.Name.length : Int))) - (a0.Value.length : Int)))))
/-! loop.example/g03012/laws.szFieldS -/
noncomputable def L_szFieldS_b0 (k : Nat) : Nat → (List LField) → Int → Int → Option (Oc (Int) (Int))
  | 0, _, _, _ => none
  | n + 1, x0, x1, x5 =>
    (bif (decide (x5 < (x0.length : Int))) then ((idx x0 x5).bind fun e1 =>
    ((L_szField k e1 x1).bind fun w2 =>
    (bif (decide (w2 < (0 : Int))) then some (.oth ((-1 : Int)))
    else L_szFieldS_b0 k n x0 w2 (IntKind.wrap .i64 (x5 + (1 : Int))))))
    else some (.nrm x1))
noncomputable def L_szFieldS (k : Nat) (a0 : List LField) (a1 : Int) : Option (Int) :=
    (bif (decide ((IntKind.wrap .i64 (a1 - (a0.length : Int))) < (0 : Int))) then some (-1 : Int)
    else ((L_szFieldS_b0 k k a0 (IntKind.wrap .i64 (a1 - (a0.length : Int))) (0 : Int)).bind fun o3 =>
    oc o3 (fun o4 => some o4)
    (fun o5 => some o5)))
/-! loop.example/g03012/laws.szRequest -/
noncomputable def L_szRequest (k : Nat) (a0 : LRequest) (a1 : Int) : Option (Int) :=
    (bif (decide ((IntKind.wrap .i64 (a1 - (a0.Method.length : Int))) < (0 : Int))) then some (-1 : Int)
    else (bif (decide ((IntKind.wrap .i64 ((IntKind.wrap .i64 (a1 - (a0.Method.length : Int))) - (a0.Host.length : Int))) < (0 : Int))) then some (-1 : Int)
    else (bif (decide ((IntKind.wrap .i64 ((IntKind.wrap .i64 ((IntKind.wrap .i64 (a1 - (a0.Method.length : Int))) - (a0.Host.length : Int))) - (a0.Target.length : Int))) < (0 : Int))) then some (-1 : Int)
    else ((L_szFieldS k a0.Fields (IntKind.wrap .i64 ((IntKind.wrap .i64 ((IntKind.wrap .i64 (a1 - (a0.Method.length : Int))) - (a0.Host.length : Int))) - (a0.Target.length : Int)))).bind fun w1 =>
    (bif (decide (w1 < (0 : Int))) then some (-1 : Int)
    else some w1)))))
/-! loop.example/g03012/laws.szResponse -/
noncomputable def L_szResponse (k : Nat) (a0 : LResponse) (a1 : Int) : Option (Int) :=
    ((L_szFieldS k a0.Fields a1).bind fun w1 =>
    (bif (decide (w1 < (0 : Int))) then some (-1 : Int)
    else (bif (decide ((IntKind.wrap .i64 (w1 - (a0.Body.length : Int))) < (0 : Int))) then some (-1 : Int)
    else some (IntKind.wrap .i64 (w1 - (a0.Body.length : Int))))))
/-! loop.example/g03012/laws.toField -/
noncomputable def L_toField (k : Nat) (a0 : LField) : Option (IField) :=
    some (⟨a0.Name, a0.Value⟩ : IField)
/-! loop.example/g03012/laws.toFieldS -/
noncomputable def L_toFieldS_b0 (k : Nat) : Nat → (List LField) → Int → (List IField) → Option ((List IField))
  | 0, _, _, _ => none
  | n + 1, x0, x4, r3 =>
    (bif (decide (x4 < (x0.length : Int))) then ((idx x0 x4).bind fun e2 =>
    ((L_toField k e2).bind fun w3 =>
    ((idx r3 x4).bind fun _ =>
    ((idx r3 x4).bind fun e4 =>
    L_toFieldS_b0 k n x0 (IntKind.wrap .i64 (x4 + (1 : Int))) ((r3).set (x4).toNat w3)))))
    else some (r3))
noncomputable def L_toFieldS (k : Nat) (a0 : List LField) : Option ((List IField)) :=
    (guardT ((a0.length : Int) == (a0.length : Int)) <| (mks 32 (a0.length : Int) (⟨([] : List UInt8), ([] : List UInt8)⟩ : IField)).bind fun u1 =>
    ((L_toFieldS_b0 k k a0 (0 : Int) u1).bind fun o5 =>
    some o5))
/-! loop.example/g03012/laws.toRequest -/
noncomputable def L_toRequest (k : Nat) (a0 : LRequest) : Option (IRequest) :=
    ((L_toFieldS k a0.Fields).bind fun w1 =>
    some (⟨a0.Method, a0.Host, a0.Target, w1⟩ : IRequest))
/-! loop.example/g03012/laws.toResponse -/
noncomputable def L_toResponse (k : Nat) (a0 : LResponse) : Option (IResponse) :=
    ((L_toFieldS k a0.Fields).bind fun w1 =>
    some (⟨a0.Code, w1, a0.Body⟩ : IResponse))
/-! loop.example/g03012/spec.JoinList -/
noncomputable def S_JoinList_c12 (k : Nat) (x0 : List (List UInt8)) (x3 : List UInt8) (x4 : Int) (x12 : Bool) : Option ((List UInt8)) :=
    (bif x12 then ((cat x3 ([44, 32] : List UInt8)).bind fun t1 =>
    some (t1))
    else some (x3))
noncomputable def S_JoinList_b1 (k : Nat) (x0 : List (List UInt8)) (x3 : List UInt8) (x4 : Int) : Option ((List UInt8)) :=
    ((S_JoinList_c12 k x0 x3 x4 (decide (x4 > (0 : Int)))).bind fun o1 =>
    ((idx x0 x4).bind fun e2 =>
    ((cat o1 e2).bind fun t3 =>
    some (t3))))
noncomputable def S_JoinList_b0 (k : Nat) : Nat → (List (List UInt8)) → (List UInt8) → Int → Option ((List UInt8))
  | 0, _, _, _ => none
  | n + 1, x0, x3, x4 =>
    (bif (decide (x4 < (x0.length : Int))) then ((S_JoinList_b1 k x0 x3 x4).bind fun o1 =>
    S_JoinList_b0 k n x0 o1 (IntKind.wrap .i64 (x4 + (1 : Int))))
    else some (x3))
noncomputable def S_JoinList (k : Nat) (a0 : List (List UInt8)) : Option ((List UInt8)) :=
    ((S_JoinList_b0 k k a0 ([] : List UInt8) (0 : Int)).bind fun o2 =>
    some o2)
/-! loop.example/g03012/spec.GetField -/
noncomputable def S_GetField_c21 (k : Nat) (x0 : List IField) (x1 : List UInt8) (x7 : Int) (x21 : Bool) (r6 : List (List UInt8)) : Option ((List (List UInt8))) :=
    (bif x21 then ((idx x0 x7).bind fun e2 =>
    ((app 16 r6 ([e2.Value] : List (List UInt8))).bind fun u3 =>
    some (u3)))
    else some (r6))
noncomputable def S_GetField_b1 (k : Nat) (x0 : List IField) (x1 : List UInt8) (x7 : Int) (r6 : List (List UInt8)) : Option ((List (List UInt8))) :=
    ((idx x0 x7).bind fun e1 =>
    ((S_GetField_c21 k x0 x1 x7 (e1.Name == x1) r6).bind fun o2 =>
    some (o2)))
noncomputable def S_GetField_b0 (k : Nat) : Nat → (List IField) → (List UInt8) → Int → (List (List UInt8)) → Option ((List (List UInt8)))
  | 0, _, _, _, _ => none
  | n + 1, x0, x1, x7, r6 =>
    (bif (decide (x7 < (x0.length : Int))) then ((S_GetField_b1 k x0 x1 x7 r6).bind fun o1 =>
    S_GetField_b0 k n x0 x1 (IntKind.wrap .i64 (x7 + (1 : Int))) o1)
    else some (r6))
noncomputable def S_GetField (k : Nat) (a0 : List IField) (a1 : List UInt8) : Option ((List UInt8) × Bool) :=
    ((S_GetField_b0 k k a0 a1 (0 : Int) ([] : List (List UInt8))).bind fun o2 =>
    ((S_JoinList k o2).bind fun w3 =>
    some (w3, (decide ((o2.length : Int) > (0 : Int))))))
/-! loop.example/g03012/spec.l5Get -/
noncomputable def S_l5Get (k : Nat) (a0 : List IField) (a1 : List UInt8) : Option ((List UInt8)) :=
    ((S_GetField k a0 a1).bind fun w1 =>
    some w1.1)
/-! loop.example/g03012/spec.l4Cut -/
noncomputable def S_l4Cut_c33 (k : Nat) (x0 : List UInt8) (x1 : Int) (x6 : Int) (x7 : Bool) (x8 : Int) (x33 : Bool) (r5 : List (List UInt8)) : Option (Int × (List (List UInt8))) :=
    (bif x33 then ((ssub x0 x6 x8).bind fun t4 =>
    ((app 16 r5 ([t4] : List (List UInt8))).bind fun u5 =>
    some (((IntKind.wrap .i64 (x8 + (1 : Int))), u5))))
    else some ((x6, r5)))
noncomputable def S_l4Cut_c26 (k : Nat) (x0 : List UInt8) (x1 : Int) (x6 : Int) (x7 : Bool) (x8 : Int) (x26 : Bool) (r5 : List (List UInt8)) : Option (Int × Bool × (List (List UInt8))) :=
    (bif x26 then some ((x6, (!x7), r5))
    else (bif (!x7) then ((idx x0 x8).bind fun c3 =>
    ((S_l4Cut_c33 k x0 x1 x6 x7 x8 ((UInt8.toNat c3 : Int) == x1) r5).bind fun o4 =>
    some ((o4.1, x7, o4.2)))) else ((S_l4Cut_c33 k x0 x1 x6 x7 x8 false r5).bind fun o5 =>
    some ((o5.1, x7, o5.2)))))
noncomputable def S_l4Cut_c16 (k : Nat) (x0 : List UInt8) (x1 : Int) (x6 : Int) (x7 : Bool) (x8 : Int) (x16 : Bool) (r5 : List (List UInt8)) : Option (Int × Bool × Int × (List (List UInt8))) :=
    (bif x16 then some ((x6, x7, (IntKind.wrap .i64 (x8 + (1 : Int))), r5))
    else ((idx x0 x8).bind fun c2 =>
    ((S_l4Cut_c26 k x0 x1 x6 x7 x8 ((UInt8.toNat c2 : Int) == (34 : Int)) r5).bind fun o3 =>
    some ((o3.1, o3.2.1, x8, o3.2.2)))))
noncomputable def S_l4Cut_b2 (k : Nat) (x0 : List UInt8) (x1 : Int) (x6 : Int) (x7 : Bool) (x8 : Int) (r5 : List (List UInt8)) : Option (Int × Bool × Int × (List (List UInt8))) :=
    (bif x7 then ((idx x0 x8).bind fun c1 =>
    ((S_l4Cut_c16 k x0 x1 x6 x7 x8 ((UInt8.toNat c1 : Int) == (92 : Int)) r5).bind fun o2 =>
    some ((o2.1, o2.2.1, o2.2.2.1, o2.2.2.2)))) else ((S_l4Cut_c16 k x0 x1 x6 x7 x8 false r5).bind fun o3 =>
    some ((o3.1, o3.2.1, o3.2.2.1, o3.2.2.2))))
noncomputable def S_l4Cut_b1 (k : Nat) (x0 : List UInt8) (x1 : Int) (x6 : Int) (x7 : Bool) (x8 : Int) (r5 : List (List UInt8)) : Option (Int × Bool × Int × (List (List UInt8))) :=
    ((S_l4Cut_b2 k x0 x1 x6 x7 x8 r5).bind fun o1 =>
    some ((o1.1, o1.2.1, o1.2.2.1, o1.2.2.2)))
noncomputable def S_l4Cut_b0 (k : Nat) : Nat → (List UInt8) → Int → Int → Bool → Int → (List (List UInt8)) → Option (Int × (List (List UInt8)))
  | 0, _, _, _, _, _, _ => none
  | n + 1, x0, x1, x6, x7, x8, r5 =>
    (bif (decide (x8 < (x0.length : Int))) then ((S_l4Cut_b1 k x0 x1 x6 x7 x8 r5).bind fun o1 =>
    S_l4Cut_b0 k n x0 x1 o1.1 o1.2.1 (IntKind.wrap .i64 (o1.2.2.1 + (1 : Int))) o1.2.2.2)
    else some ((x6, r5)))
noncomputable def S_l4Cut (k : Nat) (a0 : List UInt8) (a1 : Int) : Option ((List (List UInt8))) :=
    ((S_l4Cut_b0 k k a0 a1 (0 : Int) false (0 : Int) ([] : List (List UInt8))).bind fun o2 =>
    ((ssub a0 o2.1 (a0.length : Int)).bind fun t3 =>
    ((app 16 o2.2 ([t3] : List (List UInt8))).bind fun u4 =>
    some u4)))
/-! loop.example/g03012/spec.l4Blank -/
noncomputable def S_l4Blank (k : Nat) (a0 : Int) : Option (Bool) :=
    (bif (a0 == (32 : Int)) then some true else some (a0 == (9 : Int)))
/-! loop.example/g03012/spec.TrimText -/
noncomputable def S_TrimText_b0 (k : Nat) : Nat → (List UInt8) → Option ((List UInt8))
  | 0, _ => none
  | n + 1, x0 =>
    (bif (decide ((x0.length : Int) > (0 : Int))) then ((idx x0 (0 : Int)).bind fun c1 =>
    ((S_l4Blank k (UInt8.toNat c1 : Int)).bind fun w2 =>
    (bif w2 then ((ssub x0 (1 : Int) (x0.length : Int)).bind fun t3 =>
    S_TrimText_b0 k n t3)
    else some (x0)))) else some (x0))
noncomputable def S_TrimText_b2 (k : Nat) : Nat → (List UInt8) → Option ((List UInt8))
  | 0, _ => none
  | n + 1, x0 =>
    (bif (decide ((x0.length : Int) > (0 : Int))) then ((idx x0 (IntKind.wrap .i64 ((x0.length : Int) - (1 : Int)))).bind fun c5 =>
    ((S_l4Blank k (UInt8.toNat c5 : Int)).bind fun w6 =>
    (bif w6 then ((ssub x0 (0 : Int) (IntKind.wrap .i64 ((x0.length : Int) - (1 : Int)))).bind fun t7 =>
    S_TrimText_b2 k n t7)
    else some (x0)))) else some (x0))
noncomputable def S_TrimText (k : Nat) (a0 : List UInt8) : Option ((List UInt8)) :=
    ((S_TrimText_b0 k k a0).bind fun o4 =>
    ((S_TrimText_b2 k k o4).bind fun o8 =>
    some o8))
/-! loop.example/g03012/spec.SplitList -/
noncomputable def S_SplitList_c22 (k : Nat) (x5 : Int) (x6 : List UInt8) (x22 : Bool) (r3 : List (List UInt8)) (r4 : List (List UInt8)) : Option ((List (List UInt8))) :=
    (bif x22 then ((app 16 r4 ([x6] : List (List UInt8))).bind fun u4 =>
    some (u4))
    else some (r4))
noncomputable def S_SplitList_b1 (k : Nat) (x5 : Int) (r3 : List (List UInt8)) (r4 : List (List UInt8)) : Option ((List (List UInt8))) :=
    ((idx r3 x5).bind fun _ =>
    ((idx r3 x5).bind fun e2 =>
    ((S_TrimText k e2).bind fun w3 =>
    ((S_SplitList_c22 k x5 w3 (!(w3 == ([] : List UInt8))) r3 r4).bind fun o4 =>
    some (o4)))))
noncomputable def S_SplitList_b0 (k : Nat) : Nat → Int → (List (List UInt8)) → (List (List UInt8)) → Option ((List (List UInt8)))
  | 0, _, _, _ => none
  | n + 1, x5, r3, r4 =>
    (bif (decide (x5 < (r3.length : Int))) then ((S_SplitList_b1 k x5 r3 r4).bind fun o2 =>
    S_SplitList_b0 k n (IntKind.wrap .i64 (x5 + (1 : Int))) r3 o2)
    else some (r4))
noncomputable def S_SplitList (k : Nat) (a0 : List UInt8) : Option ((List (List UInt8))) :=
    ((S_l4Cut k a0 (44 : Int)).bind fun w1 =>
    ((S_SplitList_b0 k k (0 : Int) w1 ([] : List (List UInt8))).bind fun o3 =>
    some o3))
/-! loop.example/g03012/spec.SplitPair -/
noncomputable def S_SplitPair_b0 (k : Nat) : Nat → (List UInt8) → Int → Option (Oc (Unit) ((List UInt8) × (List UInt8) × Bool))
  | 0, _, _ => none
  | n + 1, x0, x5 =>
    (bif (decide (x5 < (x0.length : Int))) then ((idx x0 x5).bind fun c1 =>
    (bif ((UInt8.toNat c1 : Int) == (61 : Int)) then ((ssub x0 (0 : Int) x5).bind fun t2 =>
    ((S_TrimText k t2).bind fun w3 =>
    ((ssub x0 (IntKind.wrap .i64 (x5 + (1 : Int))) (x0.length : Int)).bind fun t4 =>
    ((S_TrimText k t4).bind fun w5 =>
    some (.oth ((w3, w5, true)))))))
    else S_SplitPair_b0 k n x0 (IntKind.wrap .i64 (x5 + (1 : Int)))))
    else some (.nrm ()))
noncomputable def S_SplitPair (k : Nat) (a0 : List UInt8) : Option ((List UInt8) × (List UInt8) × Bool) :=
    ((S_SplitPair_b0 k k a0 (0 : Int)).bind fun o6 =>
    oc o6 (fun o7 => ((S_TrimText k a0).bind fun w9 =>
    some (w9, ([] : List UInt8), false)))
    (fun o8 => some o8))
/-! loop.example/g03012/spec.l1In -/
noncomputable def S_l1In (k : Nat) (a0 : Int) (a1 : Int) (a2 : Int) : Option (Bool) :=
    (bif (decide (a0 ≥ a1)) then some (decide (a0 ≤ a2)) else some false)
/-! loop.example/g03012/spec.LowerText -/
noncomputable def S_LowerText_c18 (k : Nat) (x4 : Int) (x18 : Bool) (r3 : List Int) : Option ((List Int)) :=
    (bif x18 then ((idx r3 x4).bind fun _ =>
    ((idx r3 x4).bind fun e3 =>
    ((idx r3 x4).bind fun _ =>
    ((idx r3 x4).bind fun e4 =>
    some (((r3).set (x4).toNat (IntKind.wrap .u8 (e3 + (32 : Int)))))))))
    else some (r3))
noncomputable def S_LowerText_b1 (k : Nat) (x4 : Int) (r3 : List Int) : Option ((List Int)) :=
    ((idx r3 x4).bind fun _ =>
    ((idx r3 x4).bind fun e1 =>
    ((S_l1In k (IntKind.wrap .i64 e1) (65 : Int) (90 : Int)).bind fun w2 =>
    ((S_LowerText_c18 k x4 w2 r3).bind fun o3 =>
    some (o3)))))
noncomputable def S_LowerText_b0 (k : Nat) : Nat → Int → (List Int) → Option ((List Int))
  | 0, _, _ => none
  | n + 1, x4, r3 =>
    (bif (decide (x4 < (r3.length : Int))) then ((S_LowerText_b1 k x4 r3).bind fun o1 =>
    S_LowerText_b0 k n (IntKind.wrap .i64 (x4 + (1 : Int))) o1)
    else some (r3))
noncomputable def S_LowerText (k : Nat) (a0 : List UInt8) : Option ((List UInt8)) :=
    ((S_LowerText_b0 k k (0 : Int) (intsOf a0)).bind fun o2 =>
    some (bytesOf o2))
/-! loop.example/g03012/spec.UnquoteText -/
noncomputable def S_UnquoteText_c36 (k : Nat) (x0 : List UInt8) (x5 : Int) (x36 : Bool) (r4 : List Int) : Option (Int × (List Int)) :=
    (bif x36 then ((idx x0 (IntKind.wrap .i64 (x5 + (1 : Int)))).bind fun c4 =>
    ((app 1 r4 ([(UInt8.toNat c4 : Int)] : List Int)).bind fun u5 =>
    some (((IntKind.wrap .i64 (x5 + (1 : Int))), u5))))
    else ((idx x0 x5).bind fun c6 =>
    ((app 1 r4 ([(UInt8.toNat c6 : Int)] : List Int)).bind fun u7 =>
    some ((x5, u7)))))
noncomputable def S_UnquoteText_c19 (k : Nat) (x0 : List UInt8) (x5 : Int) (x19 : Bool) (r4 : List Int) : Option (Oc (Int × (List Int)) ((List UInt8) × Bool)) :=
    (bif x19 then ((idx x0 (0 : Int)).bind fun c2 =>
    (bif ((UInt8.toNat c2 : Int) == (34 : Int)) then some (.oth (((bytesOf r4), (x5 == (IntKind.wrap .i64 ((x0.length : Int) - (1 : Int))))))) else some (.oth (((bytesOf r4), false)))))
    else ((idx x0 x5).bind fun c3 =>
    (bif ((UInt8.toNat c3 : Int) == (92 : Int)) then ((S_UnquoteText_c36 k x0 x5 (decide ((IntKind.wrap .i64 (x5 + (1 : Int))) < (x0.length : Int))) r4).bind fun o4 =>
    some (.nrm (o4.1, o4.2))) else ((S_UnquoteText_c36 k x0 x5 false r4).bind fun o5 =>
    some (.nrm (o5.1, o5.2))))))
noncomputable def S_UnquoteText_b2 (k : Nat) (x0 : List UInt8) (x5 : Int) (r4 : List Int) : Option (Oc (Int × (List Int)) ((List UInt8) × Bool)) :=
    ((idx x0 x5).bind fun c1 =>
    ((S_UnquoteText_c19 k x0 x5 ((UInt8.toNat c1 : Int) == (34 : Int)) r4).bind fun o2 =>
    oc o2 (fun o3 => some (.nrm (o3.1, o3.2)))
    (fun o4 => some (.oth (o4)))))
noncomputable def S_UnquoteText_b1 (k : Nat) (x0 : List UInt8) (x5 : Int) (r4 : List Int) : Option (Oc (Int × (List Int)) ((List UInt8) × Bool)) :=
    ((S_UnquoteText_b2 k x0 x5 r4).bind fun o1 =>
    oc o1 (fun o2 => some (.nrm (o2.1, o2.2)))
    (fun o3 => some (.oth (o3))))
noncomputable def S_UnquoteText_b0 (k : Nat) : Nat → (List UInt8) → Int → (List Int) → Option (Oc ((List Int)) ((List UInt8) × Bool))
  | 0, _, _, _ => none
  | n + 1, x0, x5, r4 =>
    (bif (decide (x5 < (x0.length : Int))) then ((S_UnquoteText_b1 k x0 x5 r4).bind fun o1 =>
    oc o1 (fun o2 => S_UnquoteText_b0 k n x0 (IntKind.wrap .i64 (o2.1 + (1 : Int))) o2.2)
    (fun o3 => some (.oth (o3))))
    else some (.nrm r4))
noncomputable def S_UnquoteText (k : Nat) (a0 : List UInt8) : Option ((List UInt8) × Bool) :=
    ((S_UnquoteText_b0 k k a0 (1 : Int) ([] : List Int)).bind fun o4 =>
    oc o4 (fun o5 => some ((bytesOf o5), false))
    (fun o6 => some o6))
/-! loop.example/g03012/spec.l4Letter -/
noncomputable def S_l4Letter (k : Nat) (a0 : Int) : Option (Bool) :=
    ((S_l1In k (IntKind.wrap .i64 a0) (97 : Int) (122 : Int)).bind fun w1 =>
    (bif w1 then some true else ((S_l1In k (IntKind.wrap .i64 a0) (65 : Int) (90 : Int)).bind fun w2 =>
    (bif w2 then some true else ((S_l1In k (IntKind.wrap .i64 a0) (48 : Int) (57 : Int)).bind fun w3 =>
    some w3)))))
/-! loop.example/g03012/spec.l4Token -/
noncomputable def S_l4Token_b0 (k : Nat) : Nat → Int → Int → Option (Oc (Unit) (Bool))
  | 0, _, _ => none
  | n + 1, x0, x3 =>
    (bif (decide (x3 < (15 : Int))) then ((idx ([33, 35, 36, 37, 38, 39, 42, 43, 45, 46, 94, 95, 124, 126, 96] : List UInt8) x3).bind fun c1 =>
    (bif (x0 == (UInt8.toNat c1 : Int)) then some (.oth (true))
    else S_l4Token_b0 k n x0 (IntKind.wrap .i64 (x3 + (1 : Int)))))
    else some (.nrm ()))
noncomputable def S_l4Token (k : Nat) (a0 : Int) : Option (Bool) :=
    ((S_l4Token_b0 k k a0 (0 : Int)).bind fun o2 =>
    oc o2 (fun o3 => ((S_l4Letter k a0).bind fun w5 =>
    some w5))
    (fun o4 => some o4))
/-! loop.example/g03012/spec.IsToken -/
noncomputable def S_IsToken_b0 (k : Nat) : Nat → (List UInt8) → Int → Option (Oc (Unit) (Bool))
  | 0, _, _ => none
  | n + 1, x0, x3 =>
    (bif (decide (x3 < (x0.length : Int))) then ((idx x0 x3).bind fun c1 =>
    ((S_l4Token k (UInt8.toNat c1 : Int)).bind fun w2 =>
    (bif (!w2) then some (.oth (false))
    else S_IsToken_b0 k n x0 (IntKind.wrap .i64 (x3 + (1 : Int))))))
    else some (.nrm ()))
noncomputable def S_IsToken (k : Nat) (a0 : List UInt8) : Option (Bool) :=
    ((S_IsToken_b0 k k a0 (0 : Int)).bind fun o3 =>
    oc o3 (fun o4 => ((S_l1In k (a0.length : Int) (1 : Int) (40 : Int)).bind fun w6 =>
    some w6))
    (fun o5 => some o5))
/-! loop.example/g03012/spec.ParseDirectives -/
noncomputable def S_ParseDirectives_c45 (k : Nat) (x5 : Int) (x7 : List UInt8) (x8 : Bool) (x45 : Bool) (r3 : List (List UInt8)) (r4 : List IDirective) (y9_0 : List UInt8) (y9_1 : List UInt8) (y9_2 : Bool) : Option (Oc ((List UInt8)) (Unit)) :=
    (bif x45 then ((S_UnquoteText k x7).bind fun w6 =>
    (bif (!w6.2) then some (.oth (()))
    else some (.nrm w6.1)))
    else (bif x8 then ((S_IsToken k x7).bind fun w7 =>
    (bif (!w7) then some (.oth (()))
    else some (.nrm y9_1))) else some (.nrm y9_1)))
noncomputable def S_ParseDirectives_c63 (k : Nat) (x5 : Int) (x63 : Bool) (r3 : List (List UInt8)) (r4 : List IDirective) (y9_0 : List UInt8) (y9_1 : List UInt8) (y9_2 : Bool) : Option ((List IDirective)) :=
    (bif x63 then ((app 40 r4 ([(⟨y9_0, y9_1, y9_2⟩ : IDirective)] : List IDirective)).bind fun u12 =>
    some (u12))
    else some (r4))
noncomputable def S_ParseDirectives_b1 (k : Nat) (x5 : Int) (r3 : List (List UInt8)) (r4 : List IDirective) : Option ((List IDirective)) :=
    ((idx r3 x5).bind fun _ =>
    ((idx r3 x5).bind fun e2 =>
    ((S_SplitPair k e2).bind fun w3 =>
    ((S_LowerText k w3.1).bind fun w4 =>
    (bif w3.2.2 then (bif (decide ((w3.2.1.length : Int) > (0 : Int))) then ((idx w3.2.1 (0 : Int)).bind fun c5 =>
    ((S_ParseDirectives_c45 k x5 w3.2.1 w3.2.2 ((UInt8.toNat c5 : Int) == (34 : Int)) r3 r4 w4 w3.2.1 w3.2.2).bind fun o6 =>
    oc o6 (fun o7 => ((S_IsToken k w4).bind fun w9 =>
    ((S_ParseDirectives_c63 k x5 w9 r3 r4 w4 o7 w3.2.2).bind fun o10 =>
    some (o10))))
    (fun o8 => some (r4)))) else ((S_ParseDirectives_c45 k x5 w3.2.1 w3.2.2 false r3 r4 w4 w3.2.1 w3.2.2).bind fun o11 =>
    oc o11 (fun o12 => ((S_IsToken k w4).bind fun w14 =>
    ((S_ParseDirectives_c63 k x5 w14 r3 r4 w4 o12 w3.2.2).bind fun o15 =>
    some (o15))))
    (fun o13 => some (r4)))) else ((S_ParseDirectives_c45 k x5 w3.2.1 w3.2.2 false r3 r4 w4 w3.2.1 w3.2.2).bind fun o16 =>
    oc o16 (fun o17 => ((S_IsToken k w4).bind fun w19 =>
    ((S_ParseDirectives_c63 k x5 w19 r3 r4 w4 o17 w3.2.2).bind fun o20 =>
    some (o20))))
    (fun o18 => some (r4))))))))
noncomputable def S_ParseDirectives_b0 (k : Nat) : Nat → Int → (List (List UInt8)) → (List IDirective) → Option ((List IDirective))
  | 0, _, _, _ => none
  | n + 1, x5, r3, r4 =>
    (bif (decide (x5 < (r3.length : Int))) then ((S_ParseDirectives_b1 k x5 r3 r4).bind fun o2 =>
    S_ParseDirectives_b0 k n (IntKind.wrap .i64 (x5 + (1 : Int))) r3 o2)
    else some (r4))
noncomputable def S_ParseDirectives (k : Nat) (a0 : List UInt8) : Option ((List IDirective)) :=
    ((S_SplitList k a0).bind fun w1 =>
    ((S_ParseDirectives_b0 k k (0 : Int) w1 ([] : List IDirective)).bind fun o3 =>
    some o3))
/-! loop.example/g03012/spec.l19Rules -/
noncomputable def S_l19Rules (k : Nat) (a0 : List IField) : Option ((List IDirective)) :=
    ((S_l5Get k a0 ([99, 97, 99, 104, 101, 45, 99, 111, 110, 116, 114, 111, 108] : List UInt8)).bind fun w1 =>
    ((S_ParseDirectives k w1).bind fun w2 =>
    some w2))
/-! loop.example/g03012/spec.FindDirective -/
noncomputable def S_FindDirective_b0 (k : Nat) : Nat → (List IDirective) → (List UInt8) → Int → Option (Oc (Unit) (Int))
  | 0, _, _, _ => none
  | n + 1, x0, x1, x5 =>
    (bif (decide (x5 < (x0.length : Int))) then ((idx x0 x5).bind fun e1 =>
    (bif (e1.Name == x1) then some (.oth (x5))
    else S_FindDirective_b0 k n x0 x1 (IntKind.wrap .i64 (x5 + (1 : Int)))))
    else some (.nrm ()))
noncomputable def S_FindDirective (k : Nat) (a0 : List IDirective) (a1 : List UInt8) : Option (Int) :=
    ((S_FindDirective_b0 k k a0 a1 (0 : Int)).bind fun o2 =>
    oc o2 (fun o3 => some (-1 : Int))
    (fun o4 => some o4))
/-! loop.example/g03012/spec.Min -/
noncomputable def S_Min (k : Nat) (a0 : Int) (a1 : Int) : Option (Int) :=
    (bif (decide (a1 < a0)) then some a1
    else some a0)
/-! loop.example/g03012/spec.SecondsOf -/
noncomputable def S_SecondsOf_b0 (k : Nat) : Nat → Int → (List UInt8) → Int → Option (Oc (Int) (Int × Bool))
  | 0, _, _, _ => none
  | n + 1, x7, x8, x9 =>
    (bif (decide (x9 < (x8.length : Int))) then ((idx x8 x9).bind fun c3 =>
    ((S_l1In k (IntKind.wrap .i64 (UInt8.toNat c3 : Int)) (48 : Int) (57 : Int)).bind fun w4 =>
    (bif (!w4) then some (.oth (((0 : Int), true)))
    else ((idx x8 x9).bind fun c5 =>
    ((S_Min k (2147483648 : Int) (IntKind.wrap .i64 ((IntKind.wrap .i64 ((10 : Int) * x7)) + (IntKind.wrap .i64 (IntKind.wrap .u8 ((UInt8.toNat c5 : Int) - (48 : Int))))))).bind fun w6 =>
    S_SecondsOf_b0 k n w6 x8 (IntKind.wrap .i64 (x9 + (1 : Int))))))))
    else some (.nrm x7))
noncomputable def S_SecondsOf (k : Nat) (a0 : List IDirective) (a1 : List UInt8) : Option (Int × Bool) :=
    ((S_FindDirective k a0 a1).bind fun w1 =>
    (bif (decide (w1 < (0 : Int))) then some ((0 : Int), false)
    else ((idx a0 w1).bind fun e2 =>
    ((S_SecondsOf_b0 k k (0 : Int) e2.Value (0 : Int)).bind fun o7 =>
    oc o7 (fun o8 => some (o8, true))
    (fun o9 => some o9)))))
/-! loop.example/g03012/spec.HasDirective -/
noncomputable def S_HasDirective (k : Nat) (a0 : List IDirective) (a1 : List UInt8) : Option (Bool) :=
    ((S_FindDirective k a0 a1).bind fun w1 =>
    some (decide (w1 ≥ (0 : Int))))
/-! loop.example/g03012/spec.l22Asked -/
noncomputable def S_l22Asked (k : Nat) (a0 : List IDirective) (a1 : Int) (a2 : Int) : Option (Bool) :=
    ((S_SecondsOf k a0 ([109, 97, 120, 45, 97, 103, 101] : List UInt8)).bind fun w1 =>
    ((S_SecondsOf k a0 ([109, 105, 110, 45, 102, 114, 101, 115, 104] : List UInt8)).bind fun w2 =>
    ((S_HasDirective k a0 ([110, 111, 45, 99, 97, 99, 104, 101] : List UInt8)).bind fun w3 =>
    (bif (!w3) then (bif (!w1.2) then (bif (!w2.2) then some true else some (decide ((IntKind.wrap .i64 (a2 - a1)) ≥ w2.1))) else (bif (decide (a1 ≤ w1.1)) then (bif (!w2.2) then some true else some (decide ((IntKind.wrap .i64 (a2 - a1)) ≥ w2.1))) else some false)) else some false))))
/-! loop.example/g03012/spec.l22Bound -/
noncomputable def S_l22Bound (k : Nat) (a0 : List IDirective) : Option (Bool) :=
    ((S_HasDirective k a0 ([109, 117, 115, 116, 45, 114, 101, 118, 97, 108, 105, 100, 97, 116, 101] : List UInt8)).bind fun w1 =>
    (bif w1 then some true else ((S_HasDirective k a0 ([112, 114, 111, 120, 121, 45, 114, 101, 118, 97, 108, 105, 100, 97, 116, 101] : List UInt8)).bind fun w2 =>
    (bif w2 then some true else ((S_HasDirective k a0 ([115, 45, 109, 97, 120, 97, 103, 101] : List UInt8)).bind fun w3 =>
    (bif w3 then some true else ((S_HasDirective k a0 ([110, 111, 45, 99, 97, 99, 104, 101] : List UInt8)).bind fun w4 =>
    some w4)))))))
/-! loop.example/g03012/spec.PlanFor -/
noncomputable def S_PlanFor_c81 (k : Nat) (x11 : Int) (x81 : Bool) (r9 : List IDirective) : Option (Int) :=
    (bif x81 then some ((2 : Int))
    else some (x11))
noncomputable def S_PlanFor_c66 (k : Nat) (x11 : Int) (x12 : Int) (x16 : Int) (x17 : Bool) (x66 : Bool) (r9 : List IDirective) : Option (Int) :=
    (bif x66 then some ((1 : Int))
    else (bif x17 then ((S_PlanFor_c81 k x11 (decide (x12 ≤ x16)) r9).bind fun o10 =>
    some (o10)) else ((S_PlanFor_c81 k x11 false r9).bind fun o11 =>
    some (o11))))
noncomputable def S_PlanFor_c60 (k : Nat) (x11 : Int) (x12 : Int) (x13 : Int) (x14 : Bool) (x15 : Int) (x16 : Int) (x17 : Bool) (x60 : Bool) (r9 : List IDirective) : Option (Int) :=
    (bif x60 then some (x11)
    else (bif x14 then ((idx r9 x15).bind fun _ =>
    ((idx r9 x15).bind fun e9 =>
    (bif (!e9.Has) then ((S_PlanFor_c66 k x11 x12 x16 x17 true r9).bind fun o10 =>
    some (o10)) else ((S_PlanFor_c66 k x11 x12 x16 x17 (decide (x12 ≤ x13)) r9).bind fun o11 =>
    some (o11))))) else ((S_PlanFor_c66 k x11 x12 x16 x17 false r9).bind fun o12 =>
    some (o12))))
noncomputable def S_PlanFor_c56 (k : Nat) (x11 : Int) (x12 : Int) (x13 : Int) (x14 : Bool) (x15 : Int) (x16 : Int) (x17 : Bool) (x19 : Bool) (x56 : Bool) (r9 : List IDirective) (r10 : List IDirective) : Option (Int) :=
    (bif x56 then some ((1 : Int))
    else ((S_l22Bound k r10).bind fun w8 =>
    (bif w8 then ((S_PlanFor_c60 k x11 x12 x13 x14 x15 x16 x17 true r9).bind fun o9 =>
    some (o9)) else ((S_PlanFor_c60 k x11 x12 x13 x14 x15 x16 x17 x19 r9).bind fun o10 =>
    some (o10)))))
noncomputable def S_PlanFor_c46 (k : Nat) (x2 : Int) (x3 : Int) (x11 : Int) (x12 : Int) (x13 : Int) (x14 : Bool) (x15 : Int) (x16 : Int) (x17 : Bool) (x19 : Bool) (x46 : Bool) (r9 : List IDirective) (r10 : List IDirective) : Option (Int) :=
    (bif x46 then some (x11)
    else ((S_PlanFor_c56 k x11 x12 x13 x14 x15 x16 x17 x19 (decide (x2 < x3)) r9 r10).bind fun o8 =>
    some (o8)))
noncomputable def S_PlanFor_b0 (k : Nat) (x2 : Int) (x3 : Int) (x11 : Int) (x12 : Int) (x13 : Int) (x14 : Bool) (x15 : Int) (x16 : Int) (x17 : Bool) (x19 : Bool) (r9 : List IDirective) (r10 : List IDirective) : Option (Int) :=
    ((S_l22Asked k r9 x2 x3).bind fun w7 =>
    (bif (!w7) then ((S_PlanFor_c46 k x2 x3 x11 x12 x13 x14 x15 x16 x17 x19 true r9 r10).bind fun o8 =>
    some (o8)) else ((S_HasDirective k r10 ([110, 111, 45, 99, 97, 99, 104, 101] : List UInt8)).bind fun w9 =>
    ((S_PlanFor_c46 k x2 x3 x11 x12 x13 x14 x15 x16 x17 x19 w9 r9 r10).bind fun o10 =>
    some (o10)))))
noncomputable def S_PlanFor (k : Nat) (a0 : IRequest) (a1 : IResponse) (a2 : Int) (a3 : Int) : Option (Int) :=
    ((S_l19Rules k a0.Fields).bind fun w1 =>
    ((S_l19Rules k a1.Fields).bind fun w2 =>
    ((S_SecondsOf k w1 ([109, 97, 120, 45, 115, 116, 97, 108, 101] : List UInt8)).bind fun w3 =>
    ((S_FindDirective k w1 ([109, 97, 120, 45, 115, 116, 97, 108, 101] : List UInt8)).bind fun w4 =>
    ((S_SecondsOf k w2 ([115, 116, 97, 108, 101, 45, 119, 104, 105, 108, 101, 45, 114, 101, 118, 97, 108, 105, 100, 97, 116, 101] : List UInt8)).bind fun w5 =>
    ((S_SecondsOf k w1 ([109, 105, 110, 45, 102, 114, 101, 115, 104] : List UInt8)).bind fun w6 =>
    ((S_PlanFor_b0 k a2 a3 (3 : Int) (IntKind.wrap .i64 (a2 - a3)) w3.1 w3.2 w4 w5.1 w5.2 w6.2 w1 w2).bind fun o11 =>
    (bif (o11 == (3 : Int)) then ((S_HasDirective k w1 ([111, 110, 108, 121, 45, 105, 102, 45, 99, 97, 99, 104, 101, 100] : List UInt8)).bind fun w12 =>
    (bif w12 then some (4 : Int)
    else some o11)) else some o11))))))))
/-! strings.Join -/
noncomputable def strings_Join (k : Nat) (a0 : List (List UInt8)) (a1 : List UInt8) : Option ((List UInt8)) :=
    joinO a0 a1
/-! loop.example/g03012/impl.JoinList -/
noncomputable def I_JoinList (k : Nat) (a0 : List (List UInt8)) : Option ((List UInt8)) :=
    ((strings_Join k a0 ([44, 32] : List UInt8)).bind fun w1 =>
    some w1)
/-! loop.example/g03012/impl.GetField -/
noncomputable def I_GetField_c19 (k : Nat) (x1 : List UInt8) (x10 : List IField) (x11 : Int) (x12 : Int) (x19 : Bool) (r6 : List (List UInt8)) (y8_0 : List UInt8) (y8_1 : List UInt8) : Option ((List (List UInt8))) :=
    (bif x19 then ((app 16 r6 ([y8_1] : List (List UInt8))).bind fun u2 =>
    some (u2))
    else some (r6))
noncomputable def I_GetField_b1 (k : Nat) (x1 : List UInt8) (x10 : List IField) (x11 : Int) (x12 : Int) (r6 : List (List UInt8)) : Option ((List (List UInt8))) :=
    ((idx x10 x12).bind fun e1 =>
    ((I_GetField_c19 k x1 x10 x11 x12 (e1.Name == x1) r6 e1.Name e1.Value).bind fun o2 =>
    some (o2)))
noncomputable def I_GetField_b0 (k : Nat) : Nat → (List UInt8) → (List IField) → Int → Int → (List (List UInt8)) → Option ((List (List UInt8)))
  | 0, _, _, _, _, _ => none
  | n + 1, x1, x10, x11, x12, r6 =>
    (bif (decide (x12 < x11)) then ((I_GetField_b1 k x1 x10 x11 x12 r6).bind fun o1 =>
    I_GetField_b0 k n x1 x10 x11 (IntKind.wrap .i64 (x12 + (1 : Int))) o1)
    else some (r6))
noncomputable def I_GetField (k : Nat) (a0 : List IField) (a1 : List UInt8) : Option ((List UInt8) × Bool) :=
    ((I_GetField_b0 k k a1 a0 (a0.length : Int) (0 : Int) ([] : List (List UInt8))).bind fun o2 =>
    ((I_JoinList k o2).bind fun w3 =>
    some (w3, (decide ((o2.length : Int) > (0 : Int))))))
/-! strings.Trim -/
noncomputable def strings_Trim (k : Nat) (a0 : List UInt8) (a1 : List UInt8) : Option ((List UInt8)) :=
    trimO a0 a1
/-! loop.example/g03012/impl.TrimText -/
noncomputable def I_TrimText (k : Nat) (a0 : List UInt8) : Option ((List UInt8)) :=
    ((strings_Trim k a0 ([32, 9] : List UInt8)).bind fun w1 =>
    some w1)
/-! loop.example/g03012/impl.SplitList -/
noncomputable def I_SplitList_c32 (k : Nat) (x0 : List UInt8) (x4 : Int) (x5 : Bool) (x6 : Int) (x32 : Bool) (r3 : List (List UInt8)) : Option (Bool) :=
    (bif x32 then some ((!x5))
    else some (x5))
noncomputable def I_SplitList_c41 (k : Nat) (x0 : List UInt8) (x4 : Int) (x5 : Bool) (x6 : Int) (x41 : Bool) (r3 : List (List UInt8)) : Option (Int) :=
    (bif x41 then some ((IntKind.wrap .i64 (x6 + (1 : Int))))
    else some (x6))
noncomputable def I_SplitList_c53 (k : Nat) (x0 : List UInt8) (x5 : Bool) (x6 : Int) (x7 : List UInt8) (x53 : Bool) (r3 : List (List UInt8)) : Option ((List (List UInt8))) :=
    (bif x53 then ((app 16 r3 ([x7] : List (List UInt8))).bind fun u14 =>
    some (u14))
    else some (r3))
noncomputable def I_SplitList_b1 (k : Nat) (x0 : List UInt8) (x4 : Int) (x5 : Bool) (x6 : Int) (r3 : List (List UInt8)) : Option (Int × Bool × Int × (List (List UInt8))) :=
    (bif (decide (x6 < (x0.length : Int))) then (bif x5 then ((idx x0 x6).bind fun c1 =>
    ((I_SplitList_c32 k x0 x4 x5 x6 ((UInt8.toNat c1 : Int) == (34 : Int)) r3).bind fun o2 =>
    (bif o2 then ((idx x0 x6).bind fun c3 =>
    ((I_SplitList_c41 k x0 x4 o2 x6 ((UInt8.toNat c3 : Int) == (92 : Int)) r3).bind fun o4 =>
    some ((x4, o2, o4, r3)))) else ((I_SplitList_c41 k x0 x4 o2 x6 false r3).bind fun o5 =>
    some ((x4, o2, o5, r3)))))) else ((idx x0 x6).bind fun c6 =>
    (bif ((UInt8.toNat c6 : Int) != (44 : Int)) then ((idx x0 x6).bind fun c7 =>
    ((I_SplitList_c32 k x0 x4 x5 x6 ((UInt8.toNat c7 : Int) == (34 : Int)) r3).bind fun o8 =>
    (bif o8 then ((idx x0 x6).bind fun c9 =>
    ((I_SplitList_c41 k x0 x4 o8 x6 ((UInt8.toNat c9 : Int) == (92 : Int)) r3).bind fun o10 =>
    some ((x4, o8, o10, r3)))) else ((I_SplitList_c41 k x0 x4 o8 x6 false r3).bind fun o11 =>
    some ((x4, o8, o11, r3))))))
    else ((ssub x0 x4 (if (x0.length : Int) < x6 then (x0.length : Int) else x6)).bind fun t12 =>
    ((I_TrimText k t12).bind fun w13 =>
    ((I_SplitList_c53 k x0 x5 x6 w13 (!(w13 == ([] : List UInt8))) r3).bind fun o14 =>
    some (((IntKind.wrap .i64 (x6 + (1 : Int))), x5, x6, o14)))))))) else ((ssub x0 x4 (if (x0.length : Int) < x6 then (x0.length : Int) else x6)).bind fun t15 =>
    ((I_TrimText k t15).bind fun w16 =>
    ((I_SplitList_c53 k x0 x5 x6 w16 (!(w16 == ([] : List UInt8))) r3).bind fun o17 =>
    some (((IntKind.wrap .i64 (x6 + (1 : Int))), x5, x6, o17))))))
noncomputable def I_SplitList_b0 (k : Nat) : Nat → (List UInt8) → Int → Bool → Int → (List (List UInt8)) → Option (Int × (List (List UInt8)))
  | 0, _, _, _, _, _ => none
  | n + 1, x0, x4, x5, x6, r3 =>
    (bif (decide (x6 ≤ (x0.length : Int))) then ((I_SplitList_b1 k x0 x4 x5 x6 r3).bind fun o1 =>
    I_SplitList_b0 k n x0 o1.1 o1.2.1 (IntKind.wrap .i64 (o1.2.2.1 + (1 : Int))) o1.2.2.2)
    else some ((x4, r3)))
noncomputable def I_SplitList_c69 (k : Nat) (x8 : List UInt8) (x69 : Bool) (r3 : List (List UInt8)) : Option ((List (List UInt8))) :=
    (bif x69 then ((app 16 r3 ([x8] : List (List UInt8))).bind fun u5 =>
    some (u5))
    else some (r3))
noncomputable def I_SplitList_c63 (k : Nat) (x0 : List UInt8) (x4 : Int) (x63 : Bool) (r3 : List (List UInt8)) : Option ((List (List UInt8))) :=
    (bif x63 then ((ssub x0 x4 (x0.length : Int)).bind fun t3 =>
    ((I_TrimText k t3).bind fun w4 =>
    ((I_SplitList_c69 k w4 (!(w4 == ([] : List UInt8))) r3).bind fun o5 =>
    some (o5))))
    else some (r3))
noncomputable def I_SplitList (k : Nat) (a0 : List UInt8) : Option ((List (List UInt8))) :=
    ((I_SplitList_b0 k k a0 (0 : Int) false (0 : Int) ([] : List (List UInt8))).bind fun o2 =>
    ((I_SplitList_c63 k a0 o2.1 (decide (o2.1 < (a0.length : Int))) o2.2).bind fun o6 =>
    some o6))
/-! strings.Cut -/
noncomputable def strings_Cut (k : Nat) (a0 : List UInt8) (a1 : List UInt8) : Option ((List UInt8) × (List UInt8) × Bool) :=
    cutO a0 a1
/-! loop.example/g03012/impl.SplitPair -/
noncomputable def I_SplitPair (k : Nat) (a0 : List UInt8) : Option ((List UInt8) × (List UInt8) × Bool) :=
    ((strings_Cut k a0 ([61] : List UInt8)).bind fun w1 =>
    ((I_TrimText k w1.1).bind fun w2 =>
    ((I_TrimText k w1.2.1).bind fun w3 =>
    some (w2, w3, w1.2.2))))
/-! loop.example/g03012/impl.LowerText -/
noncomputable def I_LowerText_c20 (k : Nat) (x4 : Int) (x5 : Int) (x9 : Int) (x10 : Int) (x20 : Bool) (r8 : List Int) : Option ((List Int)) :=
    (bif x20 then ((idx r8 x4).bind fun _ =>
    ((idx r8 x4).bind fun e2 =>
    some (((r8).set (x4).toNat (IntKind.wrap .u8 (x5 + (32 : Int)))))))
    else some (r8))
noncomputable def I_LowerText_b1 (k : Nat) (x9 : Int) (x10 : Int) (r8 : List Int) : Option ((List Int)) :=
    ((idx r8 x10).bind fun _ =>
    ((idx r8 x10).bind fun e1 =>
    (bif (decide (e1 ≥ (65 : Int))) then ((I_LowerText_c20 k x10 e1 x9 x10 (decide (e1 ≤ (90 : Int))) r8).bind fun o2 =>
    some (o2)) else ((I_LowerText_c20 k x10 e1 x9 x10 false r8).bind fun o3 =>
    some (o3)))))
noncomputable def I_LowerText_b0 (k : Nat) : Nat → Int → Int → (List Int) → Option ((List Int))
  | 0, _, _, _ => none
  | n + 1, x9, x10, r8 =>
    (bif (decide (x10 < x9)) then ((I_LowerText_b1 k x9 x10 r8).bind fun o1 =>
    I_LowerText_b0 k n x9 (IntKind.wrap .i64 (x10 + (1 : Int))) o1)
    else some (r8))
noncomputable def I_LowerText (k : Nat) (a0 : List UInt8) : Option ((List UInt8)) :=
    ((I_LowerText_b0 k k ((intsOf a0).length : Int) (0 : Int) (intsOf a0)).bind fun o2 =>
    some (bytesOf o2))
/-! internal/stringslite.HasPrefix -/
noncomputable def internal_stringslite_HasPrefix (k : Nat) (a0 : List UInt8) (a1 : List UInt8) : Option (Bool) :=
    (bif (decide ((a0.length : Int) ≥ (a1.length : Int))) then ((ssub a0 (0 : Int) (a1.length : Int)).bind fun t1 =>
    some (t1 == a1)) else some false)
/-! strings.HasPrefix -/
noncomputable def strings_HasPrefix (k : Nat) (a0 : List UInt8) (a1 : List UInt8) : Option (Bool) :=
    ((internal_stringslite_HasPrefix k a0 a1).bind fun w1 =>
    some w1)
/-! loop.example/g03012/impl.UnquoteText -/
noncomputable def I_UnquoteText_c27 (k : Nat) (x0 : List UInt8) (x5 : Int) (x27 : Bool) (r4 : List Int) : Option (Int) :=
    (bif x27 then some ((IntKind.wrap .i64 (x5 + (1 : Int))))
    else some (x5))
noncomputable def I_UnquoteText_b1 (k : Nat) (x0 : List UInt8) (x5 : Int) (r4 : List Int) : Option (Int × (List Int)) :=
    ((idx x0 x5).bind fun c2 =>
    (bif ((UInt8.toNat c2 : Int) == (92 : Int)) then ((I_UnquoteText_c27 k x0 x5 (decide ((IntKind.wrap .i64 (x5 + (1 : Int))) < (x0.length : Int))) r4).bind fun o3 =>
    ((idx x0 o3).bind fun c4 =>
    ((app 1 r4 ([(UInt8.toNat c4 : Int)] : List Int)).bind fun u5 =>
    some (((IntKind.wrap .i64 (o3 + (1 : Int))), u5))))) else ((I_UnquoteText_c27 k x0 x5 false r4).bind fun o6 =>
    ((idx x0 o6).bind fun c7 =>
    ((app 1 r4 ([(UInt8.toNat c7 : Int)] : List Int)).bind fun u8 =>
    some (((IntKind.wrap .i64 (o6 + (1 : Int))), u8)))))))
noncomputable def I_UnquoteText_b0 (k : Nat) : Nat → (List UInt8) → Int → (List Int) → Option (Int × (List Int))
  | 0, _, _, _ => none
  | n + 1, x0, x5, r4 =>
    (bif (decide (x5 < (x0.length : Int))) then ((idx x0 x5).bind fun c1 =>
    (bif ((UInt8.toNat c1 : Int) != (34 : Int)) then ((I_UnquoteText_b1 k x0 x5 r4).bind fun o2 =>
    I_UnquoteText_b0 k n x0 o2.1 o2.2)
    else some ((x5, r4)))) else some ((x5, r4)))
noncomputable def I_UnquoteText (k : Nat) (a0 : List UInt8) : Option ((List UInt8) × Bool) :=
    ((I_UnquoteText_b0 k k a0 (1 : Int) ([] : List Int)).bind fun o3 =>
    ((strings_HasPrefix k a0 ([34] : List UInt8)).bind fun w4 =>
    (bif w4 then some ((bytesOf o3.2), (o3.1 == (IntKind.wrap .i64 ((a0.length : Int) - (1 : Int))))) else some ((bytesOf o3.2), false))))
/-! strings.IndexByte -/
noncomputable def strings_IndexByte (k : Nat) (a0 : List UInt8) (a1 : Int) : Option (Int) :=
    indexByteO a0 a1
/-! loop.example/g03012/impl.isTokenByte -/
noncomputable def I_isTokenByte (k : Nat) (a0 : Int) : Option (Bool) :=
    (bif (decide (a0 ≥ (97 : Int))) then (bif (decide (a0 ≤ (122 : Int))) then some true else (bif (decide (a0 ≥ (65 : Int))) then (bif (decide (a0 ≤ (90 : Int))) then some true else (bif (decide (a0 ≥ (48 : Int))) then (bif (decide (a0 ≤ (57 : Int))) then some true else ((strings_IndexByte k ([33, 35, 36, 37, 38, 39, 42, 43, 45, 46, 94, 95, 124, 126] : List UInt8) a0).bind fun w1 =>
    (bif (decide (w1 ≥ (0 : Int))) then some true else some (a0 == (96 : Int))))) else ((strings_IndexByte k ([33, 35, 36, 37, 38, 39, 42, 43, 45, 46, 94, 95, 124, 126] : List UInt8) a0).bind fun w2 =>
    (bif (decide (w2 ≥ (0 : Int))) then some true else some (a0 == (96 : Int)))))) else (bif (decide (a0 ≥ (48 : Int))) then (bif (decide (a0 ≤ (57 : Int))) then some true else ((strings_IndexByte k ([33, 35, 36, 37, 38, 39, 42, 43, 45, 46, 94, 95, 124, 126] : List UInt8) a0).bind fun w3 =>
    (bif (decide (w3 ≥ (0 : Int))) then some true else some (a0 == (96 : Int))))) else ((strings_IndexByte k ([33, 35, 36, 37, 38, 39, 42, 43, 45, 46, 94, 95, 124, 126] : List UInt8) a0).bind fun w4 =>
    (bif (decide (w4 ≥ (0 : Int))) then some true else some (a0 == (96 : Int))))))) else (bif (decide (a0 ≥ (65 : Int))) then (bif (decide (a0 ≤ (90 : Int))) then some true else (bif (decide (a0 ≥ (48 : Int))) then (bif (decide (a0 ≤ (57 : Int))) then some true else ((strings_IndexByte k ([33, 35, 36, 37, 38, 39, 42, 43, 45, 46, 94, 95, 124, 126] : List UInt8) a0).bind fun w5 =>
    (bif (decide (w5 ≥ (0 : Int))) then some true else some (a0 == (96 : Int))))) else ((strings_IndexByte k ([33, 35, 36, 37, 38, 39, 42, 43, 45, 46, 94, 95, 124, 126] : List UInt8) a0).bind fun w6 =>
    (bif (decide (w6 ≥ (0 : Int))) then some true else some (a0 == (96 : Int)))))) else (bif (decide (a0 ≥ (48 : Int))) then (bif (decide (a0 ≤ (57 : Int))) then some true else ((strings_IndexByte k ([33, 35, 36, 37, 38, 39, 42, 43, 45, 46, 94, 95, 124, 126] : List UInt8) a0).bind fun w7 =>
    (bif (decide (w7 ≥ (0 : Int))) then some true else some (a0 == (96 : Int))))) else ((strings_IndexByte k ([33, 35, 36, 37, 38, 39, 42, 43, 45, 46, 94, 95, 124, 126] : List UInt8) a0).bind fun w8 =>
    (bif (decide (w8 ≥ (0 : Int))) then some true else some (a0 == (96 : Int)))))))
/-! loop.example/g03012/impl.inRange -/
noncomputable def I_inRange (k : Nat) (a0 : Int) (a1 : Int) (a2 : Int) : Option (Bool) :=
    (bif (decide (a1 ≤ a0)) then some (decide (a0 ≤ a2)) else some false)
/-! loop.example/g03012/impl.IsToken -/
noncomputable def I_IsToken_b0 (k : Nat) : Nat → (List UInt8) → Int → Int → Option (Oc (Unit) (Bool))
  | 0, _, _, _ => none
  | n + 1, x0, x5, x6 =>
    (bif (decide (x6 < x5)) then ((idx x0 x6).bind fun c1 =>
    ((I_isTokenByte k (UInt8.toNat c1 : Int)).bind fun w2 =>
    (bif (!w2) then some (.oth (false))
    else I_IsToken_b0 k n x0 x5 (IntKind.wrap .i64 (x6 + (1 : Int))))))
    else some (.nrm ()))
noncomputable def I_IsToken (k : Nat) (a0 : List UInt8) : Option (Bool) :=
    ((I_IsToken_b0 k k a0 (a0.length : Int) (0 : Int)).bind fun o3 =>
    oc o3 (fun o4 => ((I_inRange k (a0.length : Int) (1 : Int) (40 : Int)).bind fun w6 =>
    some w6))
    (fun o5 => some o5))
/-! loop.example/g03012/impl.ParseDirectives -/
noncomputable def I_ParseDirectives_c40 (k : Nat) (x6 : List UInt8) (x7 : List UInt8) (x10 : Bool) (x14 : Int) (x15 : Int) (x40 : Bool) (r3 : List IDirective) (y9_0 : List UInt8) (y9_1 : List UInt8) (y9_2 : Bool) (r13 : List (List UInt8)) : Option (Bool × (List UInt8)) :=
    (bif x40 then ((I_UnquoteText k x7).bind fun w6 =>
    some ((w6.2, w6.1)))
    else some ((x10, y9_1)))
noncomputable def I_ParseDirectives_c51 (k : Nat) (x14 : Int) (x15 : Int) (x51 : Bool) (r3 : List IDirective) (y9_0 : List UInt8) (y9_1 : List UInt8) (y9_2 : Bool) (r13 : List (List UInt8)) : Option ((List IDirective)) :=
    (bif x51 then ((app 40 r3 ([(⟨y9_0, y9_1, y9_2⟩ : IDirective)] : List IDirective)).bind fun u9 =>
    some (u9))
    else some (r3))
noncomputable def I_ParseDirectives_b1 (k : Nat) (x14 : Int) (x15 : Int) (r3 : List IDirective) (r13 : List (List UInt8)) : Option ((List IDirective)) :=
    ((idx r13 x15).bind fun _ =>
    ((idx r13 x15).bind fun e2 =>
    ((I_SplitPair k e2).bind fun w3 =>
    ((I_LowerText k w3.1).bind fun w4 =>
    (bif (!w3.2.2) then (bif w3.2.2 then ((strings_HasPrefix k w3.2.1 ([34] : List UInt8)).bind fun w5 =>
    ((I_ParseDirectives_c40 k w3.1 w3.2.1 true x14 x15 w5 r3 w4 w3.2.1 w3.2.2 r13).bind fun o6 =>
    (bif o6.1 then ((I_IsToken k w3.1).bind fun w7 =>
    ((I_ParseDirectives_c51 k x14 x15 w7 r3 w4 o6.2 w3.2.2 r13).bind fun o8 =>
    some (o8))) else ((I_ParseDirectives_c51 k x14 x15 false r3 w4 o6.2 w3.2.2 r13).bind fun o9 =>
    some (o9))))) else ((I_ParseDirectives_c40 k w3.1 w3.2.1 true x14 x15 false r3 w4 w3.2.1 w3.2.2 r13).bind fun o10 =>
    (bif o10.1 then ((I_IsToken k w3.1).bind fun w11 =>
    ((I_ParseDirectives_c51 k x14 x15 w11 r3 w4 o10.2 w3.2.2 r13).bind fun o12 =>
    some (o12))) else ((I_ParseDirectives_c51 k x14 x15 false r3 w4 o10.2 w3.2.2 r13).bind fun o13 =>
    some (o13))))) else ((I_IsToken k w3.2.1).bind fun w14 =>
    (bif w3.2.2 then ((strings_HasPrefix k w3.2.1 ([34] : List UInt8)).bind fun w15 =>
    ((I_ParseDirectives_c40 k w3.1 w3.2.1 w14 x14 x15 w15 r3 w4 w3.2.1 w3.2.2 r13).bind fun o16 =>
    (bif o16.1 then ((I_IsToken k w3.1).bind fun w17 =>
    ((I_ParseDirectives_c51 k x14 x15 w17 r3 w4 o16.2 w3.2.2 r13).bind fun o18 =>
    some (o18))) else ((I_ParseDirectives_c51 k x14 x15 false r3 w4 o16.2 w3.2.2 r13).bind fun o19 =>
    some (o19))))) else ((I_ParseDirectives_c40 k w3.1 w3.2.1 w14 x14 x15 false r3 w4 w3.2.1 w3.2.2 r13).bind fun o20 =>
    (bif o20.1 then ((I_IsToken k w3.1).bind fun w21 =>
    ((I_ParseDirectives_c51 k x14 x15 w21 r3 w4 o20.2 w3.2.2 r13).bind fun o22 =>
    some (o22))) else ((I_ParseDirectives_c51 k x14 x15 false r3 w4 o20.2 w3.2.2 r13).bind fun o23 =>
    some (o23)))))))))))
noncomputable def I_ParseDirectives_b0 (k : Nat) : Nat → Int → Int → (List IDirective) → (List (List UInt8)) → Option ((List IDirective))
  | 0, _, _, _, _ => none
  | n + 1, x14, x15, r3, r13 =>
    (bif (decide (x15 < x14)) then ((I_ParseDirectives_b1 k x14 x15 r3 r13).bind fun o2 =>
    I_ParseDirectives_b0 k n x14 (IntKind.wrap .i64 (x15 + (1 : Int))) o2 r13)
    else some (r3))
noncomputable def I_ParseDirectives (k : Nat) (a0 : List UInt8) : Option ((List IDirective)) :=
    ((I_SplitList k a0).bind fun w1 =>
    ((I_ParseDirectives_b0 k k (w1.length : Int) (0 : Int) ([] : List IDirective) w1).bind fun o3 =>
    some o3))
/-! loop.example/g03012/impl.rulesOf -/
noncomputable def I_rulesOf (k : Nat) (a0 : List IField) : Option ((List IDirective)) :=
    ((I_GetField k a0 ([99, 97, 99, 104, 101, 45, 99, 111, 110, 116, 114, 111, 108] : List UInt8)).bind fun w1 =>
    ((I_ParseDirectives k w1.1).bind fun w2 =>
    some w2))
/-! loop.example/g03012/impl.FindDirective -/
noncomputable def I_FindDirective_b0 (k : Nat) : Nat → (List UInt8) → (List IDirective) → Int → Int → Option (Oc (Unit) (Int))
  | 0, _, _, _, _ => none
  | n + 1, x1, x7, x8, x9 =>
    (bif (decide (x9 < x8)) then ((idx x7 x9).bind fun e1 =>
    (bif (e1.Name == x1) then some (.oth (x9))
    else I_FindDirective_b0 k n x1 x7 x8 (IntKind.wrap .i64 (x9 + (1 : Int)))))
    else some (.nrm ()))
noncomputable def I_FindDirective (k : Nat) (a0 : List IDirective) (a1 : List UInt8) : Option (Int) :=
    ((I_FindDirective_b0 k k a1 a0 (a0.length : Int) (0 : Int)).bind fun o2 =>
    oc o2 (fun o3 => some (-1 : Int))
    (fun o4 => some o4))
/-! loop.example/g03012/impl.SecondsOf -/
noncomputable def I_SecondsOf_b0 (k : Nat) : Nat → Int → Int → Int → (List Int) → Option (Oc (Int) (Int × Bool))
  | 0, _, _, _, _ => none
  | n + 1, x7, x21, x22, r20 =>
    (bif (decide (x22 < x21)) then ((idx r20 x22).bind fun _ =>
    ((idx r20 x22).bind fun e3 =>
    (bif (decide (e3 < (48 : Int))) then some (.oth (((0 : Int), true))) else (bif (decide (e3 > (57 : Int))) then some (.oth (((0 : Int), true)))
    else I_SecondsOf_b0 k n (if (IntKind.wrap .i64 ((IntKind.wrap .i64 ((10 : Int) * x7)) + (IntKind.wrap .i64 (IntKind.wrap .u8 (e3 - (48 : Int)))))) < (2147483648 : Int) then (IntKind.wrap .i64 ((IntKind.wrap .i64 ((10 : Int) * x7)) + (IntKind.wrap .i64 (IntKind.wrap .u8 (e3 - (48 : Int)))))) else (2147483648 : Int)) x21 (IntKind.wrap .i64 (x22 + (1 : Int))) r20))))
    else some (.nrm x7))
noncomputable def I_SecondsOf (k : Nat) (a0 : List IDirective) (a1 : List UInt8) : Option (Int × Bool) :=
    ((I_FindDirective k a0 a1).bind fun w1 =>
    (bif (decide (w1 < (0 : Int))) then some ((0 : Int), false)
    else ((idx a0 w1).bind fun e2 =>
    ((I_SecondsOf_b0 k k (0 : Int) ((intsOf e2.Value).length : Int) (0 : Int) (intsOf e2.Value)).bind fun o4 =>
    oc o4 (fun o5 => some (o5, true))
    (fun o6 => some o6)))))
/-! loop.example/g03012/impl.HasDirective -/
noncomputable def I_HasDirective (k : Nat) (a0 : List IDirective) (a1 : List UInt8) : Option (Bool) :=
    ((I_FindDirective k a0 a1).bind fun w1 =>
    some (decide (w1 ≥ (0 : Int))))
/-! loop.example/g03012/impl.hasAny -/
noncomputable def I_hasAny_b0 (k : Nat) : Nat → (List IDirective) → (List (List UInt8)) → Int → Int → Option (Oc (Unit) (Bool))
  | 0, _, _, _, _ => none
  | n + 1, x0, x7, x8, x9 =>
    (bif (decide (x9 < x8)) then ((idx x7 x9).bind fun e1 =>
    ((I_HasDirective k x0 e1).bind fun w2 =>
    (bif w2 then some (.oth (true))
    else I_hasAny_b0 k n x0 x7 x8 (IntKind.wrap .i64 (x9 + (1 : Int))))))
    else some (.nrm ()))
noncomputable def I_hasAny (k : Nat) (a0 : List IDirective) (a1 : List (List UInt8)) : Option (Bool) :=
    ((I_hasAny_b0 k k a0 a1 (a1.length : Int) (0 : Int)).bind fun o3 =>
    oc o3 (fun o4 => some false)
    (fun o5 => some o5))
/-! loop.example/g03012/impl.isBound -/
noncomputable def I_isBound (k : Nat) (a0 : List IDirective) : Option (Bool) :=
    ((I_hasAny k a0 ([([109, 117, 115, 116, 45, 114, 101, 118, 97, 108, 105, 100, 97, 116, 101] : List UInt8), ([112, 114, 111, 120, 121, 45, 114, 101, 118, 97, 108, 105, 100, 97, 116, 101] : List UInt8), ([115, 45, 109, 97, 120, 97, 103, 101] : List UInt8), ([110, 111, 45, 99, 97, 99, 104, 101] : List UInt8)] : List (List UInt8))).bind fun w1 =>
    some w1)
/-! loop.example/g03012/impl.planFor -/
noncomputable def I_planFor_c63 (k : Nat) (x0 : List IDirective) (x1 : List IDirective) (x2 : Int) (x3 : Int) (x13 : Int) (x63 : Bool) : Option (Oc (Unit) (Int)) :=
    (bif x63 then ((I_SecondsOf k x0 ([109, 97, 120, 45, 115, 116, 97, 108, 101] : List UInt8)).bind fun w7 =>
    ((idx x0 x13).bind fun e8 =>
    (bif (!e8.Has) then some (.oth ((1 : Int))) else (bif (decide ((IntKind.wrap .i64 (x2 - x3)) ≤ w7.1)) then some (.oth ((1 : Int)))
    else some (.nrm ())))))
    else some (.nrm ()))
noncomputable def I_planFor (k : Nat) (a0 : List IDirective) (a1 : List IDirective) (a2 : Int) (a3 : Int) : Option (Int) :=
    ((I_SecondsOf k a0 ([109, 97, 120, 45, 97, 103, 101] : List UInt8)).bind fun w1 =>
    ((I_SecondsOf k a0 ([109, 105, 110, 45, 102, 114, 101, 115, 104] : List UInt8)).bind fun w2 =>
    ((I_HasDirective k a0 ([110, 111, 45, 99, 97, 99, 104, 101] : List UInt8)).bind fun w3 =>
    (bif w3 then some (3 : Int) else (bif w1.2 then (bif (decide (w1.1 < a2)) then some (3 : Int) else (bif w2.2 then (bif (decide (w2.1 > (IntKind.wrap .i64 (a3 - a2)))) then some (3 : Int) else ((I_HasDirective k a1 ([110, 111, 45, 99, 97, 99, 104, 101] : List UInt8)).bind fun w4 =>
    (bif w4 then some (3 : Int)
    else (bif (decide (a2 < a3)) then some (1 : Int)
    else ((I_isBound k a1).bind fun w5 =>
    (bif w5 then some (3 : Int) else (bif w2.2 then some (3 : Int)
    else ((I_FindDirective k a0 ([109, 97, 120, 45, 115, 116, 97, 108, 101] : List UInt8)).bind fun w6 =>
    ((I_planFor_c63 k a0 a1 a2 a3 w6 (decide (w6 ≥ (0 : Int)))).bind fun o9 =>
    oc o9 (fun o10 => ((I_SecondsOf k a1 ([115, 116, 97, 108, 101, 45, 119, 104, 105, 108, 101, 45, 114, 101, 118, 97, 108, 105, 100, 97, 116, 101] : List UInt8)).bind fun w12 =>
    (bif w12.2 then (bif (decide ((IntKind.wrap .i64 (a2 - a3)) ≤ w12.1)) then some (2 : Int)
    else some (3 : Int)) else some (3 : Int))))
    (fun o11 => some o11)))))))))) else ((I_HasDirective k a1 ([110, 111, 45, 99, 97, 99, 104, 101] : List UInt8)).bind fun w13 =>
    (bif w13 then some (3 : Int)
    else (bif (decide (a2 < a3)) then some (1 : Int)
    else ((I_isBound k a1).bind fun w14 =>
    (bif w14 then some (3 : Int) else (bif w2.2 then some (3 : Int)
    else ((I_FindDirective k a0 ([109, 97, 120, 45, 115, 116, 97, 108, 101] : List UInt8)).bind fun w15 =>
    ((I_planFor_c63 k a0 a1 a2 a3 w15 (decide (w15 ≥ (0 : Int)))).bind fun o16 =>
    oc o16 (fun o17 => ((I_SecondsOf k a1 ([115, 116, 97, 108, 101, 45, 119, 104, 105, 108, 101, 45, 114, 101, 118, 97, 108, 105, 100, 97, 116, 101] : List UInt8)).bind fun w19 =>
    (bif w19.2 then (bif (decide ((IntKind.wrap .i64 (a2 - a3)) ≤ w19.1)) then some (2 : Int)
    else some (3 : Int)) else some (3 : Int))))
    (fun o18 => some o18))))))))))) else (bif w2.2 then (bif (decide (w2.1 > (IntKind.wrap .i64 (a3 - a2)))) then some (3 : Int) else ((I_HasDirective k a1 ([110, 111, 45, 99, 97, 99, 104, 101] : List UInt8)).bind fun w20 =>
    (bif w20 then some (3 : Int)
    else (bif (decide (a2 < a3)) then some (1 : Int)
    else ((I_isBound k a1).bind fun w21 =>
    (bif w21 then some (3 : Int) else (bif w2.2 then some (3 : Int)
    else ((I_FindDirective k a0 ([109, 97, 120, 45, 115, 116, 97, 108, 101] : List UInt8)).bind fun w22 =>
    ((I_planFor_c63 k a0 a1 a2 a3 w22 (decide (w22 ≥ (0 : Int)))).bind fun o23 =>
    oc o23 (fun o24 => ((I_SecondsOf k a1 ([115, 116, 97, 108, 101, 45, 119, 104, 105, 108, 101, 45, 114, 101, 118, 97, 108, 105, 100, 97, 116, 101] : List UInt8)).bind fun w26 =>
    (bif w26.2 then (bif (decide ((IntKind.wrap .i64 (a2 - a3)) ≤ w26.1)) then some (2 : Int)
    else some (3 : Int)) else some (3 : Int))))
    (fun o25 => some o25)))))))))) else ((I_HasDirective k a1 ([110, 111, 45, 99, 97, 99, 104, 101] : List UInt8)).bind fun w27 =>
    (bif w27 then some (3 : Int)
    else (bif (decide (a2 < a3)) then some (1 : Int)
    else ((I_isBound k a1).bind fun w28 =>
    (bif w28 then some (3 : Int) else (bif w2.2 then some (3 : Int)
    else ((I_FindDirective k a0 ([109, 97, 120, 45, 115, 116, 97, 108, 101] : List UInt8)).bind fun w29 =>
    ((I_planFor_c63 k a0 a1 a2 a3 w29 (decide (w29 ≥ (0 : Int)))).bind fun o30 =>
    oc o30 (fun o31 => ((I_SecondsOf k a1 ([115, 116, 97, 108, 101, 45, 119, 104, 105, 108, 101, 45, 114, 101, 118, 97, 108, 105, 100, 97, 116, 101] : List UInt8)).bind fun w33 =>
    (bif w33.2 then (bif (decide ((IntKind.wrap .i64 (a2 - a3)) ≤ w33.1)) then some (2 : Int)
    else some (3 : Int)) else some (3 : Int))))
    (fun o32 => some o32)))))))))))))))
/-! loop.example/g03012/impl.PlanFor -/
noncomputable def I_PlanFor (k : Nat) (a0 : IRequest) (a1 : IResponse) (a2 : Int) (a3 : Int) : Option (Int) :=
    ((I_rulesOf k a0.Fields).bind fun w1 =>
    ((I_rulesOf k a1.Fields).bind fun w2 =>
    ((I_planFor k w1 w2 a2 a3).bind fun w3 =>
    (bif (w3 == (3 : Int)) then ((I_rulesOf k a0.Fields).bind fun w4 =>
    ((I_HasDirective k w4 ([111, 110, 108, 121, 45, 105, 102, 45, 99, 97, 99, 104, 101, 100] : List UInt8)).bind fun w5 =>
    (bif w5 then some (4 : Int)
    else some w3))) else some w3))))
/-! loop.example/g03012/laws.eqField -/
noncomputable def L_eqField (k : Nat) (a0 : IField) (a1 : IField) : Option (Bool) :=
    (bif (!(a0.Name == a1.Name)) then some false
    else (bif (!(a0.Value == a1.Value)) then some false
    else some true))
/-! loop.example/g03012/laws.eqFieldS -/
noncomputable def L_eqFieldS_b0 (k : Nat) : Nat → (List IField) → (List IField) → Int → Option (Oc (Unit) (Bool))
  | 0, _, _, _ => none
  | n + 1, x0, x1, x5 =>
    (bif (decide (x5 < (x0.length : Int))) then ((idx x0 x5).bind fun e1 =>
    ((idx x1 x5).bind fun e2 =>
    ((L_eqField k e1 e2).bind fun w3 =>
    (bif (!w3) then some (.oth (false))
    else L_eqFieldS_b0 k n x0 x1 (IntKind.wrap .i64 (x5 + (1 : Int)))))))
    else some (.nrm ()))
noncomputable def L_eqFieldS (k : Nat) (a0 : List IField) (a1 : List IField) : Option (Bool) :=
    (bif ((a0.length : Int) != (a1.length : Int)) then some false
    else ((L_eqFieldS_b0 k k a0 a1 (0 : Int)).bind fun o4 =>
    oc o4 (fun o5 => some true)
    (fun o6 => some o6)))
/-! loop.example/g03012/laws.eqRequest -/
noncomputable def L_eqRequest (k : Nat) (a0 : IRequest) (a1 : IRequest) : Option (Bool) :=
    (bif (!(a0.Method == a1.Method)) then some false
    else (bif (!(a0.Host == a1.Host)) then some false
    else (bif (!(a0.Target == a1.Target)) then some false
    else ((L_eqFieldS k a0.Fields a1.Fields).bind fun w1 =>
    (bif (!w1) then some false
    else some true)))))
/-! loop.example/g03012/laws.eqResponse -/
noncomputable def L_eqResponse (k : Nat) (a0 : IResponse) (a1 : IResponse) : Option (Bool) :=
    (bif (a0.Code != a1.Code) then some false
    else ((L_eqFieldS k a0.Fields a1.Fields).bind fun w1 =>
    (bif (!w1) then some false
    else (bif (!(a0.Body == a1.Body)) then some false
    else some true))))
/-! loop.example/g03012/laws.FnExactPlanFor -/
noncomputable def L_FnExactPlanFor (k : Nat) (a0 : LRequest) (a1 : LResponse) (a2 : Int) (a3 : Int) : Option (Bool) :=
    ((L_szRequest k a0 (1048576 : Int)).bind fun w1 =>
    (bif (decide (w1 < (0 : Int))) then some true
    else ((L_szResponse k a1 w1).bind fun w2 =>
    (bif (decide (w2 < (0 : Int))) then some true
    else ((L_toRequest k a0).bind fun w3 =>
    ((L_toResponse k a1).bind fun w4 =>
    ((S_PlanFor k w3 w4 a2 a3).bind fun w5 =>
    ((L_toRequest k a0).bind fun w6 =>
    ((L_toResponse k a1).bind fun w7 =>
    ((I_PlanFor k w6 w7 a2 a3).bind fun w8 =>
    (bif (w8 != w5) then some false
    else ((L_toRequest k a0).bind fun w9 =>
    ((L_eqRequest k w6 w9).bind fun w10 =>
    (bif (!w10) then some false
    else ((L_toResponse k a1).bind fun w11 =>
    ((L_eqResponse k w7 w11).bind fun w12 =>
    (bif (!w12) then some false
    else some true)))))))))))))))))

end
end Go.YtbfkbplolhniiaaDoor
