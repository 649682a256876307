/- Functions over lists. Nothing is claimed here. -/
import Derived.Test.YtjpfnppiocloeaaGreatDoorKt
set_option linter.unusedVariables false
set_option linter.unusedSimpArgs false
set_option maxRecDepth 100000
namespace Go.YtjpfnppiocloeaaGreatDoor
open Go Go.RowKit Go.Pv
noncomputable section

/-! loop.example/g03012/laws.szField -/
noncomputable def L_szField (k : Nat) (a0 : LField) (a1 : Int) : Option (Int) :=
    (bif (decide ((IntKind.wrap .i64 (a1 - (a0.Name.length : Int))) < (0 : Int))) then some (-1 : Int)
    else (bif (decide ((IntKind.wrap .i64 ((IntKind.wrap .i64 (a1 - (a0.Name.length : Int))) - (a0.Value.length : Int))) < (0 : Int))) then some (-1 : Int)
    else some (IntKind.wrap .i64 ((IntKind.wrap .i64 (a1 - (a0.Name.length : Int))) - (a0.Value.length : Int)))))
/-! loop.example/g03012/laws.szFieldS -/
noncomputable def L_szFieldS_b0 (k : Nat) : Nat → (List LField) → Int → Int → Option (Oc (Int) (Int))
  | 0, _, _, _ => none
  | n + 1, x0, x1, x5 =>
    (bif (decide (x5 < (x0.length : Int))) then ((idx x0 x5).bind fun e1 =>
    ((L_szField k e1 x1).bind fun w2 =>
    (bif (decide (w2 < (0 : Int))) then some (.oth ((-1 : Int)))
    else L_szFieldS_b0 k n x0 w2 (IntKind.wrap .i64 (x5 + (1 : Int))))))
    else some (.nrm x1))
noncomputable def L_szFieldS (k : Nat) (a0 : List LField) (a1 : Int) : Option (Int) :=
    (bif (decide ((IntKind.wrap .i64 (a1 - (a0.length : Int))) < (0 : Int))) then some (-1 : Int)
    else ((L_szFieldS_b0 k k a0 (IntKind.wrap .i64 (a1 - (a0.length : Int))) (0 : Int)).bind fun o3 =>
    oc o3 (fun o4 => some o4)
    (fun o5 => some o5)))
/-! loop.example/g03012/laws.szRequest -/
noncomputable def L_szRequest (k : Nat) (a0 : LRequest) (a1 : Int) : Option (Int) :=
    (bif (decide ((IntKind.wrap .i64 (a1 - (a0.Method.length : Int))) < (0 : Int))) then some (-1 : Int)
    else (bif (decide ((IntKind.wrap .i64 ((IntKind.wrap .i64 (a1 - (a0.Method.length : Int))) - (a0.Host.length : Int))) < (0 : Int))) then some (-1 : Int)
    else (bif (decide ((IntKind.wrap .i64 ((IntKind.wrap .i64 ((IntKind.wrap .i64 (a1 - (a0.Method.length : Int))) - (a0.Host.length : Int))) - (a0.Target.length : Int))) < (0 : Int))) then some (-1 : Int)
    else ((L_szFieldS k a0.Fields (IntKind.wrap .i64 ((IntKind.wrap .i64 ((IntKind.wrap .i64 (a1 - (a0.Method.length : Int))) - (a0.Host.length : Int))) - (a0.Target.length : Int)))).bind fun w1 =>
    (bif (decide (w1 < (0 : Int))) then some (-1 : Int)
    else some w1)))))
/-! loop.example/g03012/laws.szResponse -/
noncomputable def L_szResponse (k : Nat) (a0 : LResponse) (a1 : Int) : Option (Int) :=
    ((L_szFieldS k a0.Fields a1).bind fun w1 =>
    (bif (decide (w1 < (0 : Int))) then some (-1 : Int)
    else (bif (decide ((IntKind.wrap .i64 (w1 - (a0.Body.length : Int))) < (0 : Int))) then some (-1 : Int)
    else some (IntKind.wrap .i64 (w1 - (a0.Body.length : Int))))))
/-! loop.example/g03012/laws.toField -/
noncomputable def L_toField (k : Nat) (a0 : LField) : Option (IField) :=
    some (⟨a0.Name, a0.Value⟩ : IField)
/-! loop.example/g03012/laws.toFieldS -/
noncomputable def L_toFieldS_b0 (k : Nat) : Nat → (List LField) → Int → (List IField) → Option ((List IField))
  | 0, _, _, _ => none
  | n + 1, x0, x4, r3 =>
    (bif (decide (x4 < (x0.length : Int))) then ((idx x0 x4).bind fun e2 =>
    ((L_toField k e2).bind fun w3 =>
    ((idx r3 x4).bind fun _ =>
    ((idx r3 x4).bind fun e4 =>
    L_toFieldS_b0 k n x0 (IntKind.wrap .i64 (x4 + (1 : Int))) ((r3).set (x4).toNat w3)))))
    else some (r3))
noncomputable def L_toFieldS (k : Nat) (a0 : List LField) : Option ((List IField)) :=
    (guardT ((a0.length : Int) == (a0.length : Int)) <| (mks 32 (a0.length : Int) (⟨([] : List UInt8), ([] : List UInt8)⟩ : IField)).bind fun u1 =>
    ((L_toFieldS_b0 k k a0 (0 : Int) u1).bind fun o5 =>
    some o5))
/-! loop.example/g03012/laws.toRequest -/
noncomputable def L_toRequest (k : Nat) (a0 : LRequest) : Option (IRequest) :=
    ((L_toFieldS k a0.Fields).bind fun w1 =>
    some (⟨a0.Method, a0.Host, a0.Target, w1⟩ : IRequest))
/-! loop.example/g03012/laws.toResponse -/
noncomputable def L_toResponse (k : Nat) (a0 : LResponse) : Option (IResponse) :=
    ((L_toFieldS k a0.Fields).bind fun w1 =>
    some (⟨a0.Code, w1, a0.Body⟩ : IResponse))
/-! loop.example/g03012/spec.JoinList -/
noncomputable def S_JoinList_c12 (k : Nat) (x0 : List (List UInt8)) (x3 : List UInt8) (x4 : Int) (x12 : Bool) : Option ((List UInt8)) :=
    (bif x12 then ((cat x3 ([44, 32] : List UInt8)).bind fun t1 =>
    some (t1))
    else some (x3))
noncomputable def S_JoinList_b1 (k : Nat) (x0 : List (List UInt8)) (x3 : List UInt8) (x4 : Int) : Option ((List UInt8)) :=
    ((S_JoinList_c12 k x0 x3 x4 (decide (x4 > (0 : Int)))).bind fun o1 =>
    ((idx x0 x4).bind fun e2 =>
    ((cat o1 e2).bind fun t3 =>
    some (t3))))
noncomputable def S_JoinList_b0 (k : Nat) : Nat → (List (List UInt8)) → (List UInt8) → Int → Option ((List UInt8))
  | 0, _, _, _ => none
  | n + 1, x0, x3, x4 =>
    (bif (decide (x4 < (x0.length : Int))) then ((S_JoinList_b1 k x0 x3 x4).bind fun o1 =>
    S_JoinList_b0 k n x0 o1 (IntKind.wrap .i64 (x4 + (1 : Int))))
    else some (x3))
noncomputable def S_JoinList (k : Nat) (a0 : List (List UInt8)) : Option ((List UInt8)) :=
    ((S_JoinList_b0 k k a0 ([] : List UInt8) (0 : Int)).bind fun o2 =>
    some o2)
/-! loop.example/g03012/spec.GetField -/
noncomputable def S_GetField_c21 (k : Nat) (x0 : List IField) (x1 : List UInt8) (x7 : Int) (x21 : Bool) (r6 : List (List UInt8)) : Option ((List (List UInt8))) :=
    (bif x21 then ((idx x0 x7).bind fun e2 =>
    ((app 16 r6 ([e2.Value] : List (List UInt8))).bind fun u3 =>
    some (u3)))
    else some (r6))
noncomputable def S_GetField_b1 (k : Nat) (x0 : List IField) (x1 : List UInt8) (x7 : Int) (r6 : List (List UInt8)) : Option ((List (List UInt8))) :=
    ((idx x0 x7).bind fun e1 =>
    ((S_GetField_c21 k x0 x1 x7 (e1.Name == x1) r6).bind fun o2 =>
    some (o2)))
noncomputable def S_GetField_b0 (k : Nat) : Nat → (List IField) → (List UInt8) → Int → (List (List UInt8)) → Option ((List (List UInt8)))
  | 0, _, _, _, _ => none
  | n + 1, x0, x1, x7, r6 =>
    (bif (decide (x7 < (x0.length : Int))) then ((S_GetField_b1 k x0 x1 x7 r6).bind fun o1 =>
    S_GetField_b0 k n x0 x1 (IntKind.wrap .i64 (x7 + (1 : Int))) o1)
    else some (r6))
noncomputable def S_GetField (k : Nat) (a0 : List IField) (a1 : List UInt8) : Option ((List UInt8) × Bool) :=
    ((S_GetField_b0 k k a0 a1 (0 : Int) ([] : List (List UInt8))).bind fun o2 =>
    ((S_JoinList k o2).bind fun w3 =>
    some (w3, (decide ((o2.length : Int) > (0 : Int))))))
/-! loop.example/g03012/spec.l1In -/
noncomputable def S_l1In (k : Nat) (a0 : Int) (a1 : Int) (a2 : Int) : Option (Bool) :=
    (bif (decide (a0 ≥ a1)) then some (decide (a0 ≤ a2)) else some false)
/-! loop.example/g03012/spec.IsTag -/
noncomputable def S_IsTag_b0 (k : Nat) : Nat → Int → Bool → (List UInt8) → Option (Oc (Unit) (Bool))
  | 0, _, _, _ => none
  | n + 1, x3, y1_0, y1_1 =>
    (bif (decide (x3 < (y1_1.length : Int))) then ((idx y1_1 x3).bind fun c1 =>
    ((S_l1In k (IntKind.wrap .i64 (UInt8.toNat c1 : Int)) (33 : Int) (126 : Int)).bind fun w2 =>
    (bif (!w2) then some (.oth (false)) else ((idx y1_1 x3).bind fun c3 =>
    (bif ((UInt8.toNat c3 : Int) == (34 : Int)) then some (.oth (false))
    else S_IsTag_b0 k n (IntKind.wrap .i64 (x3 + (1 : Int))) y1_0 y1_1)))))
    else some (.nrm ()))
noncomputable def S_IsTag (k : Nat) (a0 : ITag) : Option (Bool) :=
    ((S_IsTag_b0 k k (0 : Int) a0.Weak a0.Text).bind fun o4 =>
    oc o4 (fun o5 => some (decide ((a0.Text.length : Int) ≤ (40 : Int))))
    (fun o6 => some o6))
/-! loop.example/g03012/spec.ParseTag -/
noncomputable def S_ParseTag_c13 (k : Nat) (x0 : List UInt8) (x13 : Bool) (y2_0 : Bool) (y2_1 : List UInt8) (y4_0 : Bool) (y4_1 : List UInt8) : Option ((List UInt8) × Bool) :=
    (bif x13 then ((ssub x0 (2 : Int) (x0.length : Int)).bind fun t2 =>
    some ((t2, true)))
    else some ((x0, y4_0)))
noncomputable def S_ParseTag (k : Nat) (a0 : List UInt8) : Option (ITag × Bool) :=
    (bif (decide ((a0.length : Int) > (2 : Int))) then ((ssub a0 (0 : Int) (2 : Int)).bind fun t1 =>
    ((S_ParseTag_c13 k a0 (t1 == ([87, 47] : List UInt8)) false ([] : List UInt8) false ([] : List UInt8)).bind fun o3 =>
    (bif (decide ((o3.1.length : Int) < (2 : Int))) then some ((⟨false, ([] : List UInt8)⟩ : ITag), false) else ((idx o3.1 (0 : Int)).bind fun c4 =>
    (bif ((UInt8.toNat c4 : Int) != (34 : Int)) then some ((⟨false, ([] : List UInt8)⟩ : ITag), false) else ((idx o3.1 (IntKind.wrap .i64 ((o3.1.length : Int) - (1 : Int)))).bind fun c5 =>
    (bif ((UInt8.toNat c5 : Int) != (34 : Int)) then some ((⟨false, ([] : List UInt8)⟩ : ITag), false)
    else ((ssub o3.1 (1 : Int) (IntKind.wrap .i64 ((o3.1.length : Int) - (1 : Int)))).bind fun t6 =>
    ((S_IsTag k (⟨o3.2, t6⟩ : ITag)).bind fun w7 =>
    (bif (!w7) then some ((⟨false, ([] : List UInt8)⟩ : ITag), false)
    else some ((⟨o3.2, t6⟩ : ITag), true))))))))))) else ((S_ParseTag_c13 k a0 false false ([] : List UInt8) false ([] : List UInt8)).bind fun o8 =>
    (bif (decide ((o8.1.length : Int) < (2 : Int))) then some ((⟨false, ([] : List UInt8)⟩ : ITag), false) else ((idx o8.1 (0 : Int)).bind fun c9 =>
    (bif ((UInt8.toNat c9 : Int) != (34 : Int)) then some ((⟨false, ([] : List UInt8)⟩ : ITag), false) else ((idx o8.1 (IntKind.wrap .i64 ((o8.1.length : Int) - (1 : Int)))).bind fun c10 =>
    (bif ((UInt8.toNat c10 : Int) != (34 : Int)) then some ((⟨false, ([] : List UInt8)⟩ : ITag), false)
    else ((ssub o8.1 (1 : Int) (IntKind.wrap .i64 ((o8.1.length : Int) - (1 : Int)))).bind fun t11 =>
    ((S_IsTag k (⟨o8.2, t11⟩ : ITag)).bind fun w12 =>
    (bif (!w12) then some ((⟨false, ([] : List UInt8)⟩ : ITag), false)
    else some ((⟨o8.2, t11⟩ : ITag), true)))))))))))
/-! loop.example/g03012/spec.l5Get -/
noncomputable def S_l5Get (k : Nat) (a0 : List IField) (a1 : List UInt8) : Option ((List UInt8)) :=
    ((S_GetField k a0 a1).bind fun w1 =>
    some w1.1)
/-! loop.example/g03012/spec.StrongSame -/
noncomputable def S_StrongSame (k : Nat) (a0 : ITag) (a1 : ITag) : Option (Bool) :=
    (bif (!a0.Weak) then (bif (!a1.Weak) then some (a0.Text == a1.Text) else some false) else some false)
/-! loop.example/g03012/spec.l3Two -/
noncomputable def S_l3Two (k : Nat) (a0 : List UInt8) (a1 : Int) : Option (Int) :=
    (bif (decide (a1 < (0 : Int))) then some (-1 : Int) else (bif (decide ((IntKind.wrap .i64 (a1 + (2 : Int))) > (a0.length : Int))) then some (-1 : Int) else ((idx a0 a1).bind fun c1 =>
    ((S_l1In k (IntKind.wrap .i64 (UInt8.toNat c1 : Int)) (48 : Int) (57 : Int)).bind fun w2 =>
    (bif (!w2) then some (-1 : Int) else ((idx a0 (IntKind.wrap .i64 (a1 + (1 : Int)))).bind fun c3 =>
    ((S_l1In k (IntKind.wrap .i64 (UInt8.toNat c3 : Int)) (48 : Int) (57 : Int)).bind fun w4 =>
    (bif (!w4) then some (-1 : Int)
    else ((idx a0 a1).bind fun c5 =>
    ((idx a0 (IntKind.wrap .i64 (a1 + (1 : Int)))).bind fun c6 =>
    some (IntKind.wrap .i64 ((IntKind.wrap .i64 ((10 : Int) * (IntKind.wrap .i64 (IntKind.wrap .u8 ((UInt8.toNat c5 : Int) - (48 : Int)))))) + (IntKind.wrap .i64 (IntKind.wrap .u8 ((UInt8.toNat c6 : Int) - (48 : Int))))))))))))))))
/-! loop.example/g03012/spec.l3Months -/
noncomputable def S_l3Months (k : Nat)  : Option ((List (List UInt8))) :=
    some ([([74, 97, 110] : List UInt8), ([70, 101, 98] : List UInt8), ([77, 97, 114] : List UInt8), ([65, 112, 114] : List UInt8), ([77, 97, 121] : List UInt8), ([74, 117, 110] : List UInt8), ([74, 117, 108] : List UInt8), ([65, 117, 103] : List UInt8), ([83, 101, 112] : List UInt8), ([79, 99, 116] : List UInt8), ([78, 111, 118] : List UInt8), ([68, 101, 99] : List UInt8)] : List (List UInt8))
/-! loop.example/g03012/spec.l3Month -/
noncomputable def S_l3Month_b0 (k : Nat) : Nat → (List UInt8) → Int → Int → (List (List UInt8)) → Option (Oc (Unit) (Int))
  | 0, _, _, _, _ => none
  | n + 1, x0, x1, x6, r5 =>
    (bif (decide (x6 < (12 : Int))) then (bif (decide (x1 ≥ (0 : Int))) then (bif (decide ((IntKind.wrap .i64 (x1 + (3 : Int))) ≤ (x0.length : Int))) then ((ssub x0 x1 (IntKind.wrap .i64 (x1 + (3 : Int)))).bind fun t2 =>
    ((idx r5 x6).bind fun _ =>
    ((idx r5 x6).bind fun e3 =>
    (bif (t2 == e3) then some (.oth ((IntKind.wrap .i64 (x6 + (1 : Int)))))
    else S_l3Month_b0 k n x0 x1 (IntKind.wrap .i64 (x6 + (1 : Int))) r5)))) else S_l3Month_b0 k n x0 x1 (IntKind.wrap .i64 (x6 + (1 : Int))) r5) else S_l3Month_b0 k n x0 x1 (IntKind.wrap .i64 (x6 + (1 : Int))) r5)
    else some (.nrm ()))
noncomputable def S_l3Month (k : Nat) (a0 : List UInt8) (a1 : Int) : Option (Int) :=
    ((S_l3Months k ).bind fun w1 =>
    ((S_l3Month_b0 k k a0 a1 (0 : Int) w1).bind fun o4 =>
    oc o4 (fun o5 => some (0 : Int))
    (fun o6 => some o6)))
/-! loop.example/g03012/spec.Mod -/
noncomputable def S_Mod (k : Nat) (a0 : Int) (a1 : Int) : Option (Int) :=
    ((S_l1In k a1 (1 : Int) (1000000000000 : Int)).bind fun w1 =>
    (bif (!w1) then some (0 : Int)
    else ((md a0 a1).bind fun q2 =>
    ((md (IntKind.wrap .i64 (q2 + a1)) a1).bind fun q3 =>
    some q3))))
/-! loop.example/g03012/spec.IsLeap -/
noncomputable def S_IsLeap (k : Nat) (a0 : Int) : Option (Bool) :=
    ((S_Mod k a0 (4 : Int)).bind fun w1 =>
    (bif (w1 == (0 : Int)) then ((S_Mod k a0 (100 : Int)).bind fun w2 =>
    (bif (w2 != (0 : Int)) then some true else ((S_Mod k a0 (400 : Int)).bind fun w3 =>
    some (w3 == (0 : Int))))) else some false))
/-! loop.example/g03012/spec.l3Long -/
noncomputable def S_l3Long (k : Nat) (a0 : Int) (a1 : Int) : Option (Int) :=
    (bif (a1 == (2 : Int)) then ((S_IsLeap k a0).bind fun w1 =>
    (bif w1 then some (29 : Int)
    else ((idx ([(31 : Int), (28 : Int), (31 : Int), (30 : Int), (31 : Int), (30 : Int), (31 : Int), (31 : Int), (30 : Int), (31 : Int), (30 : Int), (31 : Int)] : List Int) (IntKind.wrap .i64 (a1 - (1 : Int)))).bind fun _ =>
    ((idx ([(31 : Int), (28 : Int), (31 : Int), (30 : Int), (31 : Int), (30 : Int), (31 : Int), (31 : Int), (30 : Int), (31 : Int), (30 : Int), (31 : Int)] : List Int) (IntKind.wrap .i64 (a1 - (1 : Int)))).bind fun e2 =>
    some e2)))) else ((idx ([(31 : Int), (28 : Int), (31 : Int), (30 : Int), (31 : Int), (30 : Int), (31 : Int), (31 : Int), (30 : Int), (31 : Int), (30 : Int), (31 : Int)] : List Int) (IntKind.wrap .i64 (a1 - (1 : Int)))).bind fun _ =>
    ((idx ([(31 : Int), (28 : Int), (31 : Int), (30 : Int), (31 : Int), (30 : Int), (31 : Int), (31 : Int), (30 : Int), (31 : Int), (30 : Int), (31 : Int)] : List Int) (IntKind.wrap .i64 (a1 - (1 : Int)))).bind fun e3 =>
    some e3)))
/-! loop.example/g03012/spec.DaysOf -/
noncomputable def S_DaysOf_c36 (k : Nat) (x0 : Int) (x1 : Int) (x7 : Int) (x8 : Int) (x36 : Bool) : Option (Int) :=
    (bif x36 then some ((IntKind.wrap .i64 (x7 + (1 : Int))))
    else some (x7))
noncomputable def S_DaysOf_b1 (k : Nat) (x0 : Int) (x1 : Int) (x7 : Int) (x8 : Int) : Option (Int) :=
    ((S_IsLeap k x8).bind fun w5 =>
    ((S_DaysOf_c36 k x0 x1 (IntKind.wrap .i64 (x7 + (365 : Int))) x8 w5).bind fun o6 =>
    some (o6)))
noncomputable def S_DaysOf_b0 (k : Nat) : Nat → Int → Int → Int → Int → Option (Int)
  | 0, _, _, _, _ => none
  | n + 1, x0, x1, x7, x8 =>
    (bif (decide (x8 < x0)) then ((S_DaysOf_b1 k x0 x1 x7 x8).bind fun o5 =>
    S_DaysOf_b0 k n x0 x1 o5 (IntKind.wrap .i64 (x8 + (1 : Int))))
    else some (x7))
noncomputable def S_DaysOf_b2 (k : Nat) : Nat → Int → Int → Int → Int → Option (Int)
  | 0, _, _, _, _ => none
  | n + 1, x0, x1, x7, x9 =>
    (bif (decide (x9 < x1)) then ((S_l3Long k x0 x9).bind fun w7 =>
    S_DaysOf_b2 k n x0 x1 (IntKind.wrap .i64 (x7 + w7)) (IntKind.wrap .i64 (x9 + (1 : Int))))
    else some (x7))
noncomputable def S_DaysOf (k : Nat) (a0 : Int) (a1 : Int) (a2 : Int) : Option (Int) :=
    ((S_l1In k a0 (1970 : Int) (2099 : Int)).bind fun w1 =>
    (bif (!w1) then some (-1 : Int) else ((S_l1In k a1 (1 : Int) (12 : Int)).bind fun w2 =>
    (bif (!w2) then some (-1 : Int) else ((S_l3Long k a0 a1).bind fun w3 =>
    ((S_l1In k a2 (1 : Int) w3).bind fun w4 =>
    (bif (!w4) then some (-1 : Int)
    else ((S_DaysOf_b0 k k a0 a1 (IntKind.wrap .i64 (a2 - (1 : Int))) (1970 : Int)).bind fun o6 =>
    ((S_DaysOf_b2 k k a0 a1 o6 (1 : Int)).bind fun o8 =>
    some o8)))))))))
/-! loop.example/g03012/spec.CivilOf -/
noncomputable def S_CivilOf_c12 (k : Nat) (x0 : Int) (x5 : Int) (x6 : Int) (x12 : Bool) : Option (Int) :=
    (bif x12 then some ((366 : Int))
    else some (x6))
noncomputable def S_CivilOf_b1 (k : Nat) (x0 : Int) (x5 : Int) : Option (Oc (Int × Int) (Unit)) :=
    ((S_IsLeap k x5).bind fun w2 =>
    ((S_CivilOf_c12 k x0 x5 (365 : Int) w2).bind fun o3 =>
    (bif (decide (x0 < o3)) then some (.oth (()))
    else some (.nrm ((IntKind.wrap .i64 (x0 - o3)), (IntKind.wrap .i64 (x5 + (1 : Int))))))))
noncomputable def S_CivilOf_b0 (k : Nat) : Nat → Int → Int → Option (Int × Int)
  | 0, _, _ => none
  | n + 1, x0, x5 =>
    ((S_CivilOf_b1 k x0 x5).bind fun o2 =>
    oc o2 (fun o3 => S_CivilOf_b0 k n o3.1 o3.2)
    (fun o4 => some ((x0, x5))))
noncomputable def S_CivilOf_b2 (k : Nat) : Nat → Int → Int → Int → Option (Int × Int)
  | 0, _, _, _ => none
  | n + 1, x0, x5, x7 =>
    ((S_l3Long k x5 x7).bind fun w6 =>
    (bif (decide (x0 ≥ w6)) then ((S_l3Long k x5 x7).bind fun w7 =>
    S_CivilOf_b2 k n (IntKind.wrap .i64 (x0 - w7)) x5 (IntKind.wrap .i64 (x7 + (1 : Int))))
    else some ((x0, x7))))
noncomputable def S_CivilOf (k : Nat) (a0 : Int) : Option (Int × Int × Int) :=
    ((S_l1In k a0 (0 : Int) (47481 : Int)).bind fun w1 =>
    (bif (!w1) then some ((0 : Int), (0 : Int), (0 : Int))
    else ((S_CivilOf_b0 k k a0 (1970 : Int)).bind fun o5 =>
    ((S_CivilOf_b2 k k o5.1 o5.2 (1 : Int)).bind fun o8 =>
    some (o5.2, o8.2, (IntKind.wrap .i64 (o8.1 + (1 : Int))))))))
/-! loop.example/g03012/spec.l3Days -/
noncomputable def S_l3Days (k : Nat)  : Option ((List (List UInt8))) :=
    some ([([83, 117, 110, 100, 97, 121] : List UInt8), ([77, 111, 110, 100, 97, 121] : List UInt8), ([84, 117, 101, 115, 100, 97, 121] : List UInt8), ([87, 101, 100, 110, 101, 115, 100, 97, 121] : List UInt8), ([84, 104, 117, 114, 115, 100, 97, 121] : List UInt8), ([70, 114, 105, 100, 97, 121] : List UInt8), ([83, 97, 116, 117, 114, 100, 97, 121] : List UInt8)] : List (List UInt8))
/-! loop.example/g03012/spec.WeekdayOf -/
noncomputable def S_WeekdayOf (k : Nat) (a0 : Int) : Option (Int) :=
    ((S_Mod k a0 (7 : Int)).bind fun w1 =>
    ((S_Mod k (IntKind.wrap .i64 (w1 + (4 : Int))) (7 : Int)).bind fun w2 =>
    some w2))
/-! loop.example/g03012/spec.Max -/
noncomputable def S_Max (k : Nat) (a0 : Int) (a1 : Int) : Option (Int) :=
    (bif (decide (a1 > a0)) then some a1
    else some a0)
/-! loop.example/g03012/spec.FormatInt -/
noncomputable def S_FormatInt_c16 (k : Nat) (x0 : Int) (x3 : List UInt8) (x4 : Int) (x5 : Int) (x16 : Bool) : Option (Int) :=
    (bif x16 then some ((IntKind.wrap .i64 (0 - x5)))
    else some (x5))
noncomputable def S_FormatInt_b1 (k : Nat) (x0 : Int) (x3 : List UInt8) (x4 : Int) : Option ((List UInt8)) :=
    ((md x4 (10 : Int)).bind fun q1 =>
    ((S_FormatInt_c16 k x0 x3 x4 q1 (decide (q1 < (0 : Int)))).bind fun o2 =>
    ((cat (bytesOf ([(IntKind.wrap .u8 (IntKind.wrap .i64 ((48 : Int) + o2)))] : List Int)) x3).bind fun t3 =>
    some (t3))))
noncomputable def S_FormatInt_b0 (k : Nat) : Nat → Int → (List UInt8) → Int → Option ((List UInt8))
  | 0, _, _, _ => none
  | n + 1, x0, x3, x4 =>
    (bif (x4 != (0 : Int)) then ((S_FormatInt_b1 k x0 x3 x4).bind fun o1 =>
    ((dv x4 (10 : Int)).bind fun q2 =>
    S_FormatInt_b0 k n x0 o1 (IntKind.wrap .i64 q2)))
    else some (x3))
noncomputable def S_FormatInt (k : Nat) (a0 : Int) : Option ((List UInt8)) :=
    (bif (a0 == (0 : Int)) then some ([48] : List UInt8)
    else ((S_FormatInt_b0 k k a0 ([] : List UInt8) a0).bind fun o3 =>
    (bif (decide (a0 < (0 : Int))) then ((cat ([45] : List UInt8) o3).bind fun t4 =>
    some t4)
    else some o3)))
/-! loop.example/g03012/spec.Digits -/
noncomputable def S_Digits_b0 (k : Nat) : Nat → Int → (List UInt8) → Option ((List UInt8))
  | 0, _, _ => none
  | n + 1, x1, x5 =>
    (bif (decide ((x5.length : Int) < x1)) then (bif (decide ((x5.length : Int) < (20 : Int))) then ((cat ([48] : List UInt8) x5).bind fun t3 =>
    S_Digits_b0 k n x1 t3)
    else some (x5)) else some (x5))
noncomputable def S_Digits (k : Nat) (a0 : Int) (a1 : Int) : Option ((List UInt8)) :=
    ((S_Max k (0 : Int) a0).bind fun w1 =>
    ((S_FormatInt k w1).bind fun w2 =>
    ((S_Digits_b0 k k a1 w2).bind fun o4 =>
    some o4)))
/-! loop.example/g03012/spec.l3Clock -/
noncomputable def S_l3Clock (k : Nat) (a0 : Int) : Option ((List UInt8)) :=
    ((md a0 (86400 : Int)).bind fun q1 =>
    ((dv q1 (3600 : Int)).bind fun q2 =>
    ((S_Digits k (IntKind.wrap .i64 q2) (2 : Int)).bind fun w3 =>
    ((cat w3 ([58] : List UInt8)).bind fun t4 =>
    ((dv q1 (60 : Int)).bind fun q5 =>
    ((md (IntKind.wrap .i64 q5) (60 : Int)).bind fun q6 =>
    ((S_Digits k q6 (2 : Int)).bind fun w7 =>
    ((cat t4 w7).bind fun t8 =>
    ((cat t8 ([58] : List UInt8)).bind fun t9 =>
    ((md q1 (60 : Int)).bind fun q10 =>
    ((S_Digits k q10 (2 : Int)).bind fun w11 =>
    ((cat t9 w11).bind fun t12 =>
    some t12))))))))))))
/-! loop.example/g03012/spec.l3Forms -/
noncomputable def S_l3Forms_c69 (k : Nat) (x0 : Int) (x3 : Int) (x5 : Int) (x6 : List UInt8) (x7 : List UInt8) (x8 : List UInt8) (x9 : List UInt8) (x10 : List UInt8) (x69 : Bool) : Option ((List UInt8)) :=
    (bif x69 then ((S_FormatInt k x5).bind fun w36 =>
    ((cat ([32] : List UInt8) w36).bind fun t37 =>
    some (t37)))
    else some (x10))
noncomputable def S_l3Forms (k : Nat) (a0 : Int) : Option ((List (List UInt8))) :=
    ((dv a0 (86400 : Int)).bind fun q1 =>
    ((S_CivilOf k (IntKind.wrap .i64 q1)).bind fun w2 =>
    ((S_l3Days k ).bind fun w3 =>
    ((dv a0 (86400 : Int)).bind fun q4 =>
    ((S_WeekdayOf k (IntKind.wrap .i64 q4)).bind fun w5 =>
    ((idx w3 w5).bind fun _ =>
    ((idx w3 w5).bind fun e6 =>
    ((S_l3Months k ).bind fun w7 =>
    ((idx w7 (IntKind.wrap .i64 (w2.2.1 - (1 : Int)))).bind fun _ =>
    ((idx w7 (IntKind.wrap .i64 (w2.2.1 - (1 : Int)))).bind fun e8 =>
    ((ssub e6 (0 : Int) (3 : Int)).bind fun t9 =>
    ((cat t9 ([44, 32] : List UInt8)).bind fun t10 =>
    ((S_Digits k w2.2.2 (2 : Int)).bind fun w11 =>
    ((cat t10 w11).bind fun t12 =>
    ((cat t12 ([32] : List UInt8)).bind fun t13 =>
    ((cat t13 e8).bind fun t14 =>
    ((cat t14 ([32] : List UInt8)).bind fun t15 =>
    ((S_Digits k w2.1 (4 : Int)).bind fun w16 =>
    ((cat t15 w16).bind fun t17 =>
    ((cat t17 ([32] : List UInt8)).bind fun t18 =>
    ((S_l3Clock k a0).bind fun w19 =>
    ((cat t18 w19).bind fun t20 =>
    ((cat t20 ([32, 71, 77, 84] : List UInt8)).bind fun t21 =>
    ((cat e6 ([44, 32] : List UInt8)).bind fun t22 =>
    ((S_Digits k w2.2.2 (2 : Int)).bind fun w23 =>
    ((cat t22 w23).bind fun t24 =>
    ((cat t24 ([45] : List UInt8)).bind fun t25 =>
    ((cat t25 e8).bind fun t26 =>
    ((cat t26 ([45] : List UInt8)).bind fun t27 =>
    ((md w2.1 (100 : Int)).bind fun q28 =>
    ((S_Digits k q28 (2 : Int)).bind fun w29 =>
    ((cat t27 w29).bind fun t30 =>
    ((cat t30 ([32] : List UInt8)).bind fun t31 =>
    ((S_l3Clock k a0).bind fun w32 =>
    ((cat t31 w32).bind fun t33 =>
    ((cat t33 ([32, 71, 77, 84] : List UInt8)).bind fun t34 =>
    ((S_Digits k w2.2.2 (2 : Int)).bind fun w35 =>
    ((S_l3Forms_c69 k a0 w2.1 w2.2.2 e6 e8 t21 t34 w35 (decide (w2.2.2 < (10 : Int)))).bind fun o38 =>
    ((ssub e6 (0 : Int) (3 : Int)).bind fun t39 =>
    ((cat t39 ([32] : List UInt8)).bind fun t40 =>
    ((cat t40 e8).bind fun t41 =>
    ((cat t41 ([32] : List UInt8)).bind fun t42 =>
    ((cat t42 o38).bind fun t43 =>
    ((cat t43 ([32] : List UInt8)).bind fun t44 =>
    ((S_l3Clock k a0).bind fun w45 =>
    ((cat t44 w45).bind fun t46 =>
    ((cat t46 ([32] : List UInt8)).bind fun t47 =>
    ((S_Digits k w2.1 (4 : Int)).bind fun w48 =>
    ((cat t47 w48).bind fun t49 =>
    some ([t21, t34, t49] : List (List UInt8)))))))))))))))))))))))))))))))))))))))))))))))))))
/-! loop.example/g03012/spec.ParseDate -/
noncomputable def S_ParseDate_c43 (k : Nat) (x0 : List UInt8) (x5 : Int) (x6 : Int) (x7 : Int) (x43 : Bool) : Option (Int) :=
    (bif x43 then ((idx x0 (9 : Int)).bind fun c10 =>
    some ((IntKind.wrap .i64 ((IntKind.wrap .i64 (UInt8.toNat c10 : Int)) - (48 : Int)))))
    else some (x7))
noncomputable def S_ParseDate_c57 (k : Nat) (x0 : List UInt8) (x4 : Int) (x5 : Int) (x57 : Bool) : Option (Int) :=
    (bif x57 then some ((IntKind.wrap .i64 (x5 + (100 : Int))))
    else some (x5))
noncomputable def S_ParseDate_c48 (k : Nat) (x0 : List UInt8) (x4 : Int) (x5 : Int) (x6 : Int) (x7 : Int) (x8 : Int) (x48 : Bool) : Option (Int × Int × Int × Int) :=
    (bif x48 then ((S_l3Two k x0 (IntKind.wrap .i64 (x4 - (15 : Int)))).bind fun w13 =>
    ((S_ParseDate_c57 k x0 x4 (IntKind.wrap .i64 ((1900 : Int) + w13)) (decide ((IntKind.wrap .i64 ((1900 : Int) + w13)) < (1970 : Int)))).bind fun o14 =>
    ((S_l3Month k x0 (IntKind.wrap .i64 (x4 - (19 : Int)))).bind fun w15 =>
    ((S_l3Two k x0 (IntKind.wrap .i64 (x4 - (22 : Int)))).bind fun w16 =>
    some ((o14, w15, w16, (IntKind.wrap .i64 (x4 - (12 : Int)))))))))
    else some ((x5, x6, x7, x8)))
noncomputable def S_ParseDate_c28 (k : Nat) (x0 : List UInt8) (x4 : Int) (x5 : Int) (x6 : Int) (x7 : Int) (x8 : Int) (x28 : Bool) : Option (Int × Int × Int × Int) :=
    (bif x28 then ((S_l3Two k x0 (20 : Int)).bind fun w5 =>
    ((S_l3Two k x0 (22 : Int)).bind fun w6 =>
    ((S_l3Month k x0 (4 : Int)).bind fun w7 =>
    ((S_l3Two k x0 (8 : Int)).bind fun w8 =>
    ((idx x0 (8 : Int)).bind fun c9 =>
    ((S_ParseDate_c43 k x0 (IntKind.wrap .i64 ((IntKind.wrap .i64 ((100 : Int) * w5)) + w6)) w7 w8 ((UInt8.toNat c9 : Int) == (32 : Int))).bind fun o10 =>
    some (((IntKind.wrap .i64 ((IntKind.wrap .i64 ((100 : Int) * w5)) + w6)), w7, o10, (11 : Int)))))))))
    else ((S_l1In k x4 (30 : Int) (33 : Int)).bind fun w11 =>
    ((S_ParseDate_c48 k x0 x4 x5 x6 x7 x8 w11).bind fun o12 =>
    some ((o12.1, o12.2.1, o12.2.2.1, o12.2.2.2)))))
noncomputable def S_ParseDate_c15 (k : Nat) (x0 : List UInt8) (x4 : Int) (x5 : Int) (x6 : Int) (x7 : Int) (x8 : Int) (x15 : Bool) : Option (Int × Int × Int × Int) :=
    (bif x15 then ((S_l3Two k x0 (12 : Int)).bind fun w1 =>
    ((S_l3Two k x0 (14 : Int)).bind fun w2 =>
    ((S_l3Month k x0 (8 : Int)).bind fun w3 =>
    ((S_l3Two k x0 (5 : Int)).bind fun w4 =>
    some (((IntKind.wrap .i64 ((IntKind.wrap .i64 ((100 : Int) * w1)) + w2)), w3, w4, (17 : Int)))))))
    else ((S_ParseDate_c28 k x0 x4 x5 x6 x7 x8 (x4 == (24 : Int))).bind fun o5 =>
    some ((o5.1, o5.2.1, o5.2.2.1, o5.2.2.2))))
noncomputable def S_ParseDate_b0 (k : Nat) (x0 : List UInt8) (x4 : Int) (x5 : Int) (x6 : Int) (x7 : Int) (x8 : Int) : Option (Int × Int × Int × Int) :=
    ((S_ParseDate_c15 k x0 x4 x5 x6 x7 x8 (x4 == (29 : Int))).bind fun o1 =>
    some ((o1.1, o1.2.1, o1.2.2.1, o1.2.2.2)))
noncomputable def S_ParseDate_b1 (k : Nat) : Nat → (List UInt8) → Int → Int → (List (List UInt8)) → Option (Oc (Unit) (Int × Bool))
  | 0, _, _, _, _ => none
  | n + 1, x0, x10, x12, r11 =>
    (bif (decide (x12 < (r11.length : Int))) then ((idx r11 x12).bind fun _ =>
    ((idx r11 x12).bind fun e9 =>
    (bif (e9 == x0) then some (.oth ((x10, true)))
    else S_ParseDate_b1 k n x0 x10 (IntKind.wrap .i64 (x12 + (1 : Int))) r11)))
    else some (.nrm ()))
noncomputable def S_ParseDate (k : Nat) (a0 : List UInt8) : Option (Int × Bool) :=
    ((S_ParseDate_b0 k a0 (a0.length : Int) (0 : Int) (0 : Int) (0 : Int) (0 : Int)).bind fun o2 =>
    ((S_DaysOf k o2.1 o2.2.1 o2.2.2.1).bind fun w3 =>
    (bif (decide (w3 < (0 : Int))) then some ((0 : Int), false)
    else ((S_l3Two k a0 o2.2.2.2).bind fun w4 =>
    ((S_l3Two k a0 (IntKind.wrap .i64 (o2.2.2.2 + (3 : Int)))).bind fun w5 =>
    ((S_l3Two k a0 (IntKind.wrap .i64 (o2.2.2.2 + (6 : Int)))).bind fun w6 =>
    ((S_l1In k (IntKind.wrap .i64 ((IntKind.wrap .i64 ((IntKind.wrap .i64 ((IntKind.wrap .i64 ((86400 : Int) * w3)) + (IntKind.wrap .i64 ((3600 : Int) * w4)))) + (IntKind.wrap .i64 ((60 : Int) * w5)))) + w6)) (0 : Int) (4102444799 : Int)).bind fun w7 =>
    (bif (!w7) then some ((0 : Int), false)
    else ((S_l3Forms k (IntKind.wrap .i64 ((IntKind.wrap .i64 ((IntKind.wrap .i64 ((IntKind.wrap .i64 ((86400 : Int) * w3)) + (IntKind.wrap .i64 ((3600 : Int) * w4)))) + (IntKind.wrap .i64 ((60 : Int) * w5)))) + w6))).bind fun w8 =>
    ((S_ParseDate_b1 k k a0 (IntKind.wrap .i64 ((IntKind.wrap .i64 ((IntKind.wrap .i64 ((IntKind.wrap .i64 ((86400 : Int) * w3)) + (IntKind.wrap .i64 ((3600 : Int) * w4)))) + (IntKind.wrap .i64 ((60 : Int) * w5)))) + w6)) (0 : Int) w8).bind fun o10 =>
    oc o10 (fun o11 => some ((0 : Int), false))
    (fun o12 => some o12)))))))))))
/-! loop.example/g03012/spec.RangeHolds -/
noncomputable def S_RangeHolds (k : Nat) (a0 : IRequest) (a1 : IResponse) : Option (Bool) :=
    ((S_GetField k a0.Fields ([105, 102, 45, 114, 97, 110, 103, 101] : List UInt8)).bind fun w1 =>
    (bif (!w1.2) then some true
    else ((S_ParseTag k w1.1).bind fun w2 =>
    (bif w2.2 then ((S_l5Get k a1.Fields ([101, 116, 97, 103] : List UInt8)).bind fun w3 =>
    ((S_ParseTag k w3).bind fun w4 =>
    (bif w4.2 then ((S_StrongSame k w2.1 w4.1).bind fun w5 =>
    some w5) else some false)))
    else ((S_ParseDate k w1.1).bind fun w6 =>
    ((S_l5Get k a1.Fields ([108, 97, 115, 116, 45, 109, 111, 100, 105, 102, 105, 101, 100] : List UInt8)).bind fun w7 =>
    ((S_ParseDate k w7).bind fun w8 =>
    (bif w6.2 then (bif w8.2 then some (w6.1 == w8.1) else some false) else some false))))))))
/-! strings.Join -/
noncomputable def strings_Join (k : Nat) (a0 : List (List UInt8)) (a1 : List UInt8) : Option ((List UInt8)) :=
    joinO a0 a1
/-! loop.example/g03012/impl.JoinList -/
noncomputable def I_JoinList (k : Nat) (a0 : List (List UInt8)) : Option ((List UInt8)) :=
    ((strings_Join k a0 ([44, 32] : List UInt8)).bind fun w1 =>
    some w1)
/-! loop.example/g03012/impl.GetField -/
noncomputable def I_GetField_c19 (k : Nat) (x1 : List UInt8) (x10 : List IField) (x11 : Int) (x12 : Int) (x19 : Bool) (r6 : List (List UInt8)) (y8_0 : List UInt8) (y8_1 : List UInt8) : Option ((List (List UInt8))) :=
    (bif x19 then ((app 16 r6 ([y8_1] : List (List UInt8))).bind fun u2 =>
    some (u2))
    else some (r6))
noncomputable def I_GetField_b1 (k : Nat) (x1 : List UInt8) (x10 : List IField) (x11 : Int) (x12 : Int) (r6 : List (List UInt8)) : Option ((List (List UInt8))) :=
    ((idx x10 x12).bind fun e1 =>
    ((I_GetField_c19 k x1 x10 x11 x12 (e1.Name == x1) r6 e1.Name e1.Value).bind fun o2 =>
    some (o2)))
noncomputable def I_GetField_b0 (k : Nat) : Nat → (List UInt8) → (List IField) → Int → Int → (List (List UInt8)) → Option ((List (List UInt8)))
  | 0, _, _, _, _, _ => none
  | n + 1, x1, x10, x11, x12, r6 =>
    (bif (decide (x12 < x11)) then ((I_GetField_b1 k x1 x10 x11 x12 r6).bind fun o1 =>
    I_GetField_b0 k n x1 x10 x11 (IntKind.wrap .i64 (x12 + (1 : Int))) o1)
    else some (r6))
noncomputable def I_GetField (k : Nat) (a0 : List IField) (a1 : List UInt8) : Option ((List UInt8) × Bool) :=
    ((I_GetField_b0 k k a1 a0 (a0.length : Int) (0 : Int) ([] : List (List UInt8))).bind fun o2 =>
    ((I_JoinList k o2).bind fun w3 =>
    some (w3, (decide ((o2.length : Int) > (0 : Int))))))
/-! internal/stringslite.HasPrefix -/
noncomputable def internal_stringslite_HasPrefix (k : Nat) (a0 : List UInt8) (a1 : List UInt8) : Option (Bool) :=
    (bif (decide ((a0.length : Int) ≥ (a1.length : Int))) then ((ssub a0 (0 : Int) (a1.length : Int)).bind fun t1 =>
    some (t1 == a1)) else some false)
/-! internal/stringslite.CutPrefix -/
noncomputable def internal_stringslite_CutPrefix (k : Nat) (a0 : List UInt8) (a1 : List UInt8) : Option ((List UInt8) × Bool) :=
    ((internal_stringslite_HasPrefix k a0 a1).bind fun w1 =>
    (bif (!w1) then some (a0, false)
    else ((ssub a0 (a1.length : Int) (a0.length : Int)).bind fun t2 =>
    some (t2, true))))
/-! strings.CutPrefix -/
noncomputable def strings_CutPrefix (k : Nat) (a0 : List UInt8) (a1 : List UInt8) : Option ((List UInt8) × Bool) :=
    ((internal_stringslite_CutPrefix k a0 a1).bind fun w1 =>
    some (w1.1, w1.2))
/-! strings.Trim -/
noncomputable def strings_Trim (k : Nat) (a0 : List UInt8) (a1 : List UInt8) : Option ((List UInt8)) :=
    trimO a0 a1
/-! loop.example/g03012/impl.inRange -/
noncomputable def I_inRange (k : Nat) (a0 : Int) (a1 : Int) (a2 : Int) : Option (Bool) :=
    (bif (decide (a1 ≤ a0)) then some (decide (a0 ≤ a2)) else some false)
/-! loop.example/g03012/impl.IsTag -/
noncomputable def I_IsTag_b0 (k : Nat) : Nat → Int → Int → Bool → (List UInt8) → Option (Oc (Unit) (Bool))
  | 0, _, _, _, _ => none
  | n + 1, x6, x7, y1_0, y1_1 =>
    (bif (decide (x7 < x6)) then ((idx y1_1 x7).bind fun c1 =>
    ((I_inRange k (IntKind.wrap .i64 (UInt8.toNat c1 : Int)) (33 : Int) (126 : Int)).bind fun w2 =>
    (bif (!w2) then some (.oth (false)) else ((idx y1_1 x7).bind fun c3 =>
    (bif ((UInt8.toNat c3 : Int) == (34 : Int)) then some (.oth (false))
    else I_IsTag_b0 k n x6 (IntKind.wrap .i64 (x7 + (1 : Int))) y1_0 y1_1)))))
    else some (.nrm ()))
noncomputable def I_IsTag (k : Nat) (a0 : ITag) : Option (Bool) :=
    ((I_IsTag_b0 k k (a0.Text.length : Int) (0 : Int) a0.Weak a0.Text).bind fun o4 =>
    oc o4 (fun o5 => some (decide ((a0.Text.length : Int) ≤ (40 : Int))))
    (fun o6 => some o6))
/-! loop.example/g03012/impl.FormatTag -/
noncomputable def I_FormatTag (k : Nat) (a0 : ITag) : Option ((List UInt8)) :=
    ((I_IsTag k a0).bind fun w1 =>
    (bif (!w1) then some ([] : List UInt8)
    else (bif a0.Weak then ((cat ([87, 47, 34] : List UInt8) a0.Text).bind fun t2 =>
    ((cat t2 ([34] : List UInt8)).bind fun t3 =>
    some t3))
    else ((cat ([34] : List UInt8) a0.Text).bind fun t4 =>
    ((cat t4 ([34] : List UInt8)).bind fun t5 =>
    some t5)))))
/-! loop.example/g03012/impl.ParseTag -/
noncomputable def I_ParseTag (k : Nat) (a0 : List UInt8) : Option (ITag × Bool) :=
    ((strings_CutPrefix k a0 ([87, 47] : List UInt8)).bind fun w1 =>
    ((strings_Trim k w1.1 ([34] : List UInt8)).bind fun w2 =>
    (bif (a0 == ([] : List UInt8)) then some ((⟨false, ([] : List UInt8)⟩ : ITag), false) else ((I_FormatTag k (⟨w1.2, w2⟩ : ITag)).bind fun w3 =>
    (bif (!(w3 == a0)) then some ((⟨false, ([] : List UInt8)⟩ : ITag), false)
    else some ((⟨w1.2, w2⟩ : ITag), true))))))
/-! loop.example/g03012/impl.answerTag -/
noncomputable def I_answerTag (k : Nat) (a0 : IResponse) : Option (ITag × Bool) :=
    ((I_GetField k a0.Fields ([101, 116, 97, 103] : List UInt8)).bind fun w1 =>
    ((I_ParseTag k w1.1).bind fun w2 =>
    some (w2.1, w2.2)))
/-! loop.example/g03012/impl.StrongSame -/
noncomputable def I_StrongSame (k : Nat) (a0 : ITag) (a1 : ITag) : Option (Bool) :=
    (bif (!a0.Weak) then (bif (!a1.Weak) then some (a0.Text == a1.Text) else some false) else some false)
/-! strings.Cut -/
noncomputable def strings_Cut (k : Nat) (a0 : List UInt8) (a1 : List UInt8) : Option ((List UInt8) × (List UInt8) × Bool) :=
    cutO a0 a1
/-! strings.TrimLeft -/
noncomputable def strings_TrimLeft (k : Nat) (a0 : List UInt8) (a1 : List UInt8) : Option ((List UInt8)) :=
    trimLeftO a0 a1
/-! strconv.Atoi -/
noncomputable def strconv_Atoi (k : Nat) (a0 : List UInt8) : Option (Int × Bool) :=
    atoiO a0
/-! loop.example/g03012/impl.digitsIn -/
noncomputable def I_digitsIn (k : Nat) (a0 : List UInt8) : Option (Int) :=
    ((strings_TrimLeft k a0 ([32] : List UInt8)).bind fun w1 =>
    ((strconv_Atoi k w1).bind fun w2 =>
    (bif w2.2 then some (-1 : Int)
    else some w2.1)))
/-! strings.Index -/
noncomputable def strings_Index (k : Nat) (a0 : List UInt8) (a1 : List UInt8) : Option (Int) :=
    indexO a0 a1
/-! loop.example/g03012/impl.Mod -/
noncomputable def I_Mod (k : Nat) (a0 : Int) (a1 : Int) : Option (Int) :=
    ((I_inRange k a1 (1 : Int) (1000000000000 : Int)).bind fun w1 =>
    (bif (!w1) then some (0 : Int)
    else ((md a0 a1).bind fun q2 =>
    ((md (IntKind.wrap .i64 (q2 + a1)) a1).bind fun q3 =>
    some q3))))
/-! loop.example/g03012/impl.IsLeap -/
noncomputable def I_IsLeap (k : Nat) (a0 : Int) : Option (Bool) :=
    ((I_Mod k a0 (4 : Int)).bind fun w1 =>
    (bif (w1 == (0 : Int)) then ((I_Mod k a0 (100 : Int)).bind fun w2 =>
    (bif (w2 != (0 : Int)) then some true else ((I_Mod k a0 (400 : Int)).bind fun w3 =>
    some (w3 == (0 : Int))))) else some false))
/-! loop.example/g03012/impl.monthDays -/
noncomputable def I_monthDays_c6 (k : Nat) (x0 : Int) (x5 : Int) (x6 : Bool) : Option (Oc (Unit) (Int)) :=
    (bif x6 then ((I_IsLeap k x0).bind fun w1 =>
    (bif w1 then some (.oth ((29 : Int)))
    else some (.oth ((28 : Int)))))
    else (bif (x5 == (4 : Int)) then (bif (x5 == (4 : Int)) then some (.oth ((30 : Int)))
    else some (.nrm ()))
    else (bif (x5 == (6 : Int)) then (bif (x5 == (6 : Int)) then some (.oth ((30 : Int)))
    else some (.nrm ()))
    else (bif (x5 == (9 : Int)) then (bif (x5 == (9 : Int)) then some (.oth ((30 : Int)))
    else some (.nrm ()))
    else (bif (x5 == (11 : Int)) then some (.oth ((30 : Int)))
    else some (.nrm ()))))))
noncomputable def I_monthDays_b0 (k : Nat) (x0 : Int) (x5 : Int) : Option (Oc (Unit) (Int)) :=
    ((I_monthDays_c6 k x0 x5 (x5 == (2 : Int))).bind fun o1 =>
    oc o1 (fun o2 => some (.nrm ()))
    (fun o3 => some (.oth (o3))))
noncomputable def I_monthDays (k : Nat) (a0 : Int) (a1 : Int) : Option (Int) :=
    ((I_monthDays_b0 k a0 a1).bind fun o4 =>
    oc o4 (fun o5 => some (31 : Int))
    (fun o6 => some o6))
/-! loop.example/g03012/impl.yearDays -/
noncomputable def I_yearDays (k : Nat) (a0 : Int) : Option (Int) :=
    ((I_IsLeap k a0).bind fun w1 =>
    (bif w1 then some (366 : Int)
    else some (365 : Int)))
/-! loop.example/g03012/impl.DaysOf -/
noncomputable def I_DaysOf_b0 (k : Nat) : Nat → Int → Int → Int → Int → Option (Int)
  | 0, _, _, _, _ => none
  | n + 1, x0, x1, x7, x8 =>
    (bif (decide (x8 < x0)) then ((I_yearDays k x8).bind fun w5 =>
    I_DaysOf_b0 k n x0 x1 (IntKind.wrap .i64 (x7 + w5)) (IntKind.wrap .i64 (x8 + (1 : Int))))
    else some (x7))
noncomputable def I_DaysOf_b2 (k : Nat) : Nat → Int → Int → Int → Int → Option (Int)
  | 0, _, _, _, _ => none
  | n + 1, x0, x1, x7, x9 =>
    (bif (decide (x9 < x1)) then ((I_monthDays k x0 x9).bind fun w7 =>
    I_DaysOf_b2 k n x0 x1 (IntKind.wrap .i64 (x7 + w7)) (IntKind.wrap .i64 (x9 + (1 : Int))))
    else some (x7))
noncomputable def I_DaysOf (k : Nat) (a0 : Int) (a1 : Int) (a2 : Int) : Option (Int) :=
    ((I_inRange k a0 (1970 : Int) (2099 : Int)).bind fun w1 =>
    (bif (!w1) then some (-1 : Int) else ((I_inRange k a1 (1 : Int) (12 : Int)).bind fun w2 =>
    (bif (!w2) then some (-1 : Int) else ((I_monthDays k a0 a1).bind fun w3 =>
    ((I_inRange k a2 (1 : Int) w3).bind fun w4 =>
    (bif (!w4) then some (-1 : Int)
    else ((I_DaysOf_b0 k k a0 a1 (IntKind.wrap .i64 (a2 - (1 : Int))) (1970 : Int)).bind fun o6 =>
    ((I_DaysOf_b2 k k a0 a1 o6 (1 : Int)).bind fun o8 =>
    some o8)))))))))
/-! loop.example/g03012/impl.timeOf -/
noncomputable def I_timeOf (k : Nat) (a0 : Int) (a1 : List UInt8) (a2 : Int) (a3 : List UInt8) : Option (Int × Bool) :=
    ((strings_Index k ([74, 97, 110, 70, 101, 98, 77, 97, 114, 65, 112, 114, 77, 97, 121, 74, 117, 110, 74, 117, 108, 65, 117, 103, 83, 101, 112, 79, 99, 116, 78, 111, 118, 68, 101, 99] : List UInt8) a1).bind fun w1 =>
    ((dv w1 (3 : Int)).bind fun q2 =>
    ((I_DaysOf k a0 (IntKind.wrap .i64 ((IntKind.wrap .i64 q2) + (1 : Int))) a2).bind fun w3 =>
    (bif (decide (w3 < (0 : Int))) then some ((0 : Int), false)
    else ((ssub a3 (0 : Int) (2 : Int)).bind fun t4 =>
    ((I_digitsIn k t4).bind fun w5 =>
    ((ssub a3 (3 : Int) (5 : Int)).bind fun t6 =>
    ((I_digitsIn k t6).bind fun w7 =>
    ((ssub a3 (6 : Int) (8 : Int)).bind fun t8 =>
    ((I_digitsIn k t8).bind fun w9 =>
    some ((IntKind.wrap .i64 ((IntKind.wrap .i64 ((IntKind.wrap .i64 ((IntKind.wrap .i64 (w3 * (86400 : Int))) + (IntKind.wrap .i64 (w5 * (3600 : Int))))) + (IntKind.wrap .i64 (w7 * (60 : Int))))) + w9)), true)))))))))))
/-! loop.example/g03012/impl.dateIn -/
noncomputable def I_dateIn_c34 (k : Nat) (x7 : List UInt8) (x9 : Int) (x34 : Bool) : Option (Int) :=
    (bif x34 then some ((IntKind.wrap .i64 (x9 + (100 : Int))))
    else some (x9))
noncomputable def I_dateIn (k : Nat) (a0 : List UInt8) (a1 : Int) : Option (Int × Bool) :=
    (bif (a1 == (2 : Int)) then ((strings_Cut k a0 ([44] : List UInt8)).bind fun w1 =>
    (bif (!w1.2.2) then some ((0 : Int), false) else (bif ((w1.2.1.length : Int) != (23 : Int)) then some ((0 : Int), false) else (bif (decide ((w1.1.length : Int) < (6 : Int))) then some ((0 : Int), false)
    else ((ssub w1.2.1 (8 : Int) (10 : Int)).bind fun t2 =>
    ((I_digitsIn k t2).bind fun w3 =>
    ((I_dateIn_c34 k w1.2.1 w3 (decide (w3 < (70 : Int)))).bind fun o4 =>
    ((ssub w1.2.1 (4 : Int) (7 : Int)).bind fun t5 =>
    ((ssub w1.2.1 (1 : Int) (3 : Int)).bind fun t6 =>
    ((I_digitsIn k t6).bind fun w7 =>
    ((ssub w1.2.1 (11 : Int) (19 : Int)).bind fun t8 =>
    ((I_timeOf k (IntKind.wrap .i64 ((1900 : Int) + o4)) t5 w7 t8).bind fun w9 =>
    some (w9.1, w9.2)))))))))))))
    else (bif (a1 == (1 : Int)) then (bif ((a0.length : Int) == (29 : Int)) then ((ssub a0 (12 : Int) (16 : Int)).bind fun t10 =>
    ((I_digitsIn k t10).bind fun w11 =>
    ((ssub a0 (8 : Int) (11 : Int)).bind fun t12 =>
    ((ssub a0 (5 : Int) (7 : Int)).bind fun t13 =>
    ((I_digitsIn k t13).bind fun w14 =>
    ((ssub a0 (17 : Int) (25 : Int)).bind fun t15 =>
    ((I_timeOf k w11 t12 w14 t15).bind fun w16 =>
    some (w16.1, w16.2))))))))
    else (bif (a1 == (3 : Int)) then (bif ((a0.length : Int) == (24 : Int)) then ((ssub a0 (20 : Int) (24 : Int)).bind fun t17 =>
    ((I_digitsIn k t17).bind fun w18 =>
    ((ssub a0 (4 : Int) (7 : Int)).bind fun t19 =>
    ((ssub a0 (8 : Int) (10 : Int)).bind fun t20 =>
    ((I_digitsIn k t20).bind fun w21 =>
    ((ssub a0 (11 : Int) (19 : Int)).bind fun t22 =>
    ((I_timeOf k w18 t19 w21 t22).bind fun w23 =>
    some (w23.1, w23.2))))))))
    else some ((0 : Int), false)) else some ((0 : Int), false))) else (bif (a1 == (3 : Int)) then (bif ((a0.length : Int) == (24 : Int)) then ((ssub a0 (20 : Int) (24 : Int)).bind fun t24 =>
    ((I_digitsIn k t24).bind fun w25 =>
    ((ssub a0 (4 : Int) (7 : Int)).bind fun t26 =>
    ((ssub a0 (8 : Int) (10 : Int)).bind fun t27 =>
    ((I_digitsIn k t27).bind fun w28 =>
    ((ssub a0 (11 : Int) (19 : Int)).bind fun t29 =>
    ((I_timeOf k w25 t26 w28 t29).bind fun w30 =>
    some (w30.1, w30.2))))))))
    else some ((0 : Int), false)) else some ((0 : Int), false))))
/-! loop.example/g03012/impl.CivilOf -/
noncomputable def I_CivilOf_b0 (k : Nat) : Nat → Int → Int → Int → Option (Int × Int)
  | 0, _, _, _ => none
  | n + 1, x0, x5, x6 =>
    ((I_yearDays k x5).bind fun w2 =>
    (bif (decide (x0 ≥ w2)) then ((I_yearDays k x5).bind fun w3 =>
    I_CivilOf_b0 k n (IntKind.wrap .i64 (x0 - w3)) (IntKind.wrap .i64 (x5 + (1 : Int))) x6)
    else some ((x0, x5))))
noncomputable def I_CivilOf_b2 (k : Nat) : Nat → Int → Int → Int → Option (Int × Int)
  | 0, _, _, _ => none
  | n + 1, x0, x5, x6 =>
    ((I_monthDays k x5 x6).bind fun w5 =>
    (bif (decide (x0 ≥ w5)) then ((I_monthDays k x5 x6).bind fun w6 =>
    I_CivilOf_b2 k n (IntKind.wrap .i64 (x0 - w6)) x5 (IntKind.wrap .i64 (x6 + (1 : Int))))
    else some ((x0, x6))))
noncomputable def I_CivilOf (k : Nat) (a0 : Int) : Option (Int × Int × Int) :=
    ((I_inRange k a0 (0 : Int) (47481 : Int)).bind fun w1 =>
    (bif (!w1) then some ((0 : Int), (0 : Int), (0 : Int))
    else ((I_CivilOf_b0 k k a0 (1970 : Int) (1 : Int)).bind fun o4 =>
    ((I_CivilOf_b2 k k o4.1 o4.2 (1 : Int)).bind fun o7 =>
    some (o4.2, o7.2, (IntKind.wrap .i64 (o7.1 + (1 : Int))))))))
/-! loop.example/g03012/impl.WeekdayOf -/
noncomputable def I_WeekdayOf (k : Nat) (a0 : Int) : Option (Int) :=
    ((I_Mod k a0 (7 : Int)).bind fun w1 =>
    ((I_Mod k (IntKind.wrap .i64 (w1 + (4 : Int))) (7 : Int)).bind fun w2 =>
    some w2))
/-! strconv.Itoa -/
noncomputable def strconv_Itoa (k : Nat) (a0 : Int) : Option ((List UInt8)) :=
    itoaO a0
/-! loop.example/g03012/impl.FormatInt -/
noncomputable def I_FormatInt (k : Nat) (a0 : Int) : Option ((List UInt8)) :=
    ((strconv_Itoa k a0).bind fun w1 =>
    some w1)
/-! loop.example/g03012/impl.Digits -/
noncomputable def I_Digits_b0 (k : Nat) : Nat → Int → (List UInt8) → Option ((List UInt8))
  | 0, _, _ => none
  | n + 1, x1, x5 =>
    (bif (decide ((x5.length : Int) < x1)) then (bif (decide ((x5.length : Int) < (20 : Int))) then ((cat ([48] : List UInt8) x5).bind fun t2 =>
    I_Digits_b0 k n x1 t2)
    else some (x5)) else some (x5))
noncomputable def I_Digits (k : Nat) (a0 : Int) (a1 : Int) : Option ((List UInt8)) :=
    ((I_FormatInt k (if a0 > (0 : Int) then a0 else (0 : Int))).bind fun w1 =>
    ((I_Digits_b0 k k a1 w1).bind fun o3 =>
    some o3))
/-! loop.example/g03012/impl.fullDay -/
noncomputable def I_fullDay (k : Nat) (a0 : Int) : Option ((List UInt8)) :=
    ((idx ([([83, 117, 110, 100, 97, 121] : List UInt8), ([77, 111, 110, 100, 97, 121] : List UInt8), ([84, 117, 101, 115, 100, 97, 121] : List UInt8), ([87, 101, 100, 110, 101, 115, 100, 97, 121] : List UInt8), ([84, 104, 117, 114, 115, 100, 97, 121] : List UInt8), ([70, 114, 105, 100, 97, 121] : List UInt8), ([83, 97, 116, 117, 114, 100, 97, 121] : List UInt8)] : List (List UInt8)) a0).bind fun _ =>
    ((idx ([([83, 117, 110, 100, 97, 121] : List UInt8), ([77, 111, 110, 100, 97, 121] : List UInt8), ([84, 117, 101, 115, 100, 97, 121] : List UInt8), ([87, 101, 100, 110, 101, 115, 100, 97, 121] : List UInt8), ([84, 104, 117, 114, 115, 100, 97, 121] : List UInt8), ([70, 114, 105, 100, 97, 121] : List UInt8), ([83, 97, 116, 117, 114, 100, 97, 121] : List UInt8)] : List (List UInt8)) a0).bind fun e1 =>
    some e1))
/-! loop.example/g03012/impl.dateText -/
noncomputable def I_dateText_c97 (k : Nat) (x5 : Int) (x9 : List UInt8) (x10 : List UInt8) (x11 : List UInt8) (x12 : List UInt8) (x97 : Bool) : Option ((List UInt8)) :=
    (bif x97 then ((cat ([32] : List UInt8) x12).bind fun t45 =>
    some (t45))
    else some (x12))
noncomputable def I_dateText (k : Nat) (a0 : Int) (a1 : Int) : Option ((List UInt8)) :=
    ((I_inRange k a0 (0 : Int) (4102444799 : Int)).bind fun w1 =>
    (bif (!w1) then some ([] : List UInt8)
    else ((dv a0 (86400 : Int)).bind fun q2 =>
    ((I_CivilOf k (IntKind.wrap .i64 q2)).bind fun w3 =>
    ((dv a0 (86400 : Int)).bind fun q4 =>
    ((I_WeekdayOf k (IntKind.wrap .i64 q4)).bind fun w5 =>
    ((dv a0 (3600 : Int)).bind fun q6 =>
    ((md (IntKind.wrap .i64 q6) (24 : Int)).bind fun q7 =>
    ((I_Digits k q7 (2 : Int)).bind fun w8 =>
    ((cat w8 ([58] : List UInt8)).bind fun t9 =>
    ((dv a0 (60 : Int)).bind fun q10 =>
    ((md (IntKind.wrap .i64 q10) (60 : Int)).bind fun q11 =>
    ((I_Digits k q11 (2 : Int)).bind fun w12 =>
    ((cat t9 w12).bind fun t13 =>
    ((cat t13 ([58] : List UInt8)).bind fun t14 =>
    ((md a0 (60 : Int)).bind fun q15 =>
    ((I_Digits k q15 (2 : Int)).bind fun w16 =>
    ((cat t14 w16).bind fun t17 =>
    ((ssub ([83, 117, 110, 77, 111, 110, 84, 117, 101, 87, 101, 100, 84, 104, 117, 70, 114, 105, 83, 97, 116] : List UInt8) (IntKind.wrap .i64 ((3 : Int) * w5)) (IntKind.wrap .i64 ((IntKind.wrap .i64 ((3 : Int) * w5)) + (3 : Int)))).bind fun t18 =>
    ((ssub ([74, 97, 110, 70, 101, 98, 77, 97, 114, 65, 112, 114, 77, 97, 121, 74, 117, 110, 74, 117, 108, 65, 117, 103, 83, 101, 112, 79, 99, 116, 78, 111, 118, 68, 101, 99] : List UInt8) (IntKind.wrap .i64 ((IntKind.wrap .i64 ((3 : Int) * w3.2.1)) - (3 : Int))) (IntKind.wrap .i64 ((3 : Int) * w3.2.1))).bind fun t19 =>
    (bif (a1 == (1 : Int)) then ((cat t18 ([44, 32] : List UInt8)).bind fun t20 =>
    ((I_Digits k w3.2.2 (2 : Int)).bind fun w21 =>
    ((cat t20 w21).bind fun t22 =>
    ((cat t22 ([32] : List UInt8)).bind fun t23 =>
    ((cat t23 t19).bind fun t24 =>
    ((cat t24 ([32] : List UInt8)).bind fun t25 =>
    ((I_FormatInt k w3.1).bind fun w26 =>
    ((cat t25 w26).bind fun t27 =>
    ((cat t27 ([32] : List UInt8)).bind fun t28 =>
    ((cat t28 t17).bind fun t29 =>
    ((cat t29 ([32, 71, 77, 84] : List UInt8)).bind fun t30 =>
    some t30)))))))))))
    else (bif (a1 == (2 : Int)) then (bif (decide (w3.1 > (2069 : Int))) then some ([] : List UInt8)
    else ((I_fullDay k w5).bind fun w31 =>
    ((cat w31 ([44, 32] : List UInt8)).bind fun t32 =>
    ((I_Digits k w3.2.2 (2 : Int)).bind fun w33 =>
    ((cat t32 w33).bind fun t34 =>
    ((cat t34 ([45] : List UInt8)).bind fun t35 =>
    ((cat t35 t19).bind fun t36 =>
    ((cat t36 ([45] : List UInt8)).bind fun t37 =>
    ((md w3.1 (100 : Int)).bind fun q38 =>
    ((I_Digits k q38 (2 : Int)).bind fun w39 =>
    ((cat t37 w39).bind fun t40 =>
    ((cat t40 ([32] : List UInt8)).bind fun t41 =>
    ((cat t41 t17).bind fun t42 =>
    ((cat t42 ([32, 71, 77, 84] : List UInt8)).bind fun t43 =>
    some t43))))))))))))))
    else ((I_FormatInt k w3.2.2).bind fun w44 =>
    ((I_dateText_c97 k w3.1 t17 t18 t19 w44 (decide (w3.2.2 < (10 : Int)))).bind fun o46 =>
    ((cat t18 ([32] : List UInt8)).bind fun t47 =>
    ((cat t47 t19).bind fun t48 =>
    ((cat t48 ([32] : List UInt8)).bind fun t49 =>
    ((cat t49 o46).bind fun t50 =>
    ((cat t50 ([32] : List UInt8)).bind fun t51 =>
    ((cat t51 t17).bind fun t52 =>
    ((cat t52 ([32] : List UInt8)).bind fun t53 =>
    ((I_FormatInt k w3.1).bind fun w54 =>
    ((cat t53 w54).bind fun t55 =>
    some t55)))))))))))))))))))))))))))))))))
/-! loop.example/g03012/impl.ParseDate -/
noncomputable def I_ParseDate_b0 (k : Nat) : Nat → (List UInt8) → Int → Option (Oc (Unit) (Int × Bool))
  | 0, _, _ => none
  | n + 1, x0, x4 =>
    (bif (decide (x4 ≤ (3 : Int))) then ((I_dateIn k x0 x4).bind fun w1 =>
    (bif w1.2 then ((I_dateText k w1.1 x4).bind fun w2 =>
    (bif (w2 == x0) then some (.oth ((w1.1, true)))
    else I_ParseDate_b0 k n x0 (IntKind.wrap .i64 (x4 + (1 : Int))))) else I_ParseDate_b0 k n x0 (IntKind.wrap .i64 (x4 + (1 : Int)))))
    else some (.nrm ()))
noncomputable def I_ParseDate (k : Nat) (a0 : List UInt8) : Option (Int × Bool) :=
    ((I_ParseDate_b0 k k a0 (1 : Int)).bind fun o3 =>
    oc o3 (fun o4 => some ((0 : Int), false))
    (fun o5 => some o5))
/-! loop.example/g03012/impl.dateField -/
noncomputable def I_dateField (k : Nat) (a0 : IResponse) (a1 : List UInt8) : Option (Int × Bool) :=
    ((I_GetField k a0.Fields a1).bind fun w1 =>
    ((I_ParseDate k w1.1).bind fun w2 =>
    some (w2.1, w2.2)))
/-! loop.example/g03012/impl.RangeHolds -/
noncomputable def I_RangeHolds (k : Nat) (a0 : IRequest) (a1 : IResponse) : Option (Bool) :=
    ((I_GetField k a0.Fields ([105, 102, 45, 114, 97, 110, 103, 101] : List UInt8)).bind fun w1 =>
    (bif (!w1.2) then some true
    else ((I_ParseTag k w1.1).bind fun w2 =>
    (bif w2.2 then ((I_answerTag k a1).bind fun w3 =>
    (bif w3.2 then ((I_StrongSame k w2.1 w3.1).bind fun w4 =>
    some w4) else some false))
    else ((I_ParseDate k w1.1).bind fun w5 =>
    ((I_dateField k a1 ([108, 97, 115, 116, 45, 109, 111, 100, 105, 102, 105, 101, 100] : List UInt8)).bind fun w6 =>
    (bif w5.2 then (bif w6.2 then some (w5.1 == w6.1) else some false) else some false)))))))
/-! loop.example/g03012/laws.eqField -/
noncomputable def L_eqField (k : Nat) (a0 : IField) (a1 : IField) : Option (Bool) :=
    (bif (!(a0.Name == a1.Name)) then some false
    else (bif (!(a0.Value == a1.Value)) then some false
    else some true))
/-! loop.example/g03012/laws.eqFieldS -/
noncomputable def L_eqFieldS_b0 (k : Nat) : Nat → (List IField) → (List IField) → Int → Option (Oc (Unit) (Bool))
  | 0, _, _, _ => none
  | n + 1, x0, x1, x5 =>
    (bif (decide (x5 < (x0.length : Int))) then ((idx x0 x5).bind fun e1 =>
    ((idx x1 x5).bind fun e2 =>
    ((L_eqField k e1 e2).bind fun w3 =>
    (bif (!w3) then some (.oth (false))
    else L_eqFieldS_b0 k n x0 x1 (IntKind.wrap .i64 (x5 + (1 : Int)))))))
    else some (.nrm ()))
noncomputable def L_eqFieldS (k : Nat) (a0 : List IField) (a1 : List IField) : Option (Bool) :=
    (bif ((a0.length : Int) != (a1.length : Int)) then some false
    else ((L_eqFieldS_b0 k k a0 a1 (0 : Int)).bind fun o4 =>
    oc o4 (fun o5 => some true)
    (fun o6 => some o6)))
/-! loop.example/g03012/laws.eqRequest -/
noncomputable def L_eqRequest (k : Nat) (a0 : IRequest) (a1 : IRequest) : Option (Bool) :=
    (bif (!(a0.Method == a1.Method)) then some false
    else (bif (!(a0.Host == a1.Host)) then some false
    else (bif (!(a0.Target == a1.Target)) then some false
    else ((L_eqFieldS k a0.Fields a1.Fields).bind fun w1 =>
    (bif (!w1) then some false
    else some true)))))
/-! loop.example/g03012/laws.eqResponse -/
noncomputable def L_eqResponse (k : Nat) (a0 : IResponse) (a1 : IResponse) : Option (Bool) :=
    (bif (a0.Code != a1.Code) then some false
    else ((L_eqFieldS k a0.Fields a1.Fields).bind fun w1 =>
    (bif (!w1) then some false
    else (bif (!(a0.Body == a1.Body)) then some false
    else some true))))
/-! loop.example/g03012/laws.FnExactRangeHolds -/
noncomputable def L_FnExactRangeHolds (k : Nat) (a0 : LRequest) (a1 : LResponse) : Option (Bool) :=
    ((L_szRequest k a0 (1048576 : Int)).bind fun w1 =>
    (bif (decide (w1 < (0 : Int))) then some true
    else ((L_szResponse k a1 w1).bind fun w2 =>
    (bif (decide (w2 < (0 : Int))) then some true
    else ((L_toRequest k a0).bind fun w3 =>
    ((L_toResponse k a1).bind fun w4 =>
    ((S_RangeHolds k w3 w4).bind fun w5 =>
    ((L_toRequest k a0).bind fun w6 =>
    ((L_toResponse k a1).bind fun w7 =>
    ((I_RangeHolds k w6 w7).bind fun w8 =>
    (bif (!(w8 == w5)) then some false
    else ((L_toRequest k a0).bind fun w9 =>
    ((L_eqRequest k w6 w9).bind fun w10 =>
    (bif (!w10) then some false
    else ((L_toResponse k a1).bind fun w11 =>
    ((L_eqResponse k w7 w11).bind fun w12 =>
    (bif (!w12) then some false
    else some true)))))))))))))))))

end
end Go.YtjpfnppiocloeaaGreatDoor
