/- Functions over lists. Nothing is claimed here. -/
import Derived.Test.YtgdjicnefdnofaaDoorKt
set_option linter.unusedVariables false
set_option linter.unusedSimpArgs false
set_option maxRecDepth 100000
namespace Go.YtgdjicnefdnofaaDoor
open Go Go.RowKit Go.Pv
noncomputable section

/-! loop.example/g03012/laws.szField -/
noncomputable def L_szField (k : Nat) (a0 : LField) (a1 : Int) : Option (Int) :=
    (bif (decide ((IntKind.wrap .i64 (a1 - (a0.Name.length : Int))) < (0 : Int))) then some (-1 : Int)
    else (bif (decide ((IntKind.wrap .i64 ((IntKind.wrap .i64 (a1 - (a0.Name.length : Int))) - (a0.Value.length : Int))) < (0 : Int))) then some (-1 : Int)
    else some (IntKind.wrap .i64 ((IntKind.wrap .i64 (a1 - (a0.Name.length : Int))) - (a0.Value.length : Int)))))
/-! loop.example/g03012/laws.szFieldS -/
noncomputable def L_szFieldS_b0 (k : Nat) : Nat → (List LField) → Int → Int → Option (Oc (Int) (Int))
  | 0, _, _, _ => none
  | n + 1, x0, x1, x5 =>
    (bif (decide (x5 < (x0.length : Int))) then ((idx x0 x5).bind fun e1 =>
    ((L_szField k e1 x1).bind fun w2 =>
    (bif (decide (w2 < (0 : Int))) then some (.oth ((-1 : Int)))
    else L_szFieldS_b0 k n x0 w2 (IntKind.wrap .i64 (x5 + (1 : Int))))))
    else some (.nrm x1))
noncomputable def L_szFieldS (k : Nat) (a0 : List LField) (a1 : Int) : Option (Int) :=
    (bif (decide ((IntKind.wrap .i64 (a1 - (a0.length : Int))) < (0 : Int))) then some (-1 : Int)
    else ((L_szFieldS_b0 k k a0 (IntKind.wrap .i64 (a1 - (a0.length : Int))) (0 : Int)).bind fun o3 =>
    oc o3 (fun o4 => some o4)
    (fun o5 => some o5)))
/-! loop.example/g03012/laws.szResponse -/
noncomputable def L_szResponse (k : Nat) (a0 : LResponse) (a1 : Int) : Option (Int) :=
    ((L_szFieldS k a0.Fields a1).bind fun w1 =>
    (bif (decide (w1 < (0 : Int))) then some (-1 : Int)
    else (bif (decide ((IntKind.wrap .i64 (w1 - (a0.Body.length : Int))) < (0 : Int))) then some (-1 : Int)
    else some (IntKind.wrap .i64 (w1 - (a0.Body.length : Int))))))
/-! loop.example/g03012/laws.toField -/
noncomputable def L_toField (k : Nat) (a0 : LField) : Option (IField) :=
    some (⟨a0.Name, a0.Value⟩ : IField)
/-! loop.example/g03012/laws.toFieldS -/
noncomputable def L_toFieldS_b0 (k : Nat) : Nat → (List LField) → Int → (List IField) → Option ((List IField))
  | 0, _, _, _ => none
  | n + 1, x0, x4, r3 =>
    (bif (decide (x4 < (x0.length : Int))) then ((idx x0 x4).bind fun e2 =>
    ((L_toField k e2).bind fun w3 =>
    ((idx r3 x4).bind fun _ =>
    ((idx r3 x4).bind fun e4 =>
    L_toFieldS_b0 k n x0 (IntKind.wrap .i64 (x4 + (1 : Int))) ((r3).set (x4).toNat w3)))))
    else some (r3))
noncomputable def L_toFieldS (k : Nat) (a0 : List LField) : Option ((List IField)) :=
    (guardT ((a0.length : Int) == (a0.length : Int)) <| (mks 32 (a0.length : Int) (⟨([] : List UInt8), ([] : List UInt8)⟩ : IField)).bind fun u1 =>
    ((L_toFieldS_b0 k k a0 (0 : Int) u1).bind fun o5 =>
    some o5))
/-! loop.example/g03012/laws.toResponse -/
noncomputable def L_toResponse (k : Nat) (a0 : LResponse) : Option (IResponse) :=
    ((L_toFieldS k a0.Fields).bind fun w1 =>
    some (⟨a0.Code, w1, a0.Body⟩ : IResponse))
/-! loop.example/g03012/spec.JoinList -/
noncomputable def S_JoinList_c12 (k : Nat) (x0 : List (List UInt8)) (x3 : List UInt8) (x4 : Int) (x12 : Bool) : Option ((List UInt8)) :=
    (bif x12 then ((cat x3 ([44, 32] : List UInt8)).bind fun t1 =>
    some (t1))
    else some (x3))
noncomputable def S_JoinList_b1 (k : Nat) (x0 : List (List UInt8)) (x3 : List UInt8) (x4 : Int) : Option ((List UInt8)) :=
    ((S_JoinList_c12 k x0 x3 x4 (decide (x4 > (0 : Int)))).bind fun o1 =>
    ((idx x0 x4).bind fun e2 =>
    ((cat o1 e2).bind fun t3 =>
    some (t3))))
noncomputable def S_JoinList_b0 (k : Nat) : Nat → (List (List UInt8)) → (List UInt8) → Int → Option ((List UInt8))
  | 0, _, _, _ => none
  | n + 1, x0, x3, x4 =>
    (bif (decide (x4 < (x0.length : Int))) then ((S_JoinList_b1 k x0 x3 x4).bind fun o1 =>
    S_JoinList_b0 k n x0 o1 (IntKind.wrap .i64 (x4 + (1 : Int))))
    else some (x3))
noncomputable def S_JoinList (k : Nat) (a0 : List (List UInt8)) : Option ((List UInt8)) :=
    ((S_JoinList_b0 k k a0 ([] : List UInt8) (0 : Int)).bind fun o2 =>
    some o2)
/-! loop.example/g03012/spec.GetField -/
noncomputable def S_GetField_c21 (k : Nat) (x0 : List IField) (x1 : List UInt8) (x7 : Int) (x21 : Bool) (r6 : List (List UInt8)) : Option ((List (List UInt8))) :=
    (bif x21 then ((idx x0 x7).bind fun e2 =>
    ((app 16 r6 ([e2.Value] : List (List UInt8))).bind fun u3 =>
    some (u3)))
    else some (r6))
noncomputable def S_GetField_b1 (k : Nat) (x0 : List IField) (x1 : List UInt8) (x7 : Int) (r6 : List (List UInt8)) : Option ((List (List UInt8))) :=
    ((idx x0 x7).bind fun e1 =>
    ((S_GetField_c21 k x0 x1 x7 (e1.Name == x1) r6).bind fun o2 =>
    some (o2)))
noncomputable def S_GetField_b0 (k : Nat) : Nat → (List IField) → (List UInt8) → Int → (List (List UInt8)) → Option ((List (List UInt8)))
  | 0, _, _, _, _ => none
  | n + 1, x0, x1, x7, r6 =>
    (bif (decide (x7 < (x0.length : Int))) then ((S_GetField_b1 k x0 x1 x7 r6).bind fun o1 =>
    S_GetField_b0 k n x0 x1 (IntKind.wrap .i64 (x7 + (1 : Int))) o1)
    else some (r6))
noncomputable def S_GetField (k : Nat) (a0 : List IField) (a1 : List UInt8) : Option ((List UInt8) × Bool) :=
    ((S_GetField_b0 k k a0 a1 (0 : Int) ([] : List (List UInt8))).bind fun o2 =>
    ((S_JoinList k o2).bind fun w3 =>
    some (w3, (decide ((o2.length : Int) > (0 : Int))))))
/-! loop.example/g03012/spec.l5Get -/
noncomputable def S_l5Get (k : Nat) (a0 : List IField) (a1 : List UInt8) : Option ((List UInt8)) :=
    ((S_GetField k a0 a1).bind fun w1 =>
    some w1.1)
/-! loop.example/g03012/spec.l1In -/
noncomputable def S_l1In (k : Nat) (a0 : Int) (a1 : Int) (a2 : Int) : Option (Bool) :=
    (bif (decide (a0 ≥ a1)) then some (decide (a0 ≤ a2)) else some false)
/-! loop.example/g03012/spec.FormatInt -/
noncomputable def S_FormatInt_c16 (k : Nat) (x0 : Int) (x3 : List UInt8) (x4 : Int) (x5 : Int) (x16 : Bool) : Option (Int) :=
    (bif x16 then some ((IntKind.wrap .i64 (0 - x5)))
    else some (x5))
noncomputable def S_FormatInt_b1 (k : Nat) (x0 : Int) (x3 : List UInt8) (x4 : Int) : Option ((List UInt8)) :=
    ((md x4 (10 : Int)).bind fun q1 =>
    ((S_FormatInt_c16 k x0 x3 x4 q1 (decide (q1 < (0 : Int)))).bind fun o2 =>
    ((cat (bytesOf ([(IntKind.wrap .u8 (IntKind.wrap .i64 ((48 : Int) + o2)))] : List Int)) x3).bind fun t3 =>
    some (t3))))
noncomputable def S_FormatInt_b0 (k : Nat) : Nat → Int → (List UInt8) → Int → Option ((List UInt8))
  | 0, _, _, _ => none
  | n + 1, x0, x3, x4 =>
    (bif (x4 != (0 : Int)) then ((S_FormatInt_b1 k x0 x3 x4).bind fun o1 =>
    ((dv x4 (10 : Int)).bind fun q2 =>
    S_FormatInt_b0 k n x0 o1 (IntKind.wrap .i64 q2)))
    else some (x3))
noncomputable def S_FormatInt (k : Nat) (a0 : Int) : Option ((List UInt8)) :=
    (bif (a0 == (0 : Int)) then some ([48] : List UInt8)
    else ((S_FormatInt_b0 k k a0 ([] : List UInt8) a0).bind fun o3 =>
    (bif (decide (a0 < (0 : Int))) then ((cat ([45] : List UInt8) o3).bind fun t4 =>
    some t4)
    else some o3)))
/-! loop.example/g03012/spec.ParseInt -/
noncomputable def S_ParseInt_b0 (k : Nat) : Nat → (List UInt8) → Int → Int → Option (Oc (Int) (Int × Bool))
  | 0, _, _, _ => none
  | n + 1, x0, x4, x5 =>
    (bif (decide (x5 < (x0.length : Int))) then ((idx x0 x5).bind fun c2 =>
    ((S_l1In k (IntKind.wrap .i64 (UInt8.toNat c2 : Int)) (48 : Int) (57 : Int)).bind fun w3 =>
    (bif (!w3) then some (.oth (((0 : Int), false)))
    else ((idx x0 x5).bind fun c4 =>
    S_ParseInt_b0 k n x0 (IntKind.wrap .i64 ((IntKind.wrap .i64 ((10 : Int) * x4)) + (IntKind.wrap .i64 (IntKind.wrap .u8 ((UInt8.toNat c4 : Int) - (48 : Int)))))) (IntKind.wrap .i64 (x5 + (1 : Int)))))))
    else some (.nrm x4))
noncomputable def S_ParseInt (k : Nat) (a0 : List UInt8) : Option (Int × Bool) :=
    ((S_l1In k (a0.length : Int) (1 : Int) (13 : Int)).bind fun w1 =>
    (bif (!w1) then some ((0 : Int), false)
    else ((S_ParseInt_b0 k k a0 (0 : Int) (0 : Int)).bind fun o5 =>
    oc o5 (fun o6 => (bif (decide (o6 > (1000000000000 : Int))) then some ((0 : Int), false) else ((S_FormatInt k o6).bind fun w8 =>
    (bif (!(w8 == a0)) then some ((0 : Int), false)
    else some (o6, true)))))
    (fun o7 => some o7))))
/-! loop.example/g03012/spec.Min -/
noncomputable def S_Min (k : Nat) (a0 : Int) (a1 : Int) : Option (Int) :=
    (bif (decide (a1 < a0)) then some a1
    else some a0)
/-! loop.example/g03012/spec.AgeField -/
noncomputable def S_AgeField (k : Nat) (a0 : IResponse) : Option (Int) :=
    ((S_l5Get k a0.Fields ([97, 103, 101] : List UInt8)).bind fun w1 =>
    ((S_ParseInt k w1).bind fun w2 =>
    ((S_Min k w2.1 (2147483648 : Int)).bind fun w3 =>
    some w3)))
/-! strings.Join -/
noncomputable def strings_Join (k : Nat) (a0 : List (List UInt8)) (a1 : List UInt8) : Option ((List UInt8)) :=
    joinO a0 a1
/-! loop.example/g03012/impl.JoinList -/
noncomputable def I_JoinList (k : Nat) (a0 : List (List UInt8)) : Option ((List UInt8)) :=
    ((strings_Join k a0 ([44, 32] : List UInt8)).bind fun w1 =>
    some w1)
/-! loop.example/g03012/impl.GetField -/
noncomputable def I_GetField_c19 (k : Nat) (x1 : List UInt8) (x10 : List IField) (x11 : Int) (x12 : Int) (x19 : Bool) (r6 : List (List UInt8)) (y8_0 : List UInt8) (y8_1 : List UInt8) : Option ((List (List UInt8))) :=
    (bif x19 then ((app 16 r6 ([y8_1] : List (List UInt8))).bind fun u2 =>
    some (u2))
    else some (r6))
noncomputable def I_GetField_b1 (k : Nat) (x1 : List UInt8) (x10 : List IField) (x11 : Int) (x12 : Int) (r6 : List (List UInt8)) : Option ((List (List UInt8))) :=
    ((idx x10 x12).bind fun e1 =>
    ((I_GetField_c19 k x1 x10 x11 x12 (e1.Name == x1) r6 e1.Name e1.Value).bind fun o2 =>
    some (o2)))
noncomputable def I_GetField_b0 (k : Nat) : Nat → (List UInt8) → (List IField) → Int → Int → (List (List UInt8)) → Option ((List (List UInt8)))
  | 0, _, _, _, _, _ => none
  | n + 1, x1, x10, x11, x12, r6 =>
    (bif (decide (x12 < x11)) then ((I_GetField_b1 k x1 x10 x11 x12 r6).bind fun o1 =>
    I_GetField_b0 k n x1 x10 x11 (IntKind.wrap .i64 (x12 + (1 : Int))) o1)
    else some (r6))
noncomputable def I_GetField (k : Nat) (a0 : List IField) (a1 : List UInt8) : Option ((List UInt8) × Bool) :=
    ((I_GetField_b0 k k a1 a0 (a0.length : Int) (0 : Int) ([] : List (List UInt8))).bind fun o2 =>
    ((I_JoinList k o2).bind fun w3 =>
    some (w3, (decide ((o2.length : Int) > (0 : Int))))))
/-! strconv.Atoi -/
noncomputable def strconv_Atoi (k : Nat) (a0 : List UInt8) : Option (Int × Bool) :=
    atoiO a0
/-! loop.example/g03012/impl.inRange -/
noncomputable def I_inRange (k : Nat) (a0 : Int) (a1 : Int) (a2 : Int) : Option (Bool) :=
    (bif (decide (a1 ≤ a0)) then some (decide (a0 ≤ a2)) else some false)
/-! strconv.Itoa -/
noncomputable def strconv_Itoa (k : Nat) (a0 : Int) : Option ((List UInt8)) :=
    itoaO a0
/-! loop.example/g03012/impl.FormatInt -/
noncomputable def I_FormatInt (k : Nat) (a0 : Int) : Option ((List UInt8)) :=
    ((strconv_Itoa k a0).bind fun w1 =>
    some w1)
/-! loop.example/g03012/impl.ParseInt -/
noncomputable def I_ParseInt (k : Nat) (a0 : List UInt8) : Option (Int × Bool) :=
    (bif (decide ((a0.length : Int) > (13 : Int))) then some ((0 : Int), false)
    else ((strconv_Atoi k a0).bind fun w1 =>
    (bif w1.2 then some ((0 : Int), false) else ((I_inRange k w1.1 (0 : Int) (1000000000000 : Int)).bind fun w2 =>
    (bif (!w2) then some ((0 : Int), false) else ((I_FormatInt k w1.1).bind fun w3 =>
    (bif (!(w3 == a0)) then some ((0 : Int), false)
    else some (w1.1, true))))))))
/-! loop.example/g03012/impl.AgeField -/
noncomputable def I_AgeField (k : Nat) (a0 : IResponse) : Option (Int) :=
    ((I_GetField k a0.Fields ([97, 103, 101] : List UInt8)).bind fun w1 =>
    ((I_ParseInt k w1.1).bind fun w2 =>
    some (if (2147483648 : Int) < w2.1 then (2147483648 : Int) else w2.1)))
/-! loop.example/g03012/laws.eqField -/
noncomputable def L_eqField (k : Nat) (a0 : IField) (a1 : IField) : Option (Bool) :=
    (bif (!(a0.Name == a1.Name)) then some false
    else (bif (!(a0.Value == a1.Value)) then some false
    else some true))
/-! loop.example/g03012/laws.eqFieldS -/
noncomputable def L_eqFieldS_b0 (k : Nat) : Nat → (List IField) → (List IField) → Int → Option (Oc (Unit) (Bool))
  | 0, _, _, _ => none
  | n + 1, x0, x1, x5 =>
    (bif (decide (x5 < (x0.length : Int))) then ((idx x0 x5).bind fun e1 =>
    ((idx x1 x5).bind fun e2 =>
    ((L_eqField k e1 e2).bind fun w3 =>
    (bif (!w3) then some (.oth (false))
    else L_eqFieldS_b0 k n x0 x1 (IntKind.wrap .i64 (x5 + (1 : Int)))))))
    else some (.nrm ()))
noncomputable def L_eqFieldS (k : Nat) (a0 : List IField) (a1 : List IField) : Option (Bool) :=
    (bif ((a0.length : Int) != (a1.length : Int)) then some false
    else ((L_eqFieldS_b0 k k a0 a1 (0 : Int)).bind fun o4 =>
    oc o4 (fun o5 => some true)
    (fun o6 => some o6)))
/-! loop.example/g03012/laws.eqResponse -/
noncomputable def L_eqResponse (k : Nat) (a0 : IResponse) (a1 : IResponse) : Option (Bool) :=
    (bif (a0.Code != a1.Code) then some false
    else ((L_eqFieldS k a0.Fields a1.Fields).bind fun w1 =>
    (bif (!w1) then some false
    else (bif (!(a0.Body == a1.Body)) then some false
    else some true))))
/-! loop.example/g03012/laws.FnExactAgeField -/
noncomputable def L_FnExactAgeField (k : Nat) (a0 : LResponse) : Option (Bool) :=
    ((L_szResponse k a0 (1048576 : Int)).bind fun w1 =>
    (bif (decide (w1 < (0 : Int))) then some true
    else ((L_toResponse k a0).bind fun w2 =>
    ((S_AgeField k w2).bind fun w3 =>
    ((L_toResponse k a0).bind fun w4 =>
    ((I_AgeField k w4).bind fun w5 =>
    (bif (w5 != w3) then some false
    else ((L_toResponse k a0).bind fun w6 =>
    ((L_eqResponse k w4 w6).bind fun w7 =>
    (bif (!w7) then some false
    else some true))))))))))

end
end Go.YtgdjicnefdnofaaDoor
