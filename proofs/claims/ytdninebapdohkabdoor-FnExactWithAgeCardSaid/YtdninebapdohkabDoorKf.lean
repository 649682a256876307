/- Functions over lists. Nothing is claimed here. -/
import Derived.Test.YtdninebapdohkabDoorKt
set_option linter.unusedVariables false
set_option linter.unusedSimpArgs false
set_option maxRecDepth 100000
namespace Go.YtdninebapdohkabDoor
open Go Go.RowKit Go.Pv
noncomputable section

/-! loop.example/g03012/laws.szField -/
noncomputable def L_szField (k : Nat) (a0 : LField) (a1 : Int) : Option (Int) :=
    (bif (decide ((IntKind.wrap .i64 (a1 - (a0.Name.length : Int))) < (0 : Int))) then some (-1 : Int)
    else (bif (decide ((IntKind.wrap .i64 ((IntKind.wrap .i64 (a1 - (a0.Name.length : Int))) - (a0.Value.length : Int))) < (0 : Int))) then some (-1 : Int)
    else some (IntKind.wrap .i64 ((IntKind.wrap .i64 (a1 - (a0.Name.length : Int))) - (a0.Value.length : Int)))))
/-! loop.example/g03012/laws.szFieldS -/
noncomputable def L_szFieldS_b0 (k : Nat) : Nat → (List LField) → Int → Int → Option (Oc (Int) (Int))
  | 0, _, _, _ => none
  | n + 1, x0, x1, x5 =>
    (bif (decide (x5 < (x0.length : Int))) then ((idx x0 x5).bind fun e1 =>
    ((L_szField k e1 x1).bind fun w2 =>
    (bif (decide (w2 < (0 : Int))) then some (.oth ((-1 : Int)))
    else L_szFieldS_b0 k n x0 w2 (IntKind.wrap .i64 (x5 + (1 : Int))))))
    else some (.nrm x1))
noncomputable def L_szFieldS (k : Nat) (a0 : List LField) (a1 : Int) : Option (Int) :=
    (bif (decide ((IntKind.wrap .i64 (a1 - (a0.length : Int))) < (0 : Int))) then some (-1 : Int)
    else ((L_szFieldS_b0 k k a0 (IntKind.wrap .i64 (a1 - (a0.length : Int))) (0 : Int)).bind fun o3 =>
    oc o3 (fun o4 => some o4)
    (fun o5 => some o5)))
/-! loop.example/g03012/laws.szResponse -/
noncomputable def L_szResponse (k : Nat) (a0 : LResponse) (a1 : Int) : Option (Int) :=
    ((L_szFieldS k a0.Fields a1).bind fun w1 =>
    (bif (decide (w1 < (0 : Int))) then some (-1 : Int)
    else (bif (decide ((IntKind.wrap .i64 (w1 - (a0.Body.length : Int))) < (0 : Int))) then some (-1 : Int)
    else some (IntKind.wrap .i64 (w1 - (a0.Body.length : Int))))))
/-! loop.example/g03012/laws.toField -/
noncomputable def L_toField (k : Nat) (a0 : LField) : Option (IField) :=
    some (⟨a0.Name, a0.Value⟩ : IField)
/-! loop.example/g03012/laws.toFieldS -/
noncomputable def L_toFieldS_b0 (k : Nat) : Nat → (List LField) → Int → (List IField) → Option ((List IField))
  | 0, _, _, _ => none
  | n + 1, x0, x4, r3 =>
    (bif (decide (x4 < (x0.length : Int))) then ((idx x0 x4).bind fun e2 =>
    ((L_toField k e2).bind fun w3 =>
    ((idx r3 x4).bind fun _ =>
    ((idx r3 x4).bind fun e4 =>
    L_toFieldS_b0 k n x0 (IntKind.wrap .i64 (x4 + (1 : Int))) ((r3).set (x4).toNat w3)))))
    else some (r3))
noncomputable def L_toFieldS (k : Nat) (a0 : List LField) : Option ((List IField)) :=
    (guardT ((a0.length : Int) == (a0.length : Int)) <| (mks 32 (a0.length : Int) (⟨([] : List UInt8), ([] : List UInt8)⟩ : IField)).bind fun u1 =>
    ((L_toFieldS_b0 k k a0 (0 : Int) u1).bind fun o5 =>
    some o5))
/-! loop.example/g03012/laws.toResponse -/
noncomputable def L_toResponse (k : Nat) (a0 : LResponse) : Option (IResponse) :=
    ((L_toFieldS k a0.Fields).bind fun w1 =>
    some (⟨a0.Code, w1, a0.Body⟩ : IResponse))
/-! loop.example/g03012/spec.l5Copy -/
noncomputable def S_l5Copy (k : Nat) (a0 : List IField) : Option ((List IField)) :=
    ((app 32 ([] : List IField) a0).bind fun u1 =>
    some u1)
/-! loop.example/g03012/spec.l11Copy -/
noncomputable def S_l11Copy (k : Nat) (a0 : IResponse) : Option (IResponse) :=
    ((S_l5Copy k a0.Fields).bind fun w1 =>
    some (⟨a0.Code, w1, a0.Body⟩ : IResponse))
/-! loop.example/g03012/spec.Min -/
noncomputable def S_Min (k : Nat) (a0 : Int) (a1 : Int) : Option (Int) :=
    (bif (decide (a1 < a0)) then some a1
    else some a0)
/-! loop.example/g03012/spec.Max -/
noncomputable def S_Max (k : Nat) (a0 : Int) (a1 : Int) : Option (Int) :=
    (bif (decide (a1 > a0)) then some a1
    else some a0)
/-! loop.example/g03012/spec.FormatInt -/
noncomputable def S_FormatInt_c16 (k : Nat) (x0 : Int) (x3 : List UInt8) (x4 : Int) (x5 : Int) (x16 : Bool) : Option (Int) :=
    (bif x16 then some ((IntKind.wrap .i64 (0 - x5)))
    else some (x5))
noncomputable def S_FormatInt_b1 (k : Nat) (x0 : Int) (x3 : List UInt8) (x4 : Int) : Option ((List UInt8)) :=
    ((md x4 (10 : Int)).bind fun q1 =>
    ((S_FormatInt_c16 k x0 x3 x4 q1 (decide (q1 < (0 : Int)))).bind fun o2 =>
    ((cat (bytesOf ([(IntKind.wrap .u8 (IntKind.wrap .i64 ((48 : Int) + o2)))] : List Int)) x3).bind fun t3 =>
    some (t3))))
noncomputable def S_FormatInt_b0 (k : Nat) : Nat → Int → (List UInt8) → Int → Option ((List UInt8))
  | 0, _, _, _ => none
  | n + 1, x0, x3, x4 =>
    (bif (x4 != (0 : Int)) then ((S_FormatInt_b1 k x0 x3 x4).bind fun o1 =>
    ((dv x4 (10 : Int)).bind fun q2 =>
    S_FormatInt_b0 k n x0 o1 (IntKind.wrap .i64 q2)))
    else some (x3))
noncomputable def S_FormatInt (k : Nat) (a0 : Int) : Option ((List UInt8)) :=
    (bif (a0 == (0 : Int)) then some ([48] : List UInt8)
    else ((S_FormatInt_b0 k k a0 ([] : List UInt8) a0).bind fun o3 =>
    (bif (decide (a0 < (0 : Int))) then ((cat ([45] : List UInt8) o3).bind fun t4 =>
    some t4)
    else some o3)))
/-! loop.example/g03012/spec.SetField -/
noncomputable def S_SetField_c32 (k : Nat) (x0 : List IField) (x1 : List UInt8) (x2 : List UInt8) (x8 : Bool) (x9 : Int) (x32 : Bool) (r7 : List IField) : Option (Bool × (List IField)) :=
    (bif x32 then ((app 32 r7 ([(⟨x1, x2⟩ : IField)] : List IField)).bind fun u4 =>
    some ((true, u4)))
    else some ((x8, r7)))
noncomputable def S_SetField_c17 (k : Nat) (x0 : List IField) (x1 : List UInt8) (x2 : List UInt8) (x8 : Bool) (x9 : Int) (x17 : Bool) (r7 : List IField) : Option (Bool × (List IField)) :=
    (bif x17 then ((idx x0 x9).bind fun e2 =>
    ((app 32 r7 ([e2] : List IField)).bind fun u3 =>
    some ((x8, u3))))
    else ((S_SetField_c32 k x0 x1 x2 x8 x9 (!x8) r7).bind fun o4 =>
    some ((o4.1, o4.2))))
noncomputable def S_SetField_b2 (k : Nat) (x0 : List IField) (x1 : List UInt8) (x2 : List UInt8) (x8 : Bool) (x9 : Int) (r7 : List IField) : Option (Bool × (List IField)) :=
    ((idx x0 x9).bind fun e1 =>
    ((S_SetField_c17 k x0 x1 x2 x8 x9 (!(e1.Name == x1)) r7).bind fun o2 =>
    some ((o2.1, o2.2))))
noncomputable def S_SetField_b1 (k : Nat) (x0 : List IField) (x1 : List UInt8) (x2 : List UInt8) (x8 : Bool) (x9 : Int) (r7 : List IField) : Option (Bool × (List IField)) :=
    ((S_SetField_b2 k x0 x1 x2 x8 x9 r7).bind fun o1 =>
    some ((o1.1, o1.2)))
noncomputable def S_SetField_b0 (k : Nat) : Nat → (List IField) → (List UInt8) → (List UInt8) → Bool → Int → (List IField) → Option (Bool × (List IField))
  | 0, _, _, _, _, _, _ => none
  | n + 1, x0, x1, x2, x8, x9, r7 =>
    (bif (decide (x9 < (x0.length : Int))) then ((S_SetField_b1 k x0 x1 x2 x8 x9 r7).bind fun o1 =>
    S_SetField_b0 k n x0 x1 x2 o1.1 (IntKind.wrap .i64 (x9 + (1 : Int))) o1.2)
    else some ((x8, r7)))
noncomputable def S_SetField_c42 (k : Nat) (x1 : List UInt8) (x2 : List UInt8) (x42 : Bool) (r7 : List IField) : Option ((List IField)) :=
    (bif x42 then ((app 32 r7 ([(⟨x1, x2⟩ : IField)] : List IField)).bind fun u3 =>
    some (u3))
    else some (r7))
noncomputable def S_SetField (k : Nat) (a0 : List IField) (a1 : List UInt8) (a2 : List UInt8) : Option ((List IField)) :=
    ((S_SetField_b0 k k a0 a1 a2 false (0 : Int) ([] : List IField)).bind fun o2 =>
    ((S_SetField_c42 k a1 a2 (!o2.1) o2.2).bind fun o4 =>
    some o4))
/-! loop.example/g03012/spec.WithAge -/
noncomputable def S_WithAge (k : Nat) (a0 : IResponse) (a1 : Int) : Option (IResponse) :=
    ((S_l11Copy k a0).bind fun w1 =>
    ((S_Min k a1 (2147483648 : Int)).bind fun w2 =>
    ((S_Max k (0 : Int) w2).bind fun w3 =>
    ((S_FormatInt k w3).bind fun w4 =>
    ((S_SetField k w1.Fields ([97, 103, 101] : List UInt8) w4).bind fun w5 =>
    some (⟨w1.Code, w5, w1.Body⟩ : IResponse))))))
/-! strconv.Itoa -/
noncomputable def strconv_Itoa (k : Nat) (a0 : Int) : Option ((List UInt8)) :=
    itoaO a0
/-! loop.example/g03012/impl.FormatInt -/
noncomputable def I_FormatInt (k : Nat) (a0 : Int) : Option ((List UInt8)) :=
    ((strconv_Itoa k a0).bind fun w1 =>
    some w1)
/-! loop.example/g03012/impl.SetField -/
noncomputable def I_SetField_c27 (k : Nat) (x1 : List UInt8) (x2 : List UInt8) (x8 : Bool) (x12 : List IField) (x13 : Int) (x14 : Int) (x27 : Bool) (r7 : List IField) : Option (Bool × (List IField)) :=
    (bif x27 then ((app 32 r7 ([(⟨x1, x2⟩ : IField)] : List IField)).bind fun u3 =>
    some ((true, u3)))
    else some ((x8, r7)))
noncomputable def I_SetField_c21 (k : Nat) (x1 : List UInt8) (x2 : List UInt8) (x8 : Bool) (x12 : List IField) (x13 : Int) (x14 : Int) (x21 : Bool) (r7 : List IField) (y10_0 : List UInt8) (y10_1 : List UInt8) : Option (Bool × (List IField)) :=
    (bif x21 then ((app 32 r7 ([(⟨y10_0, y10_1⟩ : IField)] : List IField)).bind fun u2 =>
    some ((x8, u2)))
    else ((I_SetField_c27 k x1 x2 x8 x12 x13 x14 (!x8) r7).bind fun o3 =>
    some ((o3.1, o3.2))))
noncomputable def I_SetField_b1 (k : Nat) (x1 : List UInt8) (x2 : List UInt8) (x8 : Bool) (x12 : List IField) (x13 : Int) (x14 : Int) (r7 : List IField) : Option (Bool × (List IField)) :=
    ((idx x12 x14).bind fun e1 =>
    ((I_SetField_c21 k x1 x2 x8 x12 x13 x14 (!(e1.Name == x1)) r7 e1.Name e1.Value).bind fun o2 =>
    some ((o2.1, o2.2))))
noncomputable def I_SetField_b0 (k : Nat) : Nat → (List UInt8) → (List UInt8) → Bool → (List IField) → Int → Int → (List IField) → Option (Bool × (List IField))
  | 0, _, _, _, _, _, _, _ => none
  | n + 1, x1, x2, x8, x12, x13, x14, r7 =>
    (bif (decide (x14 < x13)) then ((I_SetField_b1 k x1 x2 x8 x12 x13 x14 r7).bind fun o1 =>
    I_SetField_b0 k n x1 x2 o1.1 x12 x13 (IntKind.wrap .i64 (x14 + (1 : Int))) o1.2)
    else some ((x8, r7)))
noncomputable def I_SetField_c36 (k : Nat) (x1 : List UInt8) (x2 : List UInt8) (x36 : Bool) (r7 : List IField) : Option ((List IField)) :=
    (bif x36 then ((app 32 r7 ([(⟨x1, x2⟩ : IField)] : List IField)).bind fun u3 =>
    some (u3))
    else some (r7))
noncomputable def I_SetField (k : Nat) (a0 : List IField) (a1 : List UInt8) (a2 : List UInt8) : Option ((List IField)) :=
    ((I_SetField_b0 k k a1 a2 false a0 (a0.length : Int) (0 : Int) ([] : List IField)).bind fun o2 =>
    ((I_SetField_c36 k a1 a2 (!o2.1) o2.2).bind fun o4 =>
    some o4))
/-! loop.example/g03012/impl.WithAge -/
noncomputable def I_WithAge (k : Nat) (a0 : IResponse) (a1 : Int) : Option (IResponse) :=
    ((I_FormatInt k (if (if (2147483648 : Int) < a1 then (2147483648 : Int) else a1) > (0 : Int) then (if (2147483648 : Int) < a1 then (2147483648 : Int) else a1) else (0 : Int))).bind fun w1 =>
    ((I_SetField k a0.Fields ([97, 103, 101] : List UInt8) w1).bind fun w2 =>
    some (⟨a0.Code, w2, a0.Body⟩ : IResponse)))
/-! loop.example/g03012/laws.eqField -/
noncomputable def L_eqField (k : Nat) (a0 : IField) (a1 : IField) : Option (Bool) :=
    (bif (!(a0.Name == a1.Name)) then some false
    else (bif (!(a0.Value == a1.Value)) then some false
    else some true))
/-! loop.example/g03012/laws.eqFieldS -/
noncomputable def L_eqFieldS_b0 (k : Nat) : Nat → (List IField) → (List IField) → Int → Option (Oc (Unit) (Bool))
  | 0, _, _, _ => none
  | n + 1, x0, x1, x5 =>
    (bif (decide (x5 < (x0.length : Int))) then ((idx x0 x5).bind fun e1 =>
    ((idx x1 x5).bind fun e2 =>
    ((L_eqField k e1 e2).bind fun w3 =>
    (bif (!w3) then some (.oth (false))
    else L_eqFieldS_b0 k n x0 x1 (IntKind.wrap .i64 (x5 + (1 : Int)))))))
    else some (.nrm ()))
noncomputable def L_eqFieldS (k : Nat) (a0 : List IField) (a1 : List IField) : Option (Bool) :=
    (bif ((a0.length : Int) != (a1.length : Int)) then some false
    else ((L_eqFieldS_b0 k k a0 a1 (0 : Int)).bind fun o4 =>
    oc o4 (fun o5 => some true)
    (fun o6 => some o6)))
/-! loop.example/g03012/laws.eqResponse -/
noncomputable def L_eqResponse (k : Nat) (a0 : IResponse) (a1 : IResponse) : Option (Bool) :=
    (bif (a0.Code != a1.Code) then some false
    else ((L_eqFieldS k a0.Fields a1.Fields).bind fun w1 =>
    (bif (!w1) then some false
    else (bif (!(a0.Body == a1.Body)) then some false
    else some true))))
/-! loop.example/g03012/laws.markText -/
noncomputable def L_markText_b0 (k : Nat) : Nat → Int → (List UInt8) → Option ((List UInt8))
  | 0, _, _ => none
  | n + 1, x0, x3 =>
    (bif (decide (x0 > (0 : Int))) then ((md x0 (10 : Int)).bind fun q1 =>
    ((cat (bytesOf ([(IntKind.wrap .u8 (IntKind.wrap .i64 ((48 : Int) + q1)))] : List Int)) x3).bind fun t2 =>
    ((dv x0 (10 : Int)).bind fun q3 =>
    L_markText_b0 k n (IntKind.wrap .i64 q3) t2)))
    else some (x3))
noncomputable def L_markText (k : Nat) (a0 : Int) : Option ((List UInt8)) :=
    (bif (decide (a0 ≤ (0 : Int))) then some ([109, 48] : List UInt8)
    else ((L_markText_b0 k k a0 ([] : List UInt8)).bind fun o4 =>
    ((cat ([109] : List UInt8) o4).bind fun t5 =>
    some t5)))
/-! loop.example/g03012/laws.markFieldS -/
noncomputable def L_markFieldS_b0 (k : Nat) : Nat → Int → Int → (List IField) → Option (Int × (List IField))
  | 0, _, _, _ => none
  | n + 1, x1, x5, r0 =>
    (bif (decide (x5 < (r0.length : Int))) then ((L_markText k x1).bind fun w1 =>
    ((idx r0 x5).bind fun _ =>
    ((idx r0 x5).bind fun e2 =>
    ((L_markText k (IntKind.wrap .i64 (x1 + (1 : Int)))).bind fun w3 =>
    ((idx ((r0).set (x5).toNat (⟨w1, e2.Value⟩ : IField)) x5).bind fun _ =>
    ((idx ((r0).set (x5).toNat (⟨w1, e2.Value⟩ : IField)) x5).bind fun e4 =>
    L_markFieldS_b0 k n (IntKind.wrap .i64 ((IntKind.wrap .i64 (x1 + (1 : Int))) + (1 : Int))) (IntKind.wrap .i64 (x5 + (1 : Int))) ((((r0).set (x5).toNat (⟨w1, e2.Value⟩ : IField))).set (x5).toNat (⟨e4.Name, w3⟩ : IField))))))))
    else some ((x1, r0)))
noncomputable def L_markFieldS (k : Nat) (a0 : List IField) (a1 : Int) : Option (Int × (List IField)) :=
    ((L_markFieldS_b0 k k a1 (0 : Int) a0).bind fun o5 =>
    some (o5.1, o5.2))
/-! loop.example/g03012/laws.markResponse -/
noncomputable def L_markResponse (k : Nat) (a0 : IResponse) (a1 : Int) : Option (Int × IResponse) :=
    ((L_markFieldS k a0.Fields a1).bind fun w1 =>
    some (w1.1, (⟨a0.Code, w1.2, a0.Body⟩ : IResponse)))
def L_markResponse_f (k : Nat) : ArT D (.a [.ki .i64, .kl 84, .ks]) → Int → Option (Int × ArT D (.a [.ki .i64, .kl 84, .ks])) := fun x n => (L_markResponse k (⟨x.1, x.2.1, x.2.2.1⟩ : IResponse) n).map fun r => (r.1, (r.2.Code, r.2.Fields, r.2.Body, ()))
/-! loop.example/g03012/laws.heldFieldS -/
noncomputable def L_heldFieldS_b0 (k : Nat) : Nat → (List IField) → Int → Int → Option (Oc (Int) (Int))
  | 0, _, _, _ => none
  | n + 1, x0, x1, x5 =>
    (bif (decide (x5 < (x0.length : Int))) then ((idx x0 x5).bind fun e1 =>
    ((L_markText k x1).bind fun w2 =>
    (bif (!(e1.Name == w2)) then some (.oth ((-1 : Int)))
    else ((idx x0 x5).bind fun e3 =>
    ((L_markText k (IntKind.wrap .i64 (x1 + (1 : Int)))).bind fun w4 =>
    (bif (!(e3.Value == w4)) then some (.oth ((-1 : Int)))
    else L_heldFieldS_b0 k n x0 (IntKind.wrap .i64 ((IntKind.wrap .i64 (x1 + (1 : Int))) + (1 : Int))) (IntKind.wrap .i64 (x5 + (1 : Int)))))))))
    else some (.nrm x1))
noncomputable def L_heldFieldS (k : Nat) (a0 : List IField) (a1 : Int) : Option (Int) :=
    ((L_heldFieldS_b0 k k a0 a1 (0 : Int)).bind fun o5 =>
    oc o5 (fun o6 => some o6)
    (fun o7 => some o7))
/-! loop.example/g03012/laws.heldResponse -/
noncomputable def L_heldResponse (k : Nat) (a0 : IResponse) (a1 : Int) : Option (Int) :=
    ((L_heldFieldS k a0.Fields a1).bind fun w1 =>
    (bif (decide (w1 < (0 : Int))) then some (-1 : Int)
    else some w1))
/-! loop.example/g03012/laws.FnExactWithAge -/
noncomputable def L_FnExactWithAge (k : Nat) (a0 : LResponse) (a1 : Int) : Option (Bool) :=
    ((L_szResponse k a0 (1048576 : Int)).bind fun w1 =>
    (bif (decide (w1 < (0 : Int))) then some true
    else ((L_toResponse k a0).bind fun w2 =>
    ((S_WithAge k w2 a1).bind fun w3 =>
    ((L_toResponse k a0).bind fun w4 =>
    ((I_WithAge k w4 a1).bind fun w5 =>
    ((L_eqResponse k w5 w3).bind fun w6 =>
    (bif (!w6) then some false
    else ((L_toResponse k a0).bind fun w7 =>
    ((L_eqResponse k w4 w7).bind fun w8 =>
    (bif (!w8) then some false
    else ((L_markResponse_f k (w4.Code, w4.Fields, w4.Body, ()) (1 : Int)).bind fun w9 =>
    (bif (decide (w9.1 < (0 : Int))) then some false else ((L_eqResponse k w5 w3).bind fun w10 =>
    (bif (!w10) then some false
    else ((L_markResponse_f k (w5.Code, w5.Fields, w5.Body, ()) (1 : Int)).bind fun w11 =>
    ((L_heldResponse k (⟨w5.Code, w11.2.2.1, w5.Body⟩ : IResponse) (1 : Int)).bind fun w12 =>
    (bif (decide (w12 < (0 : Int))) then some false
    else (bif (w12 != w11.1) then some false
    else ((L_toResponse k a0).bind fun w13 =>
    ((I_WithAge k w13 a1).bind fun w14 =>
    ((L_eqResponse k w14 w3).bind fun w15 =>
    (bif (!w15) then some false
    else ((L_heldResponse k (⟨w5.Code, w11.2.2.1, w5.Body⟩ : IResponse) (1 : Int)).bind fun w16 =>
    (bif (decide (w16 < (0 : Int))) then some false
    else (bif (w16 != w11.1) then some false
    else some true))))))))))))))))))))))))))

end
end Go.YtdninebapdohkabDoor
