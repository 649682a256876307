/- Functions over lists. Nothing is claimed here. -/
import Derived.Test.YtilbenelefdihaaKt
set_option linter.unusedVariables false
set_option linter.unusedSimpArgs false
set_option maxRecDepth 100000
namespace Go.Ytilbenelefdihaa
open Go Go.RowKit Go.Pv
noncomputable section

/-! loop.example/g03012/laws.szField -/
noncomputable def L_szField (k : Nat) (a0 : LField) (a1 : Int) : Option (Int) :=
    (bif (decide ((IntKind.wrap .i64 (a1 - (a0.Name.length : Int))) < (0 : Int))) then some (-1 : Int)
    else (bif (decide ((IntKind.wrap .i64 ((IntKind.wrap .i64 (a1 - (a0.Name.length : Int))) - (a0.Value.length : Int))) < (0 : Int))) then some (-1 : Int)
    else some (IntKind.wrap .i64 ((IntKind.wrap .i64 (a1 - (a0.Name.length : Int))) - (a0.Value.length : Int)))))
/-! loop.example/g03012/laws.szFieldS -/
noncomputable def L_szFieldS_b0 (k : Nat) : Nat → (List LField) → Int → Int → Option (Oc (Int) (Int))
  | 0, _, _, _ => none
  | n + 1, x0, x1, x5 =>
    (bif (decide (x5 < (x0.length : Int))) then ((idx x0 x5).bind fun e1 =>
    ((L_szField k e1 x1).bind fun w2 =>
    (bif (decide (w2 < (0 : Int))) then some (.oth ((-1 : Int)))
    else L_szFieldS_b0 k n x0 w2 (IntKind.wrap .i64 (x5 + (1 : Int))))))
    else some (.nrm x1))
noncomputable def L_szFieldS (k : Nat) (a0 : List LField) (a1 : Int) : Option (Int) :=
    (bif (decide ((IntKind.wrap .i64 (a1 - (a0.length : Int))) < (0 : Int))) then some (-1 : Int)
    else ((L_szFieldS_b0 k k a0 (IntKind.wrap .i64 (a1 - (a0.length : Int))) (0 : Int)).bind fun o3 =>
    oc o3 (fun o4 => some o4)
    (fun o5 => some o5)))
/-! loop.example/g03012/laws.szResponse -/
noncomputable def L_szResponse (k : Nat) (a0 : LResponse) (a1 : Int) : Option (Int) :=
    ((L_szFieldS k a0.Fields a1).bind fun w1 =>
    (bif (decide (w1 < (0 : Int))) then some (-1 : Int)
    else (bif (decide ((IntKind.wrap .i64 (w1 - (a0.Body.length : Int))) < (0 : Int))) then some (-1 : Int)
    else some (IntKind.wrap .i64 (w1 - (a0.Body.length : Int))))))
/-! loop.example/g03012/laws.toField -/
noncomputable def L_toField (k : Nat) (a0 : LField) : Option (IField) :=
    some (⟨a0.Name, a0.Value⟩ : IField)
/-! loop.example/g03012/laws.toFieldS -/
noncomputable def L_toFieldS_b0 (k : Nat) : Nat → (List LField) → Int → (List IField) → Option ((List IField))
  | 0, _, _, _ => none
  | n + 1, x0, x4, r3 =>
    (bif (decide (x4 < (x0.length : Int))) then ((idx x0 x4).bind fun e2 =>
    ((L_toField k e2).bind fun w3 =>
    ((idx r3 x4).bind fun _ =>
    ((idx r3 x4).bind fun e4 =>
    L_toFieldS_b0 k n x0 (IntKind.wrap .i64 (x4 + (1 : Int))) ((r3).set (x4).toNat w3)))))
    else some (r3))
noncomputable def L_toFieldS (k : Nat) (a0 : List LField) : Option ((List IField)) :=
    (guardT ((a0.length : Int) == (a0.length : Int)) <| (mks 32 (a0.length : Int) (⟨([] : List UInt8), ([] : List UInt8)⟩ : IField)).bind fun u1 =>
    ((L_toFieldS_b0 k k a0 (0 : Int) u1).bind fun o5 =>
    some o5))
/-! loop.example/g03012/laws.toResponse -/
noncomputable def L_toResponse (k : Nat) (a0 : LResponse) : Option (IResponse) :=
    ((L_toFieldS k a0.Fields).bind fun w1 =>
    some (⟨a0.Code, w1, a0.Body⟩ : IResponse))
/-! loop.example/g03012/spec.SameFields -/
noncomputable def S_SameFields_b0 (k : Nat) : Nat → (List IField) → (List IField) → Int → Option (Oc (Unit) (Bool))
  | 0, _, _, _ => none
  | n + 1, x0, x1, x5 =>
    (bif (decide (x5 < (x0.length : Int))) then ((idx x0 x5).bind fun e1 =>
    ((idx x1 x5).bind fun e2 =>
    (bif (!((e1.Name == e2.Name) && (e1.Value == e2.Value))) then some (.oth (false))
    else S_SameFields_b0 k n x0 x1 (IntKind.wrap .i64 (x5 + (1 : Int))))))
    else some (.nrm ()))
noncomputable def S_SameFields (k : Nat) (a0 : List IField) (a1 : List IField) : Option (Bool) :=
    (bif ((a0.length : Int) != (a1.length : Int)) then some false
    else ((S_SameFields_b0 k k a0 a1 (0 : Int)).bind fun o3 =>
    oc o3 (fun o4 => some true)
    (fun o5 => some o5)))
/-! loop.example/g03012/spec.SameResponse -/
noncomputable def S_SameResponse (k : Nat) (a0 : IResponse) (a1 : IResponse) : Option (Bool) :=
    (bif (a0.Code == a1.Code) then ((S_SameFields k a0.Fields a1.Fields).bind fun w1 =>
    (bif w1 then some (a0.Body == a1.Body) else some false)) else some false)
/-! slices.Equal[[]loop.example/g03012/impl.Field,loop.example/g03012/impl.Field] -/
noncomputable def slices_Equal_IField_b0 (k : Nat) : Nat → (List IField) → (List IField) → Int → Int → Option (Oc (Unit) (Bool))
  | 0, _, _, _, _ => none
  | n + 1, x0, x1, x12, x13 =>
    (bif (decide (x13 < x12)) then ((idx x0 x13).bind fun e1 =>
    ((idx x1 x13).bind fun e2 =>
    (bif (!((e1.Name == e2.Name) && (e1.Value == e2.Value))) then some (.oth (false))
    else slices_Equal_IField_b0 k n x0 x1 x12 (IntKind.wrap .i64 (x13 + (1 : Int))))))
    else some (.nrm ()))
noncomputable def slices_Equal_IField (k : Nat) (a0 : List IField) (a1 : List IField) : Option (Bool) :=
    (bif ((a0.length : Int) != (a1.length : Int)) then some false
    else ((slices_Equal_IField_b0 k k a0 a1 (a0.length : Int) (0 : Int)).bind fun o3 =>
    oc o3 (fun o4 => some true)
    (fun o5 => some o5)))
/-! loop.example/g03012/impl.SameFields -/
noncomputable def I_SameFields (k : Nat) (a0 : List IField) (a1 : List IField) : Option (Bool) :=
    ((slices_Equal_IField k a0 a1).bind fun w1 =>
    some w1)
/-! loop.example/g03012/impl.SameResponse -/
noncomputable def I_SameResponse (k : Nat) (a0 : IResponse) (a1 : IResponse) : Option (Bool) :=
    (bif (a0.Code == a1.Code) then ((I_SameFields k a0.Fields a1.Fields).bind fun w1 =>
    (bif w1 then some (a0.Body == a1.Body) else some false)) else some false)
/-! loop.example/g03012/laws.eqField -/
noncomputable def L_eqField (k : Nat) (a0 : IField) (a1 : IField) : Option (Bool) :=
    (bif (!(a0.Name == a1.Name)) then some false
    else (bif (!(a0.Value == a1.Value)) then some false
    else some true))
/-! loop.example/g03012/laws.eqFieldS -/
noncomputable def L_eqFieldS_b0 (k : Nat) : Nat → (List IField) → (List IField) → Int → Option (Oc (Unit) (Bool))
  | 0, _, _, _ => none
  | n + 1, x0, x1, x5 =>
    (bif (decide (x5 < (x0.length : Int))) then ((idx x0 x5).bind fun e1 =>
    ((idx x1 x5).bind fun e2 =>
    ((L_eqField k e1 e2).bind fun w3 =>
    (bif (!w3) then some (.oth (false))
    else L_eqFieldS_b0 k n x0 x1 (IntKind.wrap .i64 (x5 + (1 : Int)))))))
    else some (.nrm ()))
noncomputable def L_eqFieldS (k : Nat) (a0 : List IField) (a1 : List IField) : Option (Bool) :=
    (bif ((a0.length : Int) != (a1.length : Int)) then some false
    else ((L_eqFieldS_b0 k k a0 a1 (0 : Int)).bind fun o4 =>
    oc o4 (fun o5 => some true)
    (fun o6 => some o6)))
/-! loop.example/g03012/laws.eqResponse -/
noncomputable def L_eqResponse (k : Nat) (a0 : IResponse) (a1 : IResponse) : Option (Bool) :=
    (bif (a0.Code != a1.Code) then some false
    else ((L_eqFieldS k a0.Fields a1.Fields).bind fun w1 =>
    (bif (!w1) then some false
    else (bif (!(a0.Body == a1.Body)) then some false
    else some true))))
/-! loop.example/g03012/laws.FnExactSameResponse -/
noncomputable def L_FnExactSameResponse (k : Nat) (a0 : LResponse) (a1 : LResponse) : Option (Bool) :=
    ((L_szResponse k a0 (1048576 : Int)).bind fun w1 =>
    (bif (decide (w1 < (0 : Int))) then some true
    else ((L_szResponse k a1 w1).bind fun w2 =>
    (bif (decide (w2 < (0 : Int))) then some true
    else ((L_toResponse k a0).bind fun w3 =>
    ((L_toResponse k a1).bind fun w4 =>
    ((S_SameResponse k w3 w4).bind fun w5 =>
    ((L_toResponse k a0).bind fun w6 =>
    ((L_toResponse k a1).bind fun w7 =>
    ((I_SameResponse k w6 w7).bind fun w8 =>
    (bif (!(w8 == w5)) then some false
    else ((L_toResponse k a0).bind fun w9 =>
    ((L_eqResponse k w6 w9).bind fun w10 =>
    (bif (!w10) then some false
    else ((L_toResponse k a1).bind fun w11 =>
    ((L_eqResponse k w7 w11).bind fun w12 =>
    (bif (!w12) then some false
    else some true)))))))))))))))))

end
end Go.Ytilbenelefdihaa
