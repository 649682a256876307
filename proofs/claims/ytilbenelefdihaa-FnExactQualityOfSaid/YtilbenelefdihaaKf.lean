/- Functions over lists. Nothing is claimed here. -/
import Derived.Test.YtilbenelefdihaaKt
set_option linter.unusedVariables false
set_option linter.unusedSimpArgs false
set_option maxRecDepth 100000
namespace Go.Ytilbenelefdihaa
open Go Go.RowKit Go.Pv
noncomputable section

/-! loop.example/g03012/laws.szQuality -/
noncomputable def L_szQuality (k : Nat) (a0 : LQuality) (a1 : Int) : Option (Int) :=
    (bif (decide ((IntKind.wrap .i64 (a1 - (a0.Name.length : Int))) < (0 : Int))) then some (-1 : Int)
    else some (IntKind.wrap .i64 (a1 - (a0.Name.length : Int))))
/-! loop.example/g03012/laws.szQualityS -/
noncomputable def L_szQualityS_b0 (k : Nat) : Nat → (List LQuality) → Int → Int → Option (Oc (Int) (Int))
  | 0, _, _, _ => none
  | n + 1, x0, x1, x5 =>
    (bif (decide (x5 < (x0.length : Int))) then ((idx x0 x5).bind fun e1 =>
    ((L_szQuality k e1 x1).bind fun w2 =>
    (bif (decide (w2 < (0 : Int))) then some (.oth ((-1 : Int)))
    else L_szQualityS_b0 k n x0 w2 (IntKind.wrap .i64 (x5 + (1 : Int))))))
    else some (.nrm x1))
noncomputable def L_szQualityS (k : Nat) (a0 : List LQuality) (a1 : Int) : Option (Int) :=
    (bif (decide ((IntKind.wrap .i64 (a1 - (a0.length : Int))) < (0 : Int))) then some (-1 : Int)
    else ((L_szQualityS_b0 k k a0 (IntKind.wrap .i64 (a1 - (a0.length : Int))) (0 : Int)).bind fun o3 =>
    oc o3 (fun o4 => some o4)
    (fun o5 => some o5)))
/-! loop.example/g03012/laws.toQuality -/
noncomputable def L_toQuality (k : Nat) (a0 : LQuality) : Option (IQuality) :=
    some (⟨a0.Name, a0.Q⟩ : IQuality)
/-! loop.example/g03012/laws.toQualityS -/
noncomputable def L_toQualityS_b0 (k : Nat) : Nat → (List LQuality) → Int → (List IQuality) → Option ((List IQuality))
  | 0, _, _, _ => none
  | n + 1, x0, x4, r3 =>
    (bif (decide (x4 < (x0.length : Int))) then ((idx x0 x4).bind fun e2 =>
    ((L_toQuality k e2).bind fun w3 =>
    ((idx r3 x4).bind fun _ =>
    ((idx r3 x4).bind fun e4 =>
    L_toQualityS_b0 k n x0 (IntKind.wrap .i64 (x4 + (1 : Int))) ((r3).set (x4).toNat w3)))))
    else some (r3))
noncomputable def L_toQualityS (k : Nat) (a0 : List LQuality) : Option ((List IQuality)) :=
    (guardT ((a0.length : Int) == (a0.length : Int)) <| (mks 24 (a0.length : Int) (⟨([] : List UInt8), (0 : Int)⟩ : IQuality)).bind fun u1 =>
    ((L_toQualityS_b0 k k a0 (0 : Int) u1).bind fun o5 =>
    some o5))
/-! loop.example/g03012/spec.QualityOf -/
noncomputable def S_QualityOf_c20 (k : Nat) (x0 : List IQuality) (x1 : List UInt8) (x5 : Int) (x6 : Int) (x20 : Bool) : Option (Int) :=
    (bif x20 then ((idx x0 x6).bind fun e2 =>
    some (e2.Q))
    else some (x5))
noncomputable def S_QualityOf_b1 (k : Nat) (x0 : List IQuality) (x1 : List UInt8) (x5 : Int) (x6 : Int) : Option (Int) :=
    ((idx x0 x6).bind fun e1 =>
    ((S_QualityOf_c20 k x0 x1 x5 x6 (e1.Name == ([42] : List UInt8))).bind fun o2 =>
    some (o2)))
noncomputable def S_QualityOf_b0 (k : Nat) : Nat → (List IQuality) → (List UInt8) → Int → Int → Option (Int)
  | 0, _, _, _, _ => none
  | n + 1, x0, x1, x5, x6 =>
    (bif (decide (x6 ≥ (0 : Int))) then ((S_QualityOf_b1 k x0 x1 x5 x6).bind fun o1 =>
    S_QualityOf_b0 k n x0 x1 o1 (IntKind.wrap .i64 (x6 - (1 : Int))))
    else some (x5))
noncomputable def S_QualityOf_b2 (k : Nat) : Nat → (List IQuality) → (List UInt8) → Int → Int → Option (Oc (Unit) (Int))
  | 0, _, _, _, _ => none
  | n + 1, x0, x1, x5, x7 =>
    (bif (decide (x7 < (x0.length : Int))) then ((idx x0 x7).bind fun e3 =>
    (bif (e3.Name == x1) then ((idx x0 x7).bind fun e4 =>
    some (.oth (e4.Q)))
    else S_QualityOf_b2 k n x0 x1 x5 (IntKind.wrap .i64 (x7 + (1 : Int)))))
    else some (.nrm ()))
noncomputable def S_QualityOf (k : Nat) (a0 : List IQuality) (a1 : List UInt8) : Option (Int) :=
    ((S_QualityOf_b0 k k a0 a1 (0 : Int) (IntKind.wrap .i64 ((a0.length : Int) - (1 : Int)))).bind fun o2 =>
    ((S_QualityOf_b2 k k a0 a1 o2 (0 : Int)).bind fun o5 =>
    oc o5 (fun o6 => some o2)
    (fun o7 => some o7)))
/-! loop.example/g03012/impl.QualityOf -/
noncomputable def I_QualityOf_b2 (k : Nat) : Nat → (List IQuality) → (List UInt8) → Int → Int → (List IQuality) → Int → Int → (List (List UInt8)) → Option (Oc (Unit) (Int))
  | 0, _, _, _, _, _, _, _, _ => none
  | n + 1, x0, x6, x11, x12, x16, x17, x18, r10 =>
    (bif (decide (x18 < x17)) then ((idx x16 x18).bind fun e2 =>
    (bif (e2.Name == x6) then some (.oth (e2.Q))
    else I_QualityOf_b2 k n x0 x6 x11 x12 x16 x17 (IntKind.wrap .i64 (x18 + (1 : Int))) r10))
    else some (.nrm ()))
noncomputable def I_QualityOf_b0 (k : Nat) : Nat → (List IQuality) → Int → Int → (List (List UInt8)) → Option (Oc (Unit) (Int))
  | 0, _, _, _, _ => none
  | n + 1, x0, x11, x12, r10 =>
    (bif (decide (x12 < x11)) then ((idx r10 x12).bind fun _ =>
    ((idx r10 x12).bind fun e1 =>
    ((I_QualityOf_b2 k k x0 e1 x11 x12 x0 (x0.length : Int) (0 : Int) r10).bind fun o2 =>
    oc o2 (fun o3 => I_QualityOf_b0 k n x0 x11 (IntKind.wrap .i64 (x12 + (1 : Int))) r10)
    (fun o4 => some (.oth (o4))))))
    else some (.nrm ()))
noncomputable def I_QualityOf (k : Nat) (a0 : List IQuality) (a1 : List UInt8) : Option (Int) :=
    ((I_QualityOf_b0 k k a0 (([a1, ([42] : List UInt8)] : List (List UInt8)).length : Int) (0 : Int) ([a1, ([42] : List UInt8)] : List (List UInt8))).bind fun o5 =>
    oc o5 (fun o6 => some (0 : Int))
    (fun o7 => some o7))
/-! loop.example/g03012/laws.eqQuality -/
noncomputable def L_eqQuality (k : Nat) (a0 : IQuality) (a1 : IQuality) : Option (Bool) :=
    (bif (!(a0.Name == a1.Name)) then some false
    else (bif (a0.Q != a1.Q) then some false
    else some true))
/-! loop.example/g03012/laws.eqQualityS -/
noncomputable def L_eqQualityS_b0 (k : Nat) : Nat → (List IQuality) → (List IQuality) → Int → Option (Oc (Unit) (Bool))
  | 0, _, _, _ => none
  | n + 1, x0, x1, x5 =>
    (bif (decide (x5 < (x0.length : Int))) then ((idx x0 x5).bind fun e1 =>
    ((idx x1 x5).bind fun e2 =>
    ((L_eqQuality k e1 e2).bind fun w3 =>
    (bif (!w3) then some (.oth (false))
    else L_eqQualityS_b0 k n x0 x1 (IntKind.wrap .i64 (x5 + (1 : Int)))))))
    else some (.nrm ()))
noncomputable def L_eqQualityS (k : Nat) (a0 : List IQuality) (a1 : List IQuality) : Option (Bool) :=
    (bif ((a0.length : Int) != (a1.length : Int)) then some false
    else ((L_eqQualityS_b0 k k a0 a1 (0 : Int)).bind fun o4 =>
    oc o4 (fun o5 => some true)
    (fun o6 => some o6)))
/-! loop.example/g03012/laws.FnExactQualityOf -/
noncomputable def L_FnExactQualityOf (k : Nat) (a0 : List LQuality) (a1 : List UInt8) : Option (Bool) :=
    (bif (decide ((a1.length : Int) > (1048576 : Int))) then some true
    else ((L_szQualityS k a0 (1048576 : Int)).bind fun w1 =>
    (bif (decide (w1 < (0 : Int))) then some true
    else ((L_toQualityS k a0).bind fun w2 =>
    ((S_QualityOf k w2 a1).bind fun w3 =>
    ((L_toQualityS k a0).bind fun w4 =>
    ((I_QualityOf k w4 a1).bind fun w5 =>
    (bif (w5 != w3) then some false
    else ((L_toQualityS k a0).bind fun w6 =>
    ((L_eqQualityS k w4 w6).bind fun w7 =>
    (bif (!w7) then some false
    else some true)))))))))))

end
end Go.Ytilbenelefdihaa
