/- Functions over lists. Nothing is claimed here. -/
import Derived.Test.YtilbenelefdihaaKt
set_option linter.unusedVariables false
set_option linter.unusedSimpArgs false
set_option maxRecDepth 100000
namespace Go.Ytilbenelefdihaa
open Go Go.RowKit Go.Pv
noncomputable section

/-! loop.example/g03012/laws.szVersion -/
noncomputable def L_szVersion (k : Nat) (a0 : LVersion) (a1 : Int) : Option (Int) :=
    (bif (decide ((IntKind.wrap .i64 (a1 - (a0.Text.length : Int))) < (0 : Int))) then some (-1 : Int)
    else some (IntKind.wrap .i64 (a1 - (a0.Text.length : Int))))
/-! loop.example/g03012/laws.toVersion -/
noncomputable def L_toVersion (k : Nat) (a0 : LVersion) : Option (IVersion) :=
    some (⟨a0.At, a0.Text, a0.Gone⟩ : IVersion)
/-! loop.example/g03012/spec.BodyOf -/
noncomputable def S_BodyOf_c11 (k : Nat) (x1 : List UInt8) (x2 : List UInt8) (x7 : List UInt8) (x11 : Bool) : Option ((List UInt8)) :=
    (bif x11 then ((cat ([91] : List UInt8) x1).bind fun t1 =>
    ((cat t1 ([93] : List UInt8)).bind fun t2 =>
    ((cat t2 x7).bind fun t3 =>
    some (t3))))
    else some (x7))
noncomputable def S_BodyOf_c18 (k : Nat) (x2 : List UInt8) (x7 : List UInt8) (x18 : Bool) : Option ((List UInt8)) :=
    (bif x18 then ((cat x2 ([58, 32] : List UInt8)).bind fun t5 =>
    ((cat t5 x7).bind fun t6 =>
    some (t6)))
    else some (x7))
noncomputable def S_BodyOf (k : Nat) (a0 : IVersion) (a1 : List UInt8) (a2 : List UInt8) : Option ((List UInt8)) :=
    ((S_BodyOf_c11 k a1 a2 a0.Text (!(a1 == ([] : List UInt8)))).bind fun o4 =>
    ((S_BodyOf_c18 k a2 o4 (!(a2 == ([] : List UInt8)))).bind fun o7 =>
    some o7))
/-! loop.example/g03012/impl.BodyOf -/
noncomputable def I_BodyOf_c11 (k : Nat) (x1 : List UInt8) (x2 : List UInt8) (x7 : List UInt8) (x11 : Bool) : Option ((List UInt8)) :=
    (bif x11 then ((cat ([91] : List UInt8) x1).bind fun t1 =>
    ((cat t1 ([93] : List UInt8)).bind fun t2 =>
    ((cat t2 x7).bind fun t3 =>
    some (t3))))
    else some (x7))
noncomputable def I_BodyOf_c18 (k : Nat) (x2 : List UInt8) (x7 : List UInt8) (x18 : Bool) : Option ((List UInt8)) :=
    (bif x18 then ((cat x2 ([58, 32] : List UInt8)).bind fun t5 =>
    ((cat t5 x7).bind fun t6 =>
    some (t6)))
    else some (x7))
noncomputable def I_BodyOf (k : Nat) (a0 : IVersion) (a1 : List UInt8) (a2 : List UInt8) : Option ((List UInt8)) :=
    ((I_BodyOf_c11 k a1 a2 a0.Text (!(a1 == ([] : List UInt8)))).bind fun o4 =>
    ((I_BodyOf_c18 k a2 o4 (!(a2 == ([] : List UInt8)))).bind fun o7 =>
    some o7))
/-! loop.example/g03012/laws.FnExactBodyOf -/
noncomputable def L_FnExactBodyOf (k : Nat) (a0 : LVersion) (a1 : List UInt8) (a2 : List UInt8) : Option (Bool) :=
    (bif (decide ((a1.length : Int) > (1048576 : Int))) then some true
    else (bif (decide ((a2.length : Int) > (1048576 : Int))) then some true
    else ((L_szVersion k a0 (1048576 : Int)).bind fun w1 =>
    (bif (decide (w1 < (0 : Int))) then some true
    else ((L_toVersion k a0).bind fun w2 =>
    ((S_BodyOf k w2 a1 a2).bind fun w3 =>
    ((L_toVersion k a0).bind fun w4 =>
    ((I_BodyOf k w4 a1 a2).bind fun w5 =>
    (bif (!(w5 == w3)) then some false
    else some true)))))))))

end
end Go.Ytilbenelefdihaa
