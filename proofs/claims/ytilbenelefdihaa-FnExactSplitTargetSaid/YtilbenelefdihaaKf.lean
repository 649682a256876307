/- Functions over lists. Nothing is claimed here. -/
import Derived.Test.YtilbenelefdihaaKt
set_option linter.unusedVariables false
set_option linter.unusedSimpArgs false
set_option maxRecDepth 100000
namespace Go.Ytilbenelefdihaa
open Go Go.RowKit Go.Pv
noncomputable section

/-! loop.example/g03012/spec.SplitTarget -/
noncomputable def S_SplitTarget_b0 (k : Nat) : Nat → (List UInt8) → Int → Option (Oc (Unit) ((List UInt8) × (List UInt8) × Bool))
  | 0, _, _ => none
  | n + 1, x0, x5 =>
    (bif (decide (x5 < (x0.length : Int))) then ((idx x0 x5).bind fun c1 =>
    (bif ((UInt8.toNat c1 : Int) == (63 : Int)) then ((ssub x0 (0 : Int) x5).bind fun t2 =>
    ((ssub x0 (IntKind.wrap .i64 (x5 + (1 : Int))) (x0.length : Int)).bind fun t3 =>
    some (.oth ((t2, t3, true)))))
    else S_SplitTarget_b0 k n x0 (IntKind.wrap .i64 (x5 + (1 : Int)))))
    else some (.nrm ()))
noncomputable def S_SplitTarget (k : Nat) (a0 : List UInt8) : Option ((List UInt8) × (List UInt8) × Bool) :=
    ((S_SplitTarget_b0 k k a0 (0 : Int)).bind fun o4 =>
    oc o4 (fun o5 => some (a0, ([] : List UInt8), false))
    (fun o6 => some o6))
/-! strings.Cut -/
noncomputable def strings_Cut (k : Nat) (a0 : List UInt8) (a1 : List UInt8) : Option ((List UInt8) × (List UInt8) × Bool) :=
    cutO a0 a1
/-! loop.example/g03012/impl.SplitTarget -/
noncomputable def I_SplitTarget (k : Nat) (a0 : List UInt8) : Option ((List UInt8) × (List UInt8) × Bool) :=
    ((strings_Cut k a0 ([63] : List UInt8)).bind fun w1 =>
    some (w1.1, w1.2.1, w1.2.2))
/-! loop.example/g03012/laws.FnExactSplitTarget -/
noncomputable def L_FnExactSplitTarget (k : Nat) (a0 : List UInt8) : Option (Bool) :=
    (bif (decide ((a0.length : Int) > (1048576 : Int))) then some true
    else ((S_SplitTarget k a0).bind fun w1 =>
    ((I_SplitTarget k a0).bind fun w2 =>
    (bif (!(w2.1 == w1.1)) then some false else (bif (!(w2.2.1 == w1.2.1)) then some false else (bif (!(w2.2.2 == w1.2.2)) then some false
    else some true))))))

end
end Go.Ytilbenelefdihaa
