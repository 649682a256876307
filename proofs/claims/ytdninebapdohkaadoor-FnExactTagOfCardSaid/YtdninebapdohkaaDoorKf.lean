/- Functions over lists. Nothing is claimed here. -/
import Derived.Test.YtdninebapdohkaaDoorKt
set_option linter.unusedVariables false
set_option linter.unusedSimpArgs false
set_option maxRecDepth 100000
namespace Go.YtdninebapdohkaaDoor
open Go Go.RowKit Go.Pv
noncomputable section

/-! loop.example/g03012/spec.FormatInt -/
noncomputable def S_FormatInt_c16 (k : Nat) (x0 : Int) (x3 : List UInt8) (x4 : Int) (x5 : Int) (x16 : Bool) : Option (Int) :=
    (bif x16 then some ((IntKind.wrap .i64 (0 - x5)))
    else some (x5))
noncomputable def S_FormatInt_b1 (k : Nat) (x0 : Int) (x3 : List UInt8) (x4 : Int) : Option ((List UInt8)) :=
    ((md x4 (10 : Int)).bind fun q1 =>
    ((S_FormatInt_c16 k x0 x3 x4 q1 (decide (q1 < (0 : Int)))).bind fun o2 =>
    ((cat (bytesOf ([(IntKind.wrap .u8 (IntKind.wrap .i64 ((48 : Int) + o2)))] : List Int)) x3).bind fun t3 =>
    some (t3))))
noncomputable def S_FormatInt_b0 (k : Nat) : Nat → Int → (List UInt8) → Int → Option ((List UInt8))
  | 0, _, _, _ => none
  | n + 1, x0, x3, x4 =>
    (bif (x4 != (0 : Int)) then ((S_FormatInt_b1 k x0 x3 x4).bind fun o1 =>
    ((dv x4 (10 : Int)).bind fun q2 =>
    S_FormatInt_b0 k n x0 o1 (IntKind.wrap .i64 q2)))
    else some (x3))
noncomputable def S_FormatInt (k : Nat) (a0 : Int) : Option ((List UInt8)) :=
    (bif (a0 == (0 : Int)) then some ([48] : List UInt8)
    else ((S_FormatInt_b0 k k a0 ([] : List UInt8) a0).bind fun o3 =>
    (bif (decide (a0 < (0 : Int))) then ((cat ([45] : List UInt8) o3).bind fun t4 =>
    some t4)
    else some o3)))
/-! loop.example/g03012/spec.TagOf -/
noncomputable def S_TagOf (k : Nat) (a0 : Int) (a1 : List UInt8) (a2 : List UInt8) : Option (ITag) :=
    ((S_FormatInt k a0).bind fun w1 =>
    ((cat w1 ([47] : List UInt8)).bind fun t2 =>
    ((cat t2 a1).bind fun t3 =>
    ((cat t3 ([47] : List UInt8)).bind fun t4 =>
    ((cat t4 a2).bind fun t5 =>
    some (⟨false, t5⟩ : ITag))))))
/-! strconv.Itoa -/
noncomputable def strconv_Itoa (k : Nat) (a0 : Int) : Option ((List UInt8)) :=
    itoaO a0
/-! loop.example/g03012/impl.FormatInt -/
noncomputable def I_FormatInt (k : Nat) (a0 : Int) : Option ((List UInt8)) :=
    ((strconv_Itoa k a0).bind fun w1 =>
    some w1)
/-! loop.example/g03012/impl.TagOf -/
noncomputable def I_TagOf (k : Nat) (a0 : Int) (a1 : List UInt8) (a2 : List UInt8) : Option (ITag) :=
    ((I_FormatInt k a0).bind fun w1 =>
    ((cat w1 ([47] : List UInt8)).bind fun t2 =>
    ((cat t2 a1).bind fun t3 =>
    ((cat t3 ([47] : List UInt8)).bind fun t4 =>
    ((cat t4 a2).bind fun t5 =>
    some (⟨false, t5⟩ : ITag))))))
/-! loop.example/g03012/laws.eqTag -/
noncomputable def L_eqTag (k : Nat) (a0 : ITag) (a1 : ITag) : Option (Bool) :=
    (bif (!(a0.Weak == a1.Weak)) then some false
    else (bif (!(a0.Text == a1.Text)) then some false
    else some true))
/-! loop.example/g03012/laws.FnExactTagOf -/
noncomputable def L_FnExactTagOf (k : Nat) (a0 : Int) (a1 : List UInt8) (a2 : List UInt8) : Option (Bool) :=
    (bif (decide ((a1.length : Int) > (1048576 : Int))) then some true
    else (bif (decide ((a2.length : Int) > (1048576 : Int))) then some true
    else ((S_TagOf k a0 a1 a2).bind fun w1 =>
    ((I_TagOf k a0 a1 a2).bind fun w2 =>
    ((L_eqTag k w2 w1).bind fun w3 =>
    (bif (!w3) then some false
    else some true))))))

end
end Go.YtdninebapdohkaaDoor
