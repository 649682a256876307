/- Functions over lists. Nothing is claimed here. -/
import Derived.Test.YtilbenelefdihaaKt
set_option linter.unusedVariables false
set_option linter.unusedSimpArgs false
set_option maxRecDepth 100000
namespace Go.Ytilbenelefdihaa
open Go Go.RowKit Go.Pv
noncomputable section

/-! loop.example/g03012/laws.szSpanS -/
noncomputable def L_szSpanS (k : Nat) (a0 : List LSpan) (a1 : Int) : Option (Int) :=
    (bif (decide ((IntKind.wrap .i64 (a1 - (a0.length : Int))) < (0 : Int))) then some (-1 : Int)
    else some (IntKind.wrap .i64 (a1 - (a0.length : Int))))
/-! loop.example/g03012/laws.toSpan -/
noncomputable def L_toSpan (k : Nat) (a0 : LSpan) : Option (ISpan) :=
    some (⟨a0.From, a0.To⟩ : ISpan)
/-! loop.example/g03012/laws.toSpanS -/
noncomputable def L_toSpanS_b0 (k : Nat) : Nat → (List LSpan) → Int → (List ISpan) → Option ((List ISpan))
  | 0, _, _, _ => none
  | n + 1, x0, x4, r3 =>
    (bif (decide (x4 < (x0.length : Int))) then ((idx x0 x4).bind fun e2 =>
    ((L_toSpan k e2).bind fun w3 =>
    ((idx r3 x4).bind fun _ =>
    ((idx r3 x4).bind fun e4 =>
    L_toSpanS_b0 k n x0 (IntKind.wrap .i64 (x4 + (1 : Int))) ((r3).set (x4).toNat w3)))))
    else some (r3))
noncomputable def L_toSpanS (k : Nat) (a0 : List LSpan) : Option ((List ISpan)) :=
    (guardT ((a0.length : Int) == (a0.length : Int)) <| (mks 16 (a0.length : Int) (⟨(0 : Int), (0 : Int)⟩ : ISpan)).bind fun u1 =>
    ((L_toSpanS_b0 k k a0 (0 : Int) u1).bind fun o5 =>
    some o5))
/-! loop.example/g03012/spec.CoversSpan -/
noncomputable def S_CoversSpan_b0 (k : Nat) : Nat → (List ISpan) → Int → Int → Int → Option (Oc (Unit) (Bool))
  | 0, _, _, _, _ => none
  | n + 1, x0, x5, y3_0, y3_1 =>
    (bif (decide (x5 < (x0.length : Int))) then ((idx x0 x5).bind fun e1 =>
    (bif (decide (e1.From ≤ y3_0)) then ((idx x0 x5).bind fun e2 =>
    (bif (decide (y3_1 ≤ e2.To)) then some (.oth (true))
    else S_CoversSpan_b0 k n x0 (IntKind.wrap .i64 (x5 + (1 : Int))) y3_0 y3_1)) else S_CoversSpan_b0 k n x0 (IntKind.wrap .i64 (x5 + (1 : Int))) y3_0 y3_1))
    else some (.nrm ()))
noncomputable def S_CoversSpan (k : Nat) (a0 : List ISpan) (a1 : ISpan) : Option (Bool) :=
    ((S_CoversSpan_b0 k k a0 (0 : Int) a1.From a1.To).bind fun o3 =>
    oc o3 (fun o4 => some (decide (a1.From ≥ a1.To)))
    (fun o5 => some o5))
/-! loop.example/g03012/impl.CoversSpan$1 -/
noncomputable def I_CoversSpan_1 (k : Nat) (a0 : ISpan) (f0_0 : Int) (f0_1 : Int) : Option (Bool) :=
    (bif (decide (a0.From ≤ f0_0)) then some (decide (f0_1 ≤ a0.To)) else some false)
/-! slices.IndexFunc[[]loop.example/g03012/impl.Span,loop.example/g03012/impl.Span] -/
noncomputable def slices_IndexFunc_ISpan_at_I_CoversSpan_1_b0 (k : Nat) : Nat → (List ISpan) → Int → Int → Int → Int → Option (Oc (Unit) (Int))
  | 0, _, _, _, _, _ => none
  | n + 1, x0, x1_0_0, x1_0_1, x7, x8 =>
    (bif (decide (x8 < x7)) then ((idx x0 x8).bind fun e1 =>
    ((I_CoversSpan_1 k e1 x1_0_0 x1_0_1).bind fun w2 =>
    (bif w2 then some (.oth (x8))
    else slices_IndexFunc_ISpan_at_I_CoversSpan_1_b0 k n x0 x1_0_0 x1_0_1 x7 (IntKind.wrap .i64 (x8 + (1 : Int))))))
    else some (.nrm ()))
noncomputable def slices_IndexFunc_ISpan_at_I_CoversSpan_1 (k : Nat) (a0 : List ISpan) (a1_0_0 : Int) (a1_0_1 : Int) : Option (Int) :=
    ((slices_IndexFunc_ISpan_at_I_CoversSpan_1_b0 k k a0 a1_0_0 a1_0_1 (a0.length : Int) (0 : Int)).bind fun o3 =>
    oc o3 (fun o4 => some (-1 : Int))
    (fun o5 => some o5))
/-! slices.ContainsFunc[[]loop.example/g03012/impl.Span,loop.example/g03012/impl.Span] -/
noncomputable def slices_ContainsFunc_ISpan_at_I_CoversSpan_1 (k : Nat) (a0 : List ISpan) (a1_0_0 : Int) (a1_0_1 : Int) : Option (Bool) :=
    ((slices_IndexFunc_ISpan_at_I_CoversSpan_1 k a0 a1_0_0 a1_0_1).bind fun w1 =>
    some (decide (w1 ≥ (0 : Int))))
/-! loop.example/g03012/impl.CoversSpan -/
noncomputable def I_CoversSpan (k : Nat) (a0 : List ISpan) (a1 : ISpan) : Option (Bool) :=
    (bif (decide (a1.From ≥ a1.To)) then some true
    else ((slices_ContainsFunc_ISpan_at_I_CoversSpan_1 k a0 a1.From a1.To).bind fun w1 =>
    some w1))
/-! loop.example/g03012/laws.eqSpan -/
noncomputable def L_eqSpan (k : Nat) (a0 : ISpan) (a1 : ISpan) : Option (Bool) :=
    (bif (a0.From != a1.From) then some false
    else (bif (a0.To != a1.To) then some false
    else some true))
/-! loop.example/g03012/laws.eqSpanS -/
noncomputable def L_eqSpanS_b0 (k : Nat) : Nat → (List ISpan) → (List ISpan) → Int → Option (Oc (Unit) (Bool))
  | 0, _, _, _ => none
  | n + 1, x0, x1, x5 =>
    (bif (decide (x5 < (x0.length : Int))) then ((idx x0 x5).bind fun e1 =>
    ((idx x1 x5).bind fun e2 =>
    ((L_eqSpan k e1 e2).bind fun w3 =>
    (bif (!w3) then some (.oth (false))
    else L_eqSpanS_b0 k n x0 x1 (IntKind.wrap .i64 (x5 + (1 : Int)))))))
    else some (.nrm ()))
noncomputable def L_eqSpanS (k : Nat) (a0 : List ISpan) (a1 : List ISpan) : Option (Bool) :=
    (bif ((a0.length : Int) != (a1.length : Int)) then some false
    else ((L_eqSpanS_b0 k k a0 a1 (0 : Int)).bind fun o4 =>
    oc o4 (fun o5 => some true)
    (fun o6 => some o6)))
/-! loop.example/g03012/laws.FnExactCoversSpan -/
noncomputable def L_FnExactCoversSpan (k : Nat) (a0 : List LSpan) (a1 : LSpan) : Option (Bool) :=
    ((L_szSpanS k a0 (1048576 : Int)).bind fun w1 =>
    (bif (decide (w1 < (0 : Int))) then some true
    else ((L_toSpanS k a0).bind fun w2 =>
    ((L_toSpan k a1).bind fun w3 =>
    ((S_CoversSpan k w2 w3).bind fun w4 =>
    ((L_toSpanS k a0).bind fun w5 =>
    ((L_toSpan k a1).bind fun w6 =>
    ((I_CoversSpan k w5 w6).bind fun w7 =>
    (bif (!(w7 == w4)) then some false
    else ((L_toSpanS k a0).bind fun w8 =>
    ((L_eqSpanS k w5 w8).bind fun w9 =>
    (bif (!w9) then some false
    else some true))))))))))))

end
end Go.Ytilbenelefdihaa
