/- Functions over lists. Nothing is claimed here. -/
import Derived.Test.YtdninebapdohkaaKt
set_option linter.unusedVariables false
set_option linter.unusedSimpArgs false
set_option maxRecDepth 100000
namespace Go.Ytdninebapdohkaa
open Go Go.RowKit Go.Pv
noncomputable section

/-! loop.example/g03012/laws.szSpanS -/
noncomputable def L_szSpanS (k : Nat) (a0 : List LSpan) (a1 : Int) : Option (Int) :=
    (bif (decide ((IntKind.wrap .i64 (a1 - (a0.length : Int))) < (0 : Int))) then some (-1 : Int)
    else some (IntKind.wrap .i64 (a1 - (a0.length : Int))))
/-! loop.example/g03012/laws.toSpan -/
noncomputable def L_toSpan (k : Nat) (a0 : LSpan) : Option (ISpan) :=
    some (⟨a0.From, a0.To⟩ : ISpan)
/-! loop.example/g03012/laws.toSpanS -/
noncomputable def L_toSpanS_b0 (k : Nat) : Nat → (List LSpan) → Int → (List ISpan) → Option ((List ISpan))
  | 0, _, _, _ => none
  | n + 1, x0, x4, r3 =>
    (bif (decide (x4 < (x0.length : Int))) then ((idx x0 x4).bind fun e2 =>
    ((L_toSpan k e2).bind fun w3 =>
    ((idx r3 x4).bind fun _ =>
    ((idx r3 x4).bind fun e4 =>
    L_toSpanS_b0 k n x0 (IntKind.wrap .i64 (x4 + (1 : Int))) ((r3).set (x4).toNat w3)))))
    else some (r3))
noncomputable def L_toSpanS (k : Nat) (a0 : List LSpan) : Option ((List ISpan)) :=
    (guardT ((a0.length : Int) == (a0.length : Int)) <| (mks 16 (a0.length : Int) (⟨(0 : Int), (0 : Int)⟩ : ISpan)).bind fun u1 =>
    ((L_toSpanS_b0 k k a0 (0 : Int) u1).bind fun o5 =>
    some o5))
/-! loop.example/g03012/spec.IsSpanSet -/
noncomputable def S_IsSpanSet_b0 (k : Nat) : Nat → (List ISpan) → Int → Option (Oc (Unit) (Bool))
  | 0, _, _ => none
  | n + 1, x0, x3 =>
    (bif (decide (x3 < (x0.length : Int))) then ((idx x0 x3).bind fun e1 =>
    (bif (decide (e1.From < (0 : Int))) then some (.oth (false)) else ((idx x0 x3).bind fun e2 =>
    ((idx x0 x3).bind fun e3 =>
    (bif (decide (e2.From ≥ e3.To)) then some (.oth (false)) else ((idx x0 x3).bind fun e4 =>
    (bif (decide (e4.To > (1000000000000 : Int))) then some (.oth (false)) else (bif (decide (x3 > (0 : Int))) then ((idx x0 (IntKind.wrap .i64 (x3 - (1 : Int)))).bind fun e5 =>
    ((idx x0 x3).bind fun e6 =>
    (bif (decide (e5.To ≥ e6.From)) then some (.oth (false))
    else S_IsSpanSet_b0 k n x0 (IntKind.wrap .i64 (x3 + (1 : Int)))))) else S_IsSpanSet_b0 k n x0 (IntKind.wrap .i64 (x3 + (1 : Int)))))))))))
    else some (.nrm ()))
noncomputable def S_IsSpanSet (k : Nat) (a0 : List ISpan) : Option (Bool) :=
    ((S_IsSpanSet_b0 k k a0 (0 : Int)).bind fun o7 =>
    oc o7 (fun o8 => some true)
    (fun o9 => some o9))
/-! loop.example/g03012/spec.Min -/
noncomputable def S_Min (k : Nat) (a0 : Int) (a1 : Int) : Option (Int) :=
    (bif (decide (a1 < a0)) then some a1
    else some a0)
/-! loop.example/g03012/spec.Max -/
noncomputable def S_Max (k : Nat) (a0 : Int) (a1 : Int) : Option (Int) :=
    (bif (decide (a1 > a0)) then some a1
    else some a0)
/-! loop.example/g03012/spec.AddSpan -/
noncomputable def S_AddSpan_c46 (k : Nat) (x0 : List ISpan) (x6 : Int) (x46 : Bool) (y3_0 : Int) (y3_1 : Int) (r5 : List ISpan) : Option ((List ISpan)) :=
    (bif x46 then ((idx x0 x6).bind fun e7 =>
    ((app 16 r5 ([e7] : List ISpan)).bind fun u8 =>
    some (u8)))
    else some (r5))
noncomputable def S_AddSpan_b1 (k : Nat) (x0 : List ISpan) (x6 : Int) (y3_0 : Int) (y3_1 : Int) (r5 : List ISpan) : Option ((List ISpan)) :=
    ((idx x0 x6).bind fun e6 =>
    ((S_AddSpan_c46 k x0 x6 (decide (e6.To < y3_0)) y3_0 y3_1 r5).bind fun o7 =>
    some (o7)))
noncomputable def S_AddSpan_b0 (k : Nat) : Nat → (List ISpan) → Int → Int → Int → (List ISpan) → Option ((List ISpan))
  | 0, _, _, _, _, _ => none
  | n + 1, x0, x6, y3_0, y3_1, r5 =>
    (bif (decide (x6 < (x0.length : Int))) then ((S_AddSpan_b1 k x0 x6 y3_0 y3_1 r5).bind fun o6 =>
    S_AddSpan_b0 k n x0 (IntKind.wrap .i64 (x6 + (1 : Int))) y3_0 y3_1 o6)
    else some (r5))
noncomputable def S_AddSpan_c77 (k : Nat) (x0 : List ISpan) (x7 : Int) (x77 : Bool) (y3_0 : Int) (y3_1 : Int) (r5 : List ISpan) : Option (Int × Int) :=
    (bif x77 then ((idx x0 x7).bind fun e10 =>
    ((S_Min k y3_0 e10.From).bind fun w11 =>
    ((idx x0 x7).bind fun e12 =>
    ((S_Max k y3_1 e12.To).bind fun w13 =>
    some ((w11, w13))))))
    else some ((y3_0, y3_1)))
noncomputable def S_AddSpan_b3 (k : Nat) (x0 : List ISpan) (x7 : Int) (y3_0 : Int) (y3_1 : Int) (r5 : List ISpan) : Option (Int × Int) :=
    ((idx x0 x7).bind fun e8 =>
    (bif (decide (e8.To ≥ y3_0)) then ((idx x0 x7).bind fun e9 =>
    ((S_AddSpan_c77 k x0 x7 (decide (e9.From ≤ y3_1)) y3_0 y3_1 r5).bind fun o10 =>
    some ((o10.1, o10.2)))) else ((S_AddSpan_c77 k x0 x7 false y3_0 y3_1 r5).bind fun o11 =>
    some ((o11.1, o11.2)))))
noncomputable def S_AddSpan_b2 (k : Nat) : Nat → (List ISpan) → Int → Int → Int → (List ISpan) → Option (Int × Int)
  | 0, _, _, _, _, _ => none
  | n + 1, x0, x7, y3_0, y3_1, r5 =>
    (bif (decide (x7 < (x0.length : Int))) then ((S_AddSpan_b3 k x0 x7 y3_0 y3_1 r5).bind fun o8 =>
    S_AddSpan_b2 k n x0 (IntKind.wrap .i64 (x7 + (1 : Int))) o8.1 o8.2 r5)
    else some ((y3_0, y3_1)))
noncomputable def S_AddSpan_c112 (k : Nat) (x0 : List ISpan) (x8 : Int) (x112 : Bool) (y3_0 : Int) (y3_1 : Int) (r5 : List ISpan) : Option ((List ISpan)) :=
    (bif x112 then ((idx x0 x8).bind fun e12 =>
    ((app 16 r5 ([e12] : List ISpan)).bind fun u13 =>
    some (u13)))
    else some (r5))
noncomputable def S_AddSpan_b5 (k : Nat) (x0 : List ISpan) (x8 : Int) (y3_0 : Int) (y3_1 : Int) (r5 : List ISpan) : Option ((List ISpan)) :=
    ((idx x0 x8).bind fun e11 =>
    ((S_AddSpan_c112 k x0 x8 (decide (e11.From > y3_1)) y3_0 y3_1 r5).bind fun o12 =>
    some (o12)))
noncomputable def S_AddSpan_b4 (k : Nat) : Nat → (List ISpan) → Int → Int → Int → (List ISpan) → Option ((List ISpan))
  | 0, _, _, _, _, _ => none
  | n + 1, x0, x8, y3_0, y3_1, r5 =>
    (bif (decide (x8 < (x0.length : Int))) then ((S_AddSpan_b5 k x0 x8 y3_0 y3_1 r5).bind fun o11 =>
    S_AddSpan_b4 k n x0 (IntKind.wrap .i64 (x8 + (1 : Int))) y3_0 y3_1 o11)
    else some (r5))
noncomputable def S_AddSpan (k : Nat) (a0 : List ISpan) (a1 : ISpan) : Option ((List ISpan)) :=
    ((S_IsSpanSet k a0).bind fun w1 =>
    (bif (!w1) then ((app 16 ([] : List ISpan) a0).bind fun u2 =>
    some u2) else (bif (decide (a1.From < (0 : Int))) then ((app 16 ([] : List ISpan) a0).bind fun u3 =>
    some u3) else (bif (decide (a1.From ≥ a1.To)) then ((app 16 ([] : List ISpan) a0).bind fun u4 =>
    some u4) else (bif (decide (a1.To > (1000000000000 : Int))) then ((app 16 ([] : List ISpan) a0).bind fun u5 =>
    some u5)
    else ((S_AddSpan_b0 k k a0 (0 : Int) a1.From a1.To ([] : List ISpan)).bind fun o7 =>
    ((S_AddSpan_b2 k k a0 (0 : Int) a1.From a1.To o7).bind fun o9 =>
    ((app 16 o7 ([(⟨o9.1, o9.2⟩ : ISpan)] : List ISpan)).bind fun u10 =>
    ((S_AddSpan_b4 k k a0 (0 : Int) o9.1 o9.2 u10).bind fun o12 =>
    some o12)))))))))
/-! loop.example/g03012/spec.UniteSpans -/
noncomputable def S_UniteSpans_b0 (k : Nat) : Nat → (List ISpan) → Int → (List ISpan) → Option ((List ISpan))
  | 0, _, _, _ => none
  | n + 1, x0, x4, r3 =>
    (bif (decide (x4 < (x0.length : Int))) then ((idx x0 x4).bind fun e1 =>
    ((S_AddSpan k r3 e1).bind fun w2 =>
    S_UniteSpans_b0 k n x0 (IntKind.wrap .i64 (x4 + (1 : Int))) w2))
    else some (r3))
noncomputable def S_UniteSpans (k : Nat) (a0 : List ISpan) : Option ((List ISpan)) :=
    ((S_UniteSpans_b0 k k a0 (0 : Int) ([] : List ISpan)).bind fun o3 =>
    some o3)
/-! loop.example/g03012/impl.IsSpanSet -/
noncomputable def I_IsSpanSet_b0 (k : Nat) : Nat → (List ISpan) → (List ISpan) → Int → Int → Option (Oc (Unit) (Bool))
  | 0, _, _, _, _ => none
  | n + 1, x0, x5, x6, x7 =>
    (bif (decide (x7 < x6)) then ((idx x5 x7).bind fun e1 =>
    (bif (decide (e1.From < (0 : Int))) then some (.oth (false)) else (bif (decide (e1.From ≥ e1.To)) then some (.oth (false)) else (bif (decide (e1.To > (1000000000000 : Int))) then some (.oth (false)) else (bif (decide (x7 > (0 : Int))) then ((idx x0 (IntKind.wrap .i64 (x7 - (1 : Int)))).bind fun e2 =>
    (bif (decide (e2.To ≥ e1.From)) then some (.oth (false))
    else I_IsSpanSet_b0 k n x0 x5 x6 (IntKind.wrap .i64 (x7 + (1 : Int))))) else I_IsSpanSet_b0 k n x0 x5 x6 (IntKind.wrap .i64 (x7 + (1 : Int))))))))
    else some (.nrm ()))
noncomputable def I_IsSpanSet (k : Nat) (a0 : List ISpan) : Option (Bool) :=
    ((I_IsSpanSet_b0 k k a0 a0 (a0.length : Int) (0 : Int)).bind fun o3 =>
    oc o3 (fun o4 => some true)
    (fun o5 => some o5))
/-! slices.Clone[[]loop.example/g03012/impl.Span,loop.example/g03012/impl.Span] -/
noncomputable def slices_Clone_ISpan (k : Nat) (a0 : List ISpan) : Option ((List ISpan)) :=
    app 16 [] a0
/-! loop.example/g03012/impl.AddSpan -/
noncomputable def I_AddSpan_b0 (k : Nat) : Nat → (List ISpan) → Int → Int → Int → (List ISpan) → Option (Int × (List ISpan))
  | 0, _, _, _, _, _ => none
  | n + 1, x0, x6, y3_0, y3_1, r5 =>
    (bif (decide (x6 < (x0.length : Int))) then ((idx x0 x6).bind fun e6 =>
    (bif (decide (e6.To < y3_0)) then ((idx x0 x6).bind fun e7 =>
    ((app 16 r5 ([e7] : List ISpan)).bind fun u8 =>
    I_AddSpan_b0 k n x0 (IntKind.wrap .i64 (x6 + (1 : Int))) y3_0 y3_1 u8))
    else some ((x6, r5)))) else some ((x6, r5)))
noncomputable def I_AddSpan_b2 (k : Nat) : Nat → (List ISpan) → Int → Int → Int → (List ISpan) → Option (Int × Int × Int)
  | 0, _, _, _, _, _ => none
  | n + 1, x0, x6, y3_0, y3_1, r5 =>
    (bif (decide (x6 < (x0.length : Int))) then ((idx x0 x6).bind fun e10 =>
    (bif (decide (e10.From ≤ y3_1)) then ((idx x0 x6).bind fun e11 =>
    ((idx x0 x6).bind fun e12 =>
    I_AddSpan_b2 k n x0 (IntKind.wrap .i64 (x6 + (1 : Int))) (if e11.From < y3_0 then e11.From else y3_0) (if e12.To > y3_1 then e12.To else y3_1) r5))
    else some ((x6, y3_0, y3_1)))) else some ((x6, y3_0, y3_1)))
noncomputable def I_AddSpan (k : Nat) (a0 : List ISpan) (a1 : ISpan) : Option ((List ISpan)) :=
    ((I_IsSpanSet k a0).bind fun w1 =>
    (bif (!w1) then ((slices_Clone_ISpan k a0).bind fun w2 =>
    some w2) else (bif (decide (a1.From ≥ a1.To)) then ((slices_Clone_ISpan k a0).bind fun w3 =>
    some w3) else (bif (decide (a1.From < (0 : Int))) then ((slices_Clone_ISpan k a0).bind fun w4 =>
    some w4) else (bif (decide (a1.To > (1000000000000 : Int))) then ((slices_Clone_ISpan k a0).bind fun w5 =>
    some w5)
    else ((I_AddSpan_b0 k k a0 (0 : Int) a1.From a1.To ([] : List ISpan)).bind fun o9 =>
    ((I_AddSpan_b2 k k a0 o9.1 a1.From a1.To o9.2).bind fun o13 =>
    ((app 16 o9.2 ([(⟨o13.2.1, o13.2.2⟩ : ISpan)] : List ISpan)).bind fun u14 =>
    ((ssub a0 o13.1 (a0.length : Int)).bind fun t15 =>
    ((app 16 u14 t15).bind fun u16 =>
    some u16))))))))))
/-! loop.example/g03012/impl.UniteSpans -/
noncomputable def I_UniteSpans_b0 (k : Nat) : Nat → (List ISpan) → Int → Int → (List ISpan) → Option ((List ISpan))
  | 0, _, _, _, _ => none
  | n + 1, x7, x8, x9, r3 =>
    (bif (decide (x9 < x8)) then ((idx x7 x9).bind fun e1 =>
    ((I_AddSpan k r3 e1).bind fun w2 =>
    I_UniteSpans_b0 k n x7 x8 (IntKind.wrap .i64 (x9 + (1 : Int))) w2))
    else some (r3))
noncomputable def I_UniteSpans (k : Nat) (a0 : List ISpan) : Option ((List ISpan)) :=
    ((I_UniteSpans_b0 k k a0 (a0.length : Int) (0 : Int) ([] : List ISpan)).bind fun o3 =>
    some o3)
/-! loop.example/g03012/laws.eqSpan -/
noncomputable def L_eqSpan (k : Nat) (a0 : ISpan) (a1 : ISpan) : Option (Bool) :=
    (bif (a0.From != a1.From) then some false
    else (bif (a0.To != a1.To) then some false
    else some true))
/-! loop.example/g03012/laws.eqSpanS -/
noncomputable def L_eqSpanS_b0 (k : Nat) : Nat → (List ISpan) → (List ISpan) → Int → Option (Oc (Unit) (Bool))
  | 0, _, _, _ => none
  | n + 1, x0, x1, x5 =>
    (bif (decide (x5 < (x0.length : Int))) then ((idx x0 x5).bind fun e1 =>
    ((idx x1 x5).bind fun e2 =>
    ((L_eqSpan k e1 e2).bind fun w3 =>
    (bif (!w3) then some (.oth (false))
    else L_eqSpanS_b0 k n x0 x1 (IntKind.wrap .i64 (x5 + (1 : Int)))))))
    else some (.nrm ()))
noncomputable def L_eqSpanS (k : Nat) (a0 : List ISpan) (a1 : List ISpan) : Option (Bool) :=
    (bif ((a0.length : Int) != (a1.length : Int)) then some false
    else ((L_eqSpanS_b0 k k a0 a1 (0 : Int)).bind fun o4 =>
    oc o4 (fun o5 => some true)
    (fun o6 => some o6)))
/-! loop.example/g03012/laws.markSpanS -/
noncomputable def L_markSpanS_b0 (k : Nat) : Nat → Int → Int → (List ISpan) → Option (Int × (List ISpan))
  | 0, _, _, _ => none
  | n + 1, x1, x5, r0 =>
    (bif (decide (x5 < (r0.length : Int))) then ((idx r0 x5).bind fun _ =>
    ((idx r0 x5).bind fun e1 =>
    ((idx ((r0).set (x5).toNat (⟨x1, e1.To⟩ : ISpan)) x5).bind fun _ =>
    ((idx ((r0).set (x5).toNat (⟨x1, e1.To⟩ : ISpan)) x5).bind fun e2 =>
    L_markSpanS_b0 k n (IntKind.wrap .i64 ((IntKind.wrap .i64 (x1 + (1 : Int))) + (1 : Int))) (IntKind.wrap .i64 (x5 + (1 : Int))) ((((r0).set (x5).toNat (⟨x1, e1.To⟩ : ISpan))).set (x5).toNat (⟨e2.From, (IntKind.wrap .i64 (x1 + (1 : Int)))⟩ : ISpan))))))
    else some ((x1, r0)))
noncomputable def L_markSpanS (k : Nat) (a0 : List ISpan) (a1 : Int) : Option (Int × (List ISpan)) :=
    ((L_markSpanS_b0 k k a1 (0 : Int) a0).bind fun o3 =>
    some (o3.1, o3.2))
/-! loop.example/g03012/laws.heldSpanS -/
noncomputable def L_heldSpanS_b0 (k : Nat) : Nat → (List ISpan) → Int → Int → Option (Oc (Int) (Int))
  | 0, _, _, _ => none
  | n + 1, x0, x1, x5 =>
    (bif (decide (x5 < (x0.length : Int))) then ((idx x0 x5).bind fun e1 =>
    (bif (e1.From != x1) then some (.oth ((-1 : Int)))
    else ((idx x0 x5).bind fun e2 =>
    (bif (e2.To != (IntKind.wrap .i64 (x1 + (1 : Int)))) then some (.oth ((-1 : Int)))
    else L_heldSpanS_b0 k n x0 (IntKind.wrap .i64 ((IntKind.wrap .i64 (x1 + (1 : Int))) + (1 : Int))) (IntKind.wrap .i64 (x5 + (1 : Int)))))))
    else some (.nrm x1))
noncomputable def L_heldSpanS (k : Nat) (a0 : List ISpan) (a1 : Int) : Option (Int) :=
    ((L_heldSpanS_b0 k k a0 a1 (0 : Int)).bind fun o3 =>
    oc o3 (fun o4 => some o4)
    (fun o5 => some o5))
/-! loop.example/g03012/laws.FnExactUniteSpans -/
noncomputable def L_FnExactUniteSpans (k : Nat) (a0 : List LSpan) : Option (Bool) :=
    ((L_szSpanS k a0 (1048576 : Int)).bind fun w1 =>
    (bif (decide (w1 < (0 : Int))) then some true
    else ((L_toSpanS k a0).bind fun w2 =>
    ((S_UniteSpans k w2).bind fun w3 =>
    ((L_toSpanS k a0).bind fun w4 =>
    ((I_UniteSpans k w4).bind fun w5 =>
    ((L_eqSpanS k w5 w3).bind fun w6 =>
    (bif (!w6) then some false
    else ((L_toSpanS k a0).bind fun w7 =>
    ((L_eqSpanS k w4 w7).bind fun w8 =>
    (bif (!w8) then some false
    else ((L_markSpanS k w4 (1 : Int)).bind fun w9 =>
    (bif (decide (w9.1 < (0 : Int))) then some false else ((L_eqSpanS k w5 w3).bind fun w10 =>
    (bif (!w10) then some false
    else ((L_markSpanS k w5 (1 : Int)).bind fun w11 =>
    ((L_heldSpanS k w11.2 (1 : Int)).bind fun w12 =>
    (bif (decide (w12 < (0 : Int))) then some false
    else (bif (w12 != w11.1) then some false
    else ((L_toSpanS k a0).bind fun w13 =>
    ((I_UniteSpans k w13).bind fun w14 =>
    ((L_eqSpanS k w14 w3).bind fun w15 =>
    (bif (!w15) then some false
    else ((L_heldSpanS k w11.2 (1 : Int)).bind fun w16 =>
    (bif (decide (w16 < (0 : Int))) then some false
    else (bif (w16 != w11.1) then some false
    else some true))))))))))))))))))))))))))

end
end Go.Ytdninebapdohkaa
