/- Functions over lists. Nothing is claimed here. -/
import Derived.Test.YtdninebapdohkaaKt
set_option linter.unusedVariables false
set_option linter.unusedSimpArgs false
set_option maxRecDepth 100000
namespace Go.Ytdninebapdohkaa
open Go Go.RowKit Go.Pv
noncomputable section

/-! loop.example/g03012/laws.szStringS -/
noncomputable def L_szStringS_b0 (k : Nat) : Nat → (List (List UInt8)) → Int → Int → Option (Oc (Int) (Int))
  | 0, _, _, _ => none
  | n + 1, x0, x1, x5 =>
    (bif (decide (x5 < (x0.length : Int))) then ((idx x0 x5).bind fun e1 =>
    (bif (decide ((IntKind.wrap .i64 (x1 - (e1.length : Int))) < (0 : Int))) then some (.oth ((-1 : Int)))
    else L_szStringS_b0 k n x0 (IntKind.wrap .i64 (x1 - (e1.length : Int))) (IntKind.wrap .i64 (x5 + (1 : Int)))))
    else some (.nrm x1))
noncomputable def L_szStringS (k : Nat) (a0 : List (List UInt8)) (a1 : Int) : Option (Int) :=
    (bif (decide ((IntKind.wrap .i64 (a1 - (a0.length : Int))) < (0 : Int))) then some (-1 : Int)
    else ((L_szStringS_b0 k k a0 (IntKind.wrap .i64 (a1 - (a0.length : Int))) (0 : Int)).bind fun o2 =>
    oc o2 (fun o3 => some o3)
    (fun o4 => some o4)))
/-! loop.example/g03012/laws.szVersion -/
noncomputable def L_szVersion (k : Nat) (a0 : LVersion) (a1 : Int) : Option (Int) :=
    (bif (decide ((IntKind.wrap .i64 (a1 - (a0.Text.length : Int))) < (0 : Int))) then some (-1 : Int)
    else some (IntKind.wrap .i64 (a1 - (a0.Text.length : Int))))
/-! loop.example/g03012/laws.szVersionS -/
noncomputable def L_szVersionS_b0 (k : Nat) : Nat → (List LVersion) → Int → Int → Option (Oc (Int) (Int))
  | 0, _, _, _ => none
  | n + 1, x0, x1, x5 =>
    (bif (decide (x5 < (x0.length : Int))) then ((idx x0 x5).bind fun e1 =>
    ((L_szVersion k e1 x1).bind fun w2 =>
    (bif (decide (w2 < (0 : Int))) then some (.oth ((-1 : Int)))
    else L_szVersionS_b0 k n x0 w2 (IntKind.wrap .i64 (x5 + (1 : Int))))))
    else some (.nrm x1))
noncomputable def L_szVersionS (k : Nat) (a0 : List LVersion) (a1 : Int) : Option (Int) :=
    (bif (decide ((IntKind.wrap .i64 (a1 - (a0.length : Int))) < (0 : Int))) then some (-1 : Int)
    else ((L_szVersionS_b0 k k a0 (IntKind.wrap .i64 (a1 - (a0.length : Int))) (0 : Int)).bind fun o3 =>
    oc o3 (fun o4 => some o4)
    (fun o5 => some o5)))
/-! loop.example/g03012/laws.szResource -/
noncomputable def L_szResource (k : Nat) (a0 : LResource) (a1 : Int) : Option (Int) :=
    (bif (decide ((IntKind.wrap .i64 (a1 - (a0.Target.length : Int))) < (0 : Int))) then some (-1 : Int)
    else (bif (decide ((IntKind.wrap .i64 ((IntKind.wrap .i64 (a1 - (a0.Target.length : Int))) - (a0.Control.length : Int))) < (0 : Int))) then some (-1 : Int)
    else (bif (decide ((IntKind.wrap .i64 ((IntKind.wrap .i64 ((IntKind.wrap .i64 (a1 - (a0.Target.length : Int))) - (a0.Control.length : Int))) - (a0.Keys.length : Int))) < (0 : Int))) then some (-1 : Int)
    else ((L_szStringS k a0.Langs (IntKind.wrap .i64 ((IntKind.wrap .i64 ((IntKind.wrap .i64 (a1 - (a0.Target.length : Int))) - (a0.Control.length : Int))) - (a0.Keys.length : Int)))).bind fun w1 =>
    (bif (decide (w1 < (0 : Int))) then some (-1 : Int)
    else ((L_szVersionS k a0.Versions w1).bind fun w2 =>
    (bif (decide (w2 < (0 : Int))) then some (-1 : Int)
    else some w2)))))))
/-! loop.example/g03012/laws.szResourceS -/
noncomputable def L_szResourceS_b0 (k : Nat) : Nat → (List LResource) → Int → Int → Option (Oc (Int) (Int))
  | 0, _, _, _ => none
  | n + 1, x0, x1, x5 =>
    (bif (decide (x5 < (x0.length : Int))) then ((idx x0 x5).bind fun e1 =>
    ((L_szResource k e1 x1).bind fun w2 =>
    (bif (decide (w2 < (0 : Int))) then some (.oth ((-1 : Int)))
    else L_szResourceS_b0 k n x0 w2 (IntKind.wrap .i64 (x5 + (1 : Int))))))
    else some (.nrm x1))
noncomputable def L_szResourceS (k : Nat) (a0 : List LResource) (a1 : Int) : Option (Int) :=
    (bif (decide ((IntKind.wrap .i64 (a1 - (a0.length : Int))) < (0 : Int))) then some (-1 : Int)
    else ((L_szResourceS_b0 k k a0 (IntKind.wrap .i64 (a1 - (a0.length : Int))) (0 : Int)).bind fun o3 =>
    oc o3 (fun o4 => some o4)
    (fun o5 => some o5)))
/-! loop.example/g03012/laws.szOrigin -/
noncomputable def L_szOrigin (k : Nat) (a0 : LOrigin) (a1 : Int) : Option (Int) :=
    (bif (decide ((IntKind.wrap .i64 (a1 - (a0.Host.length : Int))) < (0 : Int))) then some (-1 : Int)
    else ((L_szResourceS k a0.Resources (IntKind.wrap .i64 (a1 - (a0.Host.length : Int)))).bind fun w1 =>
    (bif (decide (w1 < (0 : Int))) then some (-1 : Int)
    else some w1)))
/-! loop.example/g03012/laws.toStringS -/
noncomputable def L_toStringS_b0 (k : Nat) : Nat → (List (List UInt8)) → Int → (List (List UInt8)) → Option ((List (List UInt8)))
  | 0, _, _, _ => none
  | n + 1, x0, x4, r3 =>
    (bif (decide (x4 < (x0.length : Int))) then ((idx x0 x4).bind fun e2 =>
    ((idx r3 x4).bind fun _ =>
    ((idx r3 x4).bind fun e3 =>
    L_toStringS_b0 k n x0 (IntKind.wrap .i64 (x4 + (1 : Int))) ((r3).set (x4).toNat e2))))
    else some (r3))
noncomputable def L_toStringS (k : Nat) (a0 : List (List UInt8)) : Option ((List (List UInt8))) :=
    (guardT ((a0.length : Int) == (a0.length : Int)) <| (mks 16 (a0.length : Int) ([] : List UInt8)).bind fun u1 =>
    ((L_toStringS_b0 k k a0 (0 : Int) u1).bind fun o4 =>
    some o4))
/-! loop.example/g03012/laws.toVersion -/
noncomputable def L_toVersion (k : Nat) (a0 : LVersion) : Option (IVersion) :=
    some (⟨a0.At, a0.Text, a0.Gone⟩ : IVersion)
/-! loop.example/g03012/laws.toVersionS -/
noncomputable def L_toVersionS_b0 (k : Nat) : Nat → (List LVersion) → Int → (List IVersion) → Option ((List IVersion))
  | 0, _, _, _ => none
  | n + 1, x0, x4, r3 =>
    (bif (decide (x4 < (x0.length : Int))) then ((idx x0 x4).bind fun e2 =>
    ((L_toVersion k e2).bind fun w3 =>
    ((idx r3 x4).bind fun _ =>
    ((idx r3 x4).bind fun e4 =>
    L_toVersionS_b0 k n x0 (IntKind.wrap .i64 (x4 + (1 : Int))) ((r3).set (x4).toNat w3)))))
    else some (r3))
noncomputable def L_toVersionS (k : Nat) (a0 : List LVersion) : Option ((List IVersion)) :=
    (guardT ((a0.length : Int) == (a0.length : Int)) <| (mks 32 (a0.length : Int) (⟨(0 : Int), ([] : List UInt8), false⟩ : IVersion)).bind fun u1 =>
    ((L_toVersionS_b0 k k a0 (0 : Int) u1).bind fun o5 =>
    some o5))
/-! loop.example/g03012/laws.toResource -/
noncomputable def L_toResource (k : Nat) (a0 : LResource) : Option (IResource) :=
    ((L_toStringS k a0.Langs).bind fun w1 =>
    ((L_toVersionS k a0.Versions).bind fun w2 =>
    some (⟨a0.Target, a0.Control, a0.Keys, a0.Private, w1, w2⟩ : IResource)))
/-! loop.example/g03012/laws.toResourceS -/
noncomputable def L_toResourceS_b0 (k : Nat) : Nat → (List LResource) → Int → (List IResource) → Option ((List IResource))
  | 0, _, _, _ => none
  | n + 1, x0, x4, r3 =>
    (bif (decide (x4 < (x0.length : Int))) then ((idx x0 x4).bind fun e2 =>
    ((L_toResource k e2).bind fun w3 =>
    ((idx r3 x4).bind fun _ =>
    ((idx r3 x4).bind fun e4 =>
    L_toResourceS_b0 k n x0 (IntKind.wrap .i64 (x4 + (1 : Int))) ((r3).set (x4).toNat w3)))))
    else some (r3))
noncomputable def L_toResourceS (k : Nat) (a0 : List LResource) : Option ((List IResource)) :=
    (guardT ((a0.length : Int) == (a0.length : Int)) <| (mks 104 (a0.length : Int) (⟨([] : List UInt8), ([] : List UInt8), ([] : List UInt8), false, [], []⟩ : IResource)).bind fun u1 =>
    ((L_toResourceS_b0 k k a0 (0 : Int) u1).bind fun o5 =>
    some o5))
/-! loop.example/g03012/laws.toOrigin -/
noncomputable def L_toOrigin (k : Nat) (a0 : LOrigin) : Option (IOrigin) :=
    ((L_toResourceS k a0.Resources).bind fun w1 =>
    some (⟨a0.Host, w1⟩ : IOrigin))
/-! loop.example/g03012/spec.FindResource -/
noncomputable def S_FindResource_b0 (k : Nat) : Nat → (List UInt8) → Int → (List UInt8) → (List IResource) → Option (Oc (Unit) (Int))
  | 0, _, _, _, _ => none
  | n + 1, x1, x5, y2_0, y2_1 =>
    (bif (decide (x5 < (y2_1.length : Int))) then ((idx y2_1 x5).bind fun e1 =>
    (bif (e1.Target == x1) then some (.oth (x5))
    else S_FindResource_b0 k n x1 (IntKind.wrap .i64 (x5 + (1 : Int))) y2_0 y2_1))
    else some (.nrm ()))
noncomputable def S_FindResource (k : Nat) (a0 : IOrigin) (a1 : List UInt8) : Option (Int) :=
    ((S_FindResource_b0 k k a1 (0 : Int) a0.Host a0.Resources).bind fun o2 =>
    oc o2 (fun o3 => some (-1 : Int))
    (fun o4 => some o4))
/-! loop.example/g03012/impl.FindResource$1 -/
noncomputable def I_FindResource_1 (k : Nat) (a0 : IResource) (f0_0 : List UInt8) : Option (Bool) :=
    some (a0.Target == f0_0)
/-! slices.IndexFunc[[]loop.example/g03012/impl.Resource,loop.example/g03012/impl.Resource] -/
noncomputable def slices_IndexFunc_IResource_at_I_FindResource_1_b0 (k : Nat) : Nat → (List IResource) → (List UInt8) → Int → Int → Option (Oc (Unit) (Int))
  | 0, _, _, _, _ => none
  | n + 1, x0, x1_0_0, x7, x8 =>
    (bif (decide (x8 < x7)) then ((idx x0 x8).bind fun e1 =>
    ((I_FindResource_1 k e1 x1_0_0).bind fun w2 =>
    (bif w2 then some (.oth (x8))
    else slices_IndexFunc_IResource_at_I_FindResource_1_b0 k n x0 x1_0_0 x7 (IntKind.wrap .i64 (x8 + (1 : Int))))))
    else some (.nrm ()))
noncomputable def slices_IndexFunc_IResource_at_I_FindResource_1 (k : Nat) (a0 : List IResource) (a1_0_0 : List UInt8) : Option (Int) :=
    ((slices_IndexFunc_IResource_at_I_FindResource_1_b0 k k a0 a1_0_0 (a0.length : Int) (0 : Int)).bind fun o3 =>
    oc o3 (fun o4 => some (-1 : Int))
    (fun o5 => some o5))
/-! loop.example/g03012/impl.FindResource -/
noncomputable def I_FindResource (k : Nat) (a0 : IOrigin) (a1 : List UInt8) : Option (Int) :=
    ((slices_IndexFunc_IResource_at_I_FindResource_1 k a0.Resources a1).bind fun w1 =>
    some w1)
/-! loop.example/g03012/laws.eqStringS -/
noncomputable def L_eqStringS_b0 (k : Nat) : Nat → (List (List UInt8)) → (List (List UInt8)) → Int → Option (Oc (Unit) (Bool))
  | 0, _, _, _ => none
  | n + 1, x0, x1, x5 =>
    (bif (decide (x5 < (x0.length : Int))) then ((idx x0 x5).bind fun e1 =>
    ((idx x1 x5).bind fun e2 =>
    (bif (!(e1 == e2)) then some (.oth (false))
    else L_eqStringS_b0 k n x0 x1 (IntKind.wrap .i64 (x5 + (1 : Int))))))
    else some (.nrm ()))
noncomputable def L_eqStringS (k : Nat) (a0 : List (List UInt8)) (a1 : List (List UInt8)) : Option (Bool) :=
    (bif ((a0.length : Int) != (a1.length : Int)) then some false
    else ((L_eqStringS_b0 k k a0 a1 (0 : Int)).bind fun o3 =>
    oc o3 (fun o4 => some true)
    (fun o5 => some o5)))
/-! loop.example/g03012/laws.eqVersion -/
noncomputable def L_eqVersion (k : Nat) (a0 : IVersion) (a1 : IVersion) : Option (Bool) :=
    (bif (a0.At != a1.At) then some false
    else (bif (!(a0.Text == a1.Text)) then some false
    else (bif (!(a0.Gone == a1.Gone)) then some false
    else some true)))
/-! loop.example/g03012/laws.eqVersionS -/
noncomputable def L_eqVersionS_b0 (k : Nat) : Nat → (List IVersion) → (List IVersion) → Int → Option (Oc (Unit) (Bool))
  | 0, _, _, _ => none
  | n + 1, x0, x1, x5 =>
    (bif (decide (x5 < (x0.length : Int))) then ((idx x0 x5).bind fun e1 =>
    ((idx x1 x5).bind fun e2 =>
    ((L_eqVersion k e1 e2).bind fun w3 =>
    (bif (!w3) then some (.oth (false))
    else L_eqVersionS_b0 k n x0 x1 (IntKind.wrap .i64 (x5 + (1 : Int)))))))
    else some (.nrm ()))
noncomputable def L_eqVersionS (k : Nat) (a0 : List IVersion) (a1 : List IVersion) : Option (Bool) :=
    (bif ((a0.length : Int) != (a1.length : Int)) then some false
    else ((L_eqVersionS_b0 k k a0 a1 (0 : Int)).bind fun o4 =>
    oc o4 (fun o5 => some true)
    (fun o6 => some o6)))
/-! loop.example/g03012/laws.eqResource -/
noncomputable def L_eqResource (k : Nat) (a0 : IResource) (a1 : IResource) : Option (Bool) :=
    (bif (!(a0.Target == a1.Target)) then some false
    else (bif (!(a0.Control == a1.Control)) then some false
    else (bif (!(a0.Keys == a1.Keys)) then some false
    else (bif (!(a0.Private == a1.Private)) then some false
    else ((L_eqStringS k a0.Langs a1.Langs).bind fun w1 =>
    (bif (!w1) then some false
    else ((L_eqVersionS k a0.Versions a1.Versions).bind fun w2 =>
    (bif (!w2) then some false
    else some true))))))))
/-! loop.example/g03012/laws.eqResourceS -/
noncomputable def L_eqResourceS_b0 (k : Nat) : Nat → (List IResource) → (List IResource) → Int → Option (Oc (Unit) (Bool))
  | 0, _, _, _ => none
  | n + 1, x0, x1, x5 =>
    (bif (decide (x5 < (x0.length : Int))) then ((idx x0 x5).bind fun e1 =>
    ((idx x1 x5).bind fun e2 =>
    ((L_eqResource k e1 e2).bind fun w3 =>
    (bif (!w3) then some (.oth (false))
    else L_eqResourceS_b0 k n x0 x1 (IntKind.wrap .i64 (x5 + (1 : Int)))))))
    else some (.nrm ()))
noncomputable def L_eqResourceS (k : Nat) (a0 : List IResource) (a1 : List IResource) : Option (Bool) :=
    (bif ((a0.length : Int) != (a1.length : Int)) then some false
    else ((L_eqResourceS_b0 k k a0 a1 (0 : Int)).bind fun o4 =>
    oc o4 (fun o5 => some true)
    (fun o6 => some o6)))
/-! loop.example/g03012/laws.eqOrigin -/
noncomputable def L_eqOrigin (k : Nat) (a0 : IOrigin) (a1 : IOrigin) : Option (Bool) :=
    (bif (!(a0.Host == a1.Host)) then some false
    else ((L_eqResourceS k a0.Resources a1.Resources).bind fun w1 =>
    (bif (!w1) then some false
    else some true)))
/-! loop.example/g03012/laws.FnExactFindResource -/
noncomputable def L_FnExactFindResource (k : Nat) (a0 : LOrigin) (a1 : List UInt8) : Option (Bool) :=
    (bif (decide ((a1.length : Int) > (1048576 : Int))) then some true
    else ((L_szOrigin k a0 (1048576 : Int)).bind fun w1 =>
    (bif (decide (w1 < (0 : Int))) then some true
    else ((L_toOrigin k a0).bind fun w2 =>
    ((S_FindResource k w2 a1).bind fun w3 =>
    ((L_toOrigin k a0).bind fun w4 =>
    ((I_FindResource k w4 a1).bind fun w5 =>
    (bif (w5 != w3) then some false
    else ((L_toOrigin k a0).bind fun w6 =>
    ((L_eqOrigin k w4 w6).bind fun w7 =>
    (bif (!w7) then some false
    else some true)))))))))))

end
end Go.Ytdninebapdohkaa
