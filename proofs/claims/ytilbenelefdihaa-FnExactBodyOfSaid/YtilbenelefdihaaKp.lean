/- The machine computes the functions. Nothing is claimed here. -/
import Derived.Test.YtilbenelefdihaaKf
set_option linter.unusedVariables false
set_option linter.unusedSimpArgs false
set_option maxRecDepth 100000
namespace Go.Ytilbenelefdihaa
open Go Go.RowKit Go.Pv
noncomputable section

def L_szVersion_pl : Plan := ⟨[(0, [(1, none), (2, none)]), (1, [(1, none)]), (2, [(1, none), (11, none)]), (3, [(4, none)]), (4, [(4, none)])],
  [],
  [(11, ([], [(1, none)]))]⟩
def L_szVersion_cl (k : Nat) : Calls' D := ⟨[], []⟩
theorem L_szVersion_ck (k : Nat) : CallsOK X (L_szVersion_cl k) := .nil cod
def L_szVersion_cu (k : Nat) : Cuts D := ⟨[], []⟩
def L_szVersion_ar : List Ar := [.a [.ki .i64, .ks, .kb], .c (.ki .i64)]
def L_szVersion_f (k : Nat) (x : TupA D L_szVersion_ar) : Option (Int) := L_szVersion k (⟨x.1.1, x.1.2.1, x.1.2.2.1⟩ : LVersion) x.2.1
def L_szVersion_vr (r : Int) : VR D := .p (.c (.int .i64 r))
theorem L_szVersion_ok (k : Nat) : Does P X 19 L_szVersion_ar (L_szVersion_f k) L_szVersion_vr :=
  does_of (body := bodyOf Go.Proofs.Try.f19) (pl := L_szVersion_pl) (k := k) (cu := L_szVersion_cu k) (tys := [[0]]) (L_szVersion_ck k) ctx mixed Go.Proofs.Try.func19 (by kernel_rfl) (by kernel_rfl) (cutOK_of (l := []) (by kernel_rfl) trivial) fun x R h => by
    simp only [L_szVersion_f, L_szVersion, optK_bind, optK_bif, optK_pure, optK_none, optK_oc, optK_guardT, optK_map] at h
    refine hold_of h ?_
    kernel_rfl
def L_szVersion_en (k : Nat) : Entry D := entS L_szVersion_ar (L_szVersion_f k) L_szVersion_vr
theorem L_szVersion_eo (k : Nat) : EntryOK X 19 (L_szVersion_en k) := (L_szVersion_ok k).en rfl
def L_toVersion_pl : Plan := ⟨[(0, [(1, none), (2, none)]), (1, [(1, none), (2, none), (3, none)]), (2, [(1, none), (2, none), (3, none)]), (3, [(1, none), (2, none), (3, none)]), (4, [(2, none), (3, none)]), (5, [(2, none)])],
  [],
  []⟩
def L_toVersion_cl (k : Nat) : Calls' D := ⟨[], []⟩
theorem L_toVersion_ck (k : Nat) : CallsOK X (L_toVersion_cl k) := .nil cod
def L_toVersion_cu (k : Nat) : Cuts D := ⟨[], []⟩
def L_toVersion_ar : List Ar := [.a [.ki .i64, .ks, .kb]]
def L_toVersion_f (k : Nat) (x : TupA D L_toVersion_ar) : Option (IVersion) := L_toVersion k (⟨x.1.1, x.1.2.1, x.1.2.2.1⟩ : LVersion)
def L_toVersion_vr (r : IVersion) : VR D := .p (.agg [.int .i64 r.At, .str r.Text, .bool r.Gone])
theorem L_toVersion_ok (k : Nat) : Does P X 21 L_toVersion_ar (L_toVersion_f k) L_toVersion_vr :=
  does_of (body := bodyOf Go.Proofs.Try.f21) (pl := L_toVersion_pl) (k := k) (cu := L_toVersion_cu k) (tys := [[0, 0, 0]]) (L_toVersion_ck k) ctx mixed Go.Proofs.Try.func21 (by kernel_rfl) (by kernel_rfl) (cutOK_of (l := []) (by kernel_rfl) trivial) fun x R h => by
    simp only [L_toVersion_f, L_toVersion, optK_bind, optK_bif, optK_pure, optK_none, optK_oc, optK_guardT, optK_map] at h
    refine hold_of h ?_
    kernel_rfl
def L_toVersion_en (k : Nat) : Entry D := entS L_toVersion_ar (L_toVersion_f k) L_toVersion_vr
theorem L_toVersion_eo (k : Nat) : EntryOK X 21 (L_toVersion_en k) := (L_toVersion_ok k).en rfl
def S_BodyOf_pl : Plan := ⟨[(0, [(1, none), (2, none), (3, none)]), (1, [(1, none), (2, none), (7, none)]), (2, [(1, none), (2, none), (7, none), (11, none)]), (3, [(2, none), (7, none)]), (4, [(2, none), (7, none), (18, none)]), (5, [(7, none)]), (6, [(6, none)])],
  [],
  [(11, ([(1, none), (2, none), (7, none)], [(2, none), (7, none)])), (18, ([(2, none), (7, none)], [(7, none)]))]⟩
def S_BodyOf_cl (k : Nat) : Calls' D := ⟨[], []⟩
theorem S_BodyOf_ck (k : Nat) : CallsOK X (S_BodyOf_cl k) := .nil cod
def S_BodyOf_c11_L (x : (List UInt8) × (List UInt8) × (List UInt8) × Bool × Unit) (o : (List UInt8)) (Q : Ex → VSt D → Prop) (R : VR D → Prop) : Prop := Q .normal (mkSt ⟨[(2, .hole), (7, .hole)], []⟩ [.str x.2.1, .str o])
def S_BodyOf_c11_cut (k : Nat) : Cut D := cutS ⟨[(1, .hole), (2, .hole), (7, .hole), (11, .hole)], []⟩ [.ks, .ks, .ks, .kb] (fun (x : (List UInt8) × (List UInt8) × (List UInt8) × Bool × Unit) => S_BodyOf_c11 k x.1 x.2.1 x.2.2.1 x.2.2.2.1) S_BodyOf_c11_L
def S_BodyOf_c11_cu (k : Nat) : Cuts D := ⟨[], []⟩
theorem S_BodyOf_c11_ok (k : Nat) : CutFor X S_BodyOf_pl k Go.Proofs.Try.f20.results.toList (S_BodyOf_c11_cut k) (sub (bodyOf Go.Proofs.Try.f20) [1, 1, 0, 1]) :=
  joinCut_s (X := X) (sg := [.ks, .ks, .ks, .kb]) (cu := S_BodyOf_c11_cu k) (cl := S_BodyOf_cl k) (tys := [[0]]) (S_BodyOf_ck k) (cutOK_of (l := []) (by kernel_rfl) trivial) fun x Q R h => by
    simp only [S_BodyOf_c11, optK_bind, optK_bif, optK_pure, optK_none, optK_oc, optK_guardT, optK_map] at h
    refine hold_of h ?_
    kernel_rfl
def S_BodyOf_c18_L (x : (List UInt8) × (List UInt8) × Bool × Unit) (o : (List UInt8)) (Q : Ex → VSt D → Prop) (R : VR D → Prop) : Prop := Q .normal (mkSt ⟨[(7, .hole)], []⟩ [.str o])
def S_BodyOf_c18_cut (k : Nat) : Cut D := cutS ⟨[(2, .hole), (7, .hole), (18, .hole)], []⟩ [.ks, .ks, .kb] (fun (x : (List UInt8) × (List UInt8) × Bool × Unit) => S_BodyOf_c18 k x.1 x.2.1 x.2.2.1) S_BodyOf_c18_L
def S_BodyOf_c18_cu (k : Nat) : Cuts D := ⟨[], []⟩
theorem S_BodyOf_c18_ok (k : Nat) : CutFor X S_BodyOf_pl k Go.Proofs.Try.f20.results.toList (S_BodyOf_c18_cut k) (sub (bodyOf Go.Proofs.Try.f20) [1, 1, 1, 0, 1]) :=
  joinCut_s (X := X) (sg := [.ks, .ks, .kb]) (cu := S_BodyOf_c18_cu k) (cl := S_BodyOf_cl k) (tys := [[0]]) (S_BodyOf_ck k) (cutOK_of (l := []) (by kernel_rfl) trivial) fun x Q R h => by
    simp only [S_BodyOf_c18, optK_bind, optK_bif, optK_pure, optK_none, optK_oc, optK_guardT, optK_map] at h
    refine hold_of h ?_
    kernel_rfl
def S_BodyOf_cu (k : Nat) : Cuts D := ⟨[], [(11, some (S_BodyOf_c11_cut k)), (18, some (S_BodyOf_c18_cut k))]⟩
def S_BodyOf_ar : List Ar := [.a [.ki .i64, .ks, .kb], .c (.ks), .c (.ks)]
def S_BodyOf_f (k : Nat) (x : TupA D S_BodyOf_ar) : Option ((List UInt8)) := S_BodyOf k (⟨x.1.1, x.1.2.1, x.1.2.2.1⟩ : IVersion) x.2.1 x.2.2.1
def S_BodyOf_vr (r : (List UInt8)) : VR D := .p (.c (.str r))
theorem S_BodyOf_ok (k : Nat) : Does P X 20 S_BodyOf_ar (S_BodyOf_f k) S_BodyOf_vr :=
  does_of (body := bodyOf Go.Proofs.Try.f20) (pl := S_BodyOf_pl) (k := k) (cu := S_BodyOf_cu k) (tys := [[0]]) (S_BodyOf_ck k) ctx mixed Go.Proofs.Try.func20 (by kernel_rfl) (by kernel_rfl) (cutOK_of (l := [(S_BodyOf_c11_cut k, sub (bodyOf Go.Proofs.Try.f20) [1, 1, 0, 1]), (S_BodyOf_c18_cut k, sub (bodyOf Go.Proofs.Try.f20) [1, 1, 1, 0, 1])]) (by kernel_rfl) ⟨S_BodyOf_c11_ok k, S_BodyOf_c18_ok k, trivial⟩) fun x R h => by
    simp only [S_BodyOf_f, S_BodyOf, optK_bind, optK_bif, optK_pure, optK_none, optK_oc, optK_guardT, optK_map] at h
    refine hold_of h ?_
    kernel_rfl
def S_BodyOf_en (k : Nat) : Entry D := entS S_BodyOf_ar (S_BodyOf_f k) S_BodyOf_vr
theorem S_BodyOf_eo (k : Nat) : EntryOK X 20 (S_BodyOf_en k) := (S_BodyOf_ok k).en rfl
def I_BodyOf_pl : Plan := ⟨[(0, [(1, none), (2, none), (3, none)]), (1, [(1, none), (2, none), (7, none)]), (2, [(1, none), (2, none), (7, none), (11, none)]), (3, [(2, none), (7, none)]), (4, [(2, none), (7, none), (18, none)]), (5, [(7, none)]), (6, [(6, none)])],
  [],
  [(11, ([(1, none), (2, none), (7, none)], [(2, none), (7, none)])), (18, ([(2, none), (7, none)], [(7, none)]))]⟩
def I_BodyOf_cl (k : Nat) : Calls' D := ⟨[], []⟩
theorem I_BodyOf_ck (k : Nat) : CallsOK X (I_BodyOf_cl k) := .nil cod
def I_BodyOf_c11_L (x : (List UInt8) × (List UInt8) × (List UInt8) × Bool × Unit) (o : (List UInt8)) (Q : Ex → VSt D → Prop) (R : VR D → Prop) : Prop := Q .normal (mkSt ⟨[(2, .hole), (7, .hole)], []⟩ [.str x.2.1, .str o])
def I_BodyOf_c11_cut (k : Nat) : Cut D := cutS ⟨[(1, .hole), (2, .hole), (7, .hole), (11, .hole)], []⟩ [.ks, .ks, .ks, .kb] (fun (x : (List UInt8) × (List UInt8) × (List UInt8) × Bool × Unit) => I_BodyOf_c11 k x.1 x.2.1 x.2.2.1 x.2.2.2.1) I_BodyOf_c11_L
def I_BodyOf_c11_cu (k : Nat) : Cuts D := ⟨[], []⟩
theorem I_BodyOf_c11_ok (k : Nat) : CutFor X I_BodyOf_pl k Go.Proofs.Try.f22.results.toList (I_BodyOf_c11_cut k) (sub (bodyOf Go.Proofs.Try.f22) [1, 1, 0, 1]) :=
  joinCut_s (X := X) (sg := [.ks, .ks, .ks, .kb]) (cu := I_BodyOf_c11_cu k) (cl := I_BodyOf_cl k) (tys := [[0]]) (I_BodyOf_ck k) (cutOK_of (l := []) (by kernel_rfl) trivial) fun x Q R h => by
    simp only [I_BodyOf_c11, optK_bind, optK_bif, optK_pure, optK_none, optK_oc, optK_guardT, optK_map] at h
    refine hold_of h ?_
    kernel_rfl
def I_BodyOf_c18_L (x : (List UInt8) × (List UInt8) × Bool × Unit) (o : (List UInt8)) (Q : Ex → VSt D → Prop) (R : VR D → Prop) : Prop := Q .normal (mkSt ⟨[(7, .hole)], []⟩ [.str o])
def I_BodyOf_c18_cut (k : Nat) : Cut D := cutS ⟨[(2, .hole), (7, .hole), (18, .hole)], []⟩ [.ks, .ks, .kb] (fun (x : (List UInt8) × (List UInt8) × Bool × Unit) => I_BodyOf_c18 k x.1 x.2.1 x.2.2.1) I_BodyOf_c18_L
def I_BodyOf_c18_cu (k : Nat) : Cuts D := ⟨[], []⟩
theorem I_BodyOf_c18_ok (k : Nat) : CutFor X I_BodyOf_pl k Go.Proofs.Try.f22.results.toList (I_BodyOf_c18_cut k) (sub (bodyOf Go.Proofs.Try.f22) [1, 1, 1, 0, 1]) :=
  joinCut_s (X := X) (sg := [.ks, .ks, .kb]) (cu := I_BodyOf_c18_cu k) (cl := I_BodyOf_cl k) (tys := [[0]]) (I_BodyOf_ck k) (cutOK_of (l := []) (by kernel_rfl) trivial) fun x Q R h => by
    simp only [I_BodyOf_c18, optK_bind, optK_bif, optK_pure, optK_none, optK_oc, optK_guardT, optK_map] at h
    refine hold_of h ?_
    kernel_rfl
def I_BodyOf_cu (k : Nat) : Cuts D := ⟨[], [(11, some (I_BodyOf_c11_cut k)), (18, some (I_BodyOf_c18_cut k))]⟩
def I_BodyOf_ar : List Ar := [.a [.ki .i64, .ks, .kb], .c (.ks), .c (.ks)]
def I_BodyOf_f (k : Nat) (x : TupA D I_BodyOf_ar) : Option ((List UInt8)) := I_BodyOf k (⟨x.1.1, x.1.2.1, x.1.2.2.1⟩ : IVersion) x.2.1 x.2.2.1
def I_BodyOf_vr (r : (List UInt8)) : VR D := .p (.c (.str r))
theorem I_BodyOf_ok (k : Nat) : Does P X 22 I_BodyOf_ar (I_BodyOf_f k) I_BodyOf_vr :=
  does_of (body := bodyOf Go.Proofs.Try.f22) (pl := I_BodyOf_pl) (k := k) (cu := I_BodyOf_cu k) (tys := [[0]]) (I_BodyOf_ck k) ctx mixed Go.Proofs.Try.func22 (by kernel_rfl) (by kernel_rfl) (cutOK_of (l := [(I_BodyOf_c11_cut k, sub (bodyOf Go.Proofs.Try.f22) [1, 1, 0, 1]), (I_BodyOf_c18_cut k, sub (bodyOf Go.Proofs.Try.f22) [1, 1, 1, 0, 1])]) (by kernel_rfl) ⟨I_BodyOf_c11_ok k, I_BodyOf_c18_ok k, trivial⟩) fun x R h => by
    simp only [I_BodyOf_f, I_BodyOf, optK_bind, optK_bif, optK_pure, optK_none, optK_oc, optK_guardT, optK_map] at h
    refine hold_of h ?_
    kernel_rfl
def I_BodyOf_en (k : Nat) : Entry D := entS I_BodyOf_ar (I_BodyOf_f k) I_BodyOf_vr
theorem I_BodyOf_eo (k : Nat) : EntryOK X 22 (I_BodyOf_en k) := (I_BodyOf_ok k).en rfl
def L_FnExactBodyOf_pl : Plan := ⟨[(0, [(1, none), (2, none), (3, none)]), (1, [(1, none), (2, none), (3, none), (12, none)]), (2, [(6, none)]), (3, [(1, none), (2, none), (3, none), (15, none)]), (4, [(6, none)]), (5, [(1, none), (2, none), (3, none), (7, none)]), (6, [(1, none), (2, none), (3, none), (7, none)]), (7, [(1, none), (2, none), (3, none), (20, none)]), (8, [(6, none)]), (9, [(1, none), (2, none), (3, none), (8, none)]), (10, [(8, none), (9, none)]), (11, [(33, none)]), (12, [(6, none)]), (13, [(6, none)])],
  [],
  [(12, ([], [(1, none), (2, none), (3, none)])), (15, ([], [(1, none), (2, none), (3, none)])), (20, ([], [(1, none), (2, none), (3, none)])), (33, ([], []))]⟩
def L_FnExactBodyOf_cl (k : Nat) : Calls' D := ⟨[(19, L_szVersion_en k), (21, L_toVersion_en k), (20, S_BodyOf_en k), (22, I_BodyOf_en k)], []⟩
theorem L_FnExactBodyOf_ck (k : Nat) : CallsOK X (L_FnExactBodyOf_cl k) := .cons (L_szVersion_eo k) (.cons (L_toVersion_eo k) (.cons (S_BodyOf_eo k) (.cons (I_BodyOf_eo k) (.nil cod))))
def L_FnExactBodyOf_cu (k : Nat) : Cuts D := ⟨[], []⟩
def L_FnExactBodyOf_ar : List Ar := [.a [.ki .i64, .ks, .kb], .c (.ks), .c (.ks)]
def L_FnExactBodyOf_f (k : Nat) (x : TupA D L_FnExactBodyOf_ar) : Option (Bool) := L_FnExactBodyOf k (⟨x.1.1, x.1.2.1, x.1.2.2.1⟩ : LVersion) x.2.1 x.2.2.1
def L_FnExactBodyOf_vr (r : Bool) : VR D := .p (.c (.bool r))
theorem L_FnExactBodyOf_ok (k : Nat) : Does P X 5 L_FnExactBodyOf_ar (L_FnExactBodyOf_f k) L_FnExactBodyOf_vr :=
  does_of (body := bodyOf Go.Proofs.Try.f5) (pl := L_FnExactBodyOf_pl) (k := k) (cu := L_FnExactBodyOf_cu k) (tys := [[0]]) (L_FnExactBodyOf_ck k) ctx mixed Go.Proofs.Try.func5 (by kernel_rfl) (by kernel_rfl) (cutOK_of (l := []) (by kernel_rfl) trivial) fun x R h => by
    simp only [L_FnExactBodyOf_f, L_FnExactBodyOf, optK_bind, optK_bif, optK_pure, optK_none, optK_oc, optK_guardT, optK_map] at h
    refine hold_of h ?_
    kernel_rfl
def L_FnExactBodyOf_en (k : Nat) : Entry D := entS L_FnExactBodyOf_ar (L_FnExactBodyOf_f k) L_FnExactBodyOf_vr
theorem L_FnExactBodyOf_eo (k : Nat) : EntryOK X 5 (L_FnExactBodyOf_en k) := (L_FnExactBodyOf_ok k).en rfl

end
end Go.Ytilbenelefdihaa
