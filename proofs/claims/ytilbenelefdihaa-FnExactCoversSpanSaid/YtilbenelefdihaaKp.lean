/- The machine computes the functions. Nothing is claimed here. -/
import Derived.Test.YtilbenelefdihaaKf
set_option linter.unusedVariables false
set_option linter.unusedSimpArgs false
set_option maxRecDepth 100000
namespace Go.Ytilbenelefdihaa
open Go Go.RowKit Go.Pv
noncomputable section

def L_szSpanS_pl : Plan := ⟨[(0, [(0, some 34), (1, none)]), (1, [(1, none)]), (2, [(1, none), (10, none)]), (3, [(4, none)]), (4, [(4, none)])],
  [],
  [(10, ([], [(1, none)]))]⟩
def L_szSpanS_cl (k : Nat) : Calls' D := ⟨[], []⟩
theorem L_szSpanS_ck (k : Nat) : CallsOK X (L_szSpanS_cl k) := .nil cod
def L_szSpanS_cu (k : Nat) : Cuts D := ⟨[], []⟩
def L_szSpanS_ar : List Ar := [.c (.kl 34), .c (.ki .i64)]
def L_szSpanS_f (k : Nat) (x : TupA D L_szSpanS_ar) : Option (Int) := L_szSpanS k x.1 x.2.1
def L_szSpanS_vr (r : Int) : VR D := .p (.c (.int .i64 r))
theorem L_szSpanS_ok (k : Nat) : Does P X 23 L_szSpanS_ar (L_szSpanS_f k) L_szSpanS_vr :=
  does_of (body := bodyOf Go.Proofs.Try.f23) (pl := L_szSpanS_pl) (k := k) (cu := L_szSpanS_cu k) (tys := [[0]]) (L_szSpanS_ck k) ctx mixed Go.Proofs.Try.func23 (by kernel_rfl) (by kernel_rfl) (cutOK_of (l := []) (by kernel_rfl) trivial) fun x R h => by
    simp only [L_szSpanS_f, L_szSpanS, optK_bind, optK_bif, optK_pure, optK_none, optK_oc, optK_guardT, optK_map] at h
    refine hold_of h ?_
    kernel_rfl
def L_szSpanS_en (k : Nat) : Entry D := entS L_szSpanS_ar (L_szSpanS_f k) L_szSpanS_vr
theorem L_szSpanS_eo (k : Nat) : EntryOK X 23 (L_szSpanS_en k) := (L_szSpanS_ok k).en rfl
def L_toSpan_pl : Plan := ⟨[(0, [(1, none), (2, none)]), (1, [(1, none), (2, none), (3, none)]), (2, [(1, none), (2, none), (3, none)]), (3, [(2, none), (3, none)]), (4, [(2, none)])],
  [],
  []⟩
def L_toSpan_cl (k : Nat) : Calls' D := ⟨[], []⟩
theorem L_toSpan_ck (k : Nat) : CallsOK X (L_toSpan_cl k) := .nil cod
def L_toSpan_cu (k : Nat) : Cuts D := ⟨[], []⟩
def L_toSpan_ar : List Ar := [.a [.ki .i64, .ki .i64]]
def L_toSpan_f (k : Nat) (x : TupA D L_toSpan_ar) : Option (ISpan) := L_toSpan k (⟨x.1.1, x.1.2.1⟩ : LSpan)
def L_toSpan_vr (r : ISpan) : VR D := .p (.agg [.int .i64 r.From, .int .i64 r.To])
theorem L_toSpan_ok (k : Nat) : Does P X 26 L_toSpan_ar (L_toSpan_f k) L_toSpan_vr :=
  does_of (body := bodyOf Go.Proofs.Try.f26) (pl := L_toSpan_pl) (k := k) (cu := L_toSpan_cu k) (tys := [[0, 0]]) (L_toSpan_ck k) ctx mixed Go.Proofs.Try.func26 (by kernel_rfl) (by kernel_rfl) (cutOK_of (l := []) (by kernel_rfl) trivial) fun x R h => by
    simp only [L_toSpan_f, L_toSpan, optK_bind, optK_bif, optK_pure, optK_none, optK_oc, optK_guardT, optK_map] at h
    refine hold_of h ?_
    kernel_rfl
def L_toSpan_en (k : Nat) : Entry D := entS L_toSpan_ar (L_toSpan_f k) L_toSpan_vr
theorem L_toSpan_eo (k : Nat) : EntryOK X 26 (L_toSpan_en k) := (L_toSpan_ok k).en rfl
def L_toSpanS_pl : Plan := ⟨[(0, [(0, some 34)]), (1, [(0, some 34), (3, some 39)]), (2, [(0, some 34), (3, some 39), (4, none)]), (3, [(0, some 34), (3, some 39), (4, none), (11, none)]), (4, [(0, some 34), (3, some 39), (4, none)]), (5, [(0, some 34), (3, some 39), (4, none)]), (6, [(2, some 39)])],
  [(0, [(3, some 39)]), (1, [(0, some 34), (3, some 39), (4, none)])],
  [(11, ([(0, some 34), (3, some 39), (4, none)], [(3, some 39)]))]⟩
def L_toSpanS_cl (k : Nat) : Calls' D := ⟨[(26, L_toSpan_en k)], []⟩
theorem L_toSpanS_ck (k : Nat) : CallsOK X (L_toSpanS_cl k) := .cons (L_toSpan_eo k) (.nil cod)
def L_toSpanS_b0_L (x : (List LSpan) × Int × (List ISpan) × Unit) (o : (List ISpan)) (Q : Ex → VSt D → Prop) (R : VR D → Prop) : Prop := Q .normal (mkSt ⟨[(3, .ref 500003)], [(500003, .row)]⟩ [.sl 39 o])
def L_toSpanS_b0_cut (k : Nat) : Cut D := cutS ⟨[(0, .hole), (3, .ref 500003), (4, .hole)], [(500003, .row)]⟩ [.kl 34, .ki .i64, .kl 39] (fun (x : (List LSpan) × Int × (List ISpan) × Unit) => L_toSpanS_b0 k k x.1 x.2.1 x.2.2.1) L_toSpanS_b0_L
def L_toSpanS_b0_cu (k : Nat) : Cuts D := ⟨[], []⟩
theorem L_toSpanS_b0_ok (k : Nat) : CutFor X L_toSpanS_pl k Go.Proofs.Try.f25.results.toList (L_toSpanS_b0_cut k) (sub (bodyOf Go.Proofs.Try.f25) [1, 1, 0, 1]) :=
  loopCut_s (X := X) (sg := [.kl 34, .ki .i64, .kl 39]) (cu := L_toSpanS_b0_cu k) (cl := L_toSpanS_cl k) (tys := [[39]]) (id := 0) (c := sub (bodyOf Go.Proofs.Try.f25) [1, 1, 0, 1, 0, 0]) (f := fun n => fun (x : (List LSpan) × Int × (List ISpan) × Unit) => L_toSpanS_b0 k n x.1 x.2.1 x.2.2.1) (L_toSpanS_ck k) (cutOK_of (l := []) (by kernel_rfl) trivial) (fun _ => rfl) (fun n x Q R h => by
    simp only [L_toSpanS_b0, optK_bind, optK_bif, optK_pure, optK_none, optK_oc, optK_guardT, optK_map] at h
    refine hold_of h ?_
    kernel_rfl) (by kernel_rfl)
def L_toSpanS_cu (k : Nat) : Cuts D := ⟨[(0, some (L_toSpanS_b0_cut k))], []⟩
def L_toSpanS_ar : List Ar := [.c (.kl 34)]
def L_toSpanS_f (k : Nat) (x : TupA D L_toSpanS_ar) : Option ((List ISpan)) := L_toSpanS k x.1
def L_toSpanS_vr (r : (List ISpan)) : VR D := .p (.c (.sl 39 r))
theorem L_toSpanS_ok (k : Nat) : Does P X 25 L_toSpanS_ar (L_toSpanS_f k) L_toSpanS_vr :=
  does_of (body := bodyOf Go.Proofs.Try.f25) (pl := L_toSpanS_pl) (k := k) (cu := L_toSpanS_cu k) (tys := [[39]]) (L_toSpanS_ck k) ctx mixed Go.Proofs.Try.func25 (by kernel_rfl) (by kernel_rfl) (cutOK_of (l := [(L_toSpanS_b0_cut k, sub (bodyOf Go.Proofs.Try.f25) [1, 1, 0, 1])]) (by kernel_rfl) ⟨L_toSpanS_b0_ok k, trivial⟩) fun x R h => by
    simp only [L_toSpanS_f, L_toSpanS, optK_bind, optK_bif, optK_pure, optK_none, optK_oc, optK_guardT, optK_map] at h
    refine hold_of h ?_
    kernel_rfl
def L_toSpanS_en (k : Nat) : Entry D := entS L_toSpanS_ar (L_toSpanS_f k) L_toSpanS_vr
theorem L_toSpanS_eo (k : Nat) : EntryOK X 25 (L_toSpanS_en k) := (L_toSpanS_ok k).en rfl
def S_CoversSpan_pl : Plan := ⟨[(0, [(0, some 39), (3, none)]), (1, [(0, some 39), (3, none), (5, none)]), (2, [(0, some 39), (3, none), (5, none), (9, none)]), (3, [(0, some 39), (3, none), (5, none)]), (4, [(0, some 39), (3, none), (5, none), (29, none)]), (5, [(4, none)]), (6, [(4, none)])],
  [(0, [(3, none)]), (1, [(0, some 39), (3, none), (5, none)])],
  [(9, ([(0, some 39), (3, none), (5, none)], [(3, none)])), (29, ([], [(0, some 39), (3, none), (5, none)]))]⟩
def S_CoversSpan_cl (k : Nat) : Calls' D := ⟨[], []⟩
theorem S_CoversSpan_ck (k : Nat) : CallsOK X (S_CoversSpan_cl k) := .nil cod
def S_CoversSpan_b0_L (x : (List ISpan) × Int × Int × Int × Unit) (o : Oc (Unit) (Bool)) (Q : Ex → VSt D → Prop) (R : VR D → Prop) : Prop := ocP o (fun v0 => Q .normal (mkSt ⟨[(3, .ptr 3 0)], [(3, .var [.hole, .hole])]⟩ [.int .i64 x.2.2.1, .int .i64 x.2.2.2.1])) (fun w0 => R (.p (.c (.bool w0))))
def S_CoversSpan_b0_cut (k : Nat) : Cut D := cutS ⟨[(0, .hole), (3, .ptr 3 0), (5, .hole)], [(3, .var [.hole, .hole])]⟩ [.kl 39, .ki .i64, .ki .i64, .ki .i64] (fun (x : (List ISpan) × Int × Int × Int × Unit) => S_CoversSpan_b0 k k x.1 x.2.1 x.2.2.1 x.2.2.2.1) S_CoversSpan_b0_L
def S_CoversSpan_b0_cu (k : Nat) : Cuts D := ⟨[], []⟩
theorem S_CoversSpan_b0_ok (k : Nat) : CutFor X S_CoversSpan_pl k Go.Proofs.Try.f24.results.toList (S_CoversSpan_b0_cut k) (sub (bodyOf Go.Proofs.Try.f24) [1, 0, 1]) :=
  loopCut_s (X := X) (sg := [.kl 39, .ki .i64, .ki .i64, .ki .i64]) (cu := S_CoversSpan_b0_cu k) (cl := S_CoversSpan_cl k) (tys := [[0]]) (id := 0) (c := sub (bodyOf Go.Proofs.Try.f24) [1, 0, 1, 0, 0]) (f := fun n => fun (x : (List ISpan) × Int × Int × Int × Unit) => S_CoversSpan_b0 k n x.1 x.2.1 x.2.2.1 x.2.2.2.1) (S_CoversSpan_ck k) (cutOK_of (l := []) (by kernel_rfl) trivial) (fun _ => rfl) (fun n x Q R h => by
    simp only [S_CoversSpan_b0, optK_bind, optK_bif, optK_pure, optK_none, optK_oc, optK_guardT, optK_map] at h
    refine hold_of h ?_
    kernel_rfl) (by kernel_rfl)
def S_CoversSpan_cu (k : Nat) : Cuts D := ⟨[(0, some (S_CoversSpan_b0_cut k))], []⟩
def S_CoversSpan_ar : List Ar := [.c (.kl 39), .a [.ki .i64, .ki .i64]]
def S_CoversSpan_f (k : Nat) (x : TupA D S_CoversSpan_ar) : Option (Bool) := S_CoversSpan k x.1 (⟨x.2.1.1, x.2.1.2.1⟩ : ISpan)
def S_CoversSpan_vr (r : Bool) : VR D := .p (.c (.bool r))
theorem S_CoversSpan_ok (k : Nat) : Does P X 24 S_CoversSpan_ar (S_CoversSpan_f k) S_CoversSpan_vr :=
  does_of (body := bodyOf Go.Proofs.Try.f24) (pl := S_CoversSpan_pl) (k := k) (cu := S_CoversSpan_cu k) (tys := [[0]]) (S_CoversSpan_ck k) ctx mixed Go.Proofs.Try.func24 (by kernel_rfl) (by kernel_rfl) (cutOK_of (l := [(S_CoversSpan_b0_cut k, sub (bodyOf Go.Proofs.Try.f24) [1, 0, 1])]) (by kernel_rfl) ⟨S_CoversSpan_b0_ok k, trivial⟩) fun x R h => by
    simp only [S_CoversSpan_f, S_CoversSpan, optK_bind, optK_bif, optK_pure, optK_none, optK_oc, optK_guardT, optK_map] at h
    refine hold_of h ?_
    kernel_rfl
def S_CoversSpan_en (k : Nat) : Entry D := entS S_CoversSpan_ar (S_CoversSpan_f k) S_CoversSpan_vr
theorem S_CoversSpan_eo (k : Nat) : EntryOK X 24 (S_CoversSpan_en k) := (S_CoversSpan_ok k).en rfl
def I_CoversSpan_1_pl : Plan := ⟨[(0, [(1, none), (2, none)]), (1, [(3, none)])],
  [],
  []⟩
def I_CoversSpan_1_cl (k : Nat) : Calls' D := ⟨[], []⟩
theorem I_CoversSpan_1_ck (k : Nat) : CallsOK X (I_CoversSpan_1_cl k) := .nil cod
def I_CoversSpan_1_cu (k : Nat) : Cuts D := ⟨[], []⟩
def I_CoversSpan_1_ar : List Ar := [.a [.ki .i64, .ki .i64], .x [.ki .i64, .ki .i64]]
def I_CoversSpan_1_f (k : Nat) (x : TupA D I_CoversSpan_1_ar) : Option (Bool) := I_CoversSpan_1 k (⟨x.1.1, x.1.2.1⟩ : ISpan) x.2.1.1 x.2.1.2.1
def I_CoversSpan_1_vr (r : Bool) : VR D := .p (.c (.bool r))
theorem I_CoversSpan_1_ok (k : Nat) : Does P X 60 I_CoversSpan_1_ar (I_CoversSpan_1_f k) I_CoversSpan_1_vr :=
  does_of (body := bodyOf Go.Proofs.Try.f60) (pl := I_CoversSpan_1_pl) (k := k) (cu := I_CoversSpan_1_cu k) (tys := [[0]]) (I_CoversSpan_1_ck k) ctx mixed Go.Proofs.Try.func60 (by kernel_rfl) (by kernel_rfl) (cutOK_of (l := []) (by kernel_rfl) trivial) fun x R h => by
    simp only [I_CoversSpan_1_f, I_CoversSpan_1, optK_bind, optK_bif, optK_pure, optK_none, optK_oc, optK_guardT, optK_map] at h
    refine hold_of h ?_
    kernel_rfl
def I_CoversSpan_1_en (k : Nat) : Entry D := entS I_CoversSpan_1_ar (I_CoversSpan_1_f k) I_CoversSpan_1_vr
theorem I_CoversSpan_1_eo (k : Nat) : EntryOK X 60 (I_CoversSpan_1_en k) := (I_CoversSpan_1_ok k).en rfl
def slices_IndexFunc_ISpan_at_I_CoversSpan_1_pl : Plan := ⟨[(0, [(0, some 39), (1, none)]), (1, [(0, some 39), (1, none), (7, none), (8, none)]), (2, [(0, some 39), (1, none), (7, none), (8, none), (9, none)]), (3, [(0, some 39), (1, none), (5, none), (7, none), (8, none)]), (4, [(0, some 39), (1, none), (5, none), (7, none), (8, none), (16, none)]), (5, [(4, none)]), (6, [(0, some 39), (1, none), (7, none), (8, none)]), (7, [(4, none)])],
  [(0, []), (1, [(0, some 39), (1, none), (7, none), (8, none)])],
  [(9, ([(0, some 39), (1, none), (7, none), (8, none)], [])), (16, ([(5, none)], [(0, some 39), (1, none), (7, none), (8, none)]))]⟩
def slices_IndexFunc_ISpan_at_I_CoversSpan_1_cl (k : Nat) : Calls' D := ⟨[(60, I_CoversSpan_1_en k)], []⟩
theorem slices_IndexFunc_ISpan_at_I_CoversSpan_1_ck (k : Nat) : CallsOK X (slices_IndexFunc_ISpan_at_I_CoversSpan_1_cl k) := .cons (I_CoversSpan_1_eo k) (.nil cod)
def slices_IndexFunc_ISpan_at_I_CoversSpan_1_b0_L (x : (List ISpan) × Int × Int × Int × Int × Unit) (o : Oc (Unit) (Int)) (Q : Ex → VSt D → Prop) (R : VR D → Prop) : Prop := ocP o (fun v0 => Q .normal (mkSt ⟨[], []⟩ [])) (fun w0 => R (.p (.c (.int .i64 w0))))
def slices_IndexFunc_ISpan_at_I_CoversSpan_1_b0_cut (k : Nat) : Cut D := cutS ⟨[(0, .hole), (1, .clo 60 [.rptr 2]), (7, .hole), (8, .hole)], []⟩ [.kl 39, .ki .i64, .ki .i64, .ki .i64, .ki .i64] (fun (x : (List ISpan) × Int × Int × Int × Int × Unit) => slices_IndexFunc_ISpan_at_I_CoversSpan_1_b0 k k x.1 x.2.1 x.2.2.1 x.2.2.2.1 x.2.2.2.2.1) slices_IndexFunc_ISpan_at_I_CoversSpan_1_b0_L
def slices_IndexFunc_ISpan_at_I_CoversSpan_1_b0_cu (k : Nat) : Cuts D := ⟨[], []⟩
theorem slices_IndexFunc_ISpan_at_I_CoversSpan_1_b0_ok (k : Nat) : CutFor X slices_IndexFunc_ISpan_at_I_CoversSpan_1_pl k Go.Proofs.Try.f79.results.toList (slices_IndexFunc_ISpan_at_I_CoversSpan_1_b0_cut k) (sub (bodyOf Go.Proofs.Try.f79) [1, 0, 1]) :=
  loopCut_s (X := X) (sg := [.kl 39, .ki .i64, .ki .i64, .ki .i64, .ki .i64]) (cu := slices_IndexFunc_ISpan_at_I_CoversSpan_1_b0_cu k) (cl := slices_IndexFunc_ISpan_at_I_CoversSpan_1_cl k) (tys := [[0]]) (id := 0) (c := sub (bodyOf Go.Proofs.Try.f79) [1, 0, 1, 0, 0]) (f := fun n => fun (x : (List ISpan) × Int × Int × Int × Int × Unit) => slices_IndexFunc_ISpan_at_I_CoversSpan_1_b0 k n x.1 x.2.1 x.2.2.1 x.2.2.2.1 x.2.2.2.2.1) (slices_IndexFunc_ISpan_at_I_CoversSpan_1_ck k) (cutOK_of (l := []) (by kernel_rfl) trivial) (fun _ => rfl) (fun n x Q R h => by
    simp only [slices_IndexFunc_ISpan_at_I_CoversSpan_1_b0, optK_bind, optK_bif, optK_pure, optK_none, optK_oc, optK_guardT, optK_map] at h
    refine hold_of h ?_
    kernel_rfl) (by kernel_rfl)
def slices_IndexFunc_ISpan_at_I_CoversSpan_1_cu (k : Nat) : Cuts D := ⟨[(0, some (slices_IndexFunc_ISpan_at_I_CoversSpan_1_b0_cut k))], []⟩
def slices_IndexFunc_ISpan_at_I_CoversSpan_1_ar : List Ar := [.c (.kl 39), .f 60 [[.ki .i64, .ki .i64]]]
def slices_IndexFunc_ISpan_at_I_CoversSpan_1_f (k : Nat) (x : TupA D slices_IndexFunc_ISpan_at_I_CoversSpan_1_ar) : Option (Int) := slices_IndexFunc_ISpan_at_I_CoversSpan_1 k x.1 x.2.1.1.1 x.2.1.1.2.1
def slices_IndexFunc_ISpan_at_I_CoversSpan_1_vr (r : Int) : VR D := .p (.c (.int .i64 r))
theorem slices_IndexFunc_ISpan_at_I_CoversSpan_1_ok (k : Nat) : Does P X 79 slices_IndexFunc_ISpan_at_I_CoversSpan_1_ar (slices_IndexFunc_ISpan_at_I_CoversSpan_1_f k) slices_IndexFunc_ISpan_at_I_CoversSpan_1_vr :=
  does_of (body := bodyOf Go.Proofs.Try.f79) (pl := slices_IndexFunc_ISpan_at_I_CoversSpan_1_pl) (k := k) (cu := slices_IndexFunc_ISpan_at_I_CoversSpan_1_cu k) (tys := [[0]]) (slices_IndexFunc_ISpan_at_I_CoversSpan_1_ck k) ctx mixed Go.Proofs.Try.func79 (by kernel_rfl) (by kernel_rfl) (cutOK_of (l := [(slices_IndexFunc_ISpan_at_I_CoversSpan_1_b0_cut k, sub (bodyOf Go.Proofs.Try.f79) [1, 0, 1])]) (by kernel_rfl) ⟨slices_IndexFunc_ISpan_at_I_CoversSpan_1_b0_ok k, trivial⟩) fun x R h => by
    simp only [slices_IndexFunc_ISpan_at_I_CoversSpan_1_f, slices_IndexFunc_ISpan_at_I_CoversSpan_1, optK_bind, optK_bif, optK_pure, optK_none, optK_oc, optK_guardT, optK_map] at h
    refine hold_of h ?_
    kernel_rfl
def slices_IndexFunc_ISpan_at_I_CoversSpan_1_en (k : Nat) : Entry D := entS slices_IndexFunc_ISpan_at_I_CoversSpan_1_ar (slices_IndexFunc_ISpan_at_I_CoversSpan_1_f k) slices_IndexFunc_ISpan_at_I_CoversSpan_1_vr
theorem slices_IndexFunc_ISpan_at_I_CoversSpan_1_eo (k : Nat) : EntryOK X 79 (slices_IndexFunc_ISpan_at_I_CoversSpan_1_en k) := (slices_IndexFunc_ISpan_at_I_CoversSpan_1_ok k).en rfl
def slices_ContainsFunc_ISpan_at_I_CoversSpan_1_pl : Plan := ⟨[(0, [(0, some 39), (1, none)]), (1, [(4, none)])],
  [],
  []⟩
def slices_ContainsFunc_ISpan_at_I_CoversSpan_1_cl (k : Nat) : Calls' D := ⟨[(79, slices_IndexFunc_ISpan_at_I_CoversSpan_1_en k)], []⟩
theorem slices_ContainsFunc_ISpan_at_I_CoversSpan_1_ck (k : Nat) : CallsOK X (slices_ContainsFunc_ISpan_at_I_CoversSpan_1_cl k) := .cons (slices_IndexFunc_ISpan_at_I_CoversSpan_1_eo k) (.nil cod)
def slices_ContainsFunc_ISpan_at_I_CoversSpan_1_cu (k : Nat) : Cuts D := ⟨[], []⟩
def slices_ContainsFunc_ISpan_at_I_CoversSpan_1_ar : List Ar := [.c (.kl 39), .f 60 [[.ki .i64, .ki .i64]]]
def slices_ContainsFunc_ISpan_at_I_CoversSpan_1_f (k : Nat) (x : TupA D slices_ContainsFunc_ISpan_at_I_CoversSpan_1_ar) : Option (Bool) := slices_ContainsFunc_ISpan_at_I_CoversSpan_1 k x.1 x.2.1.1.1 x.2.1.1.2.1
def slices_ContainsFunc_ISpan_at_I_CoversSpan_1_vr (r : Bool) : VR D := .p (.c (.bool r))
theorem slices_ContainsFunc_ISpan_at_I_CoversSpan_1_ok (k : Nat) : Does P X 59 slices_ContainsFunc_ISpan_at_I_CoversSpan_1_ar (slices_ContainsFunc_ISpan_at_I_CoversSpan_1_f k) slices_ContainsFunc_ISpan_at_I_CoversSpan_1_vr :=
  does_of (body := bodyOf Go.Proofs.Try.f59) (pl := slices_ContainsFunc_ISpan_at_I_CoversSpan_1_pl) (k := k) (cu := slices_ContainsFunc_ISpan_at_I_CoversSpan_1_cu k) (tys := [[0]]) (slices_ContainsFunc_ISpan_at_I_CoversSpan_1_ck k) ctx mixed Go.Proofs.Try.func59 (by kernel_rfl) (by kernel_rfl) (cutOK_of (l := []) (by kernel_rfl) trivial) fun x R h => by
    simp only [slices_ContainsFunc_ISpan_at_I_CoversSpan_1_f, slices_ContainsFunc_ISpan_at_I_CoversSpan_1, optK_bind, optK_bif, optK_pure, optK_none, optK_oc, optK_guardT, optK_map] at h
    refine hold_of h ?_
    kernel_rfl
def slices_ContainsFunc_ISpan_at_I_CoversSpan_1_en (k : Nat) : Entry D := entS slices_ContainsFunc_ISpan_at_I_CoversSpan_1_ar (slices_ContainsFunc_ISpan_at_I_CoversSpan_1_f k) slices_ContainsFunc_ISpan_at_I_CoversSpan_1_vr
theorem slices_ContainsFunc_ISpan_at_I_CoversSpan_1_eo (k : Nat) : EntryOK X 59 (slices_ContainsFunc_ISpan_at_I_CoversSpan_1_en k) := (slices_ContainsFunc_ISpan_at_I_CoversSpan_1_ok k).en rfl
def I_CoversSpan_pl : Plan := ⟨[(0, [(0, some 39), (3, none)]), (1, [(0, some 39), (3, none), (9, none)]), (2, [(4, none)]), (3, [(4, none)])],
  [],
  [(9, ([], [(0, some 39), (3, none)]))]⟩
def I_CoversSpan_cl (k : Nat) : Calls' D := ⟨[(59, slices_ContainsFunc_ISpan_at_I_CoversSpan_1_en k)], []⟩
theorem I_CoversSpan_ck (k : Nat) : CallsOK X (I_CoversSpan_cl k) := .cons (slices_ContainsFunc_ISpan_at_I_CoversSpan_1_eo k) (.nil cod)
def I_CoversSpan_cu (k : Nat) : Cuts D := ⟨[], []⟩
def I_CoversSpan_ar : List Ar := [.c (.kl 39), .a [.ki .i64, .ki .i64]]
def I_CoversSpan_f (k : Nat) (x : TupA D I_CoversSpan_ar) : Option (Bool) := I_CoversSpan k x.1 (⟨x.2.1.1, x.2.1.2.1⟩ : ISpan)
def I_CoversSpan_vr (r : Bool) : VR D := .p (.c (.bool r))
theorem I_CoversSpan_ok (k : Nat) : Does P X 27 I_CoversSpan_ar (I_CoversSpan_f k) I_CoversSpan_vr :=
  does_of (body := bodyOf Go.Proofs.Try.f27) (pl := I_CoversSpan_pl) (k := k) (cu := I_CoversSpan_cu k) (tys := [[0]]) (I_CoversSpan_ck k) ctx mixed Go.Proofs.Try.func27 (by kernel_rfl) (by kernel_rfl) (cutOK_of (l := []) (by kernel_rfl) trivial) fun x R h => by
    simp only [I_CoversSpan_f, I_CoversSpan, optK_bind, optK_bif, optK_pure, optK_none, optK_oc, optK_guardT, optK_map] at h
    refine hold_of h ?_
    kernel_rfl
def I_CoversSpan_en (k : Nat) : Entry D := entS I_CoversSpan_ar (I_CoversSpan_f k) I_CoversSpan_vr
theorem I_CoversSpan_eo (k : Nat) : EntryOK X 27 (I_CoversSpan_en k) := (I_CoversSpan_ok k).en rfl
def L_eqSpan_pl : Plan := ⟨[(0, [(2, none), (3, none)]), (1, [(2, none), (3, none), (9, none)]), (2, [(4, none)]), (3, [(14, none)]), (4, [(4, none)]), (5, [(4, none)])],
  [],
  [(9, ([], [(2, none), (3, none)])), (14, ([], []))]⟩
def L_eqSpan_cl (k : Nat) : Calls' D := ⟨[], []⟩
theorem L_eqSpan_ck (k : Nat) : CallsOK X (L_eqSpan_cl k) := .nil cod
def L_eqSpan_cu (k : Nat) : Cuts D := ⟨[], []⟩
def L_eqSpan_ar : List Ar := [.a [.ki .i64, .ki .i64], .a [.ki .i64, .ki .i64]]
def L_eqSpan_f (k : Nat) (x : TupA D L_eqSpan_ar) : Option (Bool) := L_eqSpan k (⟨x.1.1, x.1.2.1⟩ : ISpan) (⟨x.2.1.1, x.2.1.2.1⟩ : ISpan)
def L_eqSpan_vr (r : Bool) : VR D := .p (.c (.bool r))
theorem L_eqSpan_ok (k : Nat) : Does P X 61 L_eqSpan_ar (L_eqSpan_f k) L_eqSpan_vr :=
  does_of (body := bodyOf Go.Proofs.Try.f61) (pl := L_eqSpan_pl) (k := k) (cu := L_eqSpan_cu k) (tys := [[0]]) (L_eqSpan_ck k) ctx mixed Go.Proofs.Try.func61 (by kernel_rfl) (by kernel_rfl) (cutOK_of (l := []) (by kernel_rfl) trivial) fun x R h => by
    simp only [L_eqSpan_f, L_eqSpan, optK_bind, optK_bif, optK_pure, optK_none, optK_oc, optK_guardT, optK_map] at h
    refine hold_of h ?_
    kernel_rfl
def L_eqSpan_en (k : Nat) : Entry D := entS L_eqSpan_ar (L_eqSpan_f k) L_eqSpan_vr
theorem L_eqSpan_eo (k : Nat) : EntryOK X 61 (L_eqSpan_en k) := (L_eqSpan_ok k).en rfl
def L_eqSpanS_pl : Plan := ⟨[(0, [(0, some 39), (1, some 39)]), (1, [(0, some 39), (1, some 39), (10, none)]), (2, [(4, none)]), (3, [(0, some 39), (1, some 39), (5, none)]), (4, [(0, some 39), (1, some 39), (5, none), (14, none)]), (5, [(0, some 39), (1, some 39), (5, none)]), (6, [(0, some 39), (1, some 39), (5, none), (26, none)]), (7, [(4, none)]), (8, [(4, none)])],
  [(0, []), (1, [(0, some 39), (1, some 39), (5, none)])],
  [(10, ([], [(0, some 39), (1, some 39)])), (14, ([(0, some 39), (1, some 39), (5, none)], [])), (26, ([], [(0, some 39), (1, some 39), (5, none)]))]⟩
def L_eqSpanS_cl (k : Nat) : Calls' D := ⟨[(61, L_eqSpan_en k)], []⟩
theorem L_eqSpanS_ck (k : Nat) : CallsOK X (L_eqSpanS_cl k) := .cons (L_eqSpan_eo k) (.nil cod)
def L_eqSpanS_b0_L (x : (List ISpan) × (List ISpan) × Int × Unit) (o : Oc (Unit) (Bool)) (Q : Ex → VSt D → Prop) (R : VR D → Prop) : Prop := ocP o (fun v0 => Q .normal (mkSt ⟨[], []⟩ [])) (fun w0 => R (.p (.c (.bool w0))))
def L_eqSpanS_b0_cut (k : Nat) : Cut D := cutS ⟨[(0, .hole), (1, .hole), (5, .hole)], []⟩ [.kl 39, .kl 39, .ki .i64] (fun (x : (List ISpan) × (List ISpan) × Int × Unit) => L_eqSpanS_b0 k k x.1 x.2.1 x.2.2.1) L_eqSpanS_b0_L
def L_eqSpanS_b0_cu (k : Nat) : Cuts D := ⟨[], []⟩
theorem L_eqSpanS_b0_ok (k : Nat) : CutFor X L_eqSpanS_pl k Go.Proofs.Try.f28.results.toList (L_eqSpanS_b0_cut k) (sub (bodyOf Go.Proofs.Try.f28) [1, 1, 0, 1]) :=
  loopCut_s (X := X) (sg := [.kl 39, .kl 39, .ki .i64]) (cu := L_eqSpanS_b0_cu k) (cl := L_eqSpanS_cl k) (tys := [[0]]) (id := 0) (c := sub (bodyOf Go.Proofs.Try.f28) [1, 1, 0, 1, 0, 0]) (f := fun n => fun (x : (List ISpan) × (List ISpan) × Int × Unit) => L_eqSpanS_b0 k n x.1 x.2.1 x.2.2.1) (L_eqSpanS_ck k) (cutOK_of (l := []) (by kernel_rfl) trivial) (fun _ => rfl) (fun n x Q R h => by
    simp only [L_eqSpanS_b0, optK_bind, optK_bif, optK_pure, optK_none, optK_oc, optK_guardT, optK_map] at h
    refine hold_of h ?_
    kernel_rfl) (by kernel_rfl)
def L_eqSpanS_cu (k : Nat) : Cuts D := ⟨[(0, some (L_eqSpanS_b0_cut k))], []⟩
def L_eqSpanS_ar : List Ar := [.c (.kl 39), .c (.kl 39)]
def L_eqSpanS_f (k : Nat) (x : TupA D L_eqSpanS_ar) : Option (Bool) := L_eqSpanS k x.1 x.2.1
def L_eqSpanS_vr (r : Bool) : VR D := .p (.c (.bool r))
theorem L_eqSpanS_ok (k : Nat) : Does P X 28 L_eqSpanS_ar (L_eqSpanS_f k) L_eqSpanS_vr :=
  does_of (body := bodyOf Go.Proofs.Try.f28) (pl := L_eqSpanS_pl) (k := k) (cu := L_eqSpanS_cu k) (tys := [[0]]) (L_eqSpanS_ck k) ctx mixed Go.Proofs.Try.func28 (by kernel_rfl) (by kernel_rfl) (cutOK_of (l := [(L_eqSpanS_b0_cut k, sub (bodyOf Go.Proofs.Try.f28) [1, 1, 0, 1])]) (by kernel_rfl) ⟨L_eqSpanS_b0_ok k, trivial⟩) fun x R h => by
    simp only [L_eqSpanS_f, L_eqSpanS, optK_bind, optK_bif, optK_pure, optK_none, optK_oc, optK_guardT, optK_map] at h
    refine hold_of h ?_
    kernel_rfl
def L_eqSpanS_en (k : Nat) : Entry D := entS L_eqSpanS_ar (L_eqSpanS_f k) L_eqSpanS_vr
theorem L_eqSpanS_eo (k : Nat) : EntryOK X 28 (L_eqSpanS_en k) := (L_eqSpanS_ok k).en rfl
def L_FnExactCoversSpan_pl : Plan := ⟨[(0, [(0, some 34), (3, none)]), (1, [(0, some 34), (3, none), (5, none)]), (2, [(0, some 34), (3, none), (5, none)]), (3, [(0, some 34), (3, none), (13, none)]), (4, [(4, none)]), (5, [(0, some 34), (3, none), (6, none)]), (6, [(0, some 34), (3, none), (6, none), (7, some 39)]), (7, [(0, some 34), (6, none), (7, some 39), (8, none)]), (8, [(0, some 34), (7, some 39), (27, none)]), (9, [(4, none)]), (10, [(32, none)]), (11, [(4, none)]), (12, [(4, none)])],
  [],
  [(13, ([], [(0, some 34), (3, none)])), (27, ([], [(0, some 34), (7, some 39)])), (32, ([], []))]⟩
def L_FnExactCoversSpan_cl (k : Nat) : Calls' D := ⟨[(23, L_szSpanS_en k), (25, L_toSpanS_en k), (26, L_toSpan_en k), (24, S_CoversSpan_en k), (27, I_CoversSpan_en k), (28, L_eqSpanS_en k)], []⟩
theorem L_FnExactCoversSpan_ck (k : Nat) : CallsOK X (L_FnExactCoversSpan_cl k) := .cons (L_szSpanS_eo k) (.cons (L_toSpanS_eo k) (.cons (L_toSpan_eo k) (.cons (S_CoversSpan_eo k) (.cons (I_CoversSpan_eo k) (.cons (L_eqSpanS_eo k) (.nil cod))))))
def L_FnExactCoversSpan_cu (k : Nat) : Cuts D := ⟨[], []⟩
def L_FnExactCoversSpan_ar : List Ar := [.c (.kl 34), .a [.ki .i64, .ki .i64]]
def L_FnExactCoversSpan_f (k : Nat) (x : TupA D L_FnExactCoversSpan_ar) : Option (Bool) := L_FnExactCoversSpan k x.1 (⟨x.2.1.1, x.2.1.2.1⟩ : LSpan)
def L_FnExactCoversSpan_vr (r : Bool) : VR D := .p (.c (.bool r))
theorem L_FnExactCoversSpan_ok (k : Nat) : Does P X 6 L_FnExactCoversSpan_ar (L_FnExactCoversSpan_f k) L_FnExactCoversSpan_vr :=
  does_of (body := bodyOf Go.Proofs.Try.f6) (pl := L_FnExactCoversSpan_pl) (k := k) (cu := L_FnExactCoversSpan_cu k) (tys := [[0]]) (L_FnExactCoversSpan_ck k) ctx mixed Go.Proofs.Try.func6 (by kernel_rfl) (by kernel_rfl) (cutOK_of (l := []) (by kernel_rfl) trivial) fun x R h => by
    simp only [L_FnExactCoversSpan_f, L_FnExactCoversSpan, optK_bind, optK_bif, optK_pure, optK_none, optK_oc, optK_guardT, optK_map] at h
    refine hold_of h ?_
    kernel_rfl
def L_FnExactCoversSpan_en (k : Nat) : Entry D := entS L_FnExactCoversSpan_ar (L_FnExactCoversSpan_f k) L_FnExactCoversSpan_vr
theorem L_FnExactCoversSpan_eo (k : Nat) : EntryOK X 6 (L_FnExactCoversSpan_en k) := (L_FnExactCoversSpan_ok k).en rfl

end
end Go.Ytilbenelefdihaa
