/- The machine computes the functions. Nothing is claimed here. -/
import Derived.Test.YtilbenelefdihaaKf
set_option linter.unusedVariables false
set_option linter.unusedSimpArgs false
set_option maxRecDepth 100000
namespace Go.Ytilbenelefdihaa
open Go Go.RowKit Go.Pv
noncomputable section

def L_szQuality_pl : Plan := ⟨[(0, [(1, none), (2, none)]), (1, [(1, none)]), (2, [(1, none), (11, none)]), (3, [(4, none)]), (4, [(4, none)])],
  [],
  [(11, ([], [(1, none)]))]⟩
def L_szQuality_cl (k : Nat) : Calls' D := ⟨[], []⟩
theorem L_szQuality_ck (k : Nat) : CallsOK X (L_szQuality_cl k) := .nil cod
def L_szQuality_cu (k : Nat) : Cuts D := ⟨[], []⟩
def L_szQuality_ar : List Ar := [.a [.ks, .ki .i64], .c (.ki .i64)]
def L_szQuality_f (k : Nat) (x : TupA D L_szQuality_ar) : Option (Int) := L_szQuality k (⟨x.1.1, x.1.2.1⟩ : LQuality) x.2.1
def L_szQuality_vr (r : Int) : VR D := .p (.c (.int .i64 r))
theorem L_szQuality_ok (k : Nat) : Does P X 62 L_szQuality_ar (L_szQuality_f k) L_szQuality_vr :=
  does_of (body := bodyOf Go.Proofs.Try.f62) (pl := L_szQuality_pl) (k := k) (cu := L_szQuality_cu k) (tys := [[0]]) (L_szQuality_ck k) ctx mixed Go.Proofs.Try.func62 (by kernel_rfl) (by kernel_rfl) (cutOK_of (l := []) (by kernel_rfl) trivial) fun x R h => by
    simp only [L_szQuality_f, L_szQuality, optK_bind, optK_bif, optK_pure, optK_none, optK_oc, optK_guardT, optK_map] at h
    refine hold_of h ?_
    kernel_rfl
def L_szQuality_en (k : Nat) : Entry D := entS L_szQuality_ar (L_szQuality_f k) L_szQuality_vr
theorem L_szQuality_eo (k : Nat) : EntryOK X 62 (L_szQuality_en k) := (L_szQuality_ok k).en rfl
def L_szQualityS_pl : Plan := ⟨[(0, [(0, some 83), (1, none)]), (1, [(0, some 83), (1, none)]), (2, [(0, some 83), (1, none), (11, none)]), (3, [(4, none)]), (4, [(0, some 83), (1, none), (5, none)]), (5, [(0, some 83), (1, none), (5, none), (15, none)]), (6, [(0, some 83), (1, none), (5, none)]), (7, [(0, some 83), (1, none), (5, none)]), (8, [(0, some 83), (1, none), (5, none), (25, none)]), (9, [(4, none)]), (10, [(4, none)])],
  [(0, [(1, none)]), (1, [(0, some 83), (1, none), (5, none)])],
  [(11, ([], [(0, some 83), (1, none)])), (15, ([(0, some 83), (1, none), (5, none)], [(1, none)])), (25, ([], [(0, some 83), (1, none), (5, none)]))]⟩
def L_szQualityS_cl (k : Nat) : Calls' D := ⟨[(62, L_szQuality_en k)], []⟩
theorem L_szQualityS_ck (k : Nat) : CallsOK X (L_szQualityS_cl k) := .cons (L_szQuality_eo k) (.nil cod)
def L_szQualityS_b0_L (x : (List LQuality) × Int × Int × Unit) (o : Oc (Int) (Int)) (Q : Ex → VSt D → Prop) (R : VR D → Prop) : Prop := ocP o (fun v0 => Q .normal (mkSt ⟨[(1, .hole)], []⟩ [.int .i64 v0])) (fun w0 => R (.p (.c (.int .i64 w0))))
def L_szQualityS_b0_cut (k : Nat) : Cut D := cutS ⟨[(0, .hole), (1, .hole), (5, .hole)], []⟩ [.kl 83, .ki .i64, .ki .i64] (fun (x : (List LQuality) × Int × Int × Unit) => L_szQualityS_b0 k k x.1 x.2.1 x.2.2.1) L_szQualityS_b0_L
def L_szQualityS_b0_cu (k : Nat) : Cuts D := ⟨[], []⟩
theorem L_szQualityS_b0_ok (k : Nat) : CutFor X L_szQualityS_pl k Go.Proofs.Try.f29.results.toList (L_szQualityS_b0_cut k) (sub (bodyOf Go.Proofs.Try.f29) [1, 1, 1, 0, 1]) :=
  loopCut_s (X := X) (sg := [.kl 83, .ki .i64, .ki .i64]) (cu := L_szQualityS_b0_cu k) (cl := L_szQualityS_cl k) (tys := [[0]]) (id := 0) (c := sub (bodyOf Go.Proofs.Try.f29) [1, 1, 1, 0, 1, 0, 0]) (f := fun n => fun (x : (List LQuality) × Int × Int × Unit) => L_szQualityS_b0 k n x.1 x.2.1 x.2.2.1) (L_szQualityS_ck k) (cutOK_of (l := []) (by kernel_rfl) trivial) (fun _ => rfl) (fun n x Q R h => by
    simp only [L_szQualityS_b0, optK_bind, optK_bif, optK_pure, optK_none, optK_oc, optK_guardT, optK_map] at h
    refine hold_of h ?_
    kernel_rfl) (by kernel_rfl)
def L_szQualityS_cu (k : Nat) : Cuts D := ⟨[(0, some (L_szQualityS_b0_cut k))], []⟩
def L_szQualityS_ar : List Ar := [.c (.kl 83), .c (.ki .i64)]
def L_szQualityS_f (k : Nat) (x : TupA D L_szQualityS_ar) : Option (Int) := L_szQualityS k x.1 x.2.1
def L_szQualityS_vr (r : Int) : VR D := .p (.c (.int .i64 r))
theorem L_szQualityS_ok (k : Nat) : Does P X 29 L_szQualityS_ar (L_szQualityS_f k) L_szQualityS_vr :=
  does_of (body := bodyOf Go.Proofs.Try.f29) (pl := L_szQualityS_pl) (k := k) (cu := L_szQualityS_cu k) (tys := [[0]]) (L_szQualityS_ck k) ctx mixed Go.Proofs.Try.func29 (by kernel_rfl) (by kernel_rfl) (cutOK_of (l := [(L_szQualityS_b0_cut k, sub (bodyOf Go.Proofs.Try.f29) [1, 1, 1, 0, 1])]) (by kernel_rfl) ⟨L_szQualityS_b0_ok k, trivial⟩) fun x R h => by
    simp only [L_szQualityS_f, L_szQualityS, optK_bind, optK_bif, optK_pure, optK_none, optK_oc, optK_guardT, optK_map] at h
    refine hold_of h ?_
    kernel_rfl
def L_szQualityS_en (k : Nat) : Entry D := entS L_szQualityS_ar (L_szQualityS_f k) L_szQualityS_vr
theorem L_szQualityS_eo (k : Nat) : EntryOK X 29 (L_szQualityS_en k) := (L_szQualityS_ok k).en rfl
def L_toQuality_pl : Plan := ⟨[(0, [(1, none), (2, none)]), (1, [(1, none), (2, none), (3, none)]), (2, [(1, none), (2, none), (3, none)]), (3, [(2, none), (3, none)]), (4, [(2, none)])],
  [],
  []⟩
def L_toQuality_cl (k : Nat) : Calls' D := ⟨[], []⟩
theorem L_toQuality_ck (k : Nat) : CallsOK X (L_toQuality_cl k) := .nil cod
def L_toQuality_cu (k : Nat) : Cuts D := ⟨[], []⟩
def L_toQuality_ar : List Ar := [.a [.ks, .ki .i64]]
def L_toQuality_f (k : Nat) (x : TupA D L_toQuality_ar) : Option (IQuality) := L_toQuality k (⟨x.1.1, x.1.2.1⟩ : LQuality)
def L_toQuality_vr (r : IQuality) : VR D := .p (.agg [.str r.Name, .int .i64 r.Q])
theorem L_toQuality_ok (k : Nat) : Does P X 63 L_toQuality_ar (L_toQuality_f k) L_toQuality_vr :=
  does_of (body := bodyOf Go.Proofs.Try.f63) (pl := L_toQuality_pl) (k := k) (cu := L_toQuality_cu k) (tys := [[0, 0]]) (L_toQuality_ck k) ctx mixed Go.Proofs.Try.func63 (by kernel_rfl) (by kernel_rfl) (cutOK_of (l := []) (by kernel_rfl) trivial) fun x R h => by
    simp only [L_toQuality_f, L_toQuality, optK_bind, optK_bif, optK_pure, optK_none, optK_oc, optK_guardT, optK_map] at h
    refine hold_of h ?_
    kernel_rfl
def L_toQuality_en (k : Nat) : Entry D := entS L_toQuality_ar (L_toQuality_f k) L_toQuality_vr
theorem L_toQuality_eo (k : Nat) : EntryOK X 63 (L_toQuality_en k) := (L_toQuality_ok k).en rfl
def L_toQualityS_pl : Plan := ⟨[(0, [(0, some 83)]), (1, [(0, some 83), (3, some 84)]), (2, [(0, some 83), (3, some 84), (4, none)]), (3, [(0, some 83), (3, some 84), (4, none), (11, none)]), (4, [(0, some 83), (3, some 84), (4, none)]), (5, [(0, some 83), (3, some 84), (4, none)]), (6, [(2, some 84)])],
  [(0, [(3, some 84)]), (1, [(0, some 83), (3, some 84), (4, none)])],
  [(11, ([(0, some 83), (3, some 84), (4, none)], [(3, some 84)]))]⟩
def L_toQualityS_cl (k : Nat) : Calls' D := ⟨[(63, L_toQuality_en k)], []⟩
theorem L_toQualityS_ck (k : Nat) : CallsOK X (L_toQualityS_cl k) := .cons (L_toQuality_eo k) (.nil cod)
def L_toQualityS_b0_L (x : (List LQuality) × Int × (List IQuality) × Unit) (o : (List IQuality)) (Q : Ex → VSt D → Prop) (R : VR D → Prop) : Prop := Q .normal (mkSt ⟨[(3, .ref 500003)], [(500003, .row)]⟩ [.sl 84 o])
def L_toQualityS_b0_cut (k : Nat) : Cut D := cutS ⟨[(0, .hole), (3, .ref 500003), (4, .hole)], [(500003, .row)]⟩ [.kl 83, .ki .i64, .kl 84] (fun (x : (List LQuality) × Int × (List IQuality) × Unit) => L_toQualityS_b0 k k x.1 x.2.1 x.2.2.1) L_toQualityS_b0_L
def L_toQualityS_b0_cu (k : Nat) : Cuts D := ⟨[], []⟩
theorem L_toQualityS_b0_ok (k : Nat) : CutFor X L_toQualityS_pl k Go.Proofs.Try.f31.results.toList (L_toQualityS_b0_cut k) (sub (bodyOf Go.Proofs.Try.f31) [1, 1, 0, 1]) :=
  loopCut_s (X := X) (sg := [.kl 83, .ki .i64, .kl 84]) (cu := L_toQualityS_b0_cu k) (cl := L_toQualityS_cl k) (tys := [[84]]) (id := 0) (c := sub (bodyOf Go.Proofs.Try.f31) [1, 1, 0, 1, 0, 0]) (f := fun n => fun (x : (List LQuality) × Int × (List IQuality) × Unit) => L_toQualityS_b0 k n x.1 x.2.1 x.2.2.1) (L_toQualityS_ck k) (cutOK_of (l := []) (by kernel_rfl) trivial) (fun _ => rfl) (fun n x Q R h => by
    simp only [L_toQualityS_b0, optK_bind, optK_bif, optK_pure, optK_none, optK_oc, optK_guardT, optK_map] at h
    refine hold_of h ?_
    kernel_rfl) (by kernel_rfl)
def L_toQualityS_cu (k : Nat) : Cuts D := ⟨[(0, some (L_toQualityS_b0_cut k))], []⟩
def L_toQualityS_ar : List Ar := [.c (.kl 83)]
def L_toQualityS_f (k : Nat) (x : TupA D L_toQualityS_ar) : Option ((List IQuality)) := L_toQualityS k x.1
def L_toQualityS_vr (r : (List IQuality)) : VR D := .p (.c (.sl 84 r))
theorem L_toQualityS_ok (k : Nat) : Does P X 31 L_toQualityS_ar (L_toQualityS_f k) L_toQualityS_vr :=
  does_of (body := bodyOf Go.Proofs.Try.f31) (pl := L_toQualityS_pl) (k := k) (cu := L_toQualityS_cu k) (tys := [[84]]) (L_toQualityS_ck k) ctx mixed Go.Proofs.Try.func31 (by kernel_rfl) (by kernel_rfl) (cutOK_of (l := [(L_toQualityS_b0_cut k, sub (bodyOf Go.Proofs.Try.f31) [1, 1, 0, 1])]) (by kernel_rfl) ⟨L_toQualityS_b0_ok k, trivial⟩) fun x R h => by
    simp only [L_toQualityS_f, L_toQualityS, optK_bind, optK_bif, optK_pure, optK_none, optK_oc, optK_guardT, optK_map] at h
    refine hold_of h ?_
    kernel_rfl
def L_toQualityS_en (k : Nat) : Entry D := entS L_toQualityS_ar (L_toQualityS_f k) L_toQualityS_vr
theorem L_toQualityS_eo (k : Nat) : EntryOK X 31 (L_toQualityS_en k) := (L_toQualityS_ok k).en rfl
def S_QualityOf_pl : Plan := ⟨[(0, [(0, some 84), (1, none)]), (1, [(0, some 84), (1, none), (5, none)]), (2, [(0, some 84), (1, none), (5, none), (6, none)]), (3, [(0, some 84), (1, none), (5, none), (6, none), (12, none)]), (4, [(0, some 84), (1, none), (5, none), (6, none)]), (5, [(0, some 84), (1, none), (5, none), (6, none), (20, none)]), (6, [(0, some 84), (1, none), (5, none), (6, none)]), (7, [(0, some 84), (1, none), (5, none), (7, none)]), (8, [(0, some 84), (1, none), (5, none), (7, none), (29, none)]), (9, [(0, some 84), (1, none), (5, none), (7, none)]), (10, [(0, some 84), (1, none), (5, none), (7, none), (38, none)]), (11, [(4, none)]), (12, [(4, none)])],
  [(0, [(0, some 84), (1, none), (5, none)]), (1, [(0, some 84), (1, none), (5, none), (6, none)]), (2, [(5, none)]), (3, [(0, some 84), (1, none), (5, none), (7, none)])],
  [(12, ([(0, some 84), (1, none), (5, none), (6, none)], [(0, some 84), (1, none), (5, none)])), (20, ([(0, some 84), (1, none), (6, none)], [(0, some 84), (1, none), (5, none), (6, none)])), (29, ([(0, some 84), (1, none), (5, none), (7, none)], [(5, none)])), (38, ([(0, some 84), (7, none)], [(0, some 84), (1, none), (5, none), (7, none)]))]⟩
def S_QualityOf_cl (k : Nat) : Calls' D := ⟨[], []⟩
theorem S_QualityOf_ck (k : Nat) : CallsOK X (S_QualityOf_cl k) := .nil cod
def S_QualityOf_c20_L (x : (List IQuality) × (List UInt8) × Int × Int × Bool × Unit) (o : Int) (Q : Ex → VSt D → Prop) (R : VR D → Prop) : Prop := Q .normal (mkSt ⟨[(0, .hole), (1, .hole), (5, .hole), (6, .hole)], []⟩ [.sl 84 x.1, .str x.2.1, .int .i64 o, .int .i64 x.2.2.2.1])
def S_QualityOf_c20_cut (k : Nat) : Cut D := cutS ⟨[(0, .hole), (1, .hole), (5, .hole), (6, .hole), (20, .hole)], []⟩ [.kl 84, .ks, .ki .i64, .ki .i64, .kb] (fun (x : (List IQuality) × (List UInt8) × Int × Int × Bool × Unit) => S_QualityOf_c20 k x.1 x.2.1 x.2.2.1 x.2.2.2.1 x.2.2.2.2.1) S_QualityOf_c20_L
def S_QualityOf_c20_cu (k : Nat) : Cuts D := ⟨[], []⟩
theorem S_QualityOf_c20_ok (k : Nat) : CutFor X S_QualityOf_pl k Go.Proofs.Try.f30.results.toList (S_QualityOf_c20_cut k) (sub (bodyOf Go.Proofs.Try.f30) [1, 1, 0, 1, 0, 0, 1, 0, 0, 1]) :=
  joinCut_s (X := X) (sg := [.kl 84, .ks, .ki .i64, .ki .i64, .kb]) (cu := S_QualityOf_c20_cu k) (cl := S_QualityOf_cl k) (tys := [[0]]) (S_QualityOf_ck k) (cutOK_of (l := []) (by kernel_rfl) trivial) fun x Q R h => by
    simp only [S_QualityOf_c20, optK_bind, optK_bif, optK_pure, optK_none, optK_oc, optK_guardT, optK_map] at h
    refine hold_of h ?_
    kernel_rfl
def S_QualityOf_b1_L (x : (List IQuality) × (List UInt8) × Int × Int × Unit) (o : Int) (Q : Ex → VSt D → Prop) (R : VR D → Prop) : Prop := Q .normal (mkSt ⟨[(0, .hole), (1, .hole), (5, .hole), (6, .hole)], []⟩ [.sl 84 x.1, .str x.2.1, .int .i64 o, .int .i64 x.2.2.2.1])
def S_QualityOf_b1_cut (k : Nat) : Cut D := cutS ⟨[(0, .hole), (1, .hole), (5, .hole), (6, .hole)], []⟩ [.kl 84, .ks, .ki .i64, .ki .i64] (fun (x : (List IQuality) × (List UInt8) × Int × Int × Unit) => S_QualityOf_b1 k x.1 x.2.1 x.2.2.1 x.2.2.2.1) S_QualityOf_b1_L
def S_QualityOf_b1_cu (k : Nat) : Cuts D := ⟨[], [(20, some (S_QualityOf_c20_cut k))]⟩
theorem S_QualityOf_b1_ok (k : Nat) : CutFor X S_QualityOf_pl k Go.Proofs.Try.f30.results.toList (S_QualityOf_b1_cut k) (sub (bodyOf Go.Proofs.Try.f30) [1, 1, 0, 1, 0, 0, 1, 0]) :=
  joinCut_s (X := X) (sg := [.kl 84, .ks, .ki .i64, .ki .i64]) (cu := S_QualityOf_b1_cu k) (cl := S_QualityOf_cl k) (tys := [[0]]) (S_QualityOf_ck k) (cutOK_of (l := [(S_QualityOf_c20_cut k, sub (bodyOf Go.Proofs.Try.f30) [1, 1, 0, 1, 0, 0, 1, 0, 0, 1])]) (by kernel_rfl) ⟨S_QualityOf_c20_ok k, trivial⟩) fun x Q R h => by
    simp only [S_QualityOf_b1, optK_bind, optK_bif, optK_pure, optK_none, optK_oc, optK_guardT, optK_map] at h
    refine hold_of h ?_
    kernel_rfl
def S_QualityOf_b0_L (x : (List IQuality) × (List UInt8) × Int × Int × Unit) (o : Int) (Q : Ex → VSt D → Prop) (R : VR D → Prop) : Prop := Q .normal (mkSt ⟨[(0, .hole), (1, .hole), (5, .hole)], []⟩ [.sl 84 x.1, .str x.2.1, .int .i64 o])
def S_QualityOf_b0_cut (k : Nat) : Cut D := cutS ⟨[(0, .hole), (1, .hole), (5, .hole), (6, .hole)], []⟩ [.kl 84, .ks, .ki .i64, .ki .i64] (fun (x : (List IQuality) × (List UInt8) × Int × Int × Unit) => S_QualityOf_b0 k k x.1 x.2.1 x.2.2.1 x.2.2.2.1) S_QualityOf_b0_L
def S_QualityOf_b0_cu (k : Nat) : Cuts D := ⟨[(1, some (S_QualityOf_b1_cut k))], []⟩
theorem S_QualityOf_b0_ok (k : Nat) : CutFor X S_QualityOf_pl k Go.Proofs.Try.f30.results.toList (S_QualityOf_b0_cut k) (sub (bodyOf Go.Proofs.Try.f30) [1, 1, 0, 1]) :=
  loopCut_s (X := X) (sg := [.kl 84, .ks, .ki .i64, .ki .i64]) (cu := S_QualityOf_b0_cu k) (cl := S_QualityOf_cl k) (tys := [[0]]) (id := 0) (c := sub (bodyOf Go.Proofs.Try.f30) [1, 1, 0, 1, 0, 0]) (f := fun n => fun (x : (List IQuality) × (List UInt8) × Int × Int × Unit) => S_QualityOf_b0 k n x.1 x.2.1 x.2.2.1 x.2.2.2.1) (S_QualityOf_ck k) (cutOK_of (l := [(S_QualityOf_b1_cut k, sub (bodyOf Go.Proofs.Try.f30) [1, 1, 0, 1, 0, 0, 1, 0])]) (by kernel_rfl) ⟨S_QualityOf_b1_ok k, trivial⟩) (fun _ => rfl) (fun n x Q R h => by
    simp only [S_QualityOf_b0, optK_bind, optK_bif, optK_pure, optK_none, optK_oc, optK_guardT, optK_map] at h
    refine hold_of h ?_
    kernel_rfl) (by kernel_rfl)
def S_QualityOf_b2_L (x : (List IQuality) × (List UInt8) × Int × Int × Unit) (o : Oc (Unit) (Int)) (Q : Ex → VSt D → Prop) (R : VR D → Prop) : Prop := ocP o (fun v0 => Q .normal (mkSt ⟨[(5, .hole)], []⟩ [.int .i64 x.2.2.1])) (fun w0 => R (.p (.c (.int .i64 w0))))
def S_QualityOf_b2_cut (k : Nat) : Cut D := cutS ⟨[(0, .hole), (1, .hole), (5, .hole), (7, .hole)], []⟩ [.kl 84, .ks, .ki .i64, .ki .i64] (fun (x : (List IQuality) × (List UInt8) × Int × Int × Unit) => S_QualityOf_b2 k k x.1 x.2.1 x.2.2.1 x.2.2.2.1) S_QualityOf_b2_L
def S_QualityOf_b2_cu (k : Nat) : Cuts D := ⟨[], []⟩
theorem S_QualityOf_b2_ok (k : Nat) : CutFor X S_QualityOf_pl k Go.Proofs.Try.f30.results.toList (S_QualityOf_b2_cut k) (sub (bodyOf Go.Proofs.Try.f30) [1, 1, 1, 0, 1]) :=
  loopCut_s (X := X) (sg := [.kl 84, .ks, .ki .i64, .ki .i64]) (cu := S_QualityOf_b2_cu k) (cl := S_QualityOf_cl k) (tys := [[0]]) (id := 2) (c := sub (bodyOf Go.Proofs.Try.f30) [1, 1, 1, 0, 1, 0, 0]) (f := fun n => fun (x : (List IQuality) × (List UInt8) × Int × Int × Unit) => S_QualityOf_b2 k n x.1 x.2.1 x.2.2.1 x.2.2.2.1) (S_QualityOf_ck k) (cutOK_of (l := []) (by kernel_rfl) trivial) (fun _ => rfl) (fun n x Q R h => by
    simp only [S_QualityOf_b2, optK_bind, optK_bif, optK_pure, optK_none, optK_oc, optK_guardT, optK_map] at h
    refine hold_of h ?_
    kernel_rfl) (by kernel_rfl)
def S_QualityOf_cu (k : Nat) : Cuts D := ⟨[(0, some (S_QualityOf_b0_cut k)), (2, some (S_QualityOf_b2_cut k))], []⟩
def S_QualityOf_ar : List Ar := [.c (.kl 84), .c (.ks)]
def S_QualityOf_f (k : Nat) (x : TupA D S_QualityOf_ar) : Option (Int) := S_QualityOf k x.1 x.2.1
def S_QualityOf_vr (r : Int) : VR D := .p (.c (.int .i64 r))
theorem S_QualityOf_ok (k : Nat) : Does P X 30 S_QualityOf_ar (S_QualityOf_f k) S_QualityOf_vr :=
  does_of (body := bodyOf Go.Proofs.Try.f30) (pl := S_QualityOf_pl) (k := k) (cu := S_QualityOf_cu k) (tys := [[0]]) (S_QualityOf_ck k) ctx mixed Go.Proofs.Try.func30 (by kernel_rfl) (by kernel_rfl) (cutOK_of (l := [(S_QualityOf_b0_cut k, sub (bodyOf Go.Proofs.Try.f30) [1, 1, 0, 1]), (S_QualityOf_b2_cut k, sub (bodyOf Go.Proofs.Try.f30) [1, 1, 1, 0, 1])]) (by kernel_rfl) ⟨S_QualityOf_b0_ok k, S_QualityOf_b2_ok k, trivial⟩) fun x R h => by
    simp only [S_QualityOf_f, S_QualityOf, optK_bind, optK_bif, optK_pure, optK_none, optK_oc, optK_guardT, optK_map] at h
    refine hold_of h ?_
    kernel_rfl
def S_QualityOf_en (k : Nat) : Entry D := entS S_QualityOf_ar (S_QualityOf_f k) S_QualityOf_vr
theorem S_QualityOf_eo (k : Nat) : EntryOK X 30 (S_QualityOf_en k) := (S_QualityOf_ok k).en rfl
def I_QualityOf_pl : Plan := ⟨[(0, [(0, some 84), (1, none)]), (1, [(0, some 84), (10, some 9), (11, none), (12, none)]), (2, [(0, some 84), (10, some 9), (11, none), (12, none), (13, none)]), (3, [(0, some 84), (6, none), (10, some 9), (11, none), (12, none)]), (4, [(0, some 84), (6, none), (10, some 9), (11, none), (12, none), (16, some 84), (17, none), (18, none)]), (5, [(0, some 84), (6, none), (10, some 9), (11, none), (12, none), (16, some 84), (17, none), (18, none), (19, none)]), (6, [(0, some 84), (6, none), (8, none), (10, some 9), (11, none), (12, none), (16, some 84), (17, none), (18, none)]), (7, [(0, some 84), (6, none), (8, none), (10, some 9), (11, none), (12, none), (16, some 84), (17, none), (18, none), (25, none)]), (8, [(4, none)]), (9, [(0, some 84), (6, none), (10, some 9), (11, none), (12, none), (16, some 84), (17, none), (18, none)]), (10, [(0, some 84), (10, some 9), (11, none), (12, none)]), (11, [(4, none)])],
  [(0, []), (1, [(0, some 84), (10, some 9), (11, none), (12, none)]), (2, [(0, some 84), (10, some 9), (11, none), (12, none)]), (3, [(0, some 84), (6, none), (10, some 9), (11, none), (12, none), (16, some 84), (17, none), (18, none)])],
  [(13, ([(0, some 84), (10, some 9), (11, none), (12, none)], [])), (19, ([(0, some 84), (6, none), (10, some 9), (11, none), (12, none), (16, some 84), (17, none), (18, none)], [(0, some 84), (10, some 9), (11, none), (12, none)])), (25, ([(8, none)], [(0, some 84), (6, none), (10, some 9), (11, none), (12, none), (16, some 84), (17, none), (18, none)]))]⟩
def I_QualityOf_cl (k : Nat) : Calls' D := ⟨[], []⟩
theorem I_QualityOf_ck (k : Nat) : CallsOK X (I_QualityOf_cl k) := .nil cod
def I_QualityOf_b2_L (x : (List IQuality) × (List UInt8) × Int × Int × (List IQuality) × Int × Int × (List (List UInt8)) × Unit) (o : Oc (Unit) (Int)) (Q : Ex → VSt D → Prop) (R : VR D → Prop) : Prop := ocP o (fun v0 => Q .normal (mkSt ⟨[(0, .hole), (10, .ref 500010), (11, .hole), (12, .hole)], [(500010, .row)]⟩ [.sl 84 x.1, .int .i64 x.2.2.1, .int .i64 x.2.2.2.1, .sl 9 x.2.2.2.2.2.2.2.1])) (fun w0 => R (.p (.c (.int .i64 w0))))
def I_QualityOf_b2_cut (k : Nat) : Cut D := cutS ⟨[(0, .hole), (6, .hole), (10, .ref 500010), (11, .hole), (12, .hole), (16, .hole), (17, .hole), (18, .hole)], [(500010, .row)]⟩ [.kl 84, .ks, .ki .i64, .ki .i64, .kl 84, .ki .i64, .ki .i64, .kl 9] (fun (x : (List IQuality) × (List UInt8) × Int × Int × (List IQuality) × Int × Int × (List (List UInt8)) × Unit) => I_QualityOf_b2 k k x.1 x.2.1 x.2.2.1 x.2.2.2.1 x.2.2.2.2.1 x.2.2.2.2.2.1 x.2.2.2.2.2.2.1 x.2.2.2.2.2.2.2.1) I_QualityOf_b2_L
def I_QualityOf_b2_cu (k : Nat) : Cuts D := ⟨[], []⟩
theorem I_QualityOf_b2_ok (k : Nat) : CutFor X I_QualityOf_pl k Go.Proofs.Try.f32.results.toList (I_QualityOf_b2_cut k) (sub (bodyOf Go.Proofs.Try.f32) [1, 0, 1, 0, 0, 1, 1, 0, 0, 1, 1]) :=
  loopCut_s (X := X) (sg := [.kl 84, .ks, .ki .i64, .ki .i64, .kl 84, .ki .i64, .ki .i64, .kl 9]) (cu := I_QualityOf_b2_cu k) (cl := I_QualityOf_cl k) (tys := [[0]]) (id := 2) (c := sub (bodyOf Go.Proofs.Try.f32) [1, 0, 1, 0, 0, 1, 1, 0, 0, 1, 1, 0, 0]) (f := fun n => fun (x : (List IQuality) × (List UInt8) × Int × Int × (List IQuality) × Int × Int × (List (List UInt8)) × Unit) => I_QualityOf_b2 k n x.1 x.2.1 x.2.2.1 x.2.2.2.1 x.2.2.2.2.1 x.2.2.2.2.2.1 x.2.2.2.2.2.2.1 x.2.2.2.2.2.2.2.1) (I_QualityOf_ck k) (cutOK_of (l := []) (by kernel_rfl) trivial) (fun _ => rfl) (fun n x Q R h => by
    simp only [I_QualityOf_b2, optK_bind, optK_bif, optK_pure, optK_none, optK_oc, optK_guardT, optK_map] at h
    refine hold_of h ?_
    kernel_rfl) (by kernel_rfl)
def I_QualityOf_b0_L (x : (List IQuality) × Int × Int × (List (List UInt8)) × Unit) (o : Oc (Unit) (Int)) (Q : Ex → VSt D → Prop) (R : VR D → Prop) : Prop := ocP o (fun v0 => Q .normal (mkSt ⟨[], []⟩ [])) (fun w0 => R (.p (.c (.int .i64 w0))))
def I_QualityOf_b0_cut (k : Nat) : Cut D := cutS ⟨[(0, .hole), (10, .ref 500010), (11, .hole), (12, .hole)], [(500010, .row)]⟩ [.kl 84, .ki .i64, .ki .i64, .kl 9] (fun (x : (List IQuality) × Int × Int × (List (List UInt8)) × Unit) => I_QualityOf_b0 k k x.1 x.2.1 x.2.2.1 x.2.2.2.1) I_QualityOf_b0_L
def I_QualityOf_b0_cu (k : Nat) : Cuts D := ⟨[(2, some (I_QualityOf_b2_cut k))], []⟩
theorem I_QualityOf_b0_ok (k : Nat) : CutFor X I_QualityOf_pl k Go.Proofs.Try.f32.results.toList (I_QualityOf_b0_cut k) (sub (bodyOf Go.Proofs.Try.f32) [1, 0, 1]) :=
  loopCut_s (X := X) (sg := [.kl 84, .ki .i64, .ki .i64, .kl 9]) (cu := I_QualityOf_b0_cu k) (cl := I_QualityOf_cl k) (tys := [[0]]) (id := 0) (c := sub (bodyOf Go.Proofs.Try.f32) [1, 0, 1, 0, 0]) (f := fun n => fun (x : (List IQuality) × Int × Int × (List (List UInt8)) × Unit) => I_QualityOf_b0 k n x.1 x.2.1 x.2.2.1 x.2.2.2.1) (I_QualityOf_ck k) (cutOK_of (l := [(I_QualityOf_b2_cut k, sub (bodyOf Go.Proofs.Try.f32) [1, 0, 1, 0, 0, 1, 1, 0, 0, 1, 1])]) (by kernel_rfl) ⟨I_QualityOf_b2_ok k, trivial⟩) (fun _ => rfl) (fun n x Q R h => by
    simp only [I_QualityOf_b0, optK_bind, optK_bif, optK_pure, optK_none, optK_oc, optK_guardT, optK_map] at h
    refine hold_of h ?_
    kernel_rfl) (by kernel_rfl)
def I_QualityOf_cu (k : Nat) : Cuts D := ⟨[(0, some (I_QualityOf_b0_cut k))], []⟩
def I_QualityOf_ar : List Ar := [.c (.kl 84), .c (.ks)]
def I_QualityOf_f (k : Nat) (x : TupA D I_QualityOf_ar) : Option (Int) := I_QualityOf k x.1 x.2.1
def I_QualityOf_vr (r : Int) : VR D := .p (.c (.int .i64 r))
theorem I_QualityOf_ok (k : Nat) : Does P X 32 I_QualityOf_ar (I_QualityOf_f k) I_QualityOf_vr :=
  does_of (body := bodyOf Go.Proofs.Try.f32) (pl := I_QualityOf_pl) (k := k) (cu := I_QualityOf_cu k) (tys := [[0]]) (I_QualityOf_ck k) ctx mixed Go.Proofs.Try.func32 (by kernel_rfl) (by kernel_rfl) (cutOK_of (l := [(I_QualityOf_b0_cut k, sub (bodyOf Go.Proofs.Try.f32) [1, 0, 1])]) (by kernel_rfl) ⟨I_QualityOf_b0_ok k, trivial⟩) fun x R h => by
    simp only [I_QualityOf_f, I_QualityOf, optK_bind, optK_bif, optK_pure, optK_none, optK_oc, optK_guardT, optK_map] at h
    refine hold_of h ?_
    kernel_rfl
def I_QualityOf_en (k : Nat) : Entry D := entS I_QualityOf_ar (I_QualityOf_f k) I_QualityOf_vr
theorem I_QualityOf_eo (k : Nat) : EntryOK X 32 (I_QualityOf_en k) := (I_QualityOf_ok k).en rfl
def L_eqQuality_pl : Plan := ⟨[(0, [(2, none), (3, none)]), (1, [(2, none), (3, none), (9, none)]), (2, [(4, none)]), (3, [(14, none)]), (4, [(4, none)]), (5, [(4, none)])],
  [],
  [(9, ([], [(2, none), (3, none)])), (14, ([], []))]⟩
def L_eqQuality_cl (k : Nat) : Calls' D := ⟨[], []⟩
theorem L_eqQuality_ck (k : Nat) : CallsOK X (L_eqQuality_cl k) := .nil cod
def L_eqQuality_cu (k : Nat) : Cuts D := ⟨[], []⟩
def L_eqQuality_ar : List Ar := [.a [.ks, .ki .i64], .a [.ks, .ki .i64]]
def L_eqQuality_f (k : Nat) (x : TupA D L_eqQuality_ar) : Option (Bool) := L_eqQuality k (⟨x.1.1, x.1.2.1⟩ : IQuality) (⟨x.2.1.1, x.2.1.2.1⟩ : IQuality)
def L_eqQuality_vr (r : Bool) : VR D := .p (.c (.bool r))
theorem L_eqQuality_ok (k : Nat) : Does P X 64 L_eqQuality_ar (L_eqQuality_f k) L_eqQuality_vr :=
  does_of (body := bodyOf Go.Proofs.Try.f64) (pl := L_eqQuality_pl) (k := k) (cu := L_eqQuality_cu k) (tys := [[0]]) (L_eqQuality_ck k) ctx mixed Go.Proofs.Try.func64 (by kernel_rfl) (by kernel_rfl) (cutOK_of (l := []) (by kernel_rfl) trivial) fun x R h => by
    simp only [L_eqQuality_f, L_eqQuality, optK_bind, optK_bif, optK_pure, optK_none, optK_oc, optK_guardT, optK_map] at h
    refine hold_of h ?_
    kernel_rfl
def L_eqQuality_en (k : Nat) : Entry D := entS L_eqQuality_ar (L_eqQuality_f k) L_eqQuality_vr
theorem L_eqQuality_eo (k : Nat) : EntryOK X 64 (L_eqQuality_en k) := (L_eqQuality_ok k).en rfl
def L_eqQualityS_pl : Plan := ⟨[(0, [(0, some 84), (1, some 84)]), (1, [(0, some 84), (1, some 84), (10, none)]), (2, [(4, none)]), (3, [(0, some 84), (1, some 84), (5, none)]), (4, [(0, some 84), (1, some 84), (5, none), (14, none)]), (5, [(0, some 84), (1, some 84), (5, none)]), (6, [(0, some 84), (1, some 84), (5, none), (26, none)]), (7, [(4, none)]), (8, [(4, none)])],
  [(0, []), (1, [(0, some 84), (1, some 84), (5, none)])],
  [(10, ([], [(0, some 84), (1, some 84)])), (14, ([(0, some 84), (1, some 84), (5, none)], [])), (26, ([], [(0, some 84), (1, some 84), (5, none)]))]⟩
def L_eqQualityS_cl (k : Nat) : Calls' D := ⟨[(64, L_eqQuality_en k)], []⟩
theorem L_eqQualityS_ck (k : Nat) : CallsOK X (L_eqQualityS_cl k) := .cons (L_eqQuality_eo k) (.nil cod)
def L_eqQualityS_b0_L (x : (List IQuality) × (List IQuality) × Int × Unit) (o : Oc (Unit) (Bool)) (Q : Ex → VSt D → Prop) (R : VR D → Prop) : Prop := ocP o (fun v0 => Q .normal (mkSt ⟨[], []⟩ [])) (fun w0 => R (.p (.c (.bool w0))))
def L_eqQualityS_b0_cut (k : Nat) : Cut D := cutS ⟨[(0, .hole), (1, .hole), (5, .hole)], []⟩ [.kl 84, .kl 84, .ki .i64] (fun (x : (List IQuality) × (List IQuality) × Int × Unit) => L_eqQualityS_b0 k k x.1 x.2.1 x.2.2.1) L_eqQualityS_b0_L
def L_eqQualityS_b0_cu (k : Nat) : Cuts D := ⟨[], []⟩
theorem L_eqQualityS_b0_ok (k : Nat) : CutFor X L_eqQualityS_pl k Go.Proofs.Try.f33.results.toList (L_eqQualityS_b0_cut k) (sub (bodyOf Go.Proofs.Try.f33) [1, 1, 0, 1]) :=
  loopCut_s (X := X) (sg := [.kl 84, .kl 84, .ki .i64]) (cu := L_eqQualityS_b0_cu k) (cl := L_eqQualityS_cl k) (tys := [[0]]) (id := 0) (c := sub (bodyOf Go.Proofs.Try.f33) [1, 1, 0, 1, 0, 0]) (f := fun n => fun (x : (List IQuality) × (List IQuality) × Int × Unit) => L_eqQualityS_b0 k n x.1 x.2.1 x.2.2.1) (L_eqQualityS_ck k) (cutOK_of (l := []) (by kernel_rfl) trivial) (fun _ => rfl) (fun n x Q R h => by
    simp only [L_eqQualityS_b0, optK_bind, optK_bif, optK_pure, optK_none, optK_oc, optK_guardT, optK_map] at h
    refine hold_of h ?_
    kernel_rfl) (by kernel_rfl)
def L_eqQualityS_cu (k : Nat) : Cuts D := ⟨[(0, some (L_eqQualityS_b0_cut k))], []⟩
def L_eqQualityS_ar : List Ar := [.c (.kl 84), .c (.kl 84)]
def L_eqQualityS_f (k : Nat) (x : TupA D L_eqQualityS_ar) : Option (Bool) := L_eqQualityS k x.1 x.2.1
def L_eqQualityS_vr (r : Bool) : VR D := .p (.c (.bool r))
theorem L_eqQualityS_ok (k : Nat) : Does P X 33 L_eqQualityS_ar (L_eqQualityS_f k) L_eqQualityS_vr :=
  does_of (body := bodyOf Go.Proofs.Try.f33) (pl := L_eqQualityS_pl) (k := k) (cu := L_eqQualityS_cu k) (tys := [[0]]) (L_eqQualityS_ck k) ctx mixed Go.Proofs.Try.func33 (by kernel_rfl) (by kernel_rfl) (cutOK_of (l := [(L_eqQualityS_b0_cut k, sub (bodyOf Go.Proofs.Try.f33) [1, 1, 0, 1])]) (by kernel_rfl) ⟨L_eqQualityS_b0_ok k, trivial⟩) fun x R h => by
    simp only [L_eqQualityS_f, L_eqQualityS, optK_bind, optK_bif, optK_pure, optK_none, optK_oc, optK_guardT, optK_map] at h
    refine hold_of h ?_
    kernel_rfl
def L_eqQualityS_en (k : Nat) : Entry D := entS L_eqQualityS_ar (L_eqQualityS_f k) L_eqQualityS_vr
theorem L_eqQualityS_eo (k : Nat) : EntryOK X 33 (L_eqQualityS_en k) := (L_eqQualityS_ok k).en rfl
def L_FnExactQualityOf_pl : Plan := ⟨[(0, [(0, some 83), (1, none)]), (1, [(0, some 83), (1, none), (11, none)]), (2, [(4, none)]), (3, [(0, some 83), (1, none), (5, none)]), (4, [(0, some 83), (1, none), (5, none)]), (5, [(0, some 83), (1, none), (16, none)]), (6, [(4, none)]), (7, [(0, some 83), (1, none), (6, none)]), (8, [(0, some 83), (1, none), (6, none), (7, some 84)]), (9, [(0, some 83), (6, none), (7, some 84), (8, none)]), (10, [(0, some 83), (7, some 84), (28, none)]), (11, [(4, none)]), (12, [(33, none)]), (13, [(4, none)]), (14, [(4, none)])],
  [],
  [(11, ([], [(0, some 83), (1, none)])), (16, ([], [(0, some 83), (1, none)])), (28, ([], [(0, some 83), (7, some 84)])), (33, ([], []))]⟩
def L_FnExactQualityOf_cl (k : Nat) : Calls' D := ⟨[(29, L_szQualityS_en k), (31, L_toQualityS_en k), (30, S_QualityOf_en k), (32, I_QualityOf_en k), (33, L_eqQualityS_en k)], []⟩
theorem L_FnExactQualityOf_ck (k : Nat) : CallsOK X (L_FnExactQualityOf_cl k) := .cons (L_szQualityS_eo k) (.cons (L_toQualityS_eo k) (.cons (S_QualityOf_eo k) (.cons (I_QualityOf_eo k) (.cons (L_eqQualityS_eo k) (.nil cod)))))
def L_FnExactQualityOf_cu (k : Nat) : Cuts D := ⟨[], []⟩
def L_FnExactQualityOf_ar : List Ar := [.c (.kl 83), .c (.ks)]
def L_FnExactQualityOf_f (k : Nat) (x : TupA D L_FnExactQualityOf_ar) : Option (Bool) := L_FnExactQualityOf k x.1 x.2.1
def L_FnExactQualityOf_vr (r : Bool) : VR D := .p (.c (.bool r))
theorem L_FnExactQualityOf_ok (k : Nat) : Does P X 7 L_FnExactQualityOf_ar (L_FnExactQualityOf_f k) L_FnExactQualityOf_vr :=
  does_of (body := bodyOf Go.Proofs.Try.f7) (pl := L_FnExactQualityOf_pl) (k := k) (cu := L_FnExactQualityOf_cu k) (tys := [[0]]) (L_FnExactQualityOf_ck k) ctx mixed Go.Proofs.Try.func7 (by kernel_rfl) (by kernel_rfl) (cutOK_of (l := []) (by kernel_rfl) trivial) fun x R h => by
    simp only [L_FnExactQualityOf_f, L_FnExactQualityOf, optK_bind, optK_bif, optK_pure, optK_none, optK_oc, optK_guardT, optK_map] at h
    refine hold_of h ?_
    kernel_rfl
def L_FnExactQualityOf_en (k : Nat) : Entry D := entS L_FnExactQualityOf_ar (L_FnExactQualityOf_f k) L_FnExactQualityOf_vr
theorem L_FnExactQualityOf_eo (k : Nat) : EntryOK X 7 (L_FnExactQualityOf_en k) := (L_FnExactQualityOf_ok k).en rfl

end
end Go.Ytilbenelefdihaa
