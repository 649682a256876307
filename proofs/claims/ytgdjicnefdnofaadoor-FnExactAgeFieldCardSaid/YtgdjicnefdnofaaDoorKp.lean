/- The machine computes the functions. Nothing is claimed here. -/
import Derived.Test.YtgdjicnefdnofaaDoorKf
import Derived.Test.YtgdjicnefdnofaaDoorShelf
set_option linter.unusedVariables false
set_option linter.unusedSimpArgs false
set_option maxRecDepth 100000
namespace Go.YtgdjicnefdnofaaDoor
open Go Go.RowKit Go.Pv
noncomputable section

def L_szField_pl : Plan := ⟨[(0, [(1, none), (2, none)]), (1, [(1, none), (2, none)]), (2, [(1, none), (2, none), (11, none)]), (3, [(4, none)]), (4, [(1, none)]), (5, [(1, none), (18, none)]), (6, [(4, none)]), (7, [(4, none)])],
  [],
  [(11, ([], [(1, none), (2, none)])), (18, ([], [(1, none)]))]⟩
def L_szField_cl (k : Nat) : Calls' D := ⟨[], []⟩
theorem L_szField_ck (k : Nat) : CallsOK X (L_szField_cl k) := .nil cod
def L_szField_cu (k : Nat) : Cuts D := ⟨[], []⟩
def L_szField_ar : List Ar := [.a [.ks, .ks], .c (.ki .i64)]
def L_szField_f (k : Nat) (x : TupA D L_szField_ar) : Option (Int) := L_szField k (⟨x.1.1, x.1.2.1⟩ : LField) x.2.1
def L_szField_vr (r : Int) : VR D := .p (.c (.int .i64 r))
theorem L_szField_ok (k : Nat) : Does P X 67 L_szField_ar (L_szField_f k) L_szField_vr :=
  does_of (body := bodyOf Go.Proofs.Tryd.f67) (pl := L_szField_pl) (k := k) (cu := L_szField_cu k) (tys := [[0]]) (L_szField_ck k) ctx mixed Go.Proofs.Tryd.func67 (by kernel_rfl) (by kernel_rfl) (cutOK_of (l := []) (by kernel_rfl) trivial) fun x R h => by
    simp only [L_szField_f, L_szField, optK_bind, optK_bif, optK_pure, optK_none, optK_oc, optK_guardT, optK_map] at h
    refine hold_of h ?_
    kernel_rfl
def L_szField_en (k : Nat) : Entry D := entS L_szField_ar (L_szField_f k) L_szField_vr
theorem L_szField_eo (k : Nat) : EntryOK X 67 (L_szField_en k) := (L_szField_ok k).en rfl
def L_szFieldS_pl : Plan := ⟨[(0, [(0, some 85), (1, none)]), (1, [(0, some 85), (1, none)]), (2, [(0, some 85), (1, none), (11, none)]), (3, [(4, none)]), (4, [(0, some 85), (1, none), (5, none)]), (5, [(0, some 85), (1, none), (5, none), (15, none)]), (6, [(0, some 85), (1, none), (5, none)]), (7, [(0, some 85), (1, none), (5, none)]), (8, [(0, some 85), (1, none), (5, none), (25, none)]), (9, [(4, none)]), (10, [(4, none)])],
  [(0, [(1, none)]), (1, [(0, some 85), (1, none), (5, none)])],
  [(11, ([], [(0, some 85), (1, none)])), (15, ([(0, some 85), (1, none), (5, none)], [(1, none)])), (25, ([], [(0, some 85), (1, none), (5, none)]))]⟩
def L_szFieldS_cl (k : Nat) : Calls' D := ⟨[(67, L_szField_en k)], []⟩
theorem L_szFieldS_ck (k : Nat) : CallsOK X (L_szFieldS_cl k) := .cons (L_szField_eo k) (.nil cod)
def L_szFieldS_b0_L (x : (List LField) × Int × Int × Unit) (o : Oc (Int) (Int)) (Q : Ex → VSt D → Prop) (R : VR D → Prop) : Prop := ocP o (fun v0 => Q .normal (mkSt ⟨[(1, .hole)], []⟩ [.int .i64 v0])) (fun w0 => R (.p (.c (.int .i64 w0))))
def L_szFieldS_b0_cut (k : Nat) : Cut D := cutS ⟨[(0, .hole), (1, .hole), (5, .hole)], []⟩ [.kl 85, .ki .i64, .ki .i64] (fun (x : (List LField) × Int × Int × Unit) => L_szFieldS_b0 k k x.1 x.2.1 x.2.2.1) L_szFieldS_b0_L
def L_szFieldS_b0_cu (k : Nat) : Cuts D := ⟨[], []⟩
theorem L_szFieldS_b0_ok (k : Nat) : CutFor X L_szFieldS_pl k Go.Proofs.Tryd.f21.results.toList (L_szFieldS_b0_cut k) (sub (bodyOf Go.Proofs.Tryd.f21) [1, 1, 1, 0, 1]) :=
  loopCut_s (X := X) (sg := [.kl 85, .ki .i64, .ki .i64]) (cu := L_szFieldS_b0_cu k) (cl := L_szFieldS_cl k) (tys := [[0]]) (id := 0) (c := sub (bodyOf Go.Proofs.Tryd.f21) [1, 1, 1, 0, 1, 0, 0]) (f := fun n => fun (x : (List LField) × Int × Int × Unit) => L_szFieldS_b0 k n x.1 x.2.1 x.2.2.1) (L_szFieldS_ck k) (cutOK_of (l := []) (by kernel_rfl) trivial) (fun _ => rfl) (fun n x Q R h => by
    simp only [L_szFieldS_b0, optK_bind, optK_bif, optK_pure, optK_none, optK_oc, optK_guardT, optK_map] at h
    refine hold_of h ?_
    kernel_rfl) (by kernel_rfl)
def L_szFieldS_cu (k : Nat) : Cuts D := ⟨[(0, some (L_szFieldS_b0_cut k))], []⟩
def L_szFieldS_ar : List Ar := [.c (.kl 85), .c (.ki .i64)]
def L_szFieldS_f (k : Nat) (x : TupA D L_szFieldS_ar) : Option (Int) := L_szFieldS k x.1 x.2.1
def L_szFieldS_vr (r : Int) : VR D := .p (.c (.int .i64 r))
theorem L_szFieldS_ok (k : Nat) : Does P X 21 L_szFieldS_ar (L_szFieldS_f k) L_szFieldS_vr :=
  does_of (body := bodyOf Go.Proofs.Tryd.f21) (pl := L_szFieldS_pl) (k := k) (cu := L_szFieldS_cu k) (tys := [[0]]) (L_szFieldS_ck k) ctx mixed Go.Proofs.Tryd.func21 (by kernel_rfl) (by kernel_rfl) (cutOK_of (l := [(L_szFieldS_b0_cut k, sub (bodyOf Go.Proofs.Tryd.f21) [1, 1, 1, 0, 1])]) (by kernel_rfl) ⟨L_szFieldS_b0_ok k, trivial⟩) fun x R h => by
    simp only [L_szFieldS_f, L_szFieldS, optK_bind, optK_bif, optK_pure, optK_none, optK_oc, optK_guardT, optK_map] at h
    refine hold_of h ?_
    kernel_rfl
def L_szFieldS_en (k : Nat) : Entry D := entS L_szFieldS_ar (L_szFieldS_f k) L_szFieldS_vr
theorem L_szFieldS_eo (k : Nat) : EntryOK X 21 (L_szFieldS_en k) := (L_szFieldS_ok k).en rfl
def L_szResponse_pl : Plan := ⟨[(0, [(1, none), (2, none)]), (1, [(1, none), (2, none)]), (2, [(1, none), (2, none), (10, none)]), (3, [(4, none)]), (4, [(1, none)]), (5, [(1, none), (17, none)]), (6, [(4, none)]), (7, [(4, none)])],
  [],
  [(10, ([], [(1, none), (2, none)])), (17, ([], [(1, none)]))]⟩
def L_szResponse_cl (k : Nat) : Calls' D := ⟨[(21, L_szFieldS_en k)], []⟩
theorem L_szResponse_ck (k : Nat) : CallsOK X (L_szResponse_cl k) := .cons (L_szFieldS_eo k) (.nil cod)
def L_szResponse_cu (k : Nat) : Cuts D := ⟨[], []⟩
def L_szResponse_ar : List Ar := [.a [.ki .i64, .kl 85, .ks], .c (.ki .i64)]
def L_szResponse_f (k : Nat) (x : TupA D L_szResponse_ar) : Option (Int) := L_szResponse k (⟨x.1.1, x.1.2.1, x.1.2.2.1⟩ : LResponse) x.2.1
def L_szResponse_vr (r : Int) : VR D := .p (.c (.int .i64 r))
theorem L_szResponse_ok (k : Nat) : Does P X 15 L_szResponse_ar (L_szResponse_f k) L_szResponse_vr :=
  does_of (body := bodyOf Go.Proofs.Tryd.f15) (pl := L_szResponse_pl) (k := k) (cu := L_szResponse_cu k) (tys := [[0]]) (L_szResponse_ck k) ctx mixed Go.Proofs.Tryd.func15 (by kernel_rfl) (by kernel_rfl) (cutOK_of (l := []) (by kernel_rfl) trivial) fun x R h => by
    simp only [L_szResponse_f, L_szResponse, optK_bind, optK_bif, optK_pure, optK_none, optK_oc, optK_guardT, optK_map] at h
    refine hold_of h ?_
    kernel_rfl
def L_szResponse_en (k : Nat) : Entry D := entS L_szResponse_ar (L_szResponse_f k) L_szResponse_vr
theorem L_szResponse_eo (k : Nat) : EntryOK X 15 (L_szResponse_en k) := (L_szResponse_ok k).en rfl
def L_toField_pl : Plan := ⟨[(0, [(1, none), (2, none)]), (1, [(1, none), (2, none), (3, none)]), (2, [(1, none), (2, none), (3, none)]), (3, [(2, none), (3, none)]), (4, [(2, none)])],
  [],
  []⟩
def L_toField_cl (k : Nat) : Calls' D := ⟨[], []⟩
theorem L_toField_ck (k : Nat) : CallsOK X (L_toField_cl k) := .nil cod
def L_toField_cu (k : Nat) : Cuts D := ⟨[], []⟩
def L_toField_ar : List Ar := [.a [.ks, .ks]]
def L_toField_f (k : Nat) (x : TupA D L_toField_ar) : Option (IField) := L_toField k (⟨x.1.1, x.1.2.1⟩ : LField)
def L_toField_vr (r : IField) : VR D := .p (.agg [.str r.Name, .str r.Value])
theorem L_toField_ok (k : Nat) : Does P X 71 L_toField_ar (L_toField_f k) L_toField_vr :=
  does_of (body := bodyOf Go.Proofs.Tryd.f71) (pl := L_toField_pl) (k := k) (cu := L_toField_cu k) (tys := [[0, 0]]) (L_toField_ck k) ctx mixed Go.Proofs.Tryd.func71 (by kernel_rfl) (by kernel_rfl) (cutOK_of (l := []) (by kernel_rfl) trivial) fun x R h => by
    simp only [L_toField_f, L_toField, optK_bind, optK_bif, optK_pure, optK_none, optK_oc, optK_guardT, optK_map] at h
    refine hold_of h ?_
    kernel_rfl
def L_toField_en (k : Nat) : Entry D := entS L_toField_ar (L_toField_f k) L_toField_vr
theorem L_toField_eo (k : Nat) : EntryOK X 71 (L_toField_en k) := (L_toField_ok k).en rfl
def L_toFieldS_pl : Plan := ⟨[(0, [(0, some 85)]), (1, [(0, some 85), (3, some 79)]), (2, [(0, some 85), (3, some 79), (4, none)]), (3, [(0, some 85), (3, some 79), (4, none), (11, none)]), (4, [(0, some 85), (3, some 79), (4, none)]), (5, [(0, some 85), (3, some 79), (4, none)]), (6, [(2, some 79)])],
  [(0, [(3, some 79)]), (1, [(0, some 85), (3, some 79), (4, none)])],
  [(11, ([(0, some 85), (3, some 79), (4, none)], [(3, some 79)]))]⟩
def L_toFieldS_cl (k : Nat) : Calls' D := ⟨[(71, L_toField_en k)], []⟩
theorem L_toFieldS_ck (k : Nat) : CallsOK X (L_toFieldS_cl k) := .cons (L_toField_eo k) (.nil cod)
def L_toFieldS_b0_L (x : (List LField) × Int × (List IField) × Unit) (o : (List IField)) (Q : Ex → VSt D → Prop) (R : VR D → Prop) : Prop := Q .normal (mkSt ⟨[(3, .ref 500003)], [(500003, .row)]⟩ [.sl 79 o])
def L_toFieldS_b0_cut (k : Nat) : Cut D := cutS ⟨[(0, .hole), (3, .ref 500003), (4, .hole)], [(500003, .row)]⟩ [.kl 85, .ki .i64, .kl 79] (fun (x : (List LField) × Int × (List IField) × Unit) => L_toFieldS_b0 k k x.1 x.2.1 x.2.2.1) L_toFieldS_b0_L
def L_toFieldS_b0_cu (k : Nat) : Cuts D := ⟨[], []⟩
theorem L_toFieldS_b0_ok (k : Nat) : CutFor X L_toFieldS_pl k Go.Proofs.Tryd.f24.results.toList (L_toFieldS_b0_cut k) (sub (bodyOf Go.Proofs.Tryd.f24) [1, 1, 0, 1]) :=
  loopCut_s (X := X) (sg := [.kl 85, .ki .i64, .kl 79]) (cu := L_toFieldS_b0_cu k) (cl := L_toFieldS_cl k) (tys := [[79]]) (id := 0) (c := sub (bodyOf Go.Proofs.Tryd.f24) [1, 1, 0, 1, 0, 0]) (f := fun n => fun (x : (List LField) × Int × (List IField) × Unit) => L_toFieldS_b0 k n x.1 x.2.1 x.2.2.1) (L_toFieldS_ck k) (cutOK_of (l := []) (by kernel_rfl) trivial) (fun _ => rfl) (fun n x Q R h => by
    simp only [L_toFieldS_b0, optK_bind, optK_bif, optK_pure, optK_none, optK_oc, optK_guardT, optK_map] at h
    refine hold_of h ?_
    kernel_rfl) (by kernel_rfl)
def L_toFieldS_cu (k : Nat) : Cuts D := ⟨[(0, some (L_toFieldS_b0_cut k))], []⟩
def L_toFieldS_ar : List Ar := [.c (.kl 85)]
def L_toFieldS_f (k : Nat) (x : TupA D L_toFieldS_ar) : Option ((List IField)) := L_toFieldS k x.1
def L_toFieldS_vr (r : (List IField)) : VR D := .p (.c (.sl 79 r))
theorem L_toFieldS_ok (k : Nat) : Does P X 24 L_toFieldS_ar (L_toFieldS_f k) L_toFieldS_vr :=
  does_of (body := bodyOf Go.Proofs.Tryd.f24) (pl := L_toFieldS_pl) (k := k) (cu := L_toFieldS_cu k) (tys := [[79]]) (L_toFieldS_ck k) ctx mixed Go.Proofs.Tryd.func24 (by kernel_rfl) (by kernel_rfl) (cutOK_of (l := [(L_toFieldS_b0_cut k, sub (bodyOf Go.Proofs.Tryd.f24) [1, 1, 0, 1])]) (by kernel_rfl) ⟨L_toFieldS_b0_ok k, trivial⟩) fun x R h => by
    simp only [L_toFieldS_f, L_toFieldS, optK_bind, optK_bif, optK_pure, optK_none, optK_oc, optK_guardT, optK_map] at h
    refine hold_of h ?_
    kernel_rfl
def L_toFieldS_en (k : Nat) : Entry D := entS L_toFieldS_ar (L_toFieldS_f k) L_toFieldS_vr
theorem L_toFieldS_eo (k : Nat) : EntryOK X 24 (L_toFieldS_en k) := (L_toFieldS_ok k).en rfl
def L_toResponse_pl : Plan := ⟨[(0, [(1, none), (2, none)]), (1, [(1, none), (2, none), (3, none)]), (2, [(1, none), (2, none), (3, none)]), (3, [(1, none), (2, none), (3, none)]), (4, [(2, none), (3, none)]), (5, [(2, none)])],
  [],
  []⟩
def L_toResponse_cl (k : Nat) : Calls' D := ⟨[(24, L_toFieldS_en k)], []⟩
theorem L_toResponse_ck (k : Nat) : CallsOK X (L_toResponse_cl k) := .cons (L_toFieldS_eo k) (.nil cod)
def L_toResponse_cu (k : Nat) : Cuts D := ⟨[], []⟩
def L_toResponse_ar : List Ar := [.a [.ki .i64, .kl 85, .ks]]
def L_toResponse_f (k : Nat) (x : TupA D L_toResponse_ar) : Option (IResponse) := L_toResponse k (⟨x.1.1, x.1.2.1, x.1.2.2.1⟩ : LResponse)
def L_toResponse_vr (r : IResponse) : VR D := .p (.agg [.int .i64 r.Code, .sl 79 r.Fields, .str r.Body])
theorem L_toResponse_ok (k : Nat) : Does P X 17 L_toResponse_ar (L_toResponse_f k) L_toResponse_vr :=
  does_of (body := bodyOf Go.Proofs.Tryd.f17) (pl := L_toResponse_pl) (k := k) (cu := L_toResponse_cu k) (tys := [[0, 79, 0]]) (L_toResponse_ck k) ctx mixed Go.Proofs.Tryd.func17 (by kernel_rfl) (by kernel_rfl) (cutOK_of (l := []) (by kernel_rfl) trivial) fun x R h => by
    simp only [L_toResponse_f, L_toResponse, optK_bind, optK_bif, optK_pure, optK_none, optK_oc, optK_guardT, optK_map] at h
    refine hold_of h ?_
    kernel_rfl
def L_toResponse_en (k : Nat) : Entry D := entS L_toResponse_ar (L_toResponse_f k) L_toResponse_vr
theorem L_toResponse_eo (k : Nat) : EntryOK X 17 (L_toResponse_en k) := (L_toResponse_ok k).en rfl
def S_JoinList_pl : Plan := ⟨[(0, [(0, some 9)]), (1, [(0, some 9), (3, none)]), (2, [(0, some 9), (3, none), (4, none)]), (3, [(0, some 9), (3, none), (4, none), (8, none)]), (4, [(0, some 9), (3, none), (4, none)]), (5, [(0, some 9), (3, none), (4, none), (12, none)]), (6, [(0, some 9), (3, none), (4, none)]), (7, [(0, some 9), (3, none), (4, none)]), (8, [(2, none)])],
  [(0, [(3, none)]), (1, [(0, some 9), (3, none), (4, none)])],
  [(8, ([(0, some 9), (3, none), (4, none)], [(3, none)])), (12, ([(0, some 9), (3, none), (4, none)], [(0, some 9), (3, none), (4, none)]))]⟩
def S_JoinList_cl (k : Nat) : Calls' D := ⟨[], []⟩
theorem S_JoinList_ck (k : Nat) : CallsOK X (S_JoinList_cl k) := .nil cod
def S_JoinList_c12_L (x : (List (List UInt8)) × (List UInt8) × Int × Bool × Unit) (o : (List UInt8)) (Q : Ex → VSt D → Prop) (R : VR D → Prop) : Prop := Q .normal (mkSt ⟨[(0, .hole), (3, .hole), (4, .hole)], []⟩ [.sl 9 x.1, .str o, .int .i64 x.2.2.1])
def S_JoinList_c12_cut (k : Nat) : Cut D := cutS ⟨[(0, .hole), (3, .hole), (4, .hole), (12, .hole)], []⟩ [.kl 9, .ks, .ki .i64, .kb] (fun (x : (List (List UInt8)) × (List UInt8) × Int × Bool × Unit) => S_JoinList_c12 k x.1 x.2.1 x.2.2.1 x.2.2.2.1) S_JoinList_c12_L
def S_JoinList_c12_cu (k : Nat) : Cuts D := ⟨[], []⟩
theorem S_JoinList_c12_ok (k : Nat) : CutFor X S_JoinList_pl k Go.Proofs.Tryd.f68.results.toList (S_JoinList_c12_cut k) (sub (bodyOf Go.Proofs.Tryd.f68) [1, 1, 0, 1, 0, 0, 1, 0, 0, 0, 1]) :=
  joinCut_s (X := X) (sg := [.kl 9, .ks, .ki .i64, .kb]) (cu := S_JoinList_c12_cu k) (cl := S_JoinList_cl k) (tys := [[0]]) (S_JoinList_ck k) (cutOK_of (l := []) (by kernel_rfl) trivial) fun x Q R h => by
    simp only [S_JoinList_c12, optK_bind, optK_bif, optK_pure, optK_none, optK_oc, optK_guardT, optK_map] at h
    refine hold_of h ?_
    kernel_rfl
def S_JoinList_b1_L (x : (List (List UInt8)) × (List UInt8) × Int × Unit) (o : (List UInt8)) (Q : Ex → VSt D → Prop) (R : VR D → Prop) : Prop := Q .normal (mkSt ⟨[(0, .hole), (3, .hole), (4, .hole)], []⟩ [.sl 9 x.1, .str o, .int .i64 x.2.2.1])
def S_JoinList_b1_cut (k : Nat) : Cut D := cutS ⟨[(0, .hole), (3, .hole), (4, .hole)], []⟩ [.kl 9, .ks, .ki .i64] (fun (x : (List (List UInt8)) × (List UInt8) × Int × Unit) => S_JoinList_b1 k x.1 x.2.1 x.2.2.1) S_JoinList_b1_L
def S_JoinList_b1_cu (k : Nat) : Cuts D := ⟨[], [(12, some (S_JoinList_c12_cut k))]⟩
theorem S_JoinList_b1_ok (k : Nat) : CutFor X S_JoinList_pl k Go.Proofs.Tryd.f68.results.toList (S_JoinList_b1_cut k) (sub (bodyOf Go.Proofs.Tryd.f68) [1, 1, 0, 1, 0, 0, 1, 0]) :=
  joinCut_s (X := X) (sg := [.kl 9, .ks, .ki .i64]) (cu := S_JoinList_b1_cu k) (cl := S_JoinList_cl k) (tys := [[0]]) (S_JoinList_ck k) (cutOK_of (l := [(S_JoinList_c12_cut k, sub (bodyOf Go.Proofs.Tryd.f68) [1, 1, 0, 1, 0, 0, 1, 0, 0, 0, 1])]) (by kernel_rfl) ⟨S_JoinList_c12_ok k, trivial⟩) fun x Q R h => by
    simp only [S_JoinList_b1, optK_bind, optK_bif, optK_pure, optK_none, optK_oc, optK_guardT, optK_map] at h
    refine hold_of h ?_
    kernel_rfl
def S_JoinList_b0_L (x : (List (List UInt8)) × (List UInt8) × Int × Unit) (o : (List UInt8)) (Q : Ex → VSt D → Prop) (R : VR D → Prop) : Prop := Q .normal (mkSt ⟨[(3, .hole)], []⟩ [.str o])
def S_JoinList_b0_cut (k : Nat) : Cut D := cutS ⟨[(0, .hole), (3, .hole), (4, .hole)], []⟩ [.kl 9, .ks, .ki .i64] (fun (x : (List (List UInt8)) × (List UInt8) × Int × Unit) => S_JoinList_b0 k k x.1 x.2.1 x.2.2.1) S_JoinList_b0_L
def S_JoinList_b0_cu (k : Nat) : Cuts D := ⟨[(1, some (S_JoinList_b1_cut k))], []⟩
theorem S_JoinList_b0_ok (k : Nat) : CutFor X S_JoinList_pl k Go.Proofs.Tryd.f68.results.toList (S_JoinList_b0_cut k) (sub (bodyOf Go.Proofs.Tryd.f68) [1, 1, 0, 1]) :=
  loopCut_s (X := X) (sg := [.kl 9, .ks, .ki .i64]) (cu := S_JoinList_b0_cu k) (cl := S_JoinList_cl k) (tys := [[0]]) (id := 0) (c := sub (bodyOf Go.Proofs.Tryd.f68) [1, 1, 0, 1, 0, 0]) (f := fun n => fun (x : (List (List UInt8)) × (List UInt8) × Int × Unit) => S_JoinList_b0 k n x.1 x.2.1 x.2.2.1) (S_JoinList_ck k) (cutOK_of (l := [(S_JoinList_b1_cut k, sub (bodyOf Go.Proofs.Tryd.f68) [1, 1, 0, 1, 0, 0, 1, 0])]) (by kernel_rfl) ⟨S_JoinList_b1_ok k, trivial⟩) (fun _ => rfl) (fun n x Q R h => by
    simp only [S_JoinList_b0, optK_bind, optK_bif, optK_pure, optK_none, optK_oc, optK_guardT, optK_map] at h
    refine hold_of h ?_
    kernel_rfl) (by kernel_rfl)
def S_JoinList_cu (k : Nat) : Cuts D := ⟨[(0, some (S_JoinList_b0_cut k))], []⟩
def S_JoinList_ar : List Ar := [.c (.kl 9)]
def S_JoinList_f (k : Nat) (x : TupA D S_JoinList_ar) : Option ((List UInt8)) := S_JoinList k x.1
def S_JoinList_vr (r : (List UInt8)) : VR D := .p (.c (.str r))
theorem S_JoinList_ok (k : Nat) : Does P X 68 S_JoinList_ar (S_JoinList_f k) S_JoinList_vr :=
  does_of (body := bodyOf Go.Proofs.Tryd.f68) (pl := S_JoinList_pl) (k := k) (cu := S_JoinList_cu k) (tys := [[0]]) (S_JoinList_ck k) ctx mixed Go.Proofs.Tryd.func68 (by kernel_rfl) (by kernel_rfl) (cutOK_of (l := [(S_JoinList_b0_cut k, sub (bodyOf Go.Proofs.Tryd.f68) [1, 1, 0, 1])]) (by kernel_rfl) ⟨S_JoinList_b0_ok k, trivial⟩) fun x R h => by
    simp only [S_JoinList_f, S_JoinList, optK_bind, optK_bif, optK_pure, optK_none, optK_oc, optK_guardT, optK_map] at h
    refine hold_of h ?_
    kernel_rfl
def S_JoinList_en (k : Nat) : Entry D := entS S_JoinList_ar (S_JoinList_f k) S_JoinList_vr
theorem S_JoinList_eo (k : Nat) : EntryOK X 68 (S_JoinList_en k) := (S_JoinList_ok k).en rfl
def S_GetField_pl : Plan := ⟨[(0, [(0, some 79), (1, none)]), (1, [(0, some 79), (1, none), (6, some 9)]), (2, [(0, some 79), (1, none), (6, some 9), (7, none)]), (3, [(0, some 79), (1, none), (6, some 9), (7, none), (12, none)]), (4, [(0, some 79), (1, none), (6, some 9), (7, none)]), (5, [(0, some 79), (1, none), (6, some 9), (7, none), (21, none)]), (6, [(0, some 79), (1, none), (6, some 9), (7, none)]), (7, [(4, none), (5, none)])],
  [(0, [(6, some 9)]), (1, [(0, some 79), (1, none), (6, some 9), (7, none)])],
  [(12, ([(0, some 79), (1, none), (6, some 9), (7, none)], [(6, some 9)])), (21, ([(0, some 79), (1, none), (6, some 9), (7, none)], [(0, some 79), (1, none), (6, some 9), (7, none)]))]⟩
def S_GetField_cl (k : Nat) : Calls' D := ⟨[(68, S_JoinList_en k)], []⟩
theorem S_GetField_ck (k : Nat) : CallsOK X (S_GetField_cl k) := .cons (S_JoinList_eo k) (.nil cod)
def S_GetField_c21_L (x : (List IField) × (List UInt8) × Int × Bool × (List (List UInt8)) × Unit) (o : (List (List UInt8))) (Q : Ex → VSt D → Prop) (R : VR D → Prop) : Prop := Q .normal (mkSt ⟨[(0, .hole), (1, .hole), (6, .ref 500006), (7, .hole)], [(500006, .row)]⟩ [.sl 79 x.1, .str x.2.1, .int .i64 x.2.2.1, .sl 9 o])
def S_GetField_c21_cut (k : Nat) : Cut D := cutS ⟨[(0, .hole), (1, .hole), (6, .ref 500006), (7, .hole), (21, .hole)], [(500006, .row)]⟩ [.kl 79, .ks, .ki .i64, .kb, .kl 9] (fun (x : (List IField) × (List UInt8) × Int × Bool × (List (List UInt8)) × Unit) => S_GetField_c21 k x.1 x.2.1 x.2.2.1 x.2.2.2.1 x.2.2.2.2.1) S_GetField_c21_L
def S_GetField_c21_cu (k : Nat) : Cuts D := ⟨[], []⟩
theorem S_GetField_c21_ok (k : Nat) : CutFor X S_GetField_pl k Go.Proofs.Tryd.f104.results.toList (S_GetField_c21_cut k) (sub (bodyOf Go.Proofs.Tryd.f104) [1, 1, 0, 1, 0, 0, 1, 0, 0, 1]) :=
  joinCut_s (X := X) (sg := [.kl 79, .ks, .ki .i64, .kb, .kl 9]) (cu := S_GetField_c21_cu k) (cl := S_GetField_cl k) (tys := [[0], [0]]) (S_GetField_ck k) (cutOK_of (l := []) (by kernel_rfl) trivial) fun x Q R h => by
    simp only [S_GetField_c21, optK_bind, optK_bif, optK_pure, optK_none, optK_oc, optK_guardT, optK_map] at h
    refine hold_of h ?_
    kernel_rfl
def S_GetField_b1_L (x : (List IField) × (List UInt8) × Int × (List (List UInt8)) × Unit) (o : (List (List UInt8))) (Q : Ex → VSt D → Prop) (R : VR D → Prop) : Prop := Q .normal (mkSt ⟨[(0, .hole), (1, .hole), (6, .ref 500006), (7, .hole)], [(500006, .row)]⟩ [.sl 79 x.1, .str x.2.1, .int .i64 x.2.2.1, .sl 9 o])
def S_GetField_b1_cut (k : Nat) : Cut D := cutS ⟨[(0, .hole), (1, .hole), (6, .ref 500006), (7, .hole)], [(500006, .row)]⟩ [.kl 79, .ks, .ki .i64, .kl 9] (fun (x : (List IField) × (List UInt8) × Int × (List (List UInt8)) × Unit) => S_GetField_b1 k x.1 x.2.1 x.2.2.1 x.2.2.2.1) S_GetField_b1_L
def S_GetField_b1_cu (k : Nat) : Cuts D := ⟨[], [(21, some (S_GetField_c21_cut k))]⟩
theorem S_GetField_b1_ok (k : Nat) : CutFor X S_GetField_pl k Go.Proofs.Tryd.f104.results.toList (S_GetField_b1_cut k) (sub (bodyOf Go.Proofs.Tryd.f104) [1, 1, 0, 1, 0, 0, 1, 0]) :=
  joinCut_s (X := X) (sg := [.kl 79, .ks, .ki .i64, .kl 9]) (cu := S_GetField_b1_cu k) (cl := S_GetField_cl k) (tys := [[0], [0]]) (S_GetField_ck k) (cutOK_of (l := [(S_GetField_c21_cut k, sub (bodyOf Go.Proofs.Tryd.f104) [1, 1, 0, 1, 0, 0, 1, 0, 0, 1])]) (by kernel_rfl) ⟨S_GetField_c21_ok k, trivial⟩) fun x Q R h => by
    simp only [S_GetField_b1, optK_bind, optK_bif, optK_pure, optK_none, optK_oc, optK_guardT, optK_map] at h
    refine hold_of h ?_
    kernel_rfl
def S_GetField_b0_L (x : (List IField) × (List UInt8) × Int × (List (List UInt8)) × Unit) (o : (List (List UInt8))) (Q : Ex → VSt D → Prop) (R : VR D → Prop) : Prop := Q .normal (mkSt ⟨[(6, .ref 500006)], [(500006, .row)]⟩ [.sl 9 o])
def S_GetField_b0_cut (k : Nat) : Cut D := cutS ⟨[(0, .hole), (1, .hole), (6, .ref 500006), (7, .hole)], [(500006, .row)]⟩ [.kl 79, .ks, .ki .i64, .kl 9] (fun (x : (List IField) × (List UInt8) × Int × (List (List UInt8)) × Unit) => S_GetField_b0 k k x.1 x.2.1 x.2.2.1 x.2.2.2.1) S_GetField_b0_L
def S_GetField_b0_cu (k : Nat) : Cuts D := ⟨[(1, some (S_GetField_b1_cut k))], []⟩
theorem S_GetField_b0_ok (k : Nat) : CutFor X S_GetField_pl k Go.Proofs.Tryd.f104.results.toList (S_GetField_b0_cut k) (sub (bodyOf Go.Proofs.Tryd.f104) [1, 1, 0, 1]) :=
  loopCut_s (X := X) (sg := [.kl 79, .ks, .ki .i64, .kl 9]) (cu := S_GetField_b0_cu k) (cl := S_GetField_cl k) (tys := [[0], [0]]) (id := 0) (c := sub (bodyOf Go.Proofs.Tryd.f104) [1, 1, 0, 1, 0, 0]) (f := fun n => fun (x : (List IField) × (List UInt8) × Int × (List (List UInt8)) × Unit) => S_GetField_b0 k n x.1 x.2.1 x.2.2.1 x.2.2.2.1) (S_GetField_ck k) (cutOK_of (l := [(S_GetField_b1_cut k, sub (bodyOf Go.Proofs.Tryd.f104) [1, 1, 0, 1, 0, 0, 1, 0])]) (by kernel_rfl) ⟨S_GetField_b1_ok k, trivial⟩) (fun _ => rfl) (fun n x Q R h => by
    simp only [S_GetField_b0, optK_bind, optK_bif, optK_pure, optK_none, optK_oc, optK_guardT, optK_map] at h
    refine hold_of h ?_
    kernel_rfl) (by kernel_rfl)
def S_GetField_cu (k : Nat) : Cuts D := ⟨[(0, some (S_GetField_b0_cut k))], []⟩
def S_GetField_ar : List Ar := [.c (.kl 79), .c (.ks)]
def S_GetField_f (k : Nat) (x : TupA D S_GetField_ar) : Option ((List UInt8) × Bool) := S_GetField k x.1 x.2.1
def S_GetField_vr (r : (List UInt8) × Bool) : VR D := .tup [.c (.str r.1), .c (.bool r.2)]
theorem S_GetField_ok (k : Nat) : Does P X 104 S_GetField_ar (S_GetField_f k) S_GetField_vr :=
  does_of (body := bodyOf Go.Proofs.Tryd.f104) (pl := S_GetField_pl) (k := k) (cu := S_GetField_cu k) (tys := [[0], [0]]) (S_GetField_ck k) ctx mixed Go.Proofs.Tryd.func104 (by kernel_rfl) (by kernel_rfl) (cutOK_of (l := [(S_GetField_b0_cut k, sub (bodyOf Go.Proofs.Tryd.f104) [1, 1, 0, 1])]) (by kernel_rfl) ⟨S_GetField_b0_ok k, trivial⟩) fun x R h => by
    simp only [S_GetField_f, S_GetField, optK_bind, optK_bif, optK_pure, optK_none, optK_oc, optK_guardT, optK_map] at h
    refine hold_of h ?_
    kernel_rfl
def S_GetField_en (k : Nat) : Entry D := entS S_GetField_ar (S_GetField_f k) S_GetField_vr
theorem S_GetField_eo (k : Nat) : EntryOK X 104 (S_GetField_en k) := (S_GetField_ok k).en rfl
def S_l5Get_pl : Plan := ⟨[(0, [(0, some 79), (1, none)]), (1, [(5, none)]), (2, [(4, none)])],
  [],
  []⟩
def S_l5Get_cl (k : Nat) : Calls' D := ⟨[(104, S_GetField_en k)], []⟩
theorem S_l5Get_ck (k : Nat) : CallsOK X (S_l5Get_cl k) := .cons (S_GetField_eo k) (.nil cod)
def S_l5Get_cu (k : Nat) : Cuts D := ⟨[], []⟩
def S_l5Get_ar : List Ar := [.c (.kl 79), .c (.ks)]
def S_l5Get_f (k : Nat) (x : TupA D S_l5Get_ar) : Option ((List UInt8)) := S_l5Get k x.1 x.2.1
def S_l5Get_vr (r : (List UInt8)) : VR D := .p (.c (.str r))
theorem S_l5Get_ok (k : Nat) : Does P X 70 S_l5Get_ar (S_l5Get_f k) S_l5Get_vr :=
  does_of (body := bodyOf Go.Proofs.Tryd.f70) (pl := S_l5Get_pl) (k := k) (cu := S_l5Get_cu k) (tys := [[0]]) (S_l5Get_ck k) ctx mixed Go.Proofs.Tryd.func70 (by kernel_rfl) (by kernel_rfl) (cutOK_of (l := []) (by kernel_rfl) trivial) fun x R h => by
    simp only [S_l5Get_f, S_l5Get, optK_bind, optK_bif, optK_pure, optK_none, optK_oc, optK_guardT, optK_map] at h
    refine hold_of h ?_
    kernel_rfl
def S_l5Get_en (k : Nat) : Entry D := entS S_l5Get_ar (S_l5Get_f k) S_l5Get_vr
theorem S_l5Get_eo (k : Nat) : EntryOK X 70 (S_l5Get_en k) := (S_l5Get_ok k).en rfl
def S_l1In_pl : Plan := ⟨[(0, [(0, none), (1, none), (2, none)]), (1, [(6, none)])],
  [],
  []⟩
def S_l1In_cl (k : Nat) : Calls' D := ⟨[], []⟩
theorem S_l1In_ck (k : Nat) : CallsOK X (S_l1In_cl k) := .nil cod
def S_l1In_cu (k : Nat) : Cuts D := ⟨[], []⟩
def S_l1In_ar : List Ar := [.c (.ki .i64), .c (.ki .i64), .c (.ki .i64)]
def S_l1In_f (k : Nat) (x : TupA D S_l1In_ar) : Option (Bool) := S_l1In k x.1 x.2.1 x.2.2.1
def S_l1In_vr (r : Bool) : VR D := .p (.c (.bool r))
theorem S_l1In_ok (k : Nat) : Does P X 62 S_l1In_ar (S_l1In_f k) S_l1In_vr :=
  does_of (body := bodyOf Go.Proofs.Tryd.f62) (pl := S_l1In_pl) (k := k) (cu := S_l1In_cu k) (tys := [[0]]) (S_l1In_ck k) ctx mixed Go.Proofs.Tryd.func62 (by kernel_rfl) (by kernel_rfl) (cutOK_of (l := []) (by kernel_rfl) trivial) fun x R h => by
    simp only [S_l1In_f, S_l1In, optK_bind, optK_bif, optK_pure, optK_none, optK_oc, optK_guardT, optK_map] at h
    refine hold_of h ?_
    kernel_rfl
def S_l1In_en (k : Nat) : Entry D := entS S_l1In_ar (S_l1In_f k) S_l1In_vr
theorem S_l1In_eo (k : Nat) : EntryOK X 62 (S_l1In_en k) := (S_l1In_ok k).en rfl
def S_FormatInt_pl : Plan := ⟨[(0, [(0, none)]), (1, [(0, none), (7, none)]), (2, [(2, none)]), (3, [(0, none), (3, none)]), (4, [(0, none), (3, none), (4, none)]), (5, [(0, none), (3, none), (4, none), (10, none)]), (6, [(0, none), (3, none), (4, none)]), (7, [(0, none), (3, none), (4, none), (5, none)]), (8, [(0, none), (3, none), (4, none), (5, none), (16, none)]), (9, [(0, none), (3, none), (4, none), (5, none)]), (10, [(0, none), (3, none), (4, none)]), (11, [(3, none), (27, none)]), (12, [(2, none)]), (13, [(2, none)])],
  [(0, [(0, none), (3, none)]), (1, [(0, none), (3, none), (4, none)])],
  [(7, ([], [(0, none)])), (10, ([(0, none), (3, none), (4, none)], [(0, none), (3, none)])), (16, ([(0, none), (3, none), (4, none), (5, none)], [(0, none), (3, none), (4, none), (5, none)])), (27, ([(3, none)], [(3, none)]))]⟩
def S_FormatInt_cl (k : Nat) : Calls' D := ⟨[], []⟩
theorem S_FormatInt_ck (k : Nat) : CallsOK X (S_FormatInt_cl k) := .nil cod
def S_FormatInt_c16_L (x : Int × (List UInt8) × Int × Int × Bool × Unit) (o : Int) (Q : Ex → VSt D → Prop) (R : VR D → Prop) : Prop := Q .normal (mkSt ⟨[(0, .hole), (3, .hole), (4, .hole), (5, .hole)], []⟩ [.int .i64 x.1, .str x.2.1, .int .i64 x.2.2.1, .int .i64 o])
def S_FormatInt_c16_cut (k : Nat) : Cut D := cutS ⟨[(0, .hole), (3, .hole), (4, .hole), (5, .hole), (16, .hole)], []⟩ [.ki .i64, .ks, .ki .i64, .ki .i64, .kb] (fun (x : Int × (List UInt8) × Int × Int × Bool × Unit) => S_FormatInt_c16 k x.1 x.2.1 x.2.2.1 x.2.2.2.1 x.2.2.2.2.1) S_FormatInt_c16_L
def S_FormatInt_c16_cu (k : Nat) : Cuts D := ⟨[], []⟩
theorem S_FormatInt_c16_ok (k : Nat) : CutFor X S_FormatInt_pl k Go.Proofs.Tryd.f121.results.toList (S_FormatInt_c16_cut k) (sub (bodyOf Go.Proofs.Tryd.f121) [1, 1, 1, 0, 1, 0, 0, 1, 0, 0, 1, 0, 1]) :=
  joinCut_s (X := X) (sg := [.ki .i64, .ks, .ki .i64, .ki .i64, .kb]) (cu := S_FormatInt_c16_cu k) (cl := S_FormatInt_cl k) (tys := [[0]]) (S_FormatInt_ck k) (cutOK_of (l := []) (by kernel_rfl) trivial) fun x Q R h => by
    simp only [S_FormatInt_c16, optK_bind, optK_bif, optK_pure, optK_none, optK_oc, optK_guardT, optK_map] at h
    refine hold_of h ?_
    kernel_rfl
def S_FormatInt_b1_L (x : Int × (List UInt8) × Int × Unit) (o : (List UInt8)) (Q : Ex → VSt D → Prop) (R : VR D → Prop) : Prop := Q .normal (mkSt ⟨[(0, .hole), (3, .hole), (4, .hole)], []⟩ [.int .i64 x.1, .str o, .int .i64 x.2.2.1])
def S_FormatInt_b1_cut (k : Nat) : Cut D := cutS ⟨[(0, .hole), (3, .hole), (4, .hole)], []⟩ [.ki .i64, .ks, .ki .i64] (fun (x : Int × (List UInt8) × Int × Unit) => S_FormatInt_b1 k x.1 x.2.1 x.2.2.1) S_FormatInt_b1_L
def S_FormatInt_b1_cu (k : Nat) : Cuts D := ⟨[], [(16, some (S_FormatInt_c16_cut k))]⟩
theorem S_FormatInt_b1_ok (k : Nat) : CutFor X S_FormatInt_pl k Go.Proofs.Tryd.f121.results.toList (S_FormatInt_b1_cut k) (sub (bodyOf Go.Proofs.Tryd.f121) [1, 1, 1, 0, 1, 0, 0, 1, 0]) :=
  joinCut_s (X := X) (sg := [.ki .i64, .ks, .ki .i64]) (cu := S_FormatInt_b1_cu k) (cl := S_FormatInt_cl k) (tys := [[0]]) (S_FormatInt_ck k) (cutOK_of (l := [(S_FormatInt_c16_cut k, sub (bodyOf Go.Proofs.Tryd.f121) [1, 1, 1, 0, 1, 0, 0, 1, 0, 0, 1, 0, 1])]) (by kernel_rfl) ⟨S_FormatInt_c16_ok k, trivial⟩) fun x Q R h => by
    simp only [S_FormatInt_b1, optK_bind, optK_bif, optK_pure, optK_none, optK_oc, optK_guardT, optK_map] at h
    refine hold_of h ?_
    kernel_rfl
def S_FormatInt_b0_L (x : Int × (List UInt8) × Int × Unit) (o : (List UInt8)) (Q : Ex → VSt D → Prop) (R : VR D → Prop) : Prop := Q .normal (mkSt ⟨[(0, .hole), (3, .hole)], []⟩ [.int .i64 x.1, .str o])
def S_FormatInt_b0_cut (k : Nat) : Cut D := cutS ⟨[(0, .hole), (3, .hole), (4, .hole)], []⟩ [.ki .i64, .ks, .ki .i64] (fun (x : Int × (List UInt8) × Int × Unit) => S_FormatInt_b0 k k x.1 x.2.1 x.2.2.1) S_FormatInt_b0_L
def S_FormatInt_b0_cu (k : Nat) : Cuts D := ⟨[(1, some (S_FormatInt_b1_cut k))], []⟩
theorem S_FormatInt_b0_ok (k : Nat) : CutFor X S_FormatInt_pl k Go.Proofs.Tryd.f121.results.toList (S_FormatInt_b0_cut k) (sub (bodyOf Go.Proofs.Tryd.f121) [1, 1, 1, 0, 1]) :=
  loopCut_s (X := X) (sg := [.ki .i64, .ks, .ki .i64]) (cu := S_FormatInt_b0_cu k) (cl := S_FormatInt_cl k) (tys := [[0]]) (id := 0) (c := sub (bodyOf Go.Proofs.Tryd.f121) [1, 1, 1, 0, 1, 0, 0]) (f := fun n => fun (x : Int × (List UInt8) × Int × Unit) => S_FormatInt_b0 k n x.1 x.2.1 x.2.2.1) (S_FormatInt_ck k) (cutOK_of (l := [(S_FormatInt_b1_cut k, sub (bodyOf Go.Proofs.Tryd.f121) [1, 1, 1, 0, 1, 0, 0, 1, 0])]) (by kernel_rfl) ⟨S_FormatInt_b1_ok k, trivial⟩) (fun _ => rfl) (fun n x Q R h => by
    simp only [S_FormatInt_b0, optK_bind, optK_bif, optK_pure, optK_none, optK_oc, optK_guardT, optK_map] at h
    refine hold_of h ?_
    kernel_rfl) (by kernel_rfl)
def S_FormatInt_cu (k : Nat) : Cuts D := ⟨[(0, some (S_FormatInt_b0_cut k))], []⟩
def S_FormatInt_ar : List Ar := [.c (.ki .i64)]
def S_FormatInt_f (k : Nat) (x : TupA D S_FormatInt_ar) : Option ((List UInt8)) := S_FormatInt k x.1
def S_FormatInt_vr (r : (List UInt8)) : VR D := .p (.c (.str r))
theorem S_FormatInt_ok (k : Nat) : Does P X 121 S_FormatInt_ar (S_FormatInt_f k) S_FormatInt_vr :=
  does_of (body := bodyOf Go.Proofs.Tryd.f121) (pl := S_FormatInt_pl) (k := k) (cu := S_FormatInt_cu k) (tys := [[0]]) (S_FormatInt_ck k) ctx mixed Go.Proofs.Tryd.func121 (by kernel_rfl) (by kernel_rfl) (cutOK_of (l := [(S_FormatInt_b0_cut k, sub (bodyOf Go.Proofs.Tryd.f121) [1, 1, 1, 0, 1])]) (by kernel_rfl) ⟨S_FormatInt_b0_ok k, trivial⟩) fun x R h => by
    simp only [S_FormatInt_f, S_FormatInt, optK_bind, optK_bif, optK_pure, optK_none, optK_oc, optK_guardT, optK_map] at h
    refine hold_of h ?_
    kernel_rfl
def S_FormatInt_en (k : Nat) : Entry D := entS S_FormatInt_ar (S_FormatInt_f k) S_FormatInt_vr
theorem S_FormatInt_eo (k : Nat) : EntryOK X 121 (S_FormatInt_en k) := (S_FormatInt_ok k).en rfl
def S_ParseInt_pl : Plan := ⟨[(0, [(0, none)]), (1, [(0, none), (9, none)]), (2, [(2, none), (3, none)]), (3, [(0, none), (4, none)]), (4, [(0, none), (4, none), (5, none)]), (5, [(0, none), (4, none), (5, none), (13, none)]), (6, [(0, none), (4, none), (5, none)]), (7, [(0, none), (4, none), (5, none), (21, none)]), (8, [(2, none), (3, none)]), (9, [(0, none), (4, none), (5, none)]), (10, [(4, none), (37, none)]), (11, [(2, none), (3, none)]), (12, [(2, none), (3, none)])],
  [(0, [(0, none), (4, none)]), (1, [(0, none), (4, none), (5, none)])],
  [(9, ([], [(0, none)])), (13, ([(0, none), (4, none), (5, none)], [(0, none), (4, none)])), (21, ([], [(0, none), (4, none), (5, none)])), (37, ([], [(4, none)]))]⟩
def S_ParseInt_cl (k : Nat) : Calls' D := ⟨[(62, S_l1In_en k), (121, S_FormatInt_en k)], []⟩
theorem S_ParseInt_ck (k : Nat) : CallsOK X (S_ParseInt_cl k) := .cons (S_l1In_eo k) (.cons (S_FormatInt_eo k) (.nil cod))
def S_ParseInt_b0_L (x : (List UInt8) × Int × Int × Unit) (o : Oc (Int) (Int × Bool)) (Q : Ex → VSt D → Prop) (R : VR D → Prop) : Prop := ocP o (fun v0 => Q .normal (mkSt ⟨[(0, .hole), (4, .hole)], []⟩ [.str x.1, .int .i64 v0])) (fun w0 => R (.tup [.c (.int .i64 w0.1), .c (.bool w0.2)]))
def S_ParseInt_b0_cut (k : Nat) : Cut D := cutS ⟨[(0, .hole), (4, .hole), (5, .hole)], []⟩ [.ks, .ki .i64, .ki .i64] (fun (x : (List UInt8) × Int × Int × Unit) => S_ParseInt_b0 k k x.1 x.2.1 x.2.2.1) S_ParseInt_b0_L
def S_ParseInt_b0_cu (k : Nat) : Cuts D := ⟨[], []⟩
theorem S_ParseInt_b0_ok (k : Nat) : CutFor X S_ParseInt_pl k Go.Proofs.Tryd.f93.results.toList (S_ParseInt_b0_cut k) (sub (bodyOf Go.Proofs.Tryd.f93) [1, 1, 1, 0, 1]) :=
  loopCut_s (X := X) (sg := [.ks, .ki .i64, .ki .i64]) (cu := S_ParseInt_b0_cu k) (cl := S_ParseInt_cl k) (tys := [[0], [0]]) (id := 0) (c := sub (bodyOf Go.Proofs.Tryd.f93) [1, 1, 1, 0, 1, 0, 0]) (f := fun n => fun (x : (List UInt8) × Int × Int × Unit) => S_ParseInt_b0 k n x.1 x.2.1 x.2.2.1) (S_ParseInt_ck k) (cutOK_of (l := []) (by kernel_rfl) trivial) (fun _ => rfl) (fun n x Q R h => by
    simp only [S_ParseInt_b0, optK_bind, optK_bif, optK_pure, optK_none, optK_oc, optK_guardT, optK_map] at h
    refine hold_of h ?_
    kernel_rfl) (by kernel_rfl)
def S_ParseInt_cu (k : Nat) : Cuts D := ⟨[(0, some (S_ParseInt_b0_cut k))], []⟩
def S_ParseInt_ar : List Ar := [.c (.ks)]
def S_ParseInt_f (k : Nat) (x : TupA D S_ParseInt_ar) : Option (Int × Bool) := S_ParseInt k x.1
def S_ParseInt_vr (r : Int × Bool) : VR D := .tup [.c (.int .i64 r.1), .c (.bool r.2)]
theorem S_ParseInt_ok (k : Nat) : Does P X 93 S_ParseInt_ar (S_ParseInt_f k) S_ParseInt_vr :=
  does_of (body := bodyOf Go.Proofs.Tryd.f93) (pl := S_ParseInt_pl) (k := k) (cu := S_ParseInt_cu k) (tys := [[0], [0]]) (S_ParseInt_ck k) ctx mixed Go.Proofs.Tryd.func93 (by kernel_rfl) (by kernel_rfl) (cutOK_of (l := [(S_ParseInt_b0_cut k, sub (bodyOf Go.Proofs.Tryd.f93) [1, 1, 1, 0, 1])]) (by kernel_rfl) ⟨S_ParseInt_b0_ok k, trivial⟩) fun x R h => by
    simp only [S_ParseInt_f, S_ParseInt, optK_bind, optK_bif, optK_pure, optK_none, optK_oc, optK_guardT, optK_map] at h
    refine hold_of h ?_
    kernel_rfl
def S_ParseInt_en (k : Nat) : Entry D := entS S_ParseInt_ar (S_ParseInt_f k) S_ParseInt_vr
theorem S_ParseInt_eo (k : Nat) : EntryOK X 93 (S_ParseInt_en k) := (S_ParseInt_ok k).en rfl
def S_Min_pl : Plan := ⟨[(0, [(0, none), (1, none)]), (1, [(0, none), (1, none), (7, none)]), (2, [(4, none)]), (3, [(4, none)])],
  [],
  [(7, ([(1, none)], [(0, none)]))]⟩
def S_Min_cl (k : Nat) : Calls' D := ⟨[], []⟩
theorem S_Min_ck (k : Nat) : CallsOK X (S_Min_cl k) := .nil cod
def S_Min_cu (k : Nat) : Cuts D := ⟨[], []⟩
def S_Min_ar : List Ar := [.c (.ki .i64), .c (.ki .i64)]
def S_Min_f (k : Nat) (x : TupA D S_Min_ar) : Option (Int) := S_Min k x.1 x.2.1
def S_Min_vr (r : Int) : VR D := .p (.c (.int .i64 r))
theorem S_Min_ok (k : Nat) : Does P X 94 S_Min_ar (S_Min_f k) S_Min_vr :=
  does_of (body := bodyOf Go.Proofs.Tryd.f94) (pl := S_Min_pl) (k := k) (cu := S_Min_cu k) (tys := [[0]]) (S_Min_ck k) ctx mixed Go.Proofs.Tryd.func94 (by kernel_rfl) (by kernel_rfl) (cutOK_of (l := []) (by kernel_rfl) trivial) fun x R h => by
    simp only [S_Min_f, S_Min, optK_bind, optK_bif, optK_pure, optK_none, optK_oc, optK_guardT, optK_map] at h
    refine hold_of h ?_
    kernel_rfl
def S_Min_en (k : Nat) : Entry D := entS S_Min_ar (S_Min_f k) S_Min_vr
theorem S_Min_eo (k : Nat) : EntryOK X 94 (S_Min_en k) := (S_Min_ok k).en rfl
def S_AgeField_pl : Plan := ⟨[(0, [(1, none)]), (1, [(3, none)]), (2, [(2, none)])],
  [],
  []⟩
def S_AgeField_cl (k : Nat) : Calls' D := ⟨[(70, S_l5Get_en k), (93, S_ParseInt_en k), (94, S_Min_en k)], []⟩
theorem S_AgeField_ck (k : Nat) : CallsOK X (S_AgeField_cl k) := .cons (S_l5Get_eo k) (.cons (S_ParseInt_eo k) (.cons (S_Min_eo k) (.nil cod)))
def S_AgeField_cu (k : Nat) : Cuts D := ⟨[], []⟩
def S_AgeField_ar : List Ar := [.a [.ki .i64, .kl 79, .ks]]
def S_AgeField_f (k : Nat) (x : TupA D S_AgeField_ar) : Option (Int) := S_AgeField k (⟨x.1.1, x.1.2.1, x.1.2.2.1⟩ : IResponse)
def S_AgeField_vr (r : Int) : VR D := .p (.c (.int .i64 r))
theorem S_AgeField_ok (k : Nat) : Does P X 47 S_AgeField_ar (S_AgeField_f k) S_AgeField_vr :=
  does_of (body := bodyOf Go.Proofs.Tryd.f47) (pl := S_AgeField_pl) (k := k) (cu := S_AgeField_cu k) (tys := [[0]]) (S_AgeField_ck k) ctx mixed Go.Proofs.Tryd.func47 (by kernel_rfl) (by kernel_rfl) (cutOK_of (l := []) (by kernel_rfl) trivial) fun x R h => by
    simp only [S_AgeField_f, S_AgeField, optK_bind, optK_bif, optK_pure, optK_none, optK_oc, optK_guardT, optK_map] at h
    refine hold_of h ?_
    kernel_rfl
def S_AgeField_en (k : Nat) : Entry D := entS S_AgeField_ar (S_AgeField_f k) S_AgeField_vr
theorem S_AgeField_eo (k : Nat) : EntryOK X 47 (S_AgeField_en k) := (S_AgeField_ok k).en rfl
def strings_Join_ar : List Ar := [.c (.kl 9), .c (.ks)]
def strings_Join_f (k : Nat) (x : TupA D strings_Join_ar) : Option ((List UInt8)) := strings_Join k x.1 x.2.1
def strings_Join_vr (r : (List UInt8)) : VR D := .p (.c (.str r))
theorem strings_Join_ok (k : Nat) : Does P X 127 strings_Join_ar (strings_Join_f k) strings_Join_vr := does_join (P := P) (D := D) (X := X) (el := 9) ⟨Go.Proofs.Tryd.f127, Go.Proofs.Tryd.func127, by kernel_rfl, by kernel_rfl⟩ (fun (s : List UInt8) => s) (fun (l : List (List UInt8)) s => joinO l s) (fun _ => rfl) (by kernel_rfl) (fun (l : List (List UInt8)) s => congrArg (fun t => joinO t s) (List.map_id' l).symm) (fun a c sep w => Go.Proofs.Tryd.strings_Join_none a c sep w) (fun bk o c xs sep w hg h1 h2 h3 h4 h5 => Go.Proofs.Tryd.strings_Join bk o c xs sep w h1 h2 h3 h4 h5)
def strings_Join_en (k : Nat) : Entry D := entS strings_Join_ar (strings_Join_f k) strings_Join_vr
theorem strings_Join_eo (k : Nat) : EntryOK X 127 (strings_Join_en k) := (strings_Join_ok k).en rfl
def I_JoinList_pl : Plan := ⟨[(0, [(0, some 9)]), (1, [(2, none)])],
  [],
  []⟩
def I_JoinList_cl (k : Nat) : Calls' D := ⟨[(127, strings_Join_en k)], []⟩
theorem I_JoinList_ck (k : Nat) : CallsOK X (I_JoinList_cl k) := .cons (strings_Join_eo k) (.nil cod)
def I_JoinList_cu (k : Nat) : Cuts D := ⟨[], []⟩
def I_JoinList_ar : List Ar := [.c (.kl 9)]
def I_JoinList_f (k : Nat) (x : TupA D I_JoinList_ar) : Option ((List UInt8)) := I_JoinList k x.1
def I_JoinList_vr (r : (List UInt8)) : VR D := .p (.c (.str r))
theorem I_JoinList_ok (k : Nat) : Does P X 103 I_JoinList_ar (I_JoinList_f k) I_JoinList_vr :=
  does_of (body := bodyOf Go.Proofs.Tryd.f103) (pl := I_JoinList_pl) (k := k) (cu := I_JoinList_cu k) (tys := [[0]]) (I_JoinList_ck k) ctx mixed Go.Proofs.Tryd.func103 (by kernel_rfl) (by kernel_rfl) (cutOK_of (l := []) (by kernel_rfl) trivial) fun x R h => by
    simp only [I_JoinList_f, I_JoinList, optK_bind, optK_bif, optK_pure, optK_none, optK_oc, optK_guardT, optK_map] at h
    refine hold_of h ?_
    kernel_rfl
def I_JoinList_en (k : Nat) : Entry D := entS I_JoinList_ar (I_JoinList_f k) I_JoinList_vr
theorem I_JoinList_eo (k : Nat) : EntryOK X 103 (I_JoinList_en k) := (I_JoinList_ok k).en rfl
def I_GetField_pl : Plan := ⟨[(0, [(0, some 79), (1, none)]), (1, [(0, some 79), (1, none), (6, some 9)]), (2, [(1, none), (6, some 9), (10, some 79), (11, none), (12, none)]), (3, [(1, none), (6, some 9), (10, some 79), (11, none), (12, none), (13, none)]), (4, [(1, none), (6, some 9), (8, none), (10, some 79), (11, none), (12, none)]), (5, [(1, none), (6, some 9), (8, none), (10, some 79), (11, none), (12, none), (19, none)]), (6, [(1, none), (6, some 9), (10, some 79), (11, none), (12, none)]), (7, [(1, none), (6, some 9), (10, some 79), (11, none), (12, none)]), (8, [(4, none), (5, none)])],
  [(0, [(6, some 9)]), (1, [(1, none), (6, some 9), (10, some 79), (11, none), (12, none)])],
  [(13, ([(1, none), (6, some 9), (10, some 79), (11, none), (12, none)], [(6, some 9)])), (19, ([(1, none), (6, some 9), (8, none), (10, some 79), (11, none), (12, none)], [(1, none), (6, some 9), (10, some 79), (11, none), (12, none)]))]⟩
def I_GetField_cl (k : Nat) : Calls' D := ⟨[(103, I_JoinList_en k)], []⟩
theorem I_GetField_ck (k : Nat) : CallsOK X (I_GetField_cl k) := .cons (I_JoinList_eo k) (.nil cod)
def I_GetField_c19_L (x : (List UInt8) × (List IField) × Int × Int × Bool × (List (List UInt8)) × (List UInt8) × (List UInt8) × Unit) (o : (List (List UInt8))) (Q : Ex → VSt D → Prop) (R : VR D → Prop) : Prop := Q .normal (mkSt ⟨[(1, .hole), (6, .ref 500006), (10, .hole), (11, .hole), (12, .hole)], [(500006, .row)]⟩ [.str x.1, .sl 79 x.2.1, .int .i64 x.2.2.1, .int .i64 x.2.2.2.1, .sl 9 o])
def I_GetField_c19_cut (k : Nat) : Cut D := cutS ⟨[(1, .hole), (6, .ref 500006), (8, .ptr 8 0), (10, .hole), (11, .hole), (12, .hole), (19, .hole)], [(500006, .row), (8, .var [.hole, .hole])]⟩ [.ks, .kl 79, .ki .i64, .ki .i64, .kb, .kl 9, .ks, .ks] (fun (x : (List UInt8) × (List IField) × Int × Int × Bool × (List (List UInt8)) × (List UInt8) × (List UInt8) × Unit) => I_GetField_c19 k x.1 x.2.1 x.2.2.1 x.2.2.2.1 x.2.2.2.2.1 x.2.2.2.2.2.1 x.2.2.2.2.2.2.1 x.2.2.2.2.2.2.2.1) I_GetField_c19_L
def I_GetField_c19_cu (k : Nat) : Cuts D := ⟨[], []⟩
theorem I_GetField_c19_ok (k : Nat) : CutFor X I_GetField_pl k Go.Proofs.Tryd.f57.results.toList (I_GetField_c19_cut k) (sub (bodyOf Go.Proofs.Tryd.f57) [1, 1, 0, 1, 0, 0, 1, 1, 0, 0, 1, 1]) :=
  joinCut_s (X := X) (sg := [.ks, .kl 79, .ki .i64, .ki .i64, .kb, .kl 9, .ks, .ks]) (cu := I_GetField_c19_cu k) (cl := I_GetField_cl k) (tys := [[0], [0]]) (I_GetField_ck k) (cutOK_of (l := []) (by kernel_rfl) trivial) fun x Q R h => by
    simp only [I_GetField_c19, optK_bind, optK_bif, optK_pure, optK_none, optK_oc, optK_guardT, optK_map] at h
    refine hold_of h ?_
    kernel_rfl
def I_GetField_b1_L (x : (List UInt8) × (List IField) × Int × Int × (List (List UInt8)) × Unit) (o : (List (List UInt8))) (Q : Ex → VSt D → Prop) (R : VR D → Prop) : Prop := Q .normal (mkSt ⟨[(1, .hole), (6, .ref 500006), (10, .hole), (11, .hole), (12, .hole)], [(500006, .row)]⟩ [.str x.1, .sl 79 x.2.1, .int .i64 x.2.2.1, .int .i64 x.2.2.2.1, .sl 9 o])
def I_GetField_b1_cut (k : Nat) : Cut D := cutS ⟨[(1, .hole), (6, .ref 500006), (10, .hole), (11, .hole), (12, .hole)], [(500006, .row)]⟩ [.ks, .kl 79, .ki .i64, .ki .i64, .kl 9] (fun (x : (List UInt8) × (List IField) × Int × Int × (List (List UInt8)) × Unit) => I_GetField_b1 k x.1 x.2.1 x.2.2.1 x.2.2.2.1 x.2.2.2.2.1) I_GetField_b1_L
def I_GetField_b1_cu (k : Nat) : Cuts D := ⟨[], [(19, some (I_GetField_c19_cut k))]⟩
theorem I_GetField_b1_ok (k : Nat) : CutFor X I_GetField_pl k Go.Proofs.Tryd.f57.results.toList (I_GetField_b1_cut k) (sub (bodyOf Go.Proofs.Tryd.f57) [1, 1, 0, 1, 0, 0, 1, 1, 0]) :=
  joinCut_s (X := X) (sg := [.ks, .kl 79, .ki .i64, .ki .i64, .kl 9]) (cu := I_GetField_b1_cu k) (cl := I_GetField_cl k) (tys := [[0], [0]]) (I_GetField_ck k) (cutOK_of (l := [(I_GetField_c19_cut k, sub (bodyOf Go.Proofs.Tryd.f57) [1, 1, 0, 1, 0, 0, 1, 1, 0, 0, 1, 1])]) (by kernel_rfl) ⟨I_GetField_c19_ok k, trivial⟩) fun x Q R h => by
    simp only [I_GetField_b1, optK_bind, optK_bif, optK_pure, optK_none, optK_oc, optK_guardT, optK_map] at h
    refine hold_of h ?_
    kernel_rfl
def I_GetField_b0_L (x : (List UInt8) × (List IField) × Int × Int × (List (List UInt8)) × Unit) (o : (List (List UInt8))) (Q : Ex → VSt D → Prop) (R : VR D → Prop) : Prop := Q .normal (mkSt ⟨[(6, .ref 500006)], [(500006, .row)]⟩ [.sl 9 o])
def I_GetField_b0_cut (k : Nat) : Cut D := cutS ⟨[(1, .hole), (6, .ref 500006), (10, .hole), (11, .hole), (12, .hole)], [(500006, .row)]⟩ [.ks, .kl 79, .ki .i64, .ki .i64, .kl 9] (fun (x : (List UInt8) × (List IField) × Int × Int × (List (List UInt8)) × Unit) => I_GetField_b0 k k x.1 x.2.1 x.2.2.1 x.2.2.2.1 x.2.2.2.2.1) I_GetField_b0_L
def I_GetField_b0_cu (k : Nat) : Cuts D := ⟨[(1, some (I_GetField_b1_cut k))], []⟩
theorem I_GetField_b0_ok (k : Nat) : CutFor X I_GetField_pl k Go.Proofs.Tryd.f57.results.toList (I_GetField_b0_cut k) (sub (bodyOf Go.Proofs.Tryd.f57) [1, 1, 0, 1]) :=
  loopCut_s (X := X) (sg := [.ks, .kl 79, .ki .i64, .ki .i64, .kl 9]) (cu := I_GetField_b0_cu k) (cl := I_GetField_cl k) (tys := [[0], [0]]) (id := 0) (c := sub (bodyOf Go.Proofs.Tryd.f57) [1, 1, 0, 1, 0, 0]) (f := fun n => fun (x : (List UInt8) × (List IField) × Int × Int × (List (List UInt8)) × Unit) => I_GetField_b0 k n x.1 x.2.1 x.2.2.1 x.2.2.2.1 x.2.2.2.2.1) (I_GetField_ck k) (cutOK_of (l := [(I_GetField_b1_cut k, sub (bodyOf Go.Proofs.Tryd.f57) [1, 1, 0, 1, 0, 0, 1, 1, 0])]) (by kernel_rfl) ⟨I_GetField_b1_ok k, trivial⟩) (fun _ => rfl) (fun n x Q R h => by
    simp only [I_GetField_b0, optK_bind, optK_bif, optK_pure, optK_none, optK_oc, optK_guardT, optK_map] at h
    refine hold_of h ?_
    kernel_rfl) (by kernel_rfl)
def I_GetField_cu (k : Nat) : Cuts D := ⟨[(0, some (I_GetField_b0_cut k))], []⟩
def I_GetField_ar : List Ar := [.c (.kl 79), .c (.ks)]
def I_GetField_f (k : Nat) (x : TupA D I_GetField_ar) : Option ((List UInt8) × Bool) := I_GetField k x.1 x.2.1
def I_GetField_vr (r : (List UInt8) × Bool) : VR D := .tup [.c (.str r.1), .c (.bool r.2)]
theorem I_GetField_ok (k : Nat) : Does P X 57 I_GetField_ar (I_GetField_f k) I_GetField_vr :=
  does_of (body := bodyOf Go.Proofs.Tryd.f57) (pl := I_GetField_pl) (k := k) (cu := I_GetField_cu k) (tys := [[0], [0]]) (I_GetField_ck k) ctx mixed Go.Proofs.Tryd.func57 (by kernel_rfl) (by kernel_rfl) (cutOK_of (l := [(I_GetField_b0_cut k, sub (bodyOf Go.Proofs.Tryd.f57) [1, 1, 0, 1])]) (by kernel_rfl) ⟨I_GetField_b0_ok k, trivial⟩) fun x R h => by
    simp only [I_GetField_f, I_GetField, optK_bind, optK_bif, optK_pure, optK_none, optK_oc, optK_guardT, optK_map] at h
    refine hold_of h ?_
    kernel_rfl
def I_GetField_en (k : Nat) : Entry D := entS I_GetField_ar (I_GetField_f k) I_GetField_vr
theorem I_GetField_eo (k : Nat) : EntryOK X 57 (I_GetField_en k) := (I_GetField_ok k).en rfl
def strconv_Atoi_ar : List Ar := [.c (.ks)]
def strconv_Atoi_f (k : Nat) (x : TupA D strconv_Atoi_ar) : Option (Int × Bool) := strconv_Atoi k x.1
def strconv_Atoi_vr (r : Int × Bool) : VR D := .tup [.c (.int .i64 r.1), .c (.err r.2)]
theorem strconv_Atoi_ok (k : Nat) : Does P X 122 strconv_Atoi_ar (strconv_Atoi_f k) strconv_Atoi_vr := does_atoi ⟨Go.Proofs.Tryd.f122, Go.Proofs.Tryd.func122, by kernel_rfl, by kernel_rfl⟩ (fun s v w hg h1 h2 => Go.Proofs.Tryd.strconv_Atoi_ok s h1 v h2 w) (fun s w hg h1 h2 => let ⟨tp, p, hv⟩ := hg.1; (Go.Proofs.Tryd.strconv_Atoi_range_var s h1 h2 tp p w hv).mono fun e w1 ⟨N, h, _, _, hb⟩ => ⟨_, h, hb⟩) (fun s w hg h1 h2 h3 => let ⟨tp, p, hv⟩ := hg.2.1; (Go.Proofs.Any.strconv_Atoi_syntax_var Go.Proofs.Tryd.laysC172 s h1 (atoi_bad h2 h3) tp p w hv).mono fun e w1 ⟨N, h, _, _, hb⟩ => ⟨_, h, hb⟩)
def strconv_Atoi_en (k : Nat) : Entry D := entS strconv_Atoi_ar (strconv_Atoi_f k) strconv_Atoi_vr
theorem strconv_Atoi_eo (k : Nat) : EntryOK X 122 (strconv_Atoi_en k) := (strconv_Atoi_ok k).en rfl
def I_inRange_pl : Plan := ⟨[(0, [(0, none), (1, none), (2, none)]), (1, [(6, none)])],
  [],
  []⟩
def I_inRange_cl (k : Nat) : Calls' D := ⟨[], []⟩
theorem I_inRange_ck (k : Nat) : CallsOK X (I_inRange_cl k) := .nil cod
def I_inRange_cu (k : Nat) : Cuts D := ⟨[], []⟩
def I_inRange_ar : List Ar := [.c (.ki .i64), .c (.ki .i64), .c (.ki .i64)]
def I_inRange_f (k : Nat) (x : TupA D I_inRange_ar) : Option (Bool) := I_inRange k x.1 x.2.1 x.2.2.1
def I_inRange_vr (r : Bool) : VR D := .p (.c (.bool r))
theorem I_inRange_ok (k : Nat) : Does P X 64 I_inRange_ar (I_inRange_f k) I_inRange_vr :=
  does_of (body := bodyOf Go.Proofs.Tryd.f64) (pl := I_inRange_pl) (k := k) (cu := I_inRange_cu k) (tys := [[0]]) (I_inRange_ck k) ctx mixed Go.Proofs.Tryd.func64 (by kernel_rfl) (by kernel_rfl) (cutOK_of (l := []) (by kernel_rfl) trivial) fun x R h => by
    simp only [I_inRange_f, I_inRange, optK_bind, optK_bif, optK_pure, optK_none, optK_oc, optK_guardT, optK_map] at h
    refine hold_of h ?_
    kernel_rfl
def I_inRange_en (k : Nat) : Entry D := entS I_inRange_ar (I_inRange_f k) I_inRange_vr
theorem I_inRange_eo (k : Nat) : EntryOK X 64 (I_inRange_en k) := (I_inRange_ok k).en rfl
def strconv_Itoa_ar : List Ar := [.c (.ki .i64)]
def strconv_Itoa_f (k : Nat) (x : TupA D strconv_Itoa_ar) : Option ((List UInt8)) := strconv_Itoa k x.1
def strconv_Itoa_vr (r : (List UInt8)) : VR D := .p (.c (.str r))
theorem strconv_Itoa_ok (k : Nat) : Does P X 123 strconv_Itoa_ar (strconv_Itoa_f k) strconv_Itoa_vr := does_itoa ⟨Go.Proofs.Tryd.f123, Go.Proofs.Tryd.func123, by kernel_rfl, by kernel_rfl⟩ (fun n w hg h0 h1 => Go.Proofs.Tryd.strconv_Itoa n h0 h1 w hg.2.2)
def strconv_Itoa_en (k : Nat) : Entry D := entS strconv_Itoa_ar (strconv_Itoa_f k) strconv_Itoa_vr
theorem strconv_Itoa_eo (k : Nat) : EntryOK X 123 (strconv_Itoa_en k) := (strconv_Itoa_ok k).en rfl
def I_FormatInt_pl : Plan := ⟨[(0, [(0, none)]), (1, [(2, none)])],
  [],
  []⟩
def I_FormatInt_cl (k : Nat) : Calls' D := ⟨[(123, strconv_Itoa_en k)], []⟩
theorem I_FormatInt_ck (k : Nat) : CallsOK X (I_FormatInt_cl k) := .cons (strconv_Itoa_eo k) (.nil cod)
def I_FormatInt_cu (k : Nat) : Cuts D := ⟨[], []⟩
def I_FormatInt_ar : List Ar := [.c (.ki .i64)]
def I_FormatInt_f (k : Nat) (x : TupA D I_FormatInt_ar) : Option ((List UInt8)) := I_FormatInt k x.1
def I_FormatInt_vr (r : (List UInt8)) : VR D := .p (.c (.str r))
theorem I_FormatInt_ok (k : Nat) : Does P X 99 I_FormatInt_ar (I_FormatInt_f k) I_FormatInt_vr :=
  does_of (body := bodyOf Go.Proofs.Tryd.f99) (pl := I_FormatInt_pl) (k := k) (cu := I_FormatInt_cu k) (tys := [[0]]) (I_FormatInt_ck k) ctx mixed Go.Proofs.Tryd.func99 (by kernel_rfl) (by kernel_rfl) (cutOK_of (l := []) (by kernel_rfl) trivial) fun x R h => by
    simp only [I_FormatInt_f, I_FormatInt, optK_bind, optK_bif, optK_pure, optK_none, optK_oc, optK_guardT, optK_map] at h
    refine hold_of h ?_
    kernel_rfl
def I_FormatInt_en (k : Nat) : Entry D := entS I_FormatInt_ar (I_FormatInt_f k) I_FormatInt_vr
theorem I_FormatInt_eo (k : Nat) : EntryOK X 99 (I_FormatInt_en k) := (I_FormatInt_ok k).en rfl
def I_ParseInt_pl : Plan := ⟨[(0, [(0, none)]), (1, [(0, none), (8, none)]), (2, [(2, none), (3, none)]), (3, [(0, none), (4, none), (5, none)]), (4, [(4, none), (26, none)]), (5, [(2, none), (3, none)]), (6, [(2, none), (3, none)])],
  [],
  [(8, ([], [(0, none)])), (26, ([], [(4, none)]))]⟩
def I_ParseInt_cl (k : Nat) : Calls' D := ⟨[(122, strconv_Atoi_en k), (64, I_inRange_en k), (99, I_FormatInt_en k)], []⟩
theorem I_ParseInt_ck (k : Nat) : CallsOK X (I_ParseInt_cl k) := .cons (strconv_Atoi_eo k) (.cons (I_inRange_eo k) (.cons (I_FormatInt_eo k) (.nil cod)))
def I_ParseInt_cu (k : Nat) : Cuts D := ⟨[], []⟩
def I_ParseInt_ar : List Ar := [.c (.ks)]
def I_ParseInt_f (k : Nat) (x : TupA D I_ParseInt_ar) : Option (Int × Bool) := I_ParseInt k x.1
def I_ParseInt_vr (r : Int × Bool) : VR D := .tup [.c (.int .i64 r.1), .c (.bool r.2)]
theorem I_ParseInt_ok (k : Nat) : Does P X 95 I_ParseInt_ar (I_ParseInt_f k) I_ParseInt_vr :=
  does_of (body := bodyOf Go.Proofs.Tryd.f95) (pl := I_ParseInt_pl) (k := k) (cu := I_ParseInt_cu k) (tys := [[0], [0]]) (I_ParseInt_ck k) ctx mixed Go.Proofs.Tryd.func95 (by kernel_rfl) (by kernel_rfl) (cutOK_of (l := []) (by kernel_rfl) trivial) fun x R h => by
    simp only [I_ParseInt_f, I_ParseInt, optK_bind, optK_bif, optK_pure, optK_none, optK_oc, optK_guardT, optK_map] at h
    refine hold_of h ?_
    kernel_rfl
def I_ParseInt_en (k : Nat) : Entry D := entS I_ParseInt_ar (I_ParseInt_f k) I_ParseInt_vr
theorem I_ParseInt_eo (k : Nat) : EntryOK X 95 (I_ParseInt_en k) := (I_ParseInt_ok k).en rfl
def I_AgeField_pl : Plan := ⟨[(0, [(1, none)]), (1, [(3, none)]), (2, [(5, none)]), (3, [(2, none)])],
  [],
  []⟩
def I_AgeField_cl (k : Nat) : Calls' D := ⟨[(57, I_GetField_en k), (95, I_ParseInt_en k)], []⟩
theorem I_AgeField_ck (k : Nat) : CallsOK X (I_AgeField_cl k) := .cons (I_GetField_eo k) (.cons (I_ParseInt_eo k) (.nil cod))
def I_AgeField_cu (k : Nat) : Cuts D := ⟨[], []⟩
def I_AgeField_ar : List Ar := [.a [.ki .i64, .kl 79, .ks]]
def I_AgeField_f (k : Nat) (x : TupA D I_AgeField_ar) : Option (Int) := I_AgeField k (⟨x.1.1, x.1.2.1, x.1.2.2.1⟩ : IResponse)
def I_AgeField_vr (r : Int) : VR D := .p (.c (.int .i64 r))
theorem I_AgeField_ok (k : Nat) : Does P X 48 I_AgeField_ar (I_AgeField_f k) I_AgeField_vr :=
  does_of (body := bodyOf Go.Proofs.Tryd.f48) (pl := I_AgeField_pl) (k := k) (cu := I_AgeField_cu k) (tys := [[0]]) (I_AgeField_ck k) ctx mixed Go.Proofs.Tryd.func48 (by kernel_rfl) (by kernel_rfl) (cutOK_of (l := []) (by kernel_rfl) trivial) fun x R h => by
    simp only [I_AgeField_f, I_AgeField, optK_bind, optK_bif, optK_pure, optK_none, optK_oc, optK_guardT, optK_map] at h
    refine hold_of h ?_
    kernel_rfl
def I_AgeField_en (k : Nat) : Entry D := entS I_AgeField_ar (I_AgeField_f k) I_AgeField_vr
theorem I_AgeField_eo (k : Nat) : EntryOK X 48 (I_AgeField_en k) := (I_AgeField_ok k).en rfl
def L_eqField_pl : Plan := ⟨[(0, [(2, none), (3, none)]), (1, [(2, none), (3, none), (9, none)]), (2, [(4, none)]), (3, [(14, none)]), (4, [(4, none)]), (5, [(4, none)])],
  [],
  [(9, ([], [(2, none), (3, none)])), (14, ([], []))]⟩
def L_eqField_cl (k : Nat) : Calls' D := ⟨[], []⟩
theorem L_eqField_ck (k : Nat) : CallsOK X (L_eqField_cl k) := .nil cod
def L_eqField_cu (k : Nat) : Cuts D := ⟨[], []⟩
def L_eqField_ar : List Ar := [.a [.ks, .ks], .a [.ks, .ks]]
def L_eqField_f (k : Nat) (x : TupA D L_eqField_ar) : Option (Bool) := L_eqField k (⟨x.1.1, x.1.2.1⟩ : IField) (⟨x.2.1.1, x.2.1.2.1⟩ : IField)
def L_eqField_vr (r : Bool) : VR D := .p (.c (.bool r))
theorem L_eqField_ok (k : Nat) : Does P X 72 L_eqField_ar (L_eqField_f k) L_eqField_vr :=
  does_of (body := bodyOf Go.Proofs.Tryd.f72) (pl := L_eqField_pl) (k := k) (cu := L_eqField_cu k) (tys := [[0]]) (L_eqField_ck k) ctx mixed Go.Proofs.Tryd.func72 (by kernel_rfl) (by kernel_rfl) (cutOK_of (l := []) (by kernel_rfl) trivial) fun x R h => by
    simp only [L_eqField_f, L_eqField, optK_bind, optK_bif, optK_pure, optK_none, optK_oc, optK_guardT, optK_map] at h
    refine hold_of h ?_
    kernel_rfl
def L_eqField_en (k : Nat) : Entry D := entS L_eqField_ar (L_eqField_f k) L_eqField_vr
theorem L_eqField_eo (k : Nat) : EntryOK X 72 (L_eqField_en k) := (L_eqField_ok k).en rfl
def L_eqFieldS_pl : Plan := ⟨[(0, [(0, some 79), (1, some 79)]), (1, [(0, some 79), (1, some 79), (10, none)]), (2, [(4, none)]), (3, [(0, some 79), (1, some 79), (5, none)]), (4, [(0, some 79), (1, some 79), (5, none), (14, none)]), (5, [(0, some 79), (1, some 79), (5, none)]), (6, [(0, some 79), (1, some 79), (5, none), (26, none)]), (7, [(4, none)]), (8, [(4, none)])],
  [(0, []), (1, [(0, some 79), (1, some 79), (5, none)])],
  [(10, ([], [(0, some 79), (1, some 79)])), (14, ([(0, some 79), (1, some 79), (5, none)], [])), (26, ([], [(0, some 79), (1, some 79), (5, none)]))]⟩
def L_eqFieldS_cl (k : Nat) : Calls' D := ⟨[(72, L_eqField_en k)], []⟩
theorem L_eqFieldS_ck (k : Nat) : CallsOK X (L_eqFieldS_cl k) := .cons (L_eqField_eo k) (.nil cod)
def L_eqFieldS_b0_L (x : (List IField) × (List IField) × Int × Unit) (o : Oc (Unit) (Bool)) (Q : Ex → VSt D → Prop) (R : VR D → Prop) : Prop := ocP o (fun v0 => Q .normal (mkSt ⟨[], []⟩ [])) (fun w0 => R (.p (.c (.bool w0))))
def L_eqFieldS_b0_cut (k : Nat) : Cut D := cutS ⟨[(0, .hole), (1, .hole), (5, .hole)], []⟩ [.kl 79, .kl 79, .ki .i64] (fun (x : (List IField) × (List IField) × Int × Unit) => L_eqFieldS_b0 k k x.1 x.2.1 x.2.2.1) L_eqFieldS_b0_L
def L_eqFieldS_b0_cu (k : Nat) : Cuts D := ⟨[], []⟩
theorem L_eqFieldS_b0_ok (k : Nat) : CutFor X L_eqFieldS_pl k Go.Proofs.Tryd.f27.results.toList (L_eqFieldS_b0_cut k) (sub (bodyOf Go.Proofs.Tryd.f27) [1, 1, 0, 1]) :=
  loopCut_s (X := X) (sg := [.kl 79, .kl 79, .ki .i64]) (cu := L_eqFieldS_b0_cu k) (cl := L_eqFieldS_cl k) (tys := [[0]]) (id := 0) (c := sub (bodyOf Go.Proofs.Tryd.f27) [1, 1, 0, 1, 0, 0]) (f := fun n => fun (x : (List IField) × (List IField) × Int × Unit) => L_eqFieldS_b0 k n x.1 x.2.1 x.2.2.1) (L_eqFieldS_ck k) (cutOK_of (l := []) (by kernel_rfl) trivial) (fun _ => rfl) (fun n x Q R h => by
    simp only [L_eqFieldS_b0, optK_bind, optK_bif, optK_pure, optK_none, optK_oc, optK_guardT, optK_map] at h
    refine hold_of h ?_
    kernel_rfl) (by kernel_rfl)
def L_eqFieldS_cu (k : Nat) : Cuts D := ⟨[(0, some (L_eqFieldS_b0_cut k))], []⟩
def L_eqFieldS_ar : List Ar := [.c (.kl 79), .c (.kl 79)]
def L_eqFieldS_f (k : Nat) (x : TupA D L_eqFieldS_ar) : Option (Bool) := L_eqFieldS k x.1 x.2.1
def L_eqFieldS_vr (r : Bool) : VR D := .p (.c (.bool r))
theorem L_eqFieldS_ok (k : Nat) : Does P X 27 L_eqFieldS_ar (L_eqFieldS_f k) L_eqFieldS_vr :=
  does_of (body := bodyOf Go.Proofs.Tryd.f27) (pl := L_eqFieldS_pl) (k := k) (cu := L_eqFieldS_cu k) (tys := [[0]]) (L_eqFieldS_ck k) ctx mixed Go.Proofs.Tryd.func27 (by kernel_rfl) (by kernel_rfl) (cutOK_of (l := [(L_eqFieldS_b0_cut k, sub (bodyOf Go.Proofs.Tryd.f27) [1, 1, 0, 1])]) (by kernel_rfl) ⟨L_eqFieldS_b0_ok k, trivial⟩) fun x R h => by
    simp only [L_eqFieldS_f, L_eqFieldS, optK_bind, optK_bif, optK_pure, optK_none, optK_oc, optK_guardT, optK_map] at h
    refine hold_of h ?_
    kernel_rfl
def L_eqFieldS_en (k : Nat) : Entry D := entS L_eqFieldS_ar (L_eqFieldS_f k) L_eqFieldS_vr
theorem L_eqFieldS_eo (k : Nat) : EntryOK X 27 (L_eqFieldS_en k) := (L_eqFieldS_ok k).en rfl
def L_eqResponse_pl : Plan := ⟨[(0, [(2, none), (3, none)]), (1, [(2, none), (3, none), (9, none)]), (2, [(4, none)]), (3, [(2, none), (3, none), (15, none)]), (4, [(4, none)]), (5, [(20, none)]), (6, [(4, none)]), (7, [(4, none)])],
  [],
  [(9, ([], [(2, none), (3, none)])), (15, ([], [(2, none), (3, none)])), (20, ([], []))]⟩
def L_eqResponse_cl (k : Nat) : Calls' D := ⟨[(27, L_eqFieldS_en k)], []⟩
theorem L_eqResponse_ck (k : Nat) : CallsOK X (L_eqResponse_cl k) := .cons (L_eqFieldS_eo k) (.nil cod)
def L_eqResponse_cu (k : Nat) : Cuts D := ⟨[], []⟩
def L_eqResponse_ar : List Ar := [.a [.ki .i64, .kl 79, .ks], .a [.ki .i64, .kl 79, .ks]]
def L_eqResponse_f (k : Nat) (x : TupA D L_eqResponse_ar) : Option (Bool) := L_eqResponse k (⟨x.1.1, x.1.2.1, x.1.2.2.1⟩ : IResponse) (⟨x.2.1.1, x.2.1.2.1, x.2.1.2.2.1⟩ : IResponse)
def L_eqResponse_vr (r : Bool) : VR D := .p (.c (.bool r))
theorem L_eqResponse_ok (k : Nat) : Does P X 19 L_eqResponse_ar (L_eqResponse_f k) L_eqResponse_vr :=
  does_of (body := bodyOf Go.Proofs.Tryd.f19) (pl := L_eqResponse_pl) (k := k) (cu := L_eqResponse_cu k) (tys := [[0]]) (L_eqResponse_ck k) ctx mixed Go.Proofs.Tryd.func19 (by kernel_rfl) (by kernel_rfl) (cutOK_of (l := []) (by kernel_rfl) trivial) fun x R h => by
    simp only [L_eqResponse_f, L_eqResponse, optK_bind, optK_bif, optK_pure, optK_none, optK_oc, optK_guardT, optK_map] at h
    refine hold_of h ?_
    kernel_rfl
def L_eqResponse_en (k : Nat) : Entry D := entS L_eqResponse_ar (L_eqResponse_f k) L_eqResponse_vr
theorem L_eqResponse_eo (k : Nat) : EntryOK X 19 (L_eqResponse_en k) := (L_eqResponse_ok k).en rfl
def L_FnExactAgeField_pl : Plan := ⟨[(0, [(1, none)]), (1, [(1, none), (3, none)]), (2, [(1, none), (3, none)]), (3, [(1, none), (11, none)]), (4, [(2, none)]), (5, [(1, none), (4, none)]), (6, [(1, none), (4, none), (5, none)]), (7, [(1, none), (4, none), (5, none), (6, none)]), (8, [(1, none), (5, none), (21, none)]), (9, [(2, none)]), (10, [(26, none)]), (11, [(2, none)]), (12, [(2, none)])],
  [],
  [(11, ([], [(1, none)])), (21, ([], [(1, none), (5, none)])), (26, ([], []))]⟩
def L_FnExactAgeField_cl (k : Nat) : Calls' D := ⟨[(15, L_szResponse_en k), (17, L_toResponse_en k), (47, S_AgeField_en k), (48, I_AgeField_en k), (19, L_eqResponse_en k)], []⟩
theorem L_FnExactAgeField_ck (k : Nat) : CallsOK X (L_FnExactAgeField_cl k) := .cons (L_szResponse_eo k) (.cons (L_toResponse_eo k) (.cons (S_AgeField_eo k) (.cons (I_AgeField_eo k) (.cons (L_eqResponse_eo k) (.nil cod)))))
def L_FnExactAgeField_cu (k : Nat) : Cuts D := ⟨[], []⟩
def L_FnExactAgeField_ar : List Ar := [.a [.ki .i64, .kl 85, .ks]]
def L_FnExactAgeField_f (k : Nat) (x : TupA D L_FnExactAgeField_ar) : Option (Bool) := L_FnExactAgeField k (⟨x.1.1, x.1.2.1, x.1.2.2.1⟩ : LResponse)
def L_FnExactAgeField_vr (r : Bool) : VR D := .p (.c (.bool r))
theorem L_FnExactAgeField_ok (k : Nat) : Does P X 9 L_FnExactAgeField_ar (L_FnExactAgeField_f k) L_FnExactAgeField_vr :=
  does_of (body := bodyOf Go.Proofs.Tryd.f9) (pl := L_FnExactAgeField_pl) (k := k) (cu := L_FnExactAgeField_cu k) (tys := [[0]]) (L_FnExactAgeField_ck k) ctx mixed Go.Proofs.Tryd.func9 (by kernel_rfl) (by kernel_rfl) (cutOK_of (l := []) (by kernel_rfl) trivial) fun x R h => by
    simp only [L_FnExactAgeField_f, L_FnExactAgeField, optK_bind, optK_bif, optK_pure, optK_none, optK_oc, optK_guardT, optK_map] at h
    refine hold_of h ?_
    kernel_rfl
def L_FnExactAgeField_en (k : Nat) : Entry D := entS L_FnExactAgeField_ar (L_FnExactAgeField_f k) L_FnExactAgeField_vr
theorem L_FnExactAgeField_eo (k : Nat) : EntryOK X 9 (L_FnExactAgeField_en k) := (L_FnExactAgeField_ok k).en rfl

end
end Go.YtgdjicnefdnofaaDoor
