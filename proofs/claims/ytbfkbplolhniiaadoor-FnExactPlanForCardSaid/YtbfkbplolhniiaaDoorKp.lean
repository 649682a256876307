/- The machine computes the functions. Nothing is claimed here. -/
import Derived.Test.YtbfkbplolhniiaaDoorKf
import Derived.Test.YtbfkbplolhniiaaDoorShelf
import Derived.Shelf.Strings.SlTrimAscii
set_option linter.unusedVariables false
set_option linter.unusedSimpArgs false
set_option maxRecDepth 100000
namespace Go.YtbfkbplolhniiaaDoor
open Go Go.RowKit Go.Pv
noncomputable section

def L_szField_pl : Plan := ⟨[(0, [(1, none), (2, none)]), (1, [(1, none), (2, none)]), (2, [(1, none), (2, none), (11, none)]), (3, [(4, none)]), (4, [(1, none)]), (5, [(1, none), (18, none)]), (6, [(4, none)]), (7, [(4, none)])],
  [],
  [(11, ([], [(1, none), (2, none)])), (18, ([], [(1, none)]))]⟩
def L_szField_cl (k : Nat) : Calls' D := ⟨[], [], [], [], []⟩
theorem L_szField_ck (k : Nat) : CallsOK X (L_szField_cl k) := .nil cod
def L_szField_cu (k : Nat) : Cuts D := ⟨[], []⟩
def L_szField_ar : List Ar := [.a [.ks, .ks], .c (.ki .i64)]
def L_szField_f (k : Nat) (x : TupA D L_szField_ar) : Option (Int) := L_szField k (⟨x.1.1, x.1.2.1⟩ : LField) x.2.1
def L_szField_vr (r : Int) : VR D := .p (.c (.int .i64 r))
theorem L_szField_ok (k : Nat) : Does P X 62 L_szField_ar (L_szField_f k) L_szField_vr :=
  does_of (body := bodyOf Go.Proofs.Tryd.f62) (pl := L_szField_pl) (k := k) (cu := L_szField_cu k) (tys := [[0]]) (L_szField_ck k) ctx mixed Go.Proofs.Tryd.func62 (by kernel_rfl) (by kernel_rfl) (cutOK_of (l := []) (by kernel_rfl) trivial) fun x R h => by
    simp only [L_szField_f, L_szField, optK_bind, optK_bif, optK_pure, optK_none, optK_oc, optK_guardT, optK_map] at h
    refine hold_of h ?_
    kernel_rfl
def L_szField_en (k : Nat) : Entry D := entS L_szField_ar (L_szField_f k) L_szField_vr
theorem L_szField_eo (k : Nat) : EntryOK X 62 (L_szField_en k) := (L_szField_ok k).en rfl
def L_szFieldS_pl : Plan := ⟨[(0, [(0, some 90), (1, none)]), (1, [(0, some 90), (1, none)]), (2, [(0, some 90), (1, none), (11, none)]), (3, [(4, none)]), (4, [(0, some 90), (1, none), (5, none)]), (5, [(0, some 90), (1, none), (5, none), (15, none)]), (6, [(0, some 90), (1, none), (5, none)]), (7, [(0, some 90), (1, none), (5, none)]), (8, [(0, some 90), (1, none), (5, none), (25, none)]), (9, [(4, none)]), (10, [(4, none)])],
  [(0, [(1, none)]), (1, [(0, some 90), (1, none), (5, none)])],
  [(11, ([], [(0, some 90), (1, none)])), (15, ([(0, some 90), (1, none), (5, none)], [(1, none)])), (25, ([], [(0, some 90), (1, none), (5, none)]))]⟩
def L_szFieldS_cl (k : Nat) : Calls' D := ⟨[(62, L_szField_en k)], [], [], [], []⟩
theorem L_szFieldS_ck (k : Nat) : CallsOK X (L_szFieldS_cl k) := .cons (L_szField_eo k) (.nil cod)
def L_szFieldS_b0_L (x : (List LField) × Int × Int × Unit) (o : Oc (Int) (Int)) (Q : Ex → VSt D → Prop) (R : VR D → Prop) : Prop := ocP o (fun v0 => Q .normal (mkSt ⟨[(1, .hole)], []⟩ [.int .i64 v0])) (fun w0 => R (.p (.c (.int .i64 w0))))
def L_szFieldS_b0_cut (k : Nat) : Cut D := cutS ⟨[(0, .hole), (1, .hole), (5, .hole)], []⟩ [.kl 90, .ki .i64, .ki .i64] (fun (x : (List LField) × Int × Int × Unit) => L_szFieldS_b0 k k x.1 x.2.1 x.2.2.1) L_szFieldS_b0_L
def L_szFieldS_b0_cu (k : Nat) : Cuts D := ⟨[], []⟩
theorem L_szFieldS_b0_ok (k : Nat) : CutFor X L_szFieldS_pl k Go.Proofs.Tryd.f34.results.toList (L_szFieldS_b0_cut k) (sub (bodyOf Go.Proofs.Tryd.f34) [1, 1, 1, 0, 1]) :=
  loopCut_s (X := X) (sg := [.kl 90, .ki .i64, .ki .i64]) (cu := L_szFieldS_b0_cu k) (cl := L_szFieldS_cl k) (tys := [[0]]) (id := 0) (c := sub (bodyOf Go.Proofs.Tryd.f34) [1, 1, 1, 0, 1, 0, 0]) (f := fun n => fun (x : (List LField) × Int × Int × Unit) => L_szFieldS_b0 k n x.1 x.2.1 x.2.2.1) (L_szFieldS_ck k) (cutOK_of (l := []) (by kernel_rfl) trivial) (fun _ => rfl) (fun n x Q R h => by
    simp only [L_szFieldS_b0, optK_bind, optK_bif, optK_pure, optK_none, optK_oc, optK_guardT, optK_map] at h
    refine hold_of h ?_
    kernel_rfl) (by kernel_rfl)
def L_szFieldS_cu (k : Nat) : Cuts D := ⟨[(0, some (L_szFieldS_b0_cut k))], []⟩
def L_szFieldS_ar : List Ar := [.c (.kl 90), .c (.ki .i64)]
def L_szFieldS_f (k : Nat) (x : TupA D L_szFieldS_ar) : Option (Int) := L_szFieldS k x.1 x.2.1
def L_szFieldS_vr (r : Int) : VR D := .p (.c (.int .i64 r))
theorem L_szFieldS_ok (k : Nat) : Does P X 34 L_szFieldS_ar (L_szFieldS_f k) L_szFieldS_vr :=
  does_of (body := bodyOf Go.Proofs.Tryd.f34) (pl := L_szFieldS_pl) (k := k) (cu := L_szFieldS_cu k) (tys := [[0]]) (L_szFieldS_ck k) ctx mixed Go.Proofs.Tryd.func34 (by kernel_rfl) (by kernel_rfl) (cutOK_of (l := [(L_szFieldS_b0_cut k, sub (bodyOf Go.Proofs.Tryd.f34) [1, 1, 1, 0, 1])]) (by kernel_rfl) ⟨L_szFieldS_b0_ok k, trivial⟩) fun x R h => by
    simp only [L_szFieldS_f, L_szFieldS, optK_bind, optK_bif, optK_pure, optK_none, optK_oc, optK_guardT, optK_map] at h
    refine hold_of h ?_
    kernel_rfl
def L_szFieldS_en (k : Nat) : Entry D := entS L_szFieldS_ar (L_szFieldS_f k) L_szFieldS_vr
theorem L_szFieldS_eo (k : Nat) : EntryOK X 34 (L_szFieldS_en k) := (L_szFieldS_ok k).en rfl
def L_szRequest_pl : Plan := ⟨[(0, [(1, none), (2, none)]), (1, [(1, none), (2, none)]), (2, [(1, none), (2, none), (11, none)]), (3, [(4, none)]), (4, [(1, none), (2, none)]), (5, [(1, none), (2, none), (18, none)]), (6, [(4, none)]), (7, [(1, none), (2, none)]), (8, [(1, none), (2, none), (25, none)]), (9, [(4, none)]), (10, [(1, none)]), (11, [(1, none), (31, none)]), (12, [(4, none)]), (13, [(4, none)])],
  [],
  [(11, ([], [(1, none), (2, none)])), (18, ([], [(1, none), (2, none)])), (25, ([], [(1, none), (2, none)])), (31, ([], [(1, none)]))]⟩
def L_szRequest_cl (k : Nat) : Calls' D := ⟨[(34, L_szFieldS_en k)], [], [], [], []⟩
theorem L_szRequest_ck (k : Nat) : CallsOK X (L_szRequest_cl k) := .cons (L_szFieldS_eo k) (.nil cod)
def L_szRequest_cu (k : Nat) : Cuts D := ⟨[], []⟩
def L_szRequest_ar : List Ar := [.a [.ks, .ks, .ks, .kl 90], .c (.ki .i64)]
def L_szRequest_f (k : Nat) (x : TupA D L_szRequest_ar) : Option (Int) := L_szRequest k (⟨x.1.1, x.1.2.1, x.1.2.2.1, x.1.2.2.2.1⟩ : LRequest) x.2.1
def L_szRequest_vr (r : Int) : VR D := .p (.c (.int .i64 r))
theorem L_szRequest_ok (k : Nat) : Does P X 11 L_szRequest_ar (L_szRequest_f k) L_szRequest_vr :=
  does_of (body := bodyOf Go.Proofs.Tryd.f11) (pl := L_szRequest_pl) (k := k) (cu := L_szRequest_cu k) (tys := [[0]]) (L_szRequest_ck k) ctx mixed Go.Proofs.Tryd.func11 (by kernel_rfl) (by kernel_rfl) (cutOK_of (l := []) (by kernel_rfl) trivial) fun x R h => by
    simp only [L_szRequest_f, L_szRequest, optK_bind, optK_bif, optK_pure, optK_none, optK_oc, optK_guardT, optK_map] at h
    refine hold_of h ?_
    kernel_rfl
def L_szRequest_en (k : Nat) : Entry D := entS L_szRequest_ar (L_szRequest_f k) L_szRequest_vr
theorem L_szRequest_eo (k : Nat) : EntryOK X 11 (L_szRequest_en k) := (L_szRequest_ok k).en rfl
def L_szResponse_pl : Plan := ⟨[(0, [(1, none), (2, none)]), (1, [(1, none), (2, none)]), (2, [(1, none), (2, none), (10, none)]), (3, [(4, none)]), (4, [(1, none)]), (5, [(1, none), (17, none)]), (6, [(4, none)]), (7, [(4, none)])],
  [],
  [(10, ([], [(1, none), (2, none)])), (17, ([], [(1, none)]))]⟩
def L_szResponse_cl (k : Nat) : Calls' D := ⟨[(34, L_szFieldS_en k)], [], [], [], []⟩
theorem L_szResponse_ck (k : Nat) : CallsOK X (L_szResponse_cl k) := .cons (L_szFieldS_eo k) (.nil cod)
def L_szResponse_cu (k : Nat) : Cuts D := ⟨[], []⟩
def L_szResponse_ar : List Ar := [.a [.ki .i64, .kl 90, .ks], .c (.ki .i64)]
def L_szResponse_f (k : Nat) (x : TupA D L_szResponse_ar) : Option (Int) := L_szResponse k (⟨x.1.1, x.1.2.1, x.1.2.2.1⟩ : LResponse) x.2.1
def L_szResponse_vr (r : Int) : VR D := .p (.c (.int .i64 r))
theorem L_szResponse_ok (k : Nat) : Does P X 12 L_szResponse_ar (L_szResponse_f k) L_szResponse_vr :=
  does_of (body := bodyOf Go.Proofs.Tryd.f12) (pl := L_szResponse_pl) (k := k) (cu := L_szResponse_cu k) (tys := [[0]]) (L_szResponse_ck k) ctx mixed Go.Proofs.Tryd.func12 (by kernel_rfl) (by kernel_rfl) (cutOK_of (l := []) (by kernel_rfl) trivial) fun x R h => by
    simp only [L_szResponse_f, L_szResponse, optK_bind, optK_bif, optK_pure, optK_none, optK_oc, optK_guardT, optK_map] at h
    refine hold_of h ?_
    kernel_rfl
def L_szResponse_en (k : Nat) : Entry D := entS L_szResponse_ar (L_szResponse_f k) L_szResponse_vr
theorem L_szResponse_eo (k : Nat) : EntryOK X 12 (L_szResponse_en k) := (L_szResponse_ok k).en rfl
def L_toField_pl : Plan := ⟨[(0, [(1, none), (2, none)]), (1, [(1, none), (2, none), (3, none)]), (2, [(1, none), (2, none), (3, none)]), (3, [(2, none), (3, none)]), (4, [(2, none)])],
  [],
  []⟩
def L_toField_cl (k : Nat) : Calls' D := ⟨[], [], [], [], []⟩
theorem L_toField_ck (k : Nat) : CallsOK X (L_toField_cl k) := .nil cod
def L_toField_cu (k : Nat) : Cuts D := ⟨[], []⟩
def L_toField_ar : List Ar := [.a [.ks, .ks]]
def L_toField_f (k : Nat) (x : TupA D L_toField_ar) : Option (IField) := L_toField k (⟨x.1.1, x.1.2.1⟩ : LField)
def L_toField_vr (r : IField) : VR D := .p (.agg [.str r.Name, .str r.Value])
theorem L_toField_ok (k : Nat) : Does P X 67 L_toField_ar (L_toField_f k) L_toField_vr :=
  does_of (body := bodyOf Go.Proofs.Tryd.f67) (pl := L_toField_pl) (k := k) (cu := L_toField_cu k) (tys := [[0, 0]]) (L_toField_ck k) ctx mixed Go.Proofs.Tryd.func67 (by kernel_rfl) (by kernel_rfl) (cutOK_of (l := []) (by kernel_rfl) trivial) fun x R h => by
    simp only [L_toField_f, L_toField, optK_bind, optK_bif, optK_pure, optK_none, optK_oc, optK_guardT, optK_map] at h
    refine hold_of h ?_
    kernel_rfl
def L_toField_en (k : Nat) : Entry D := entS L_toField_ar (L_toField_f k) L_toField_vr
theorem L_toField_eo (k : Nat) : EntryOK X 67 (L_toField_en k) := (L_toField_ok k).en rfl
def L_toFieldS_pl : Plan := ⟨[(0, [(0, some 90)]), (1, [(0, some 90), (3, some 95)]), (2, [(0, some 90), (3, some 95), (4, none)]), (3, [(0, some 90), (3, some 95), (4, none), (11, none)]), (4, [(0, some 90), (3, some 95), (4, none)]), (5, [(0, some 90), (3, some 95), (4, none)]), (6, [(2, some 95)])],
  [(0, [(3, some 95)]), (1, [(0, some 90), (3, some 95), (4, none)])],
  [(11, ([(0, some 90), (3, some 95), (4, none)], [(3, some 95)]))]⟩
def L_toFieldS_cl (k : Nat) : Calls' D := ⟨[(67, L_toField_en k)], [], [], [], []⟩
theorem L_toFieldS_ck (k : Nat) : CallsOK X (L_toFieldS_cl k) := .cons (L_toField_eo k) (.nil cod)
def L_toFieldS_b0_L (x : (List LField) × Int × (List IField) × Unit) (o : (List IField)) (Q : Ex → VSt D → Prop) (R : VR D → Prop) : Prop := Q .normal (mkSt ⟨[(3, .ref 500003)], [(500003, .row)]⟩ [.sl 95 o])
def L_toFieldS_b0_cut (k : Nat) : Cut D := cutS ⟨[(0, .hole), (3, .ref 500003), (4, .hole)], [(500003, .row)]⟩ [.kl 90, .ki .i64, .kl 95] (fun (x : (List LField) × Int × (List IField) × Unit) => L_toFieldS_b0 k k x.1 x.2.1 x.2.2.1) L_toFieldS_b0_L
def L_toFieldS_b0_cu (k : Nat) : Cuts D := ⟨[], []⟩
theorem L_toFieldS_b0_ok (k : Nat) : CutFor X L_toFieldS_pl k Go.Proofs.Tryd.f39.results.toList (L_toFieldS_b0_cut k) (sub (bodyOf Go.Proofs.Tryd.f39) [1, 1, 0, 1]) :=
  loopCut_s (X := X) (sg := [.kl 90, .ki .i64, .kl 95]) (cu := L_toFieldS_b0_cu k) (cl := L_toFieldS_cl k) (tys := [[95]]) (id := 0) (c := sub (bodyOf Go.Proofs.Tryd.f39) [1, 1, 0, 1, 0, 0]) (f := fun n => fun (x : (List LField) × Int × (List IField) × Unit) => L_toFieldS_b0 k n x.1 x.2.1 x.2.2.1) (L_toFieldS_ck k) (cutOK_of (l := []) (by kernel_rfl) trivial) (fun _ => rfl) (fun n x Q R h => by
    simp only [L_toFieldS_b0, optK_bind, optK_bif, optK_pure, optK_none, optK_oc, optK_guardT, optK_map] at h
    refine hold_of h ?_
    kernel_rfl) (by kernel_rfl)
def L_toFieldS_cu (k : Nat) : Cuts D := ⟨[(0, some (L_toFieldS_b0_cut k))], []⟩
def L_toFieldS_ar : List Ar := [.c (.kl 90)]
def L_toFieldS_f (k : Nat) (x : TupA D L_toFieldS_ar) : Option ((List IField)) := L_toFieldS k x.1
def L_toFieldS_vr (r : (List IField)) : VR D := .p (.c (.sl 95 r))
theorem L_toFieldS_ok (k : Nat) : Does P X 39 L_toFieldS_ar (L_toFieldS_f k) L_toFieldS_vr :=
  does_of (body := bodyOf Go.Proofs.Tryd.f39) (pl := L_toFieldS_pl) (k := k) (cu := L_toFieldS_cu k) (tys := [[95]]) (L_toFieldS_ck k) ctx mixed Go.Proofs.Tryd.func39 (by kernel_rfl) (by kernel_rfl) (cutOK_of (l := [(L_toFieldS_b0_cut k, sub (bodyOf Go.Proofs.Tryd.f39) [1, 1, 0, 1])]) (by kernel_rfl) ⟨L_toFieldS_b0_ok k, trivial⟩) fun x R h => by
    simp only [L_toFieldS_f, L_toFieldS, optK_bind, optK_bif, optK_pure, optK_none, optK_oc, optK_guardT, optK_map] at h
    refine hold_of h ?_
    kernel_rfl
def L_toFieldS_en (k : Nat) : Entry D := entS L_toFieldS_ar (L_toFieldS_f k) L_toFieldS_vr
theorem L_toFieldS_eo (k : Nat) : EntryOK X 39 (L_toFieldS_en k) := (L_toFieldS_ok k).en rfl
def L_toRequest_pl : Plan := ⟨[(0, [(1, none), (2, none)]), (1, [(1, none), (2, none), (3, none)]), (2, [(1, none), (2, none), (3, none)]), (3, [(1, none), (2, none), (3, none)]), (4, [(1, none), (2, none), (3, none)]), (5, [(2, none), (3, none)]), (6, [(2, none)])],
  [],
  []⟩
def L_toRequest_cl (k : Nat) : Calls' D := ⟨[(39, L_toFieldS_en k)], [], [], [], []⟩
theorem L_toRequest_ck (k : Nat) : CallsOK X (L_toRequest_cl k) := .cons (L_toFieldS_eo k) (.nil cod)
def L_toRequest_cu (k : Nat) : Cuts D := ⟨[], []⟩
def L_toRequest_ar : List Ar := [.a [.ks, .ks, .ks, .kl 90]]
def L_toRequest_f (k : Nat) (x : TupA D L_toRequest_ar) : Option (IRequest) := L_toRequest k (⟨x.1.1, x.1.2.1, x.1.2.2.1, x.1.2.2.2.1⟩ : LRequest)
def L_toRequest_vr (r : IRequest) : VR D := .p (.agg [.str r.Method, .str r.Host, .str r.Target, .sl 95 r.Fields])
theorem L_toRequest_ok (k : Nat) : Does P X 14 L_toRequest_ar (L_toRequest_f k) L_toRequest_vr :=
  does_of (body := bodyOf Go.Proofs.Tryd.f14) (pl := L_toRequest_pl) (k := k) (cu := L_toRequest_cu k) (tys := [[0, 0, 0, 95]]) (L_toRequest_ck k) ctx mixed Go.Proofs.Tryd.func14 (by kernel_rfl) (by kernel_rfl) (cutOK_of (l := []) (by kernel_rfl) trivial) fun x R h => by
    simp only [L_toRequest_f, L_toRequest, optK_bind, optK_bif, optK_pure, optK_none, optK_oc, optK_guardT, optK_map] at h
    refine hold_of h ?_
    kernel_rfl
def L_toRequest_en (k : Nat) : Entry D := entS L_toRequest_ar (L_toRequest_f k) L_toRequest_vr
theorem L_toRequest_eo (k : Nat) : EntryOK X 14 (L_toRequest_en k) := (L_toRequest_ok k).en rfl
def L_toResponse_pl : Plan := ⟨[(0, [(1, none), (2, none)]), (1, [(1, none), (2, none), (3, none)]), (2, [(1, none), (2, none), (3, none)]), (3, [(1, none), (2, none), (3, none)]), (4, [(2, none), (3, none)]), (5, [(2, none)])],
  [],
  []⟩
def L_toResponse_cl (k : Nat) : Calls' D := ⟨[(39, L_toFieldS_en k)], [], [], [], []⟩
theorem L_toResponse_ck (k : Nat) : CallsOK X (L_toResponse_cl k) := .cons (L_toFieldS_eo k) (.nil cod)
def L_toResponse_cu (k : Nat) : Cuts D := ⟨[], []⟩
def L_toResponse_ar : List Ar := [.a [.ki .i64, .kl 90, .ks]]
def L_toResponse_f (k : Nat) (x : TupA D L_toResponse_ar) : Option (IResponse) := L_toResponse k (⟨x.1.1, x.1.2.1, x.1.2.2.1⟩ : LResponse)
def L_toResponse_vr (r : IResponse) : VR D := .p (.agg [.int .i64 r.Code, .sl 95 r.Fields, .str r.Body])
theorem L_toResponse_ok (k : Nat) : Does P X 15 L_toResponse_ar (L_toResponse_f k) L_toResponse_vr :=
  does_of (body := bodyOf Go.Proofs.Tryd.f15) (pl := L_toResponse_pl) (k := k) (cu := L_toResponse_cu k) (tys := [[0, 95, 0]]) (L_toResponse_ck k) ctx mixed Go.Proofs.Tryd.func15 (by kernel_rfl) (by kernel_rfl) (cutOK_of (l := []) (by kernel_rfl) trivial) fun x R h => by
    simp only [L_toResponse_f, L_toResponse, optK_bind, optK_bif, optK_pure, optK_none, optK_oc, optK_guardT, optK_map] at h
    refine hold_of h ?_
    kernel_rfl
def L_toResponse_en (k : Nat) : Entry D := entS L_toResponse_ar (L_toResponse_f k) L_toResponse_vr
theorem L_toResponse_eo (k : Nat) : EntryOK X 15 (L_toResponse_en k) := (L_toResponse_ok k).en rfl
def S_JoinList_pl : Plan := ⟨[(0, [(0, some 9)]), (1, [(0, some 9), (3, none)]), (2, [(0, some 9), (3, none), (4, none)]), (3, [(0, some 9), (3, none), (4, none), (8, none)]), (4, [(0, some 9), (3, none), (4, none)]), (5, [(0, some 9), (3, none), (4, none), (12, none)]), (6, [(0, some 9), (3, none), (4, none)]), (7, [(0, some 9), (3, none), (4, none)]), (8, [(2, none)])],
  [(0, [(3, none)]), (1, [(0, some 9), (3, none), (4, none)])],
  [(8, ([(0, some 9), (3, none), (4, none)], [(3, none)])), (12, ([(0, some 9), (3, none), (4, none)], [(0, some 9), (3, none), (4, none)]))]⟩
def S_JoinList_cl (k : Nat) : Calls' D := ⟨[], [], [], [], []⟩
theorem S_JoinList_ck (k : Nat) : CallsOK X (S_JoinList_cl k) := .nil cod
def S_JoinList_c12_L (x : (List (List UInt8)) × (List UInt8) × Int × Bool × Unit) (o : (List UInt8)) (Q : Ex → VSt D → Prop) (R : VR D → Prop) : Prop := Q .normal (mkSt ⟨[(0, .hole), (3, .hole), (4, .hole)], []⟩ [.sl 9 x.1, .str o, .int .i64 x.2.2.1])
def S_JoinList_c12_cut (k : Nat) : Cut D := cutS ⟨[(0, .hole), (3, .hole), (4, .hole), (12, .hole)], []⟩ [.kl 9, .ks, .ki .i64, .kb] (fun (x : (List (List UInt8)) × (List UInt8) × Int × Bool × Unit) => S_JoinList_c12 k x.1 x.2.1 x.2.2.1 x.2.2.2.1) S_JoinList_c12_L
def S_JoinList_c12_cu (k : Nat) : Cuts D := ⟨[], []⟩
theorem S_JoinList_c12_ok (k : Nat) : CutFor X S_JoinList_pl k Go.Proofs.Tryd.f119.results.toList (S_JoinList_c12_cut k) (sub (bodyOf Go.Proofs.Tryd.f119) [1, 1, 0, 1, 0, 0, 1, 0, 0, 0, 1]) :=
  joinCut_s (X := X) (sg := [.kl 9, .ks, .ki .i64, .kb]) (cu := S_JoinList_c12_cu k) (cl := S_JoinList_cl k) (tys := [[0]]) (S_JoinList_ck k) (cutOK_of (l := []) (by kernel_rfl) trivial) fun x Q R h => by
    simp only [S_JoinList_c12, optK_bind, optK_bif, optK_pure, optK_none, optK_oc, optK_guardT, optK_map] at h
    refine hold_of h ?_
    kernel_rfl
def S_JoinList_b1_L (x : (List (List UInt8)) × (List UInt8) × Int × Unit) (o : (List UInt8)) (Q : Ex → VSt D → Prop) (R : VR D → Prop) : Prop := Q .normal (mkSt ⟨[(0, .hole), (3, .hole), (4, .hole)], []⟩ [.sl 9 x.1, .str o, .int .i64 x.2.2.1])
def S_JoinList_b1_cut (k : Nat) : Cut D := cutS ⟨[(0, .hole), (3, .hole), (4, .hole)], []⟩ [.kl 9, .ks, .ki .i64] (fun (x : (List (List UInt8)) × (List UInt8) × Int × Unit) => S_JoinList_b1 k x.1 x.2.1 x.2.2.1) S_JoinList_b1_L
def S_JoinList_b1_cu (k : Nat) : Cuts D := ⟨[], [(12, some (S_JoinList_c12_cut k))]⟩
theorem S_JoinList_b1_ok (k : Nat) : CutFor X S_JoinList_pl k Go.Proofs.Tryd.f119.results.toList (S_JoinList_b1_cut k) (sub (bodyOf Go.Proofs.Tryd.f119) [1, 1, 0, 1, 0, 0, 1, 0]) :=
  joinCut_s (X := X) (sg := [.kl 9, .ks, .ki .i64]) (cu := S_JoinList_b1_cu k) (cl := S_JoinList_cl k) (tys := [[0]]) (S_JoinList_ck k) (cutOK_of (l := [(S_JoinList_c12_cut k, sub (bodyOf Go.Proofs.Tryd.f119) [1, 1, 0, 1, 0, 0, 1, 0, 0, 0, 1])]) (by kernel_rfl) ⟨S_JoinList_c12_ok k, trivial⟩) fun x Q R h => by
    simp only [S_JoinList_b1, optK_bind, optK_bif, optK_pure, optK_none, optK_oc, optK_guardT, optK_map] at h
    refine hold_of h ?_
    kernel_rfl
def S_JoinList_b0_L (x : (List (List UInt8)) × (List UInt8) × Int × Unit) (o : (List UInt8)) (Q : Ex → VSt D → Prop) (R : VR D → Prop) : Prop := Q .normal (mkSt ⟨[(3, .hole)], []⟩ [.str o])
def S_JoinList_b0_cut (k : Nat) : Cut D := cutS ⟨[(0, .hole), (3, .hole), (4, .hole)], []⟩ [.kl 9, .ks, .ki .i64] (fun (x : (List (List UInt8)) × (List UInt8) × Int × Unit) => S_JoinList_b0 k k x.1 x.2.1 x.2.2.1) S_JoinList_b0_L
def S_JoinList_b0_cu (k : Nat) : Cuts D := ⟨[(1, some (S_JoinList_b1_cut k))], []⟩
theorem S_JoinList_b0_ok (k : Nat) : CutFor X S_JoinList_pl k Go.Proofs.Tryd.f119.results.toList (S_JoinList_b0_cut k) (sub (bodyOf Go.Proofs.Tryd.f119) [1, 1, 0, 1]) :=
  loopCut_s (X := X) (sg := [.kl 9, .ks, .ki .i64]) (cu := S_JoinList_b0_cu k) (cl := S_JoinList_cl k) (tys := [[0]]) (id := 0) (c := sub (bodyOf Go.Proofs.Tryd.f119) [1, 1, 0, 1, 0, 0]) (f := fun n => fun (x : (List (List UInt8)) × (List UInt8) × Int × Unit) => S_JoinList_b0 k n x.1 x.2.1 x.2.2.1) (S_JoinList_ck k) (cutOK_of (l := [(S_JoinList_b1_cut k, sub (bodyOf Go.Proofs.Tryd.f119) [1, 1, 0, 1, 0, 0, 1, 0])]) (by kernel_rfl) ⟨S_JoinList_b1_ok k, trivial⟩) (fun _ => rfl) (fun n x Q R h => by
    simp only [S_JoinList_b0, optK_bind, optK_bif, optK_pure, optK_none, optK_oc, optK_guardT, optK_map] at h
    refine hold_of h ?_
    kernel_rfl) (by kernel_rfl)
def S_JoinList_cu (k : Nat) : Cuts D := ⟨[(0, some (S_JoinList_b0_cut k))], []⟩
def S_JoinList_ar : List Ar := [.c (.kl 9)]
def S_JoinList_f (k : Nat) (x : TupA D S_JoinList_ar) : Option ((List UInt8)) := S_JoinList k x.1
def S_JoinList_vr (r : (List UInt8)) : VR D := .p (.c (.str r))
theorem S_JoinList_ok (k : Nat) : Does P X 119 S_JoinList_ar (S_JoinList_f k) S_JoinList_vr :=
  does_of (body := bodyOf Go.Proofs.Tryd.f119) (pl := S_JoinList_pl) (k := k) (cu := S_JoinList_cu k) (tys := [[0]]) (S_JoinList_ck k) ctx mixed Go.Proofs.Tryd.func119 (by kernel_rfl) (by kernel_rfl) (cutOK_of (l := [(S_JoinList_b0_cut k, sub (bodyOf Go.Proofs.Tryd.f119) [1, 1, 0, 1])]) (by kernel_rfl) ⟨S_JoinList_b0_ok k, trivial⟩) fun x R h => by
    simp only [S_JoinList_f, S_JoinList, optK_bind, optK_bif, optK_pure, optK_none, optK_oc, optK_guardT, optK_map] at h
    refine hold_of h ?_
    kernel_rfl
def S_JoinList_en (k : Nat) : Entry D := entS S_JoinList_ar (S_JoinList_f k) S_JoinList_vr
theorem S_JoinList_eo (k : Nat) : EntryOK X 119 (S_JoinList_en k) := (S_JoinList_ok k).en rfl
def S_GetField_pl : Plan := ⟨[(0, [(0, some 95), (1, none)]), (1, [(0, some 95), (1, none), (6, some 9)]), (2, [(0, some 95), (1, none), (6, some 9), (7, none)]), (3, [(0, some 95), (1, none), (6, some 9), (7, none), (12, none)]), (4, [(0, some 95), (1, none), (6, some 9), (7, none)]), (5, [(0, some 95), (1, none), (6, some 9), (7, none), (21, none)]), (6, [(0, some 95), (1, none), (6, some 9), (7, none)]), (7, [(4, none), (5, none)])],
  [(0, [(6, some 9)]), (1, [(0, some 95), (1, none), (6, some 9), (7, none)])],
  [(12, ([(0, some 95), (1, none), (6, some 9), (7, none)], [(6, some 9)])), (21, ([(0, some 95), (1, none), (6, some 9), (7, none)], [(0, some 95), (1, none), (6, some 9), (7, none)]))]⟩
def S_GetField_cl (k : Nat) : Calls' D := ⟨[(119, S_JoinList_en k)], [], [], [], []⟩
theorem S_GetField_ck (k : Nat) : CallsOK X (S_GetField_cl k) := .cons (S_JoinList_eo k) (.nil cod)
def S_GetField_c21_L (x : (List IField) × (List UInt8) × Int × Bool × (List (List UInt8)) × Unit) (o : (List (List UInt8))) (Q : Ex → VSt D → Prop) (R : VR D → Prop) : Prop := Q .normal (mkSt ⟨[(0, .hole), (1, .hole), (6, .ref 500006), (7, .hole)], [(500006, .row)]⟩ [.sl 95 x.1, .str x.2.1, .int .i64 x.2.2.1, .sl 9 o])
def S_GetField_c21_cut (k : Nat) : Cut D := cutS ⟨[(0, .hole), (1, .hole), (6, .ref 500006), (7, .hole), (21, .hole)], [(500006, .row)]⟩ [.kl 95, .ks, .ki .i64, .kb, .kl 9] (fun (x : (List IField) × (List UInt8) × Int × Bool × (List (List UInt8)) × Unit) => S_GetField_c21 k x.1 x.2.1 x.2.2.1 x.2.2.2.1 x.2.2.2.2.1) S_GetField_c21_L
def S_GetField_c21_cu (k : Nat) : Cuts D := ⟨[], []⟩
theorem S_GetField_c21_ok (k : Nat) : CutFor X S_GetField_pl k Go.Proofs.Tryd.f96.results.toList (S_GetField_c21_cut k) (sub (bodyOf Go.Proofs.Tryd.f96) [1, 1, 0, 1, 0, 0, 1, 0, 0, 1]) :=
  joinCut_s (X := X) (sg := [.kl 95, .ks, .ki .i64, .kb, .kl 9]) (cu := S_GetField_c21_cu k) (cl := S_GetField_cl k) (tys := [[0], [0]]) (S_GetField_ck k) (cutOK_of (l := []) (by kernel_rfl) trivial) fun x Q R h => by
    simp only [S_GetField_c21, optK_bind, optK_bif, optK_pure, optK_none, optK_oc, optK_guardT, optK_map] at h
    refine hold_of h ?_
    kernel_rfl
def S_GetField_b1_L (x : (List IField) × (List UInt8) × Int × (List (List UInt8)) × Unit) (o : (List (List UInt8))) (Q : Ex → VSt D → Prop) (R : VR D → Prop) : Prop := Q .normal (mkSt ⟨[(0, .hole), (1, .hole), (6, .ref 500006), (7, .hole)], [(500006, .row)]⟩ [.sl 95 x.1, .str x.2.1, .int .i64 x.2.2.1, .sl 9 o])
def S_GetField_b1_cut (k : Nat) : Cut D := cutS ⟨[(0, .hole), (1, .hole), (6, .ref 500006), (7, .hole)], [(500006, .row)]⟩ [.kl 95, .ks, .ki .i64, .kl 9] (fun (x : (List IField) × (List UInt8) × Int × (List (List UInt8)) × Unit) => S_GetField_b1 k x.1 x.2.1 x.2.2.1 x.2.2.2.1) S_GetField_b1_L
def S_GetField_b1_cu (k : Nat) : Cuts D := ⟨[], [(21, some (S_GetField_c21_cut k))]⟩
theorem S_GetField_b1_ok (k : Nat) : CutFor X S_GetField_pl k Go.Proofs.Tryd.f96.results.toList (S_GetField_b1_cut k) (sub (bodyOf Go.Proofs.Tryd.f96) [1, 1, 0, 1, 0, 0, 1, 0]) :=
  joinCut_s (X := X) (sg := [.kl 95, .ks, .ki .i64, .kl 9]) (cu := S_GetField_b1_cu k) (cl := S_GetField_cl k) (tys := [[0], [0]]) (S_GetField_ck k) (cutOK_of (l := [(S_GetField_c21_cut k, sub (bodyOf Go.Proofs.Tryd.f96) [1, 1, 0, 1, 0, 0, 1, 0, 0, 1])]) (by kernel_rfl) ⟨S_GetField_c21_ok k, trivial⟩) fun x Q R h => by
    simp only [S_GetField_b1, optK_bind, optK_bif, optK_pure, optK_none, optK_oc, optK_guardT, optK_map] at h
    refine hold_of h ?_
    kernel_rfl
def S_GetField_b0_L (x : (List IField) × (List UInt8) × Int × (List (List UInt8)) × Unit) (o : (List (List UInt8))) (Q : Ex → VSt D → Prop) (R : VR D → Prop) : Prop := Q .normal (mkSt ⟨[(6, .ref 500006)], [(500006, .row)]⟩ [.sl 9 o])
def S_GetField_b0_cut (k : Nat) : Cut D := cutS ⟨[(0, .hole), (1, .hole), (6, .ref 500006), (7, .hole)], [(500006, .row)]⟩ [.kl 95, .ks, .ki .i64, .kl 9] (fun (x : (List IField) × (List UInt8) × Int × (List (List UInt8)) × Unit) => S_GetField_b0 k k x.1 x.2.1 x.2.2.1 x.2.2.2.1) S_GetField_b0_L
def S_GetField_b0_cu (k : Nat) : Cuts D := ⟨[(1, some (S_GetField_b1_cut k))], []⟩
theorem S_GetField_b0_ok (k : Nat) : CutFor X S_GetField_pl k Go.Proofs.Tryd.f96.results.toList (S_GetField_b0_cut k) (sub (bodyOf Go.Proofs.Tryd.f96) [1, 1, 0, 1]) :=
  loopCut_s (X := X) (sg := [.kl 95, .ks, .ki .i64, .kl 9]) (cu := S_GetField_b0_cu k) (cl := S_GetField_cl k) (tys := [[0], [0]]) (id := 0) (c := sub (bodyOf Go.Proofs.Tryd.f96) [1, 1, 0, 1, 0, 0]) (f := fun n => fun (x : (List IField) × (List UInt8) × Int × (List (List UInt8)) × Unit) => S_GetField_b0 k n x.1 x.2.1 x.2.2.1 x.2.2.2.1) (S_GetField_ck k) (cutOK_of (l := [(S_GetField_b1_cut k, sub (bodyOf Go.Proofs.Tryd.f96) [1, 1, 0, 1, 0, 0, 1, 0])]) (by kernel_rfl) ⟨S_GetField_b1_ok k, trivial⟩) (fun _ => rfl) (fun n x Q R h => by
    simp only [S_GetField_b0, optK_bind, optK_bif, optK_pure, optK_none, optK_oc, optK_guardT, optK_map] at h
    refine hold_of h ?_
    kernel_rfl) (by kernel_rfl)
def S_GetField_cu (k : Nat) : Cuts D := ⟨[(0, some (S_GetField_b0_cut k))], []⟩
def S_GetField_ar : List Ar := [.c (.kl 95), .c (.ks)]
def S_GetField_f (k : Nat) (x : TupA D S_GetField_ar) : Option ((List UInt8) × Bool) := S_GetField k x.1 x.2.1
def S_GetField_vr (r : (List UInt8) × Bool) : VR D := .tup [.c (.str r.1), .c (.bool r.2)]
theorem S_GetField_ok (k : Nat) : Does P X 96 S_GetField_ar (S_GetField_f k) S_GetField_vr :=
  does_of (body := bodyOf Go.Proofs.Tryd.f96) (pl := S_GetField_pl) (k := k) (cu := S_GetField_cu k) (tys := [[0], [0]]) (S_GetField_ck k) ctx mixed Go.Proofs.Tryd.func96 (by kernel_rfl) (by kernel_rfl) (cutOK_of (l := [(S_GetField_b0_cut k, sub (bodyOf Go.Proofs.Tryd.f96) [1, 1, 0, 1])]) (by kernel_rfl) ⟨S_GetField_b0_ok k, trivial⟩) fun x R h => by
    simp only [S_GetField_f, S_GetField, optK_bind, optK_bif, optK_pure, optK_none, optK_oc, optK_guardT, optK_map] at h
    refine hold_of h ?_
    kernel_rfl
def S_GetField_en (k : Nat) : Entry D := entS S_GetField_ar (S_GetField_f k) S_GetField_vr
theorem S_GetField_eo (k : Nat) : EntryOK X 96 (S_GetField_en k) := (S_GetField_ok k).en rfl
def S_l5Get_pl : Plan := ⟨[(0, [(0, some 95), (1, none)]), (1, [(5, none)]), (2, [(4, none)])],
  [],
  []⟩
def S_l5Get_cl (k : Nat) : Calls' D := ⟨[(96, S_GetField_en k)], [], [], [], []⟩
theorem S_l5Get_ck (k : Nat) : CallsOK X (S_l5Get_cl k) := .cons (S_GetField_eo k) (.nil cod)
def S_l5Get_cu (k : Nat) : Cuts D := ⟨[], []⟩
def S_l5Get_ar : List Ar := [.c (.kl 95), .c (.ks)]
def S_l5Get_f (k : Nat) (x : TupA D S_l5Get_ar) : Option ((List UInt8)) := S_l5Get k x.1 x.2.1
def S_l5Get_vr (r : (List UInt8)) : VR D := .p (.c (.str r))
theorem S_l5Get_ok (k : Nat) : Does P X 64 S_l5Get_ar (S_l5Get_f k) S_l5Get_vr :=
  does_of (body := bodyOf Go.Proofs.Tryd.f64) (pl := S_l5Get_pl) (k := k) (cu := S_l5Get_cu k) (tys := [[0]]) (S_l5Get_ck k) ctx mixed Go.Proofs.Tryd.func64 (by kernel_rfl) (by kernel_rfl) (cutOK_of (l := []) (by kernel_rfl) trivial) fun x R h => by
    simp only [S_l5Get_f, S_l5Get, optK_bind, optK_bif, optK_pure, optK_none, optK_oc, optK_guardT, optK_map] at h
    refine hold_of h ?_
    kernel_rfl
def S_l5Get_en (k : Nat) : Entry D := entS S_l5Get_ar (S_l5Get_f k) S_l5Get_vr
theorem S_l5Get_eo (k : Nat) : EntryOK X 64 (S_l5Get_en k) := (S_l5Get_ok k).en rfl
def S_l4Cut_pl : Plan := ⟨[(0, [(0, none), (1, none)]), (1, [(0, none), (1, none), (5, some 9)]), (2, [(0, none), (1, none), (5, some 9), (6, none)]), (3, [(0, none), (1, none), (5, some 9), (6, none), (7, none)]), (4, [(0, none), (1, none), (5, some 9), (6, none), (7, none), (8, none)]), (5, [(0, none), (1, none), (5, some 9), (6, none), (7, none), (8, none), (13, none)]), (6, [(0, none), (1, none), (5, some 9), (6, none), (7, none), (8, none)]), (7, [(0, none), (1, none), (5, some 9), (6, none), (7, none), (8, none), (16, none)]), (8, [(0, none), (1, none), (5, some 9), (6, none), (7, none), (8, none)]), (9, [(0, none), (1, none), (5, some 9), (6, none), (7, none), (8, none), (26, none)]), (10, [(0, none), (1, none), (5, some 9), (6, none), (7, none), (8, none)]), (11, [(0, none), (1, none), (5, some 9), (6, none), (7, none), (8, none), (33, none)]), (12, [(0, none), (1, none), (5, some 9), (7, none), (8, none)]), (13, [(0, none), (1, none), (5, some 9), (6, none), (7, none), (8, none)]), (14, [(4, some 9)])],
  [(0, [(0, none), (5, some 9), (6, none)]), (1, [(0, none), (1, none), (5, some 9), (6, none), (7, none), (8, none)]), (2, [(0, none), (1, none), (5, some 9), (6, none), (7, none), (8, none)])],
  [(13, ([(0, none), (1, none), (5, some 9), (6, none), (7, none), (8, none)], [(0, none), (5, some 9), (6, none)])), (16, ([(0, none), (1, none), (5, some 9), (6, none), (7, none), (8, none)], [(0, none), (1, none), (5, some 9), (6, none), (7, none), (8, none)])), (26, ([(0, none), (1, none), (5, some 9), (6, none), (7, none), (8, none)], [(0, none), (1, none), (5, some 9), (6, none), (7, none), (8, none)])), (33, ([(0, none), (1, none), (5, some 9), (6, none), (7, none), (8, none)], [(0, none), (1, none), (5, some 9), (6, none), (7, none), (8, none)]))]⟩
def S_l4Cut_cl (k : Nat) : Calls' D := ⟨[], [], [], [], []⟩
theorem S_l4Cut_ck (k : Nat) : CallsOK X (S_l4Cut_cl k) := .nil cod
def S_l4Cut_c33_L (x : (List UInt8) × Int × Int × Bool × Int × Bool × (List (List UInt8)) × Unit) (o : Int × (List (List UInt8))) (Q : Ex → VSt D → Prop) (R : VR D → Prop) : Prop := Q .normal (mkSt ⟨[(0, .hole), (1, .hole), (5, .ref 500005), (6, .hole), (7, .hole), (8, .hole)], [(500005, .row)]⟩ [.str x.1, .int .u8 x.2.1, .int .i64 o.1, .bool x.2.2.2.1, .int .i64 x.2.2.2.2.1, .sl 9 o.2])
def S_l4Cut_c33_cut (k : Nat) : Cut D := cutS ⟨[(0, .hole), (1, .hole), (5, .ref 500005), (6, .hole), (7, .hole), (8, .hole), (33, .hole)], [(500005, .row)]⟩ [.ks, .ki .u8, .ki .i64, .kb, .ki .i64, .kb, .kl 9] (fun (x : (List UInt8) × Int × Int × Bool × Int × Bool × (List (List UInt8)) × Unit) => S_l4Cut_c33 k x.1 x.2.1 x.2.2.1 x.2.2.2.1 x.2.2.2.2.1 x.2.2.2.2.2.1 x.2.2.2.2.2.2.1) S_l4Cut_c33_L
def S_l4Cut_c33_cu (k : Nat) : Cuts D := ⟨[], []⟩
theorem S_l4Cut_c33_ok (k : Nat) : CutFor X S_l4Cut_pl k Go.Proofs.Tryd.f116.results.toList (S_l4Cut_c33_cut k) (sub (bodyOf Go.Proofs.Tryd.f116) [1, 1, 1, 1, 0, 1, 0, 0, 1, 0, 0, 0, 1, 1, 1, 1, 1]) :=
  joinCut_s (X := X) (sg := [.ks, .ki .u8, .ki .i64, .kb, .ki .i64, .kb, .kl 9]) (cu := S_l4Cut_c33_cu k) (cl := S_l4Cut_cl k) (tys := [[9]]) (S_l4Cut_ck k) (cutOK_of (l := []) (by kernel_rfl) trivial) fun x Q R h => by
    simp only [S_l4Cut_c33, optK_bind, optK_bif, optK_pure, optK_none, optK_oc, optK_guardT, optK_map] at h
    refine hold_of h ?_
    kernel_rfl
def S_l4Cut_c26_L (x : (List UInt8) × Int × Int × Bool × Int × Bool × (List (List UInt8)) × Unit) (o : Int × Bool × (List (List UInt8))) (Q : Ex → VSt D → Prop) (R : VR D → Prop) : Prop := Q .normal (mkSt ⟨[(0, .hole), (1, .hole), (5, .ref 500005), (6, .hole), (7, .hole), (8, .hole)], [(500005, .row)]⟩ [.str x.1, .int .u8 x.2.1, .int .i64 o.1, .bool o.2.1, .int .i64 x.2.2.2.2.1, .sl 9 o.2.2])
def S_l4Cut_c26_cut (k : Nat) : Cut D := cutS ⟨[(0, .hole), (1, .hole), (5, .ref 500005), (6, .hole), (7, .hole), (8, .hole), (26, .hole)], [(500005, .row)]⟩ [.ks, .ki .u8, .ki .i64, .kb, .ki .i64, .kb, .kl 9] (fun (x : (List UInt8) × Int × Int × Bool × Int × Bool × (List (List UInt8)) × Unit) => S_l4Cut_c26 k x.1 x.2.1 x.2.2.1 x.2.2.2.1 x.2.2.2.2.1 x.2.2.2.2.2.1 x.2.2.2.2.2.2.1) S_l4Cut_c26_L
def S_l4Cut_c26_cu (k : Nat) : Cuts D := ⟨[], [(33, some (S_l4Cut_c33_cut k))]⟩
theorem S_l4Cut_c26_ok (k : Nat) : CutFor X S_l4Cut_pl k Go.Proofs.Tryd.f116.results.toList (S_l4Cut_c26_cut k) (sub (bodyOf Go.Proofs.Tryd.f116) [1, 1, 1, 1, 0, 1, 0, 0, 1, 0, 0, 0, 1, 1, 1]) :=
  joinCut_s (X := X) (sg := [.ks, .ki .u8, .ki .i64, .kb, .ki .i64, .kb, .kl 9]) (cu := S_l4Cut_c26_cu k) (cl := S_l4Cut_cl k) (tys := [[9]]) (S_l4Cut_ck k) (cutOK_of (l := [(S_l4Cut_c33_cut k, sub (bodyOf Go.Proofs.Tryd.f116) [1, 1, 1, 1, 0, 1, 0, 0, 1, 0, 0, 0, 1, 1, 1, 1, 1])]) (by kernel_rfl) ⟨S_l4Cut_c33_ok k, trivial⟩) fun x Q R h => by
    simp only [S_l4Cut_c26, optK_bind, optK_bif, optK_pure, optK_none, optK_oc, optK_guardT, optK_map] at h
    refine hold_of h ?_
    kernel_rfl
def S_l4Cut_c16_L (x : (List UInt8) × Int × Int × Bool × Int × Bool × (List (List UInt8)) × Unit) (o : Int × Bool × Int × (List (List UInt8))) (Q : Ex → VSt D → Prop) (R : VR D → Prop) : Prop := Q .normal (mkSt ⟨[(0, .hole), (1, .hole), (5, .ref 500005), (6, .hole), (7, .hole), (8, .hole)], [(500005, .row)]⟩ [.str x.1, .int .u8 x.2.1, .int .i64 o.1, .bool o.2.1, .int .i64 o.2.2.1, .sl 9 o.2.2.2])
def S_l4Cut_c16_cut (k : Nat) : Cut D := cutS ⟨[(0, .hole), (1, .hole), (5, .ref 500005), (6, .hole), (7, .hole), (8, .hole), (16, .hole)], [(500005, .row)]⟩ [.ks, .ki .u8, .ki .i64, .kb, .ki .i64, .kb, .kl 9] (fun (x : (List UInt8) × Int × Int × Bool × Int × Bool × (List (List UInt8)) × Unit) => S_l4Cut_c16 k x.1 x.2.1 x.2.2.1 x.2.2.2.1 x.2.2.2.2.1 x.2.2.2.2.2.1 x.2.2.2.2.2.2.1) S_l4Cut_c16_L
def S_l4Cut_c16_cu (k : Nat) : Cuts D := ⟨[], [(26, some (S_l4Cut_c26_cut k))]⟩
theorem S_l4Cut_c16_ok (k : Nat) : CutFor X S_l4Cut_pl k Go.Proofs.Tryd.f116.results.toList (S_l4Cut_c16_cut k) (sub (bodyOf Go.Proofs.Tryd.f116) [1, 1, 1, 1, 0, 1, 0, 0, 1, 0, 0, 0, 1]) :=
  joinCut_s (X := X) (sg := [.ks, .ki .u8, .ki .i64, .kb, .ki .i64, .kb, .kl 9]) (cu := S_l4Cut_c16_cu k) (cl := S_l4Cut_cl k) (tys := [[9]]) (S_l4Cut_ck k) (cutOK_of (l := [(S_l4Cut_c26_cut k, sub (bodyOf Go.Proofs.Tryd.f116) [1, 1, 1, 1, 0, 1, 0, 0, 1, 0, 0, 0, 1, 1, 1])]) (by kernel_rfl) ⟨S_l4Cut_c26_ok k, trivial⟩) fun x Q R h => by
    simp only [S_l4Cut_c16, optK_bind, optK_bif, optK_pure, optK_none, optK_oc, optK_guardT, optK_map] at h
    refine hold_of h ?_
    kernel_rfl
def S_l4Cut_b2_L (x : (List UInt8) × Int × Int × Bool × Int × (List (List UInt8)) × Unit) (o : Int × Bool × Int × (List (List UInt8))) (Q : Ex → VSt D → Prop) (R : VR D → Prop) : Prop := Q .normal (mkSt ⟨[(0, .hole), (1, .hole), (5, .ref 500005), (6, .hole), (7, .hole), (8, .hole)], [(500005, .row)]⟩ [.str x.1, .int .u8 x.2.1, .int .i64 o.1, .bool o.2.1, .int .i64 o.2.2.1, .sl 9 o.2.2.2])
def S_l4Cut_b2_cut (k : Nat) : Cut D := cutS ⟨[(0, .hole), (1, .hole), (5, .ref 500005), (6, .hole), (7, .hole), (8, .hole)], [(500005, .row)]⟩ [.ks, .ki .u8, .ki .i64, .kb, .ki .i64, .kl 9] (fun (x : (List UInt8) × Int × Int × Bool × Int × (List (List UInt8)) × Unit) => S_l4Cut_b2 k x.1 x.2.1 x.2.2.1 x.2.2.2.1 x.2.2.2.2.1 x.2.2.2.2.2.1) S_l4Cut_b2_L
def S_l4Cut_b2_cu (k : Nat) : Cuts D := ⟨[], [(16, some (S_l4Cut_c16_cut k))]⟩
theorem S_l4Cut_b2_ok (k : Nat) : CutFor X S_l4Cut_pl k Go.Proofs.Tryd.f116.results.toList (S_l4Cut_b2_cut k) (sub (bodyOf Go.Proofs.Tryd.f116) [1, 1, 1, 1, 0, 1, 0, 0, 1, 0, 0]) :=
  joinCut_s (X := X) (sg := [.ks, .ki .u8, .ki .i64, .kb, .ki .i64, .kl 9]) (cu := S_l4Cut_b2_cu k) (cl := S_l4Cut_cl k) (tys := [[9]]) (S_l4Cut_ck k) (cutOK_of (l := [(S_l4Cut_c16_cut k, sub (bodyOf Go.Proofs.Tryd.f116) [1, 1, 1, 1, 0, 1, 0, 0, 1, 0, 0, 0, 1])]) (by kernel_rfl) ⟨S_l4Cut_c16_ok k, trivial⟩) fun x Q R h => by
    simp only [S_l4Cut_b2, optK_bind, optK_bif, optK_pure, optK_none, optK_oc, optK_guardT, optK_map] at h
    refine hold_of h ?_
    kernel_rfl
def S_l4Cut_b1_L (x : (List UInt8) × Int × Int × Bool × Int × (List (List UInt8)) × Unit) (o : Int × Bool × Int × (List (List UInt8))) (Q : Ex → VSt D → Prop) (R : VR D → Prop) : Prop := Q .normal (mkSt ⟨[(0, .hole), (1, .hole), (5, .ref 500005), (6, .hole), (7, .hole), (8, .hole)], [(500005, .row)]⟩ [.str x.1, .int .u8 x.2.1, .int .i64 o.1, .bool o.2.1, .int .i64 o.2.2.1, .sl 9 o.2.2.2])
def S_l4Cut_b1_cut (k : Nat) : Cut D := cutS ⟨[(0, .hole), (1, .hole), (5, .ref 500005), (6, .hole), (7, .hole), (8, .hole)], [(500005, .row)]⟩ [.ks, .ki .u8, .ki .i64, .kb, .ki .i64, .kl 9] (fun (x : (List UInt8) × Int × Int × Bool × Int × (List (List UInt8)) × Unit) => S_l4Cut_b1 k x.1 x.2.1 x.2.2.1 x.2.2.2.1 x.2.2.2.2.1 x.2.2.2.2.2.1) S_l4Cut_b1_L
def S_l4Cut_b1_cu (k : Nat) : Cuts D := ⟨[(2, some (S_l4Cut_b2_cut k))], []⟩
theorem S_l4Cut_b1_ok (k : Nat) : CutFor X S_l4Cut_pl k Go.Proofs.Tryd.f116.results.toList (S_l4Cut_b1_cut k) (sub (bodyOf Go.Proofs.Tryd.f116) [1, 1, 1, 1, 0, 1, 0, 0, 1, 0]) :=
  joinCut_s (X := X) (sg := [.ks, .ki .u8, .ki .i64, .kb, .ki .i64, .kl 9]) (cu := S_l4Cut_b1_cu k) (cl := S_l4Cut_cl k) (tys := [[9]]) (S_l4Cut_ck k) (cutOK_of (l := [(S_l4Cut_b2_cut k, sub (bodyOf Go.Proofs.Tryd.f116) [1, 1, 1, 1, 0, 1, 0, 0, 1, 0, 0])]) (by kernel_rfl) ⟨S_l4Cut_b2_ok k, trivial⟩) fun x Q R h => by
    simp only [S_l4Cut_b1, optK_bind, optK_bif, optK_pure, optK_none, optK_oc, optK_guardT, optK_map] at h
    refine hold_of h ?_
    kernel_rfl
def S_l4Cut_b0_L (x : (List UInt8) × Int × Int × Bool × Int × (List (List UInt8)) × Unit) (o : Int × (List (List UInt8))) (Q : Ex → VSt D → Prop) (R : VR D → Prop) : Prop := Q .normal (mkSt ⟨[(0, .hole), (5, .ref 500005), (6, .hole)], [(500005, .row)]⟩ [.str x.1, .int .i64 o.1, .sl 9 o.2])
def S_l4Cut_b0_cut (k : Nat) : Cut D := cutS ⟨[(0, .hole), (1, .hole), (5, .ref 500005), (6, .hole), (7, .hole), (8, .hole)], [(500005, .row)]⟩ [.ks, .ki .u8, .ki .i64, .kb, .ki .i64, .kl 9] (fun (x : (List UInt8) × Int × Int × Bool × Int × (List (List UInt8)) × Unit) => S_l4Cut_b0 k k x.1 x.2.1 x.2.2.1 x.2.2.2.1 x.2.2.2.2.1 x.2.2.2.2.2.1) S_l4Cut_b0_L
def S_l4Cut_b0_cu (k : Nat) : Cuts D := ⟨[(1, some (S_l4Cut_b1_cut k))], []⟩
theorem S_l4Cut_b0_ok (k : Nat) : CutFor X S_l4Cut_pl k Go.Proofs.Tryd.f116.results.toList (S_l4Cut_b0_cut k) (sub (bodyOf Go.Proofs.Tryd.f116) [1, 1, 1, 1, 0, 1]) :=
  loopCut_s (X := X) (sg := [.ks, .ki .u8, .ki .i64, .kb, .ki .i64, .kl 9]) (cu := S_l4Cut_b0_cu k) (cl := S_l4Cut_cl k) (tys := [[9]]) (id := 0) (c := sub (bodyOf Go.Proofs.Tryd.f116) [1, 1, 1, 1, 0, 1, 0, 0]) (f := fun n => fun (x : (List UInt8) × Int × Int × Bool × Int × (List (List UInt8)) × Unit) => S_l4Cut_b0 k n x.1 x.2.1 x.2.2.1 x.2.2.2.1 x.2.2.2.2.1 x.2.2.2.2.2.1) (S_l4Cut_ck k) (cutOK_of (l := [(S_l4Cut_b1_cut k, sub (bodyOf Go.Proofs.Tryd.f116) [1, 1, 1, 1, 0, 1, 0, 0, 1, 0])]) (by kernel_rfl) ⟨S_l4Cut_b1_ok k, trivial⟩) (fun _ => rfl) (fun n x Q R h => by
    simp only [S_l4Cut_b0, optK_bind, optK_bif, optK_pure, optK_none, optK_oc, optK_guardT, optK_map] at h
    refine hold_of h ?_
    kernel_rfl) (by kernel_rfl)
def S_l4Cut_cu (k : Nat) : Cuts D := ⟨[(0, some (S_l4Cut_b0_cut k))], []⟩
def S_l4Cut_ar : List Ar := [.c (.ks), .c (.ki .u8)]
def S_l4Cut_f (k : Nat) (x : TupA D S_l4Cut_ar) : Option ((List (List UInt8))) := S_l4Cut k x.1 x.2.1
def S_l4Cut_vr (r : (List (List UInt8))) : VR D := .p (.c (.sl 9 r))
theorem S_l4Cut_ok (k : Nat) : Does P X 116 S_l4Cut_ar (S_l4Cut_f k) S_l4Cut_vr :=
  does_of (body := bodyOf Go.Proofs.Tryd.f116) (pl := S_l4Cut_pl) (k := k) (cu := S_l4Cut_cu k) (tys := [[9]]) (S_l4Cut_ck k) ctx mixed Go.Proofs.Tryd.func116 (by kernel_rfl) (by kernel_rfl) (cutOK_of (l := [(S_l4Cut_b0_cut k, sub (bodyOf Go.Proofs.Tryd.f116) [1, 1, 1, 1, 0, 1])]) (by kernel_rfl) ⟨S_l4Cut_b0_ok k, trivial⟩) fun x R h => by
    simp only [S_l4Cut_f, S_l4Cut, optK_bind, optK_bif, optK_pure, optK_none, optK_oc, optK_guardT, optK_map] at h
    refine hold_of h ?_
    kernel_rfl
def S_l4Cut_en (k : Nat) : Entry D := entS S_l4Cut_ar (S_l4Cut_f k) S_l4Cut_vr
theorem S_l4Cut_eo (k : Nat) : EntryOK X 116 (S_l4Cut_en k) := (S_l4Cut_ok k).en rfl
def S_l4Blank_pl : Plan := ⟨[(0, [(0, none)]), (1, [(2, none)])],
  [],
  []⟩
def S_l4Blank_cl (k : Nat) : Calls' D := ⟨[], [], [], [], []⟩
theorem S_l4Blank_ck (k : Nat) : CallsOK X (S_l4Blank_cl k) := .nil cod
def S_l4Blank_cu (k : Nat) : Cuts D := ⟨[], []⟩
def S_l4Blank_ar : List Ar := [.c (.ki .u8)]
def S_l4Blank_f (k : Nat) (x : TupA D S_l4Blank_ar) : Option (Bool) := S_l4Blank k x.1
def S_l4Blank_vr (r : Bool) : VR D := .p (.c (.bool r))
theorem S_l4Blank_ok (k : Nat) : Does P X 128 S_l4Blank_ar (S_l4Blank_f k) S_l4Blank_vr :=
  does_of (body := bodyOf Go.Proofs.Tryd.f128) (pl := S_l4Blank_pl) (k := k) (cu := S_l4Blank_cu k) (tys := [[0]]) (S_l4Blank_ck k) ctx mixed Go.Proofs.Tryd.func128 (by kernel_rfl) (by kernel_rfl) (cutOK_of (l := []) (by kernel_rfl) trivial) fun x R h => by
    simp only [S_l4Blank_f, S_l4Blank, optK_bind, optK_bif, optK_pure, optK_none, optK_oc, optK_guardT, optK_map] at h
    refine hold_of h ?_
    kernel_rfl
def S_l4Blank_en (k : Nat) : Entry D := entS S_l4Blank_ar (S_l4Blank_f k) S_l4Blank_vr
theorem S_l4Blank_eo (k : Nat) : EntryOK X 128 (S_l4Blank_en k) := (S_l4Blank_ok k).en rfl
def S_TrimText_pl : Plan := ⟨[(0, [(0, none)]), (1, [(0, none), (10, none)]), (2, [(0, none)]), (3, [(0, none), (23, none)]), (4, [(0, none)]), (5, [(2, none)])],
  [(0, [(0, none)]), (1, [(0, none)]), (2, [(0, none)]), (3, [(0, none)])],
  [(10, ([(0, none)], [(0, none)])), (23, ([(0, none)], [(0, none)]))]⟩
def S_TrimText_cl (k : Nat) : Calls' D := ⟨[(128, S_l4Blank_en k)], [], [], [], []⟩
theorem S_TrimText_ck (k : Nat) : CallsOK X (S_TrimText_cl k) := .cons (S_l4Blank_eo k) (.nil cod)
def S_TrimText_b0_L (x : (List UInt8) × Unit) (o : (List UInt8)) (Q : Ex → VSt D → Prop) (R : VR D → Prop) : Prop := Q .normal (mkSt ⟨[(0, .hole)], []⟩ [.str o])
def S_TrimText_b0_cut (k : Nat) : Cut D := cutS ⟨[(0, .hole)], []⟩ [.ks] (fun (x : (List UInt8) × Unit) => S_TrimText_b0 k k x.1) S_TrimText_b0_L
def S_TrimText_b0_cu (k : Nat) : Cuts D := ⟨[], []⟩
theorem S_TrimText_b0_ok (k : Nat) : CutFor X S_TrimText_pl k Go.Proofs.Tryd.f117.results.toList (S_TrimText_b0_cut k) (sub (bodyOf Go.Proofs.Tryd.f117) [1, 0]) :=
  loopCut_s (X := X) (sg := [.ks]) (cu := S_TrimText_b0_cu k) (cl := S_TrimText_cl k) (tys := [[0]]) (id := 0) (c := sub (bodyOf Go.Proofs.Tryd.f117) [1, 0, 0, 0]) (f := fun n => fun (x : (List UInt8) × Unit) => S_TrimText_b0 k n x.1) (S_TrimText_ck k) (cutOK_of (l := []) (by kernel_rfl) trivial) (fun _ => rfl) (fun n x Q R h => by
    simp only [S_TrimText_b0, optK_bind, optK_bif, optK_pure, optK_none, optK_oc, optK_guardT, optK_map] at h
    refine hold_of h ?_
    kernel_rfl) (by kernel_rfl)
def S_TrimText_b2_L (x : (List UInt8) × Unit) (o : (List UInt8)) (Q : Ex → VSt D → Prop) (R : VR D → Prop) : Prop := Q .normal (mkSt ⟨[(0, .hole)], []⟩ [.str o])
def S_TrimText_b2_cut (k : Nat) : Cut D := cutS ⟨[(0, .hole)], []⟩ [.ks] (fun (x : (List UInt8) × Unit) => S_TrimText_b2 k k x.1) S_TrimText_b2_L
def S_TrimText_b2_cu (k : Nat) : Cuts D := ⟨[], []⟩
theorem S_TrimText_b2_ok (k : Nat) : CutFor X S_TrimText_pl k Go.Proofs.Tryd.f117.results.toList (S_TrimText_b2_cut k) (sub (bodyOf Go.Proofs.Tryd.f117) [1, 1, 0]) :=
  loopCut_s (X := X) (sg := [.ks]) (cu := S_TrimText_b2_cu k) (cl := S_TrimText_cl k) (tys := [[0]]) (id := 2) (c := sub (bodyOf Go.Proofs.Tryd.f117) [1, 1, 0, 0, 0]) (f := fun n => fun (x : (List UInt8) × Unit) => S_TrimText_b2 k n x.1) (S_TrimText_ck k) (cutOK_of (l := []) (by kernel_rfl) trivial) (fun _ => rfl) (fun n x Q R h => by
    simp only [S_TrimText_b2, optK_bind, optK_bif, optK_pure, optK_none, optK_oc, optK_guardT, optK_map] at h
    refine hold_of h ?_
    kernel_rfl) (by kernel_rfl)
def S_TrimText_cu (k : Nat) : Cuts D := ⟨[(0, some (S_TrimText_b0_cut k)), (2, some (S_TrimText_b2_cut k))], []⟩
def S_TrimText_ar : List Ar := [.c (.ks)]
def S_TrimText_f (k : Nat) (x : TupA D S_TrimText_ar) : Option ((List UInt8)) := S_TrimText k x.1
def S_TrimText_vr (r : (List UInt8)) : VR D := .p (.c (.str r))
theorem S_TrimText_ok (k : Nat) : Does P X 117 S_TrimText_ar (S_TrimText_f k) S_TrimText_vr :=
  does_of (body := bodyOf Go.Proofs.Tryd.f117) (pl := S_TrimText_pl) (k := k) (cu := S_TrimText_cu k) (tys := [[0]]) (S_TrimText_ck k) ctx mixed Go.Proofs.Tryd.func117 (by kernel_rfl) (by kernel_rfl) (cutOK_of (l := [(S_TrimText_b0_cut k, sub (bodyOf Go.Proofs.Tryd.f117) [1, 0]), (S_TrimText_b2_cut k, sub (bodyOf Go.Proofs.Tryd.f117) [1, 1, 0])]) (by kernel_rfl) ⟨S_TrimText_b0_ok k, S_TrimText_b2_ok k, trivial⟩) fun x R h => by
    simp only [S_TrimText_f, S_TrimText, optK_bind, optK_bif, optK_pure, optK_none, optK_oc, optK_guardT, optK_map] at h
    refine hold_of h ?_
    kernel_rfl
def S_TrimText_en (k : Nat) : Entry D := entS S_TrimText_ar (S_TrimText_f k) S_TrimText_vr
theorem S_TrimText_eo (k : Nat) : EntryOK X 117 (S_TrimText_en k) := (S_TrimText_ok k).en rfl
def S_SplitList_pl : Plan := ⟨[(0, [(0, none)]), (1, [(3, some 9)]), (2, [(3, some 9), (4, some 9)]), (3, [(3, some 9), (4, some 9), (5, none)]), (4, [(3, some 9), (4, some 9), (5, none), (13, none)]), (5, [(3, some 9), (4, some 9), (5, none)]), (6, [(3, some 9), (4, some 9), (5, none), (6, none)]), (7, [(3, some 9), (4, some 9), (5, none), (6, none), (22, none)]), (8, [(3, some 9), (4, some 9), (5, none)]), (9, [(2, some 9)])],
  [(0, [(4, some 9)]), (1, [(3, some 9), (4, some 9), (5, none)])],
  [(13, ([(3, some 9), (4, some 9), (5, none)], [(4, some 9)])), (22, ([(3, some 9), (4, some 9), (5, none), (6, none)], [(3, some 9), (4, some 9), (5, none)]))]⟩
def S_SplitList_cl (k : Nat) : Calls' D := ⟨[(116, S_l4Cut_en k), (117, S_TrimText_en k)], [], [], [], []⟩
theorem S_SplitList_ck (k : Nat) : CallsOK X (S_SplitList_cl k) := .cons (S_l4Cut_eo k) (.cons (S_TrimText_eo k) (.nil cod))
def S_SplitList_c22_L (x : Int × (List UInt8) × Bool × (List (List UInt8)) × (List (List UInt8)) × Unit) (o : (List (List UInt8))) (Q : Ex → VSt D → Prop) (R : VR D → Prop) : Prop := Q .normal (mkSt ⟨[(3, .ref 500003), (4, .ref 500004), (5, .hole)], [(500003, .row), (500004, .row)]⟩ [.int .i64 x.1, .sl 9 x.2.2.2.1, .sl 9 o])
def S_SplitList_c22_cut (k : Nat) : Cut D := cutS ⟨[(3, .ref 500003), (4, .ref 500004), (5, .hole), (6, .hole), (22, .hole)], [(500003, .row), (500004, .row)]⟩ [.ki .i64, .ks, .kb, .kl 9, .kl 9] (fun (x : Int × (List UInt8) × Bool × (List (List UInt8)) × (List (List UInt8)) × Unit) => S_SplitList_c22 k x.1 x.2.1 x.2.2.1 x.2.2.2.1 x.2.2.2.2.1) S_SplitList_c22_L
def S_SplitList_c22_cu (k : Nat) : Cuts D := ⟨[], []⟩
theorem S_SplitList_c22_ok (k : Nat) : CutFor X S_SplitList_pl k Go.Proofs.Tryd.f91.results.toList (S_SplitList_c22_cut k) (sub (bodyOf Go.Proofs.Tryd.f91) [1, 1, 1, 0, 1, 0, 0, 1, 0, 0, 1, 1]) :=
  joinCut_s (X := X) (sg := [.ki .i64, .ks, .kb, .kl 9, .kl 9]) (cu := S_SplitList_c22_cu k) (cl := S_SplitList_cl k) (tys := [[9]]) (S_SplitList_ck k) (cutOK_of (l := []) (by kernel_rfl) trivial) fun x Q R h => by
    simp only [S_SplitList_c22, optK_bind, optK_bif, optK_pure, optK_none, optK_oc, optK_guardT, optK_map] at h
    refine hold_of h ?_
    kernel_rfl
def S_SplitList_b1_L (x : Int × (List (List UInt8)) × (List (List UInt8)) × Unit) (o : (List (List UInt8))) (Q : Ex → VSt D → Prop) (R : VR D → Prop) : Prop := Q .normal (mkSt ⟨[(3, .ref 500003), (4, .ref 500004), (5, .hole)], [(500003, .row), (500004, .row)]⟩ [.int .i64 x.1, .sl 9 x.2.1, .sl 9 o])
def S_SplitList_b1_cut (k : Nat) : Cut D := cutS ⟨[(3, .ref 500003), (4, .ref 500004), (5, .hole)], [(500003, .row), (500004, .row)]⟩ [.ki .i64, .kl 9, .kl 9] (fun (x : Int × (List (List UInt8)) × (List (List UInt8)) × Unit) => S_SplitList_b1 k x.1 x.2.1 x.2.2.1) S_SplitList_b1_L
def S_SplitList_b1_cu (k : Nat) : Cuts D := ⟨[], [(22, some (S_SplitList_c22_cut k))]⟩
theorem S_SplitList_b1_ok (k : Nat) : CutFor X S_SplitList_pl k Go.Proofs.Tryd.f91.results.toList (S_SplitList_b1_cut k) (sub (bodyOf Go.Proofs.Tryd.f91) [1, 1, 1, 0, 1, 0, 0, 1, 0]) :=
  joinCut_s (X := X) (sg := [.ki .i64, .kl 9, .kl 9]) (cu := S_SplitList_b1_cu k) (cl := S_SplitList_cl k) (tys := [[9]]) (S_SplitList_ck k) (cutOK_of (l := [(S_SplitList_c22_cut k, sub (bodyOf Go.Proofs.Tryd.f91) [1, 1, 1, 0, 1, 0, 0, 1, 0, 0, 1, 1])]) (by kernel_rfl) ⟨S_SplitList_c22_ok k, trivial⟩) fun x Q R h => by
    simp only [S_SplitList_b1, optK_bind, optK_bif, optK_pure, optK_none, optK_oc, optK_guardT, optK_map] at h
    refine hold_of h ?_
    kernel_rfl
def S_SplitList_b0_L (x : Int × (List (List UInt8)) × (List (List UInt8)) × Unit) (o : (List (List UInt8))) (Q : Ex → VSt D → Prop) (R : VR D → Prop) : Prop := Q .normal (mkSt ⟨[(4, .ref 500004)], [(500004, .row)]⟩ [.sl 9 o])
def S_SplitList_b0_cut (k : Nat) : Cut D := cutS ⟨[(3, .ref 500003), (4, .ref 500004), (5, .hole)], [(500003, .row), (500004, .row)]⟩ [.ki .i64, .kl 9, .kl 9] (fun (x : Int × (List (List UInt8)) × (List (List UInt8)) × Unit) => S_SplitList_b0 k k x.1 x.2.1 x.2.2.1) S_SplitList_b0_L
def S_SplitList_b0_cu (k : Nat) : Cuts D := ⟨[(1, some (S_SplitList_b1_cut k))], []⟩
theorem S_SplitList_b0_ok (k : Nat) : CutFor X S_SplitList_pl k Go.Proofs.Tryd.f91.results.toList (S_SplitList_b0_cut k) (sub (bodyOf Go.Proofs.Tryd.f91) [1, 1, 1, 0, 1]) :=
  loopCut_s (X := X) (sg := [.ki .i64, .kl 9, .kl 9]) (cu := S_SplitList_b0_cu k) (cl := S_SplitList_cl k) (tys := [[9]]) (id := 0) (c := sub (bodyOf Go.Proofs.Tryd.f91) [1, 1, 1, 0, 1, 0, 0]) (f := fun n => fun (x : Int × (List (List UInt8)) × (List (List UInt8)) × Unit) => S_SplitList_b0 k n x.1 x.2.1 x.2.2.1) (S_SplitList_ck k) (cutOK_of (l := [(S_SplitList_b1_cut k, sub (bodyOf Go.Proofs.Tryd.f91) [1, 1, 1, 0, 1, 0, 0, 1, 0])]) (by kernel_rfl) ⟨S_SplitList_b1_ok k, trivial⟩) (fun _ => rfl) (fun n x Q R h => by
    simp only [S_SplitList_b0, optK_bind, optK_bif, optK_pure, optK_none, optK_oc, optK_guardT, optK_map] at h
    refine hold_of h ?_
    kernel_rfl) (by kernel_rfl)
def S_SplitList_cu (k : Nat) : Cuts D := ⟨[(0, some (S_SplitList_b0_cut k))], []⟩
def S_SplitList_ar : List Ar := [.c (.ks)]
def S_SplitList_f (k : Nat) (x : TupA D S_SplitList_ar) : Option ((List (List UInt8))) := S_SplitList k x.1
def S_SplitList_vr (r : (List (List UInt8))) : VR D := .p (.c (.sl 9 r))
theorem S_SplitList_ok (k : Nat) : Does P X 91 S_SplitList_ar (S_SplitList_f k) S_SplitList_vr :=
  does_of (body := bodyOf Go.Proofs.Tryd.f91) (pl := S_SplitList_pl) (k := k) (cu := S_SplitList_cu k) (tys := [[9]]) (S_SplitList_ck k) ctx mixed Go.Proofs.Tryd.func91 (by kernel_rfl) (by kernel_rfl) (cutOK_of (l := [(S_SplitList_b0_cut k, sub (bodyOf Go.Proofs.Tryd.f91) [1, 1, 1, 0, 1])]) (by kernel_rfl) ⟨S_SplitList_b0_ok k, trivial⟩) fun x R h => by
    simp only [S_SplitList_f, S_SplitList, optK_bind, optK_bif, optK_pure, optK_none, optK_oc, optK_guardT, optK_map] at h
    refine hold_of h ?_
    kernel_rfl
def S_SplitList_en (k : Nat) : Entry D := entS S_SplitList_ar (S_SplitList_f k) S_SplitList_vr
theorem S_SplitList_eo (k : Nat) : EntryOK X 91 (S_SplitList_en k) := (S_SplitList_ok k).en rfl
def S_SplitPair_pl : Plan := ⟨[(0, [(0, none)]), (1, [(0, none), (5, none)]), (2, [(0, none), (5, none), (9, none)]), (3, [(0, none), (5, none)]), (4, [(0, none), (5, none), (15, none)]), (5, [(2, none), (3, none), (4, none)]), (6, [(2, none), (3, none), (4, none)])],
  [(0, [(0, none)]), (1, [(0, none), (5, none)])],
  [(9, ([(0, none), (5, none)], [(0, none)])), (15, ([(0, none), (5, none)], [(0, none), (5, none)]))]⟩
def S_SplitPair_cl (k : Nat) : Calls' D := ⟨[(117, S_TrimText_en k)], [], [], [], []⟩
theorem S_SplitPair_ck (k : Nat) : CallsOK X (S_SplitPair_cl k) := .cons (S_TrimText_eo k) (.nil cod)
def S_SplitPair_b0_L (x : (List UInt8) × Int × Unit) (o : Oc (Unit) ((List UInt8) × (List UInt8) × Bool)) (Q : Ex → VSt D → Prop) (R : VR D → Prop) : Prop := ocP o (fun v0 => Q .normal (mkSt ⟨[(0, .hole)], []⟩ [.str x.1])) (fun w0 => R (.tup [.c (.str w0.1), .c (.str w0.2.1), .c (.bool w0.2.2)]))
def S_SplitPair_b0_cut (k : Nat) : Cut D := cutS ⟨[(0, .hole), (5, .hole)], []⟩ [.ks, .ki .i64] (fun (x : (List UInt8) × Int × Unit) => S_SplitPair_b0 k k x.1 x.2.1) S_SplitPair_b0_L
def S_SplitPair_b0_cu (k : Nat) : Cuts D := ⟨[], []⟩
theorem S_SplitPair_b0_ok (k : Nat) : CutFor X S_SplitPair_pl k Go.Proofs.Tryd.f92.results.toList (S_SplitPair_b0_cut k) (sub (bodyOf Go.Proofs.Tryd.f92) [1, 0, 1]) :=
  loopCut_s (X := X) (sg := [.ks, .ki .i64]) (cu := S_SplitPair_b0_cu k) (cl := S_SplitPair_cl k) (tys := [[0], [0], [0]]) (id := 0) (c := sub (bodyOf Go.Proofs.Tryd.f92) [1, 0, 1, 0, 0]) (f := fun n => fun (x : (List UInt8) × Int × Unit) => S_SplitPair_b0 k n x.1 x.2.1) (S_SplitPair_ck k) (cutOK_of (l := []) (by kernel_rfl) trivial) (fun _ => rfl) (fun n x Q R h => by
    simp only [S_SplitPair_b0, optK_bind, optK_bif, optK_pure, optK_none, optK_oc, optK_guardT, optK_map] at h
    refine hold_of h ?_
    kernel_rfl) (by kernel_rfl)
def S_SplitPair_cu (k : Nat) : Cuts D := ⟨[(0, some (S_SplitPair_b0_cut k))], []⟩
def S_SplitPair_ar : List Ar := [.c (.ks)]
def S_SplitPair_f (k : Nat) (x : TupA D S_SplitPair_ar) : Option ((List UInt8) × (List UInt8) × Bool) := S_SplitPair k x.1
def S_SplitPair_vr (r : (List UInt8) × (List UInt8) × Bool) : VR D := .tup [.c (.str r.1), .c (.str r.2.1), .c (.bool r.2.2)]
theorem S_SplitPair_ok (k : Nat) : Does P X 92 S_SplitPair_ar (S_SplitPair_f k) S_SplitPair_vr :=
  does_of (body := bodyOf Go.Proofs.Tryd.f92) (pl := S_SplitPair_pl) (k := k) (cu := S_SplitPair_cu k) (tys := [[0], [0], [0]]) (S_SplitPair_ck k) ctx mixed Go.Proofs.Tryd.func92 (by kernel_rfl) (by kernel_rfl) (cutOK_of (l := [(S_SplitPair_b0_cut k, sub (bodyOf Go.Proofs.Tryd.f92) [1, 0, 1])]) (by kernel_rfl) ⟨S_SplitPair_b0_ok k, trivial⟩) fun x R h => by
    simp only [S_SplitPair_f, S_SplitPair, optK_bind, optK_bif, optK_pure, optK_none, optK_oc, optK_guardT, optK_map] at h
    refine hold_of h ?_
    kernel_rfl
def S_SplitPair_en (k : Nat) : Entry D := entS S_SplitPair_ar (S_SplitPair_f k) S_SplitPair_vr
theorem S_SplitPair_eo (k : Nat) : EntryOK X 92 (S_SplitPair_en k) := (S_SplitPair_ok k).en rfl
def S_l1In_pl : Plan := ⟨[(0, [(0, none), (1, none), (2, none)]), (1, [(6, none)])],
  [],
  []⟩
def S_l1In_cl (k : Nat) : Calls' D := ⟨[], [], [], [], []⟩
theorem S_l1In_ck (k : Nat) : CallsOK X (S_l1In_cl k) := .nil cod
def S_l1In_cu (k : Nat) : Cuts D := ⟨[], []⟩
def S_l1In_ar : List Ar := [.c (.ki .i64), .c (.ki .i64), .c (.ki .i64)]
def S_l1In_f (k : Nat) (x : TupA D S_l1In_ar) : Option (Bool) := S_l1In k x.1 x.2.1 x.2.2.1
def S_l1In_vr (r : Bool) : VR D := .p (.c (.bool r))
theorem S_l1In_ok (k : Nat) : Does P X 65 S_l1In_ar (S_l1In_f k) S_l1In_vr :=
  does_of (body := bodyOf Go.Proofs.Tryd.f65) (pl := S_l1In_pl) (k := k) (cu := S_l1In_cu k) (tys := [[0]]) (S_l1In_ck k) ctx mixed Go.Proofs.Tryd.func65 (by kernel_rfl) (by kernel_rfl) (cutOK_of (l := []) (by kernel_rfl) trivial) fun x R h => by
    simp only [S_l1In_f, S_l1In, optK_bind, optK_bif, optK_pure, optK_none, optK_oc, optK_guardT, optK_map] at h
    refine hold_of h ?_
    kernel_rfl
def S_l1In_en (k : Nat) : Entry D := entS S_l1In_ar (S_l1In_f k) S_l1In_vr
theorem S_l1In_eo (k : Nat) : EntryOK X 65 (S_l1In_en k) := (S_l1In_ok k).en rfl
def S_LowerText_pl : Plan := ⟨[(0, [(0, none)]), (1, [(3, some 5)]), (2, [(3, some 5), (4, none)]), (3, [(3, some 5), (4, none), (10, none)]), (4, [(3, some 5), (4, none)]), (5, [(3, some 5), (4, none), (18, none)]), (6, [(3, some 5), (4, none)]), (7, [(2, none)])],
  [(0, [(3, some 5)]), (1, [(3, some 5), (4, none)])],
  [(10, ([(3, some 5), (4, none)], [(3, some 5)])), (18, ([(3, some 5), (4, none)], [(3, some 5), (4, none)]))]⟩
def S_LowerText_cl (k : Nat) : Calls' D := ⟨[(65, S_l1In_en k)], [], [], [], []⟩
theorem S_LowerText_ck (k : Nat) : CallsOK X (S_LowerText_cl k) := .cons (S_l1In_eo k) (.nil cod)
def S_LowerText_c18_L (x : Int × Bool × (List Int) × Unit) (o : (List Int)) (Q : Ex → VSt D → Prop) (R : VR D → Prop) : Prop := Q .normal (mkSt ⟨[(3, .ref 500003), (4, .hole)], [(500003, .row)]⟩ [.int .i64 x.1, .sl 5 o])
def S_LowerText_c18_cut (k : Nat) : Cut D := cutS ⟨[(3, .ref 500003), (4, .hole), (18, .hole)], [(500003, .row)]⟩ [.ki .i64, .kb, .kl 5] (fun (x : Int × Bool × (List Int) × Unit) => S_LowerText_c18 k x.1 x.2.1 x.2.2.1) S_LowerText_c18_L
def S_LowerText_c18_cu (k : Nat) : Cuts D := ⟨[], []⟩
theorem S_LowerText_c18_ok (k : Nat) : CutFor X S_LowerText_pl k Go.Proofs.Tryd.f93.results.toList (S_LowerText_c18_cut k) (sub (bodyOf Go.Proofs.Tryd.f93) [1, 1, 0, 1, 0, 0, 1, 0, 0, 1]) :=
  joinCut_s (X := X) (sg := [.ki .i64, .kb, .kl 5]) (cu := S_LowerText_c18_cu k) (cl := S_LowerText_cl k) (tys := [[0]]) (S_LowerText_ck k) (cutOK_of (l := []) (by kernel_rfl) trivial) fun x Q R h => by
    simp only [S_LowerText_c18, optK_bind, optK_bif, optK_pure, optK_none, optK_oc, optK_guardT, optK_map] at h
    refine hold_of h ?_
    kernel_rfl
def S_LowerText_b1_L (x : Int × (List Int) × Unit) (o : (List Int)) (Q : Ex → VSt D → Prop) (R : VR D → Prop) : Prop := Q .normal (mkSt ⟨[(3, .ref 500003), (4, .hole)], [(500003, .row)]⟩ [.int .i64 x.1, .sl 5 o])
def S_LowerText_b1_cut (k : Nat) : Cut D := cutS ⟨[(3, .ref 500003), (4, .hole)], [(500003, .row)]⟩ [.ki .i64, .kl 5] (fun (x : Int × (List Int) × Unit) => S_LowerText_b1 k x.1 x.2.1) S_LowerText_b1_L
def S_LowerText_b1_cu (k : Nat) : Cuts D := ⟨[], [(18, some (S_LowerText_c18_cut k))]⟩
theorem S_LowerText_b1_ok (k : Nat) : CutFor X S_LowerText_pl k Go.Proofs.Tryd.f93.results.toList (S_LowerText_b1_cut k) (sub (bodyOf Go.Proofs.Tryd.f93) [1, 1, 0, 1, 0, 0, 1, 0]) :=
  joinCut_s (X := X) (sg := [.ki .i64, .kl 5]) (cu := S_LowerText_b1_cu k) (cl := S_LowerText_cl k) (tys := [[0]]) (S_LowerText_ck k) (cutOK_of (l := [(S_LowerText_c18_cut k, sub (bodyOf Go.Proofs.Tryd.f93) [1, 1, 0, 1, 0, 0, 1, 0, 0, 1])]) (by kernel_rfl) ⟨S_LowerText_c18_ok k, trivial⟩) fun x Q R h => by
    simp only [S_LowerText_b1, optK_bind, optK_bif, optK_pure, optK_none, optK_oc, optK_guardT, optK_map] at h
    refine hold_of h ?_
    kernel_rfl
def S_LowerText_b0_L (x : Int × (List Int) × Unit) (o : (List Int)) (Q : Ex → VSt D → Prop) (R : VR D → Prop) : Prop := Q .normal (mkSt ⟨[(3, .ref 500003)], [(500003, .row)]⟩ [.sl 5 o])
def S_LowerText_b0_cut (k : Nat) : Cut D := cutS ⟨[(3, .ref 500003), (4, .hole)], [(500003, .row)]⟩ [.ki .i64, .kl 5] (fun (x : Int × (List Int) × Unit) => S_LowerText_b0 k k x.1 x.2.1) S_LowerText_b0_L
def S_LowerText_b0_cu (k : Nat) : Cuts D := ⟨[(1, some (S_LowerText_b1_cut k))], []⟩
theorem S_LowerText_b0_ok (k : Nat) : CutFor X S_LowerText_pl k Go.Proofs.Tryd.f93.results.toList (S_LowerText_b0_cut k) (sub (bodyOf Go.Proofs.Tryd.f93) [1, 1, 0, 1]) :=
  loopCut_s (X := X) (sg := [.ki .i64, .kl 5]) (cu := S_LowerText_b0_cu k) (cl := S_LowerText_cl k) (tys := [[0]]) (id := 0) (c := sub (bodyOf Go.Proofs.Tryd.f93) [1, 1, 0, 1, 0, 0]) (f := fun n => fun (x : Int × (List Int) × Unit) => S_LowerText_b0 k n x.1 x.2.1) (S_LowerText_ck k) (cutOK_of (l := [(S_LowerText_b1_cut k, sub (bodyOf Go.Proofs.Tryd.f93) [1, 1, 0, 1, 0, 0, 1, 0])]) (by kernel_rfl) ⟨S_LowerText_b1_ok k, trivial⟩) (fun _ => rfl) (fun n x Q R h => by
    simp only [S_LowerText_b0, optK_bind, optK_bif, optK_pure, optK_none, optK_oc, optK_guardT, optK_map] at h
    refine hold_of h ?_
    kernel_rfl) (by kernel_rfl)
def S_LowerText_cu (k : Nat) : Cuts D := ⟨[(0, some (S_LowerText_b0_cut k))], []⟩
def S_LowerText_ar : List Ar := [.c (.ks)]
def S_LowerText_f (k : Nat) (x : TupA D S_LowerText_ar) : Option ((List UInt8)) := S_LowerText k x.1
def S_LowerText_vr (r : (List UInt8)) : VR D := .p (.c (.str r))
theorem S_LowerText_ok (k : Nat) : Does P X 93 S_LowerText_ar (S_LowerText_f k) S_LowerText_vr :=
  does_of (body := bodyOf Go.Proofs.Tryd.f93) (pl := S_LowerText_pl) (k := k) (cu := S_LowerText_cu k) (tys := [[0]]) (S_LowerText_ck k) ctx mixed Go.Proofs.Tryd.func93 (by kernel_rfl) (by kernel_rfl) (cutOK_of (l := [(S_LowerText_b0_cut k, sub (bodyOf Go.Proofs.Tryd.f93) [1, 1, 0, 1])]) (by kernel_rfl) ⟨S_LowerText_b0_ok k, trivial⟩) fun x R h => by
    simp only [S_LowerText_f, S_LowerText, optK_bind, optK_bif, optK_pure, optK_none, optK_oc, optK_guardT, optK_map] at h
    refine hold_of h ?_
    kernel_rfl
def S_LowerText_en (k : Nat) : Entry D := entS S_LowerText_ar (S_LowerText_f k) S_LowerText_vr
theorem S_LowerText_eo (k : Nat) : EntryOK X 93 (S_LowerText_en k) := (S_LowerText_ok k).en rfl
def S_UnquoteText_pl : Plan := ⟨[(0, [(0, none)]), (1, [(0, none), (4, some 5)]), (2, [(0, none), (4, some 5), (5, none)]), (3, [(0, none), (4, some 5), (5, none), (10, none)]), (4, [(0, none), (4, some 5), (5, none)]), (5, [(0, none), (4, some 5), (5, none)]), (6, [(0, none), (4, some 5), (5, none), (19, none)]), (7, [(2, none), (3, none)]), (8, [(0, none), (4, some 5), (5, none), (36, none)]), (9, [(0, none), (4, some 5), (5, none)]), (10, [(0, none), (4, some 5), (5, none)]), (11, [(2, none), (3, none)])],
  [(0, [(4, some 5)]), (1, [(0, none), (4, some 5), (5, none)]), (2, [(0, none), (4, some 5), (5, none)])],
  [(10, ([(0, none), (4, some 5), (5, none)], [(4, some 5)])), (19, ([(0, none), (4, some 5), (5, none)], [(0, none), (4, some 5), (5, none)])), (36, ([(0, none), (4, some 5), (5, none)], [(0, none), (4, some 5), (5, none)]))]⟩
def S_UnquoteText_cl (k : Nat) : Calls' D := ⟨[], [], [], [], []⟩
theorem S_UnquoteText_ck (k : Nat) : CallsOK X (S_UnquoteText_cl k) := .nil cod
def S_UnquoteText_c36_L (x : (List UInt8) × Int × Bool × (List Int) × Unit) (o : Int × (List Int)) (Q : Ex → VSt D → Prop) (R : VR D → Prop) : Prop := Q .normal (mkSt ⟨[(0, .hole), (4, .ref 500004), (5, .hole)], [(500004, .row)]⟩ [.str x.1, .int .i64 o.1, .sl 5 o.2])
def S_UnquoteText_c36_cut (k : Nat) : Cut D := cutS ⟨[(0, .hole), (4, .ref 500004), (5, .hole), (36, .hole)], [(500004, .row)]⟩ [.ks, .ki .i64, .kb, .kl 5] (fun (x : (List UInt8) × Int × Bool × (List Int) × Unit) => S_UnquoteText_c36 k x.1 x.2.1 x.2.2.1 x.2.2.2.1) S_UnquoteText_c36_L
def S_UnquoteText_c36_cu (k : Nat) : Cuts D := ⟨[], []⟩
theorem S_UnquoteText_c36_ok (k : Nat) : CutFor X S_UnquoteText_pl k Go.Proofs.Tryd.f94.results.toList (S_UnquoteText_c36_cut k) (sub (bodyOf Go.Proofs.Tryd.f94) [1, 1, 0, 1, 0, 0, 1, 0, 0, 0, 1, 1, 1]) :=
  joinCut_s (X := X) (sg := [.ks, .ki .i64, .kb, .kl 5]) (cu := S_UnquoteText_c36_cu k) (cl := S_UnquoteText_cl k) (tys := [[0], [0]]) (S_UnquoteText_ck k) (cutOK_of (l := []) (by kernel_rfl) trivial) fun x Q R h => by
    simp only [S_UnquoteText_c36, optK_bind, optK_bif, optK_pure, optK_none, optK_oc, optK_guardT, optK_map] at h
    refine hold_of h ?_
    kernel_rfl
def S_UnquoteText_c19_L (x : (List UInt8) × Int × Bool × (List Int) × Unit) (o : Oc (Int × (List Int)) ((List UInt8) × Bool)) (Q : Ex → VSt D → Prop) (R : VR D → Prop) : Prop := ocP o (fun v0 => Q .normal (mkSt ⟨[(0, .hole), (4, .ref 500004), (5, .hole)], [(500004, .row)]⟩ [.str x.1, .int .i64 v0.1, .sl 5 v0.2])) (fun w0 => R (.tup [.c (.str w0.1), .c (.bool w0.2)]))
def S_UnquoteText_c19_cut (k : Nat) : Cut D := cutS ⟨[(0, .hole), (4, .ref 500004), (5, .hole), (19, .hole)], [(500004, .row)]⟩ [.ks, .ki .i64, .kb, .kl 5] (fun (x : (List UInt8) × Int × Bool × (List Int) × Unit) => S_UnquoteText_c19 k x.1 x.2.1 x.2.2.1 x.2.2.2.1) S_UnquoteText_c19_L
def S_UnquoteText_c19_cu (k : Nat) : Cuts D := ⟨[], [(36, some (S_UnquoteText_c36_cut k))]⟩
theorem S_UnquoteText_c19_ok (k : Nat) : CutFor X S_UnquoteText_pl k Go.Proofs.Tryd.f94.results.toList (S_UnquoteText_c19_cut k) (sub (bodyOf Go.Proofs.Tryd.f94) [1, 1, 0, 1, 0, 0, 1, 0, 0, 0, 1]) :=
  joinCut_s (X := X) (sg := [.ks, .ki .i64, .kb, .kl 5]) (cu := S_UnquoteText_c19_cu k) (cl := S_UnquoteText_cl k) (tys := [[0], [0]]) (S_UnquoteText_ck k) (cutOK_of (l := [(S_UnquoteText_c36_cut k, sub (bodyOf Go.Proofs.Tryd.f94) [1, 1, 0, 1, 0, 0, 1, 0, 0, 0, 1, 1, 1])]) (by kernel_rfl) ⟨S_UnquoteText_c36_ok k, trivial⟩) fun x Q R h => by
    simp only [S_UnquoteText_c19, optK_bind, optK_bif, optK_pure, optK_none, optK_oc, optK_guardT, optK_map] at h
    refine hold_of h ?_
    kernel_rfl
def S_UnquoteText_b2_L (x : (List UInt8) × Int × (List Int) × Unit) (o : Oc (Int × (List Int)) ((List UInt8) × Bool)) (Q : Ex → VSt D → Prop) (R : VR D → Prop) : Prop := ocP o (fun v0 => Q .normal (mkSt ⟨[(0, .hole), (4, .ref 500004), (5, .hole)], [(500004, .row)]⟩ [.str x.1, .int .i64 v0.1, .sl 5 v0.2])) (fun w0 => R (.tup [.c (.str w0.1), .c (.bool w0.2)]))
def S_UnquoteText_b2_cut (k : Nat) : Cut D := cutS ⟨[(0, .hole), (4, .ref 500004), (5, .hole)], [(500004, .row)]⟩ [.ks, .ki .i64, .kl 5] (fun (x : (List UInt8) × Int × (List Int) × Unit) => S_UnquoteText_b2 k x.1 x.2.1 x.2.2.1) S_UnquoteText_b2_L
def S_UnquoteText_b2_cu (k : Nat) : Cuts D := ⟨[], [(19, some (S_UnquoteText_c19_cut k))]⟩
theorem S_UnquoteText_b2_ok (k : Nat) : CutFor X S_UnquoteText_pl k Go.Proofs.Tryd.f94.results.toList (S_UnquoteText_b2_cut k) (sub (bodyOf Go.Proofs.Tryd.f94) [1, 1, 0, 1, 0, 0, 1, 0, 0]) :=
  joinCut_s (X := X) (sg := [.ks, .ki .i64, .kl 5]) (cu := S_UnquoteText_b2_cu k) (cl := S_UnquoteText_cl k) (tys := [[0], [0]]) (S_UnquoteText_ck k) (cutOK_of (l := [(S_UnquoteText_c19_cut k, sub (bodyOf Go.Proofs.Tryd.f94) [1, 1, 0, 1, 0, 0, 1, 0, 0, 0, 1])]) (by kernel_rfl) ⟨S_UnquoteText_c19_ok k, trivial⟩) fun x Q R h => by
    simp only [S_UnquoteText_b2, optK_bind, optK_bif, optK_pure, optK_none, optK_oc, optK_guardT, optK_map] at h
    refine hold_of h ?_
    kernel_rfl
def S_UnquoteText_b1_L (x : (List UInt8) × Int × (List Int) × Unit) (o : Oc (Int × (List Int)) ((List UInt8) × Bool)) (Q : Ex → VSt D → Prop) (R : VR D → Prop) : Prop := ocP o (fun v0 => Q .normal (mkSt ⟨[(0, .hole), (4, .ref 500004), (5, .hole)], [(500004, .row)]⟩ [.str x.1, .int .i64 v0.1, .sl 5 v0.2])) (fun w0 => R (.tup [.c (.str w0.1), .c (.bool w0.2)]))
def S_UnquoteText_b1_cut (k : Nat) : Cut D := cutS ⟨[(0, .hole), (4, .ref 500004), (5, .hole)], [(500004, .row)]⟩ [.ks, .ki .i64, .kl 5] (fun (x : (List UInt8) × Int × (List Int) × Unit) => S_UnquoteText_b1 k x.1 x.2.1 x.2.2.1) S_UnquoteText_b1_L
def S_UnquoteText_b1_cu (k : Nat) : Cuts D := ⟨[(2, some (S_UnquoteText_b2_cut k))], []⟩
theorem S_UnquoteText_b1_ok (k : Nat) : CutFor X S_UnquoteText_pl k Go.Proofs.Tryd.f94.results.toList (S_UnquoteText_b1_cut k) (sub (bodyOf Go.Proofs.Tryd.f94) [1, 1, 0, 1, 0, 0, 1, 0]) :=
  joinCut_s (X := X) (sg := [.ks, .ki .i64, .kl 5]) (cu := S_UnquoteText_b1_cu k) (cl := S_UnquoteText_cl k) (tys := [[0], [0]]) (S_UnquoteText_ck k) (cutOK_of (l := [(S_UnquoteText_b2_cut k, sub (bodyOf Go.Proofs.Tryd.f94) [1, 1, 0, 1, 0, 0, 1, 0, 0])]) (by kernel_rfl) ⟨S_UnquoteText_b2_ok k, trivial⟩) fun x Q R h => by
    simp only [S_UnquoteText_b1, optK_bind, optK_bif, optK_pure, optK_none, optK_oc, optK_guardT, optK_map] at h
    refine hold_of h ?_
    kernel_rfl
def S_UnquoteText_b0_L (x : (List UInt8) × Int × (List Int) × Unit) (o : Oc ((List Int)) ((List UInt8) × Bool)) (Q : Ex → VSt D → Prop) (R : VR D → Prop) : Prop := ocP o (fun v0 => Q .normal (mkSt ⟨[(4, .ref 500004)], [(500004, .row)]⟩ [.sl 5 v0])) (fun w0 => R (.tup [.c (.str w0.1), .c (.bool w0.2)]))
def S_UnquoteText_b0_cut (k : Nat) : Cut D := cutS ⟨[(0, .hole), (4, .ref 500004), (5, .hole)], [(500004, .row)]⟩ [.ks, .ki .i64, .kl 5] (fun (x : (List UInt8) × Int × (List Int) × Unit) => S_UnquoteText_b0 k k x.1 x.2.1 x.2.2.1) S_UnquoteText_b0_L
def S_UnquoteText_b0_cu (k : Nat) : Cuts D := ⟨[(1, some (S_UnquoteText_b1_cut k))], []⟩
theorem S_UnquoteText_b0_ok (k : Nat) : CutFor X S_UnquoteText_pl k Go.Proofs.Tryd.f94.results.toList (S_UnquoteText_b0_cut k) (sub (bodyOf Go.Proofs.Tryd.f94) [1, 1, 0, 1]) :=
  loopCut_s (X := X) (sg := [.ks, .ki .i64, .kl 5]) (cu := S_UnquoteText_b0_cu k) (cl := S_UnquoteText_cl k) (tys := [[0], [0]]) (id := 0) (c := sub (bodyOf Go.Proofs.Tryd.f94) [1, 1, 0, 1, 0, 0]) (f := fun n => fun (x : (List UInt8) × Int × (List Int) × Unit) => S_UnquoteText_b0 k n x.1 x.2.1 x.2.2.1) (S_UnquoteText_ck k) (cutOK_of (l := [(S_UnquoteText_b1_cut k, sub (bodyOf Go.Proofs.Tryd.f94) [1, 1, 0, 1, 0, 0, 1, 0])]) (by kernel_rfl) ⟨S_UnquoteText_b1_ok k, trivial⟩) (fun _ => rfl) (fun n x Q R h => by
    simp only [S_UnquoteText_b0, optK_bind, optK_bif, optK_pure, optK_none, optK_oc, optK_guardT, optK_map] at h
    refine hold_of h ?_
    kernel_rfl) (by kernel_rfl)
def S_UnquoteText_cu (k : Nat) : Cuts D := ⟨[(0, some (S_UnquoteText_b0_cut k))], []⟩
def S_UnquoteText_ar : List Ar := [.c (.ks)]
def S_UnquoteText_f (k : Nat) (x : TupA D S_UnquoteText_ar) : Option ((List UInt8) × Bool) := S_UnquoteText k x.1
def S_UnquoteText_vr (r : (List UInt8) × Bool) : VR D := .tup [.c (.str r.1), .c (.bool r.2)]
theorem S_UnquoteText_ok (k : Nat) : Does P X 94 S_UnquoteText_ar (S_UnquoteText_f k) S_UnquoteText_vr :=
  does_of (body := bodyOf Go.Proofs.Tryd.f94) (pl := S_UnquoteText_pl) (k := k) (cu := S_UnquoteText_cu k) (tys := [[0], [0]]) (S_UnquoteText_ck k) ctx mixed Go.Proofs.Tryd.func94 (by kernel_rfl) (by kernel_rfl) (cutOK_of (l := [(S_UnquoteText_b0_cut k, sub (bodyOf Go.Proofs.Tryd.f94) [1, 1, 0, 1])]) (by kernel_rfl) ⟨S_UnquoteText_b0_ok k, trivial⟩) fun x R h => by
    simp only [S_UnquoteText_f, S_UnquoteText, optK_bind, optK_bif, optK_pure, optK_none, optK_oc, optK_guardT, optK_map] at h
    refine hold_of h ?_
    kernel_rfl
def S_UnquoteText_en (k : Nat) : Entry D := entS S_UnquoteText_ar (S_UnquoteText_f k) S_UnquoteText_vr
theorem S_UnquoteText_eo (k : Nat) : EntryOK X 94 (S_UnquoteText_en k) := (S_UnquoteText_ok k).en rfl
def S_l4Letter_pl : Plan := ⟨[(0, [(0, none)]), (1, [(2, none)])],
  [],
  []⟩
def S_l4Letter_cl (k : Nat) : Calls' D := ⟨[(65, S_l1In_en k)], [], [], [], []⟩
theorem S_l4Letter_ck (k : Nat) : CallsOK X (S_l4Letter_cl k) := .cons (S_l1In_eo k) (.nil cod)
def S_l4Letter_cu (k : Nat) : Cuts D := ⟨[], []⟩
def S_l4Letter_ar : List Ar := [.c (.ki .u8)]
def S_l4Letter_f (k : Nat) (x : TupA D S_l4Letter_ar) : Option (Bool) := S_l4Letter k x.1
def S_l4Letter_vr (r : Bool) : VR D := .p (.c (.bool r))
theorem S_l4Letter_ok (k : Nat) : Does P X 49 S_l4Letter_ar (S_l4Letter_f k) S_l4Letter_vr :=
  does_of (body := bodyOf Go.Proofs.Tryd.f49) (pl := S_l4Letter_pl) (k := k) (cu := S_l4Letter_cu k) (tys := [[0]]) (S_l4Letter_ck k) ctx mixed Go.Proofs.Tryd.func49 (by kernel_rfl) (by kernel_rfl) (cutOK_of (l := []) (by kernel_rfl) trivial) fun x R h => by
    simp only [S_l4Letter_f, S_l4Letter, optK_bind, optK_bif, optK_pure, optK_none, optK_oc, optK_guardT, optK_map] at h
    refine hold_of h ?_
    kernel_rfl
def S_l4Letter_en (k : Nat) : Entry D := entS S_l4Letter_ar (S_l4Letter_f k) S_l4Letter_vr
theorem S_l4Letter_eo (k : Nat) : EntryOK X 49 (S_l4Letter_en k) := (S_l4Letter_ok k).en rfl
def S_l4Token_pl : Plan := ⟨[(0, [(0, none)]), (1, [(0, none), (3, none)]), (2, [(0, none), (3, none), (5, none)]), (3, [(0, none), (3, none)]), (4, [(0, none), (3, none), (11, none)]), (5, [(2, none)]), (6, [(2, none)])],
  [(0, [(0, none)]), (1, [(0, none), (3, none)])],
  [(5, ([(0, none), (3, none)], [(0, none)])), (11, ([], [(0, none), (3, none)]))]⟩
def S_l4Token_cl (k : Nat) : Calls' D := ⟨[(49, S_l4Letter_en k)], [], [], [], []⟩
theorem S_l4Token_ck (k : Nat) : CallsOK X (S_l4Token_cl k) := .cons (S_l4Letter_eo k) (.nil cod)
def S_l4Token_b0_L (x : Int × Int × Unit) (o : Oc (Unit) (Bool)) (Q : Ex → VSt D → Prop) (R : VR D → Prop) : Prop := ocP o (fun v0 => Q .normal (mkSt ⟨[(0, .hole)], []⟩ [.int .u8 x.1])) (fun w0 => R (.p (.c (.bool w0))))
def S_l4Token_b0_cut (k : Nat) : Cut D := cutS ⟨[(0, .hole), (3, .hole)], []⟩ [.ki .u8, .ki .i64] (fun (x : Int × Int × Unit) => S_l4Token_b0 k k x.1 x.2.1) S_l4Token_b0_L
def S_l4Token_b0_cu (k : Nat) : Cuts D := ⟨[], []⟩
theorem S_l4Token_b0_ok (k : Nat) : CutFor X S_l4Token_pl k Go.Proofs.Tryd.f118.results.toList (S_l4Token_b0_cut k) (sub (bodyOf Go.Proofs.Tryd.f118) [1, 0, 1]) :=
  loopCut_s (X := X) (sg := [.ki .u8, .ki .i64]) (cu := S_l4Token_b0_cu k) (cl := S_l4Token_cl k) (tys := [[0]]) (id := 0) (c := sub (bodyOf Go.Proofs.Tryd.f118) [1, 0, 1, 0, 0]) (f := fun n => fun (x : Int × Int × Unit) => S_l4Token_b0 k n x.1 x.2.1) (S_l4Token_ck k) (cutOK_of (l := []) (by kernel_rfl) trivial) (fun _ => rfl) (fun n x Q R h => by
    simp only [S_l4Token_b0, optK_bind, optK_bif, optK_pure, optK_none, optK_oc, optK_guardT, optK_map] at h
    refine hold_of h ?_
    kernel_rfl) (by kernel_rfl)
def S_l4Token_cu (k : Nat) : Cuts D := ⟨[(0, some (S_l4Token_b0_cut k))], []⟩
def S_l4Token_ar : List Ar := [.c (.ki .u8)]
def S_l4Token_f (k : Nat) (x : TupA D S_l4Token_ar) : Option (Bool) := S_l4Token k x.1
def S_l4Token_vr (r : Bool) : VR D := .p (.c (.bool r))
theorem S_l4Token_ok (k : Nat) : Does P X 118 S_l4Token_ar (S_l4Token_f k) S_l4Token_vr :=
  does_of (body := bodyOf Go.Proofs.Tryd.f118) (pl := S_l4Token_pl) (k := k) (cu := S_l4Token_cu k) (tys := [[0]]) (S_l4Token_ck k) ctx mixed Go.Proofs.Tryd.func118 (by kernel_rfl) (by kernel_rfl) (cutOK_of (l := [(S_l4Token_b0_cut k, sub (bodyOf Go.Proofs.Tryd.f118) [1, 0, 1])]) (by kernel_rfl) ⟨S_l4Token_b0_ok k, trivial⟩) fun x R h => by
    simp only [S_l4Token_f, S_l4Token, optK_bind, optK_bif, optK_pure, optK_none, optK_oc, optK_guardT, optK_map] at h
    refine hold_of h ?_
    kernel_rfl
def S_l4Token_en (k : Nat) : Entry D := entS S_l4Token_ar (S_l4Token_f k) S_l4Token_vr
theorem S_l4Token_eo (k : Nat) : EntryOK X 118 (S_l4Token_en k) := (S_l4Token_ok k).en rfl
def S_IsToken_pl : Plan := ⟨[(0, [(0, none)]), (1, [(0, none), (3, none)]), (2, [(0, none), (3, none), (7, none)]), (3, [(0, none), (3, none)]), (4, [(0, none), (3, none), (14, none)]), (5, [(2, none)]), (6, [(2, none)])],
  [(0, [(0, none)]), (1, [(0, none), (3, none)])],
  [(7, ([(0, none), (3, none)], [(0, none)])), (14, ([], [(0, none), (3, none)]))]⟩
def S_IsToken_cl (k : Nat) : Calls' D := ⟨[(118, S_l4Token_en k), (65, S_l1In_en k)], [], [], [], []⟩
theorem S_IsToken_ck (k : Nat) : CallsOK X (S_IsToken_cl k) := .cons (S_l4Token_eo k) (.cons (S_l1In_eo k) (.nil cod))
def S_IsToken_b0_L (x : (List UInt8) × Int × Unit) (o : Oc (Unit) (Bool)) (Q : Ex → VSt D → Prop) (R : VR D → Prop) : Prop := ocP o (fun v0 => Q .normal (mkSt ⟨[(0, .hole)], []⟩ [.str x.1])) (fun w0 => R (.p (.c (.bool w0))))
def S_IsToken_b0_cut (k : Nat) : Cut D := cutS ⟨[(0, .hole), (3, .hole)], []⟩ [.ks, .ki .i64] (fun (x : (List UInt8) × Int × Unit) => S_IsToken_b0 k k x.1 x.2.1) S_IsToken_b0_L
def S_IsToken_b0_cu (k : Nat) : Cuts D := ⟨[], []⟩
theorem S_IsToken_b0_ok (k : Nat) : CutFor X S_IsToken_pl k Go.Proofs.Tryd.f95.results.toList (S_IsToken_b0_cut k) (sub (bodyOf Go.Proofs.Tryd.f95) [1, 0, 1]) :=
  loopCut_s (X := X) (sg := [.ks, .ki .i64]) (cu := S_IsToken_b0_cu k) (cl := S_IsToken_cl k) (tys := [[0]]) (id := 0) (c := sub (bodyOf Go.Proofs.Tryd.f95) [1, 0, 1, 0, 0]) (f := fun n => fun (x : (List UInt8) × Int × Unit) => S_IsToken_b0 k n x.1 x.2.1) (S_IsToken_ck k) (cutOK_of (l := []) (by kernel_rfl) trivial) (fun _ => rfl) (fun n x Q R h => by
    simp only [S_IsToken_b0, optK_bind, optK_bif, optK_pure, optK_none, optK_oc, optK_guardT, optK_map] at h
    refine hold_of h ?_
    kernel_rfl) (by kernel_rfl)
def S_IsToken_cu (k : Nat) : Cuts D := ⟨[(0, some (S_IsToken_b0_cut k))], []⟩
def S_IsToken_ar : List Ar := [.c (.ks)]
def S_IsToken_f (k : Nat) (x : TupA D S_IsToken_ar) : Option (Bool) := S_IsToken k x.1
def S_IsToken_vr (r : Bool) : VR D := .p (.c (.bool r))
theorem S_IsToken_ok (k : Nat) : Does P X 95 S_IsToken_ar (S_IsToken_f k) S_IsToken_vr :=
  does_of (body := bodyOf Go.Proofs.Tryd.f95) (pl := S_IsToken_pl) (k := k) (cu := S_IsToken_cu k) (tys := [[0]]) (S_IsToken_ck k) ctx mixed Go.Proofs.Tryd.func95 (by kernel_rfl) (by kernel_rfl) (cutOK_of (l := [(S_IsToken_b0_cut k, sub (bodyOf Go.Proofs.Tryd.f95) [1, 0, 1])]) (by kernel_rfl) ⟨S_IsToken_b0_ok k, trivial⟩) fun x R h => by
    simp only [S_IsToken_f, S_IsToken, optK_bind, optK_bif, optK_pure, optK_none, optK_oc, optK_guardT, optK_map] at h
    refine hold_of h ?_
    kernel_rfl
def S_IsToken_en (k : Nat) : Entry D := entS S_IsToken_ar (S_IsToken_f k) S_IsToken_vr
theorem S_IsToken_eo (k : Nat) : EntryOK X 95 (S_IsToken_en k) := (S_IsToken_ok k).en rfl
def S_ParseDirectives_pl : Plan := ⟨[(0, [(0, none)]), (1, [(3, some 9)]), (2, [(3, some 9), (4, some 66)]), (3, [(3, some 9), (4, some 66), (5, none)]), (4, [(3, some 9), (4, some 66), (5, none), (18, none)]), (5, [(3, some 9), (4, some 66), (5, none)]), (6, [(3, some 9), (4, some 66), (5, none), (6, none), (7, none), (8, none)]), (7, [(3, some 9), (4, some 66), (5, none), (7, none), (8, none), (9, none)]), (8, [(3, some 9), (4, some 66), (5, none), (7, none), (8, none), (9, none), (45, none)]), (9, [(3, some 9), (4, some 66), (5, none), (9, none), (10, none), (11, none)]), (10, [(3, some 9), (4, some 66), (5, none), (9, none), (10, none), (52, none)]), (11, [(3, some 9), (4, some 66), (5, none), (9, none)]), (12, [(3, some 9), (4, some 66), (5, none), (9, none), (60, none)]), (13, [(3, some 9), (4, some 66), (5, none), (9, none), (63, none)]), (14, [(3, some 9), (4, some 66), (5, none)]), (15, [(2, some 66)])],
  [(0, [(4, some 66)]), (1, [(3, some 9), (4, some 66), (5, none)])],
  [(18, ([(3, some 9), (4, some 66), (5, none)], [(4, some 66)])), (45, ([(3, some 9), (4, some 66), (5, none), (7, none), (9, none)], [(3, some 9), (4, some 66), (5, none), (7, none), (8, none), (9, none)])), (52, ([(3, some 9), (4, some 66), (5, none)], [(3, some 9), (4, some 66), (5, none), (9, none), (10, none)])), (60, ([(3, some 9), (4, some 66), (5, none)], [(3, some 9), (4, some 66), (5, none), (9, none)])), (63, ([(3, some 9), (4, some 66), (5, none), (9, none)], [(3, some 9), (4, some 66), (5, none)]))]⟩
def S_ParseDirectives_cl (k : Nat) : Calls' D := ⟨[(91, S_SplitList_en k), (92, S_SplitPair_en k), (93, S_LowerText_en k), (94, S_UnquoteText_en k), (95, S_IsToken_en k)], [], [], [], []⟩
theorem S_ParseDirectives_ck (k : Nat) : CallsOK X (S_ParseDirectives_cl k) := .cons (S_SplitList_eo k) (.cons (S_SplitPair_eo k) (.cons (S_LowerText_eo k) (.cons (S_UnquoteText_eo k) (.cons (S_IsToken_eo k) (.nil cod)))))
def S_ParseDirectives_c45_L (x : Int × (List UInt8) × Bool × Bool × (List (List UInt8)) × (List IDirective) × (List UInt8) × (List UInt8) × Bool × Unit) (o : Oc ((List UInt8)) (Unit)) (Q : Ex → VSt D → Prop) (R : VR D → Prop) : Prop := ocP o (fun v0 => Q .normal (mkSt ⟨[(3, .ref 500003), (4, .ref 500004), (5, .hole), (9, .ptr 9 0)], [(500003, .row), (500004, .row), (9, .var [.hole, .hole, .hole])]⟩ [.int .i64 x.1, .sl 9 x.2.2.2.2.1, .sl 66 x.2.2.2.2.2.1, .str x.2.2.2.2.2.2.1, .str v0, .bool x.2.2.2.2.2.2.2.2.1])) (fun w0 => Q (.exit 1) (mkSt ⟨[(3, .ref 500003), (4, .ref 500004), (5, .hole)], [(500003, .row), (500004, .row)]⟩ [.int .i64 x.1, .sl 9 x.2.2.2.2.1, .sl 66 x.2.2.2.2.2.1]))
def S_ParseDirectives_c45_cut (k : Nat) : Cut D := cutS ⟨[(3, .ref 500003), (4, .ref 500004), (5, .hole), (7, .hole), (8, .hole), (9, .ptr 9 0), (45, .hole)], [(500003, .row), (500004, .row), (9, .var [.hole, .hole, .hole])]⟩ [.ki .i64, .ks, .kb, .kb, .kl 9, .kl 66, .ks, .ks, .kb] (fun (x : Int × (List UInt8) × Bool × Bool × (List (List UInt8)) × (List IDirective) × (List UInt8) × (List UInt8) × Bool × Unit) => S_ParseDirectives_c45 k x.1 x.2.1 x.2.2.1 x.2.2.2.1 x.2.2.2.2.1 x.2.2.2.2.2.1 x.2.2.2.2.2.2.1 x.2.2.2.2.2.2.2.1 x.2.2.2.2.2.2.2.2.1) S_ParseDirectives_c45_L
def S_ParseDirectives_c45_cu (k : Nat) : Cuts D := ⟨[], []⟩
theorem S_ParseDirectives_c45_ok (k : Nat) : CutFor X S_ParseDirectives_pl k Go.Proofs.Tryd.f63.results.toList (S_ParseDirectives_c45_cut k) (sub (bodyOf Go.Proofs.Tryd.f63) [1, 1, 1, 0, 1, 0, 0, 1, 0, 0, 1, 1, 0, 1]) :=
  joinCut_s (X := X) (sg := [.ki .i64, .ks, .kb, .kb, .kl 9, .kl 66, .ks, .ks, .kb]) (cu := S_ParseDirectives_c45_cu k) (cl := S_ParseDirectives_cl k) (tys := [[66]]) (S_ParseDirectives_ck k) (cutOK_of (l := []) (by kernel_rfl) trivial) fun x Q R h => by
    simp only [S_ParseDirectives_c45, optK_bind, optK_bif, optK_pure, optK_none, optK_oc, optK_guardT, optK_map] at h
    refine hold_of h ?_
    kernel_rfl
def S_ParseDirectives_c63_L (x : Int × Bool × (List (List UInt8)) × (List IDirective) × (List UInt8) × (List UInt8) × Bool × Unit) (o : (List IDirective)) (Q : Ex → VSt D → Prop) (R : VR D → Prop) : Prop := Q .normal (mkSt ⟨[(3, .ref 500003), (4, .ref 500004), (5, .hole)], [(500003, .row), (500004, .row)]⟩ [.int .i64 x.1, .sl 9 x.2.2.1, .sl 66 o])
def S_ParseDirectives_c63_cut (k : Nat) : Cut D := cutS ⟨[(3, .ref 500003), (4, .ref 500004), (5, .hole), (9, .ptr 9 0), (63, .hole)], [(500003, .row), (500004, .row), (9, .var [.hole, .hole, .hole])]⟩ [.ki .i64, .kb, .kl 9, .kl 66, .ks, .ks, .kb] (fun (x : Int × Bool × (List (List UInt8)) × (List IDirective) × (List UInt8) × (List UInt8) × Bool × Unit) => S_ParseDirectives_c63 k x.1 x.2.1 x.2.2.1 x.2.2.2.1 x.2.2.2.2.1 x.2.2.2.2.2.1 x.2.2.2.2.2.2.1) S_ParseDirectives_c63_L
def S_ParseDirectives_c63_cu (k : Nat) : Cuts D := ⟨[], []⟩
theorem S_ParseDirectives_c63_ok (k : Nat) : CutFor X S_ParseDirectives_pl k Go.Proofs.Tryd.f63.results.toList (S_ParseDirectives_c63_cut k) (sub (bodyOf Go.Proofs.Tryd.f63) [1, 1, 1, 0, 1, 0, 0, 1, 0, 0, 1, 1, 1, 1]) :=
  joinCut_s (X := X) (sg := [.ki .i64, .kb, .kl 9, .kl 66, .ks, .ks, .kb]) (cu := S_ParseDirectives_c63_cu k) (cl := S_ParseDirectives_cl k) (tys := [[66]]) (S_ParseDirectives_ck k) (cutOK_of (l := []) (by kernel_rfl) trivial) fun x Q R h => by
    simp only [S_ParseDirectives_c63, optK_bind, optK_bif, optK_pure, optK_none, optK_oc, optK_guardT, optK_map] at h
    refine hold_of h ?_
    kernel_rfl
def S_ParseDirectives_b1_L (x : Int × (List (List UInt8)) × (List IDirective) × Unit) (o : (List IDirective)) (Q : Ex → VSt D → Prop) (R : VR D → Prop) : Prop := Q .normal (mkSt ⟨[(3, .ref 500003), (4, .ref 500004), (5, .hole)], [(500003, .row), (500004, .row)]⟩ [.int .i64 x.1, .sl 9 x.2.1, .sl 66 o])
def S_ParseDirectives_b1_cut (k : Nat) : Cut D := cutS ⟨[(3, .ref 500003), (4, .ref 500004), (5, .hole)], [(500003, .row), (500004, .row)]⟩ [.ki .i64, .kl 9, .kl 66] (fun (x : Int × (List (List UInt8)) × (List IDirective) × Unit) => S_ParseDirectives_b1 k x.1 x.2.1 x.2.2.1) S_ParseDirectives_b1_L
def S_ParseDirectives_b1_cu (k : Nat) : Cuts D := ⟨[], [(45, some (S_ParseDirectives_c45_cut k)), (63, some (S_ParseDirectives_c63_cut k))]⟩
theorem S_ParseDirectives_b1_ok (k : Nat) : CutFor X S_ParseDirectives_pl k Go.Proofs.Tryd.f63.results.toList (S_ParseDirectives_b1_cut k) (sub (bodyOf Go.Proofs.Tryd.f63) [1, 1, 1, 0, 1, 0, 0, 1, 0]) :=
  joinCut_s (X := X) (sg := [.ki .i64, .kl 9, .kl 66]) (cu := S_ParseDirectives_b1_cu k) (cl := S_ParseDirectives_cl k) (tys := [[66]]) (S_ParseDirectives_ck k) (cutOK_of (l := [(S_ParseDirectives_c45_cut k, sub (bodyOf Go.Proofs.Tryd.f63) [1, 1, 1, 0, 1, 0, 0, 1, 0, 0, 1, 1, 0, 1]), (S_ParseDirectives_c63_cut k, sub (bodyOf Go.Proofs.Tryd.f63) [1, 1, 1, 0, 1, 0, 0, 1, 0, 0, 1, 1, 1, 1])]) (by kernel_rfl) ⟨S_ParseDirectives_c45_ok k, S_ParseDirectives_c63_ok k, trivial⟩) fun x Q R h => by
    simp only [S_ParseDirectives_b1, optK_bind, optK_bif, optK_pure, optK_none, optK_oc, optK_guardT, optK_map] at h
    refine hold_of h ?_
    kernel_rfl
def S_ParseDirectives_b0_L (x : Int × (List (List UInt8)) × (List IDirective) × Unit) (o : (List IDirective)) (Q : Ex → VSt D → Prop) (R : VR D → Prop) : Prop := Q .normal (mkSt ⟨[(4, .ref 500004)], [(500004, .row)]⟩ [.sl 66 o])
def S_ParseDirectives_b0_cut (k : Nat) : Cut D := cutS ⟨[(3, .ref 500003), (4, .ref 500004), (5, .hole)], [(500003, .row), (500004, .row)]⟩ [.ki .i64, .kl 9, .kl 66] (fun (x : Int × (List (List UInt8)) × (List IDirective) × Unit) => S_ParseDirectives_b0 k k x.1 x.2.1 x.2.2.1) S_ParseDirectives_b0_L
def S_ParseDirectives_b0_cu (k : Nat) : Cuts D := ⟨[(1, some (S_ParseDirectives_b1_cut k))], []⟩
theorem S_ParseDirectives_b0_ok (k : Nat) : CutFor X S_ParseDirectives_pl k Go.Proofs.Tryd.f63.results.toList (S_ParseDirectives_b0_cut k) (sub (bodyOf Go.Proofs.Tryd.f63) [1, 1, 1, 0, 1]) :=
  loopCut_s (X := X) (sg := [.ki .i64, .kl 9, .kl 66]) (cu := S_ParseDirectives_b0_cu k) (cl := S_ParseDirectives_cl k) (tys := [[66]]) (id := 0) (c := sub (bodyOf Go.Proofs.Tryd.f63) [1, 1, 1, 0, 1, 0, 0]) (f := fun n => fun (x : Int × (List (List UInt8)) × (List IDirective) × Unit) => S_ParseDirectives_b0 k n x.1 x.2.1 x.2.2.1) (S_ParseDirectives_ck k) (cutOK_of (l := [(S_ParseDirectives_b1_cut k, sub (bodyOf Go.Proofs.Tryd.f63) [1, 1, 1, 0, 1, 0, 0, 1, 0])]) (by kernel_rfl) ⟨S_ParseDirectives_b1_ok k, trivial⟩) (fun _ => rfl) (fun n x Q R h => by
    simp only [S_ParseDirectives_b0, optK_bind, optK_bif, optK_pure, optK_none, optK_oc, optK_guardT, optK_map] at h
    refine hold_of h ?_
    kernel_rfl) (by kernel_rfl)
def S_ParseDirectives_cu (k : Nat) : Cuts D := ⟨[(0, some (S_ParseDirectives_b0_cut k))], []⟩
def S_ParseDirectives_ar : List Ar := [.c (.ks)]
def S_ParseDirectives_f (k : Nat) (x : TupA D S_ParseDirectives_ar) : Option ((List IDirective)) := S_ParseDirectives k x.1
def S_ParseDirectives_vr (r : (List IDirective)) : VR D := .p (.c (.sl 66 r))
theorem S_ParseDirectives_ok (k : Nat) : Does P X 63 S_ParseDirectives_ar (S_ParseDirectives_f k) S_ParseDirectives_vr :=
  does_of (body := bodyOf Go.Proofs.Tryd.f63) (pl := S_ParseDirectives_pl) (k := k) (cu := S_ParseDirectives_cu k) (tys := [[66]]) (S_ParseDirectives_ck k) ctx mixed Go.Proofs.Tryd.func63 (by kernel_rfl) (by kernel_rfl) (cutOK_of (l := [(S_ParseDirectives_b0_cut k, sub (bodyOf Go.Proofs.Tryd.f63) [1, 1, 1, 0, 1])]) (by kernel_rfl) ⟨S_ParseDirectives_b0_ok k, trivial⟩) fun x R h => by
    simp only [S_ParseDirectives_f, S_ParseDirectives, optK_bind, optK_bif, optK_pure, optK_none, optK_oc, optK_guardT, optK_map] at h
    refine hold_of h ?_
    kernel_rfl
def S_ParseDirectives_en (k : Nat) : Entry D := entS S_ParseDirectives_ar (S_ParseDirectives_f k) S_ParseDirectives_vr
theorem S_ParseDirectives_eo (k : Nat) : EntryOK X 63 (S_ParseDirectives_en k) := (S_ParseDirectives_ok k).en rfl
def S_l19Rules_pl : Plan := ⟨[(0, [(0, some 95)]), (1, [(2, some 66)])],
  [],
  []⟩
def S_l19Rules_cl (k : Nat) : Calls' D := ⟨[(64, S_l5Get_en k), (63, S_ParseDirectives_en k)], [], [], [], []⟩
theorem S_l19Rules_ck (k : Nat) : CallsOK X (S_l19Rules_cl k) := .cons (S_l5Get_eo k) (.cons (S_ParseDirectives_eo k) (.nil cod))
def S_l19Rules_cu (k : Nat) : Cuts D := ⟨[], []⟩
def S_l19Rules_ar : List Ar := [.c (.kl 95)]
def S_l19Rules_f (k : Nat) (x : TupA D S_l19Rules_ar) : Option ((List IDirective)) := S_l19Rules k x.1
def S_l19Rules_vr (r : (List IDirective)) : VR D := .p (.c (.sl 66 r))
theorem S_l19Rules_ok (k : Nat) : Does P X 35 S_l19Rules_ar (S_l19Rules_f k) S_l19Rules_vr :=
  does_of (body := bodyOf Go.Proofs.Tryd.f35) (pl := S_l19Rules_pl) (k := k) (cu := S_l19Rules_cu k) (tys := [[66]]) (S_l19Rules_ck k) ctx mixed Go.Proofs.Tryd.func35 (by kernel_rfl) (by kernel_rfl) (cutOK_of (l := []) (by kernel_rfl) trivial) fun x R h => by
    simp only [S_l19Rules_f, S_l19Rules, optK_bind, optK_bif, optK_pure, optK_none, optK_oc, optK_guardT, optK_map] at h
    refine hold_of h ?_
    kernel_rfl
def S_l19Rules_en (k : Nat) : Entry D := entS S_l19Rules_ar (S_l19Rules_f k) S_l19Rules_vr
theorem S_l19Rules_eo (k : Nat) : EntryOK X 35 (S_l19Rules_en k) := (S_l19Rules_ok k).en rfl
def S_FindDirective_pl : Plan := ⟨[(0, [(0, some 66), (1, none)]), (1, [(0, some 66), (1, none), (5, none)]), (2, [(0, some 66), (1, none), (5, none), (9, none)]), (3, [(0, some 66), (1, none), (5, none)]), (4, [(0, some 66), (1, none), (5, none), (18, none)]), (5, [(4, none)]), (6, [(4, none)])],
  [(0, []), (1, [(0, some 66), (1, none), (5, none)])],
  [(9, ([(0, some 66), (1, none), (5, none)], [])), (18, ([(5, none)], [(0, some 66), (1, none), (5, none)]))]⟩
def S_FindDirective_cl (k : Nat) : Calls' D := ⟨[], [], [], [], []⟩
theorem S_FindDirective_ck (k : Nat) : CallsOK X (S_FindDirective_cl k) := .nil cod
def S_FindDirective_b0_L (x : (List IDirective) × (List UInt8) × Int × Unit) (o : Oc (Unit) (Int)) (Q : Ex → VSt D → Prop) (R : VR D → Prop) : Prop := ocP o (fun v0 => Q .normal (mkSt ⟨[], []⟩ [])) (fun w0 => R (.p (.c (.int .i64 w0))))
def S_FindDirective_b0_cut (k : Nat) : Cut D := cutS ⟨[(0, .hole), (1, .hole), (5, .hole)], []⟩ [.kl 66, .ks, .ki .i64] (fun (x : (List IDirective) × (List UInt8) × Int × Unit) => S_FindDirective_b0 k k x.1 x.2.1 x.2.2.1) S_FindDirective_b0_L
def S_FindDirective_b0_cu (k : Nat) : Cuts D := ⟨[], []⟩
theorem S_FindDirective_b0_ok (k : Nat) : CutFor X S_FindDirective_pl k Go.Proofs.Tryd.f45.results.toList (S_FindDirective_b0_cut k) (sub (bodyOf Go.Proofs.Tryd.f45) [1, 0, 1]) :=
  loopCut_s (X := X) (sg := [.kl 66, .ks, .ki .i64]) (cu := S_FindDirective_b0_cu k) (cl := S_FindDirective_cl k) (tys := [[0]]) (id := 0) (c := sub (bodyOf Go.Proofs.Tryd.f45) [1, 0, 1, 0, 0]) (f := fun n => fun (x : (List IDirective) × (List UInt8) × Int × Unit) => S_FindDirective_b0 k n x.1 x.2.1 x.2.2.1) (S_FindDirective_ck k) (cutOK_of (l := []) (by kernel_rfl) trivial) (fun _ => rfl) (fun n x Q R h => by
    simp only [S_FindDirective_b0, optK_bind, optK_bif, optK_pure, optK_none, optK_oc, optK_guardT, optK_map] at h
    refine hold_of h ?_
    kernel_rfl) (by kernel_rfl)
def S_FindDirective_cu (k : Nat) : Cuts D := ⟨[(0, some (S_FindDirective_b0_cut k))], []⟩
def S_FindDirective_ar : List Ar := [.c (.kl 66), .c (.ks)]
def S_FindDirective_f (k : Nat) (x : TupA D S_FindDirective_ar) : Option (Int) := S_FindDirective k x.1 x.2.1
def S_FindDirective_vr (r : Int) : VR D := .p (.c (.int .i64 r))
theorem S_FindDirective_ok (k : Nat) : Does P X 45 S_FindDirective_ar (S_FindDirective_f k) S_FindDirective_vr :=
  does_of (body := bodyOf Go.Proofs.Tryd.f45) (pl := S_FindDirective_pl) (k := k) (cu := S_FindDirective_cu k) (tys := [[0]]) (S_FindDirective_ck k) ctx mixed Go.Proofs.Tryd.func45 (by kernel_rfl) (by kernel_rfl) (cutOK_of (l := [(S_FindDirective_b0_cut k, sub (bodyOf Go.Proofs.Tryd.f45) [1, 0, 1])]) (by kernel_rfl) ⟨S_FindDirective_b0_ok k, trivial⟩) fun x R h => by
    simp only [S_FindDirective_f, S_FindDirective, optK_bind, optK_bif, optK_pure, optK_none, optK_oc, optK_guardT, optK_map] at h
    refine hold_of h ?_
    kernel_rfl
def S_FindDirective_en (k : Nat) : Entry D := entS S_FindDirective_ar (S_FindDirective_f k) S_FindDirective_vr
theorem S_FindDirective_eo (k : Nat) : EntryOK X 45 (S_FindDirective_en k) := (S_FindDirective_ok k).en rfl
def S_Min_pl : Plan := ⟨[(0, [(0, none), (1, none)]), (1, [(0, none), (1, none), (7, none)]), (2, [(4, none)]), (3, [(4, none)])],
  [],
  [(7, ([(1, none)], [(0, none)]))]⟩
def S_Min_cl (k : Nat) : Calls' D := ⟨[], [], [], [], []⟩
theorem S_Min_ck (k : Nat) : CallsOK X (S_Min_cl k) := .nil cod
def S_Min_cu (k : Nat) : Cuts D := ⟨[], []⟩
def S_Min_ar : List Ar := [.c (.ki .i64), .c (.ki .i64)]
def S_Min_f (k : Nat) (x : TupA D S_Min_ar) : Option (Int) := S_Min k x.1 x.2.1
def S_Min_vr (r : Int) : VR D := .p (.c (.int .i64 r))
theorem S_Min_ok (k : Nat) : Does P X 66 S_Min_ar (S_Min_f k) S_Min_vr :=
  does_of (body := bodyOf Go.Proofs.Tryd.f66) (pl := S_Min_pl) (k := k) (cu := S_Min_cu k) (tys := [[0]]) (S_Min_ck k) ctx mixed Go.Proofs.Tryd.func66 (by kernel_rfl) (by kernel_rfl) (cutOK_of (l := []) (by kernel_rfl) trivial) fun x R h => by
    simp only [S_Min_f, S_Min, optK_bind, optK_bif, optK_pure, optK_none, optK_oc, optK_guardT, optK_map] at h
    refine hold_of h ?_
    kernel_rfl
def S_Min_en (k : Nat) : Entry D := entS S_Min_ar (S_Min_f k) S_Min_vr
theorem S_Min_eo (k : Nat) : EntryOK X 66 (S_Min_en k) := (S_Min_ok k).en rfl
def S_SecondsOf_pl : Plan := ⟨[(0, [(0, some 66), (1, none)]), (1, [(0, some 66), (6, none)]), (2, [(0, some 66), (6, none), (14, none)]), (3, [(4, none), (5, none)]), (4, [(0, some 66), (6, none), (7, none)]), (5, [(7, none), (8, none)]), (6, [(7, none), (8, none), (9, none)]), (7, [(7, none), (8, none), (9, none), (23, none)]), (8, [(7, none), (8, none), (9, none)]), (9, [(7, none), (8, none), (9, none), (31, none)]), (10, [(4, none), (5, none)]), (11, [(7, none), (8, none), (9, none)]), (12, [(4, none), (5, none)])],
  [(0, [(7, none)]), (1, [(7, none), (8, none), (9, none)])],
  [(14, ([], [(0, some 66), (6, none)])), (23, ([(7, none), (8, none), (9, none)], [(7, none)])), (31, ([], [(7, none), (8, none), (9, none)]))]⟩
def S_SecondsOf_cl (k : Nat) : Calls' D := ⟨[(45, S_FindDirective_en k), (65, S_l1In_en k), (66, S_Min_en k)], [], [], [], []⟩
theorem S_SecondsOf_ck (k : Nat) : CallsOK X (S_SecondsOf_cl k) := .cons (S_FindDirective_eo k) (.cons (S_l1In_eo k) (.cons (S_Min_eo k) (.nil cod)))
def S_SecondsOf_b0_L (x : Int × (List UInt8) × Int × Unit) (o : Oc (Int) (Int × Bool)) (Q : Ex → VSt D → Prop) (R : VR D → Prop) : Prop := ocP o (fun v0 => Q .normal (mkSt ⟨[(7, .hole)], []⟩ [.int .i64 v0])) (fun w0 => R (.tup [.c (.int .i64 w0.1), .c (.bool w0.2)]))
def S_SecondsOf_b0_cut (k : Nat) : Cut D := cutS ⟨[(7, .hole), (8, .hole), (9, .hole)], []⟩ [.ki .i64, .ks, .ki .i64] (fun (x : Int × (List UInt8) × Int × Unit) => S_SecondsOf_b0 k k x.1 x.2.1 x.2.2.1) S_SecondsOf_b0_L
def S_SecondsOf_b0_cu (k : Nat) : Cuts D := ⟨[], []⟩
theorem S_SecondsOf_b0_ok (k : Nat) : CutFor X S_SecondsOf_pl k Go.Proofs.Tryd.f36.results.toList (S_SecondsOf_b0_cut k) (sub (bodyOf Go.Proofs.Tryd.f36) [1, 1, 1, 1, 1, 0, 1]) :=
  loopCut_s (X := X) (sg := [.ki .i64, .ks, .ki .i64]) (cu := S_SecondsOf_b0_cu k) (cl := S_SecondsOf_cl k) (tys := [[0], [0]]) (id := 0) (c := sub (bodyOf Go.Proofs.Tryd.f36) [1, 1, 1, 1, 1, 0, 1, 0, 0]) (f := fun n => fun (x : Int × (List UInt8) × Int × Unit) => S_SecondsOf_b0 k n x.1 x.2.1 x.2.2.1) (S_SecondsOf_ck k) (cutOK_of (l := []) (by kernel_rfl) trivial) (fun _ => rfl) (fun n x Q R h => by
    simp only [S_SecondsOf_b0, optK_bind, optK_bif, optK_pure, optK_none, optK_oc, optK_guardT, optK_map] at h
    refine hold_of h ?_
    kernel_rfl) (by kernel_rfl)
def S_SecondsOf_cu (k : Nat) : Cuts D := ⟨[(0, some (S_SecondsOf_b0_cut k))], []⟩
def S_SecondsOf_ar : List Ar := [.c (.kl 66), .c (.ks)]
def S_SecondsOf_f (k : Nat) (x : TupA D S_SecondsOf_ar) : Option (Int × Bool) := S_SecondsOf k x.1 x.2.1
def S_SecondsOf_vr (r : Int × Bool) : VR D := .tup [.c (.int .i64 r.1), .c (.bool r.2)]
theorem S_SecondsOf_ok (k : Nat) : Does P X 36 S_SecondsOf_ar (S_SecondsOf_f k) S_SecondsOf_vr :=
  does_of (body := bodyOf Go.Proofs.Tryd.f36) (pl := S_SecondsOf_pl) (k := k) (cu := S_SecondsOf_cu k) (tys := [[0], [0]]) (S_SecondsOf_ck k) ctx mixed Go.Proofs.Tryd.func36 (by kernel_rfl) (by kernel_rfl) (cutOK_of (l := [(S_SecondsOf_b0_cut k, sub (bodyOf Go.Proofs.Tryd.f36) [1, 1, 1, 1, 1, 0, 1])]) (by kernel_rfl) ⟨S_SecondsOf_b0_ok k, trivial⟩) fun x R h => by
    simp only [S_SecondsOf_f, S_SecondsOf, optK_bind, optK_bif, optK_pure, optK_none, optK_oc, optK_guardT, optK_map] at h
    refine hold_of h ?_
    kernel_rfl
def S_SecondsOf_en (k : Nat) : Entry D := entS S_SecondsOf_ar (S_SecondsOf_f k) S_SecondsOf_vr
theorem S_SecondsOf_eo (k : Nat) : EntryOK X 36 (S_SecondsOf_en k) := (S_SecondsOf_ok k).en rfl
def S_HasDirective_pl : Plan := ⟨[(0, [(0, some 66), (1, none)]), (1, [(4, none)])],
  [],
  []⟩
def S_HasDirective_cl (k : Nat) : Calls' D := ⟨[(45, S_FindDirective_en k)], [], [], [], []⟩
theorem S_HasDirective_ck (k : Nat) : CallsOK X (S_HasDirective_cl k) := .cons (S_FindDirective_eo k) (.nil cod)
def S_HasDirective_cu (k : Nat) : Cuts D := ⟨[], []⟩
def S_HasDirective_ar : List Ar := [.c (.kl 66), .c (.ks)]
def S_HasDirective_f (k : Nat) (x : TupA D S_HasDirective_ar) : Option (Bool) := S_HasDirective k x.1 x.2.1
def S_HasDirective_vr (r : Bool) : VR D := .p (.c (.bool r))
theorem S_HasDirective_ok (k : Nat) : Does P X 38 S_HasDirective_ar (S_HasDirective_f k) S_HasDirective_vr :=
  does_of (body := bodyOf Go.Proofs.Tryd.f38) (pl := S_HasDirective_pl) (k := k) (cu := S_HasDirective_cu k) (tys := [[0]]) (S_HasDirective_ck k) ctx mixed Go.Proofs.Tryd.func38 (by kernel_rfl) (by kernel_rfl) (cutOK_of (l := []) (by kernel_rfl) trivial) fun x R h => by
    simp only [S_HasDirective_f, S_HasDirective, optK_bind, optK_bif, optK_pure, optK_none, optK_oc, optK_guardT, optK_map] at h
    refine hold_of h ?_
    kernel_rfl
def S_HasDirective_en (k : Nat) : Entry D := entS S_HasDirective_ar (S_HasDirective_f k) S_HasDirective_vr
theorem S_HasDirective_eo (k : Nat) : EntryOK X 38 (S_HasDirective_en k) := (S_HasDirective_ok k).en rfl
def S_l22Asked_pl : Plan := ⟨[(0, [(0, some 66), (1, none), (2, none)]), (1, [(0, some 66), (1, none), (2, none), (7, none), (8, none)]), (2, [(0, some 66), (1, none), (2, none), (7, none), (8, none), (9, none), (10, none)]), (3, [(6, none)])],
  [],
  []⟩
def S_l22Asked_cl (k : Nat) : Calls' D := ⟨[(36, S_SecondsOf_en k), (38, S_HasDirective_en k)], [], [], [], []⟩
theorem S_l22Asked_ck (k : Nat) : CallsOK X (S_l22Asked_cl k) := .cons (S_SecondsOf_eo k) (.cons (S_HasDirective_eo k) (.nil cod))
def S_l22Asked_cu (k : Nat) : Cuts D := ⟨[], []⟩
def S_l22Asked_ar : List Ar := [.c (.kl 66), .c (.ki .i64), .c (.ki .i64)]
def S_l22Asked_f (k : Nat) (x : TupA D S_l22Asked_ar) : Option (Bool) := S_l22Asked k x.1 x.2.1 x.2.2.1
def S_l22Asked_vr (r : Bool) : VR D := .p (.c (.bool r))
theorem S_l22Asked_ok (k : Nat) : Does P X 46 S_l22Asked_ar (S_l22Asked_f k) S_l22Asked_vr :=
  does_of (body := bodyOf Go.Proofs.Tryd.f46) (pl := S_l22Asked_pl) (k := k) (cu := S_l22Asked_cu k) (tys := [[0]]) (S_l22Asked_ck k) ctx mixed Go.Proofs.Tryd.func46 (by kernel_rfl) (by kernel_rfl) (cutOK_of (l := []) (by kernel_rfl) trivial) fun x R h => by
    simp only [S_l22Asked_f, S_l22Asked, optK_bind, optK_bif, optK_pure, optK_none, optK_oc, optK_guardT, optK_map] at h
    refine hold_of h ?_
    kernel_rfl
def S_l22Asked_en (k : Nat) : Entry D := entS S_l22Asked_ar (S_l22Asked_f k) S_l22Asked_vr
theorem S_l22Asked_eo (k : Nat) : EntryOK X 46 (S_l22Asked_en k) := (S_l22Asked_ok k).en rfl
def S_l22Bound_pl : Plan := ⟨[(0, [(0, some 66)]), (1, [(2, none)])],
  [],
  []⟩
def S_l22Bound_cl (k : Nat) : Calls' D := ⟨[(38, S_HasDirective_en k)], [], [], [], []⟩
theorem S_l22Bound_ck (k : Nat) : CallsOK X (S_l22Bound_cl k) := .cons (S_HasDirective_eo k) (.nil cod)
def S_l22Bound_cu (k : Nat) : Cuts D := ⟨[], []⟩
def S_l22Bound_ar : List Ar := [.c (.kl 66)]
def S_l22Bound_f (k : Nat) (x : TupA D S_l22Bound_ar) : Option (Bool) := S_l22Bound k x.1
def S_l22Bound_vr (r : Bool) : VR D := .p (.c (.bool r))
theorem S_l22Bound_ok (k : Nat) : Does P X 37 S_l22Bound_ar (S_l22Bound_f k) S_l22Bound_vr :=
  does_of (body := bodyOf Go.Proofs.Tryd.f37) (pl := S_l22Bound_pl) (k := k) (cu := S_l22Bound_cu k) (tys := [[0]]) (S_l22Bound_ck k) ctx mixed Go.Proofs.Tryd.func37 (by kernel_rfl) (by kernel_rfl) (cutOK_of (l := []) (by kernel_rfl) trivial) fun x R h => by
    simp only [S_l22Bound_f, S_l22Bound, optK_bind, optK_bif, optK_pure, optK_none, optK_oc, optK_guardT, optK_map] at h
    refine hold_of h ?_
    kernel_rfl
def S_l22Bound_en (k : Nat) : Entry D := entS S_l22Bound_ar (S_l22Bound_f k) S_l22Bound_vr
theorem S_l22Bound_eo (k : Nat) : EntryOK X 37 (S_l22Bound_en k) := (S_l22Bound_ok k).en rfl
def S_PlanFor_pl : Plan := ⟨[(0, [(2, none), (3, none), (4, none), (5, none)]), (1, [(2, none), (3, none), (5, none), (9, some 66)]), (2, [(2, none), (3, none), (9, some 66), (10, some 66)]), (3, [(2, none), (3, none), (9, some 66), (10, some 66), (11, none)]), (4, [(2, none), (3, none), (9, some 66), (10, some 66), (11, none), (12, none)]), (5, [(2, none), (3, none), (9, some 66), (10, some 66), (11, none), (12, none), (13, none), (14, none)]), (6, [(2, none), (3, none), (9, some 66), (10, some 66), (11, none), (12, none), (13, none), (14, none), (15, none)]), (7, [(2, none), (3, none), (9, some 66), (10, some 66), (11, none), (12, none), (13, none), (14, none), (15, none), (16, none), (17, none)]), (8, [(2, none), (3, none), (9, some 66), (10, some 66), (11, none), (12, none), (13, none), (14, none), (15, none), (16, none), (17, none), (19, none)]), (9, [(2, none), (3, none), (9, some 66), (10, some 66), (11, none), (12, none), (13, none), (14, none), (15, none), (16, none), (17, none), (19, none), (46, none)]), (10, [(9, some 66), (10, some 66), (11, none), (12, none), (13, none), (14, none), (15, none), (16, none), (17, none), (19, none), (56, none)]), (11, [(9, some 66), (11, none)]), (12, [(9, some 66), (11, none), (12, none), (13, none), (14, none), (15, none), (16, none), (17, none), (60, none)]), (13, [(9, some 66), (11, none), (12, none), (16, none), (17, none), (66, none)]), (14, [(9, some 66), (11, none)]), (15, [(9, some 66), (11, none), (81, none)]), (16, [(9, some 66), (11, none)]), (17, [(11, none), (93, none)]), (18, [(8, none)]), (19, [(8, none)])],
  [(0, [(9, some 66), (11, none)])],
  [(46, ([(9, some 66), (11, none)], [(2, none), (3, none), (9, some 66), (10, some 66), (11, none), (12, none), (13, none), (14, none), (15, none), (16, none), (17, none), (19, none)])), (56, ([(9, some 66)], [(9, some 66), (10, some 66), (11, none), (12, none), (13, none), (14, none), (15, none), (16, none), (17, none), (19, none)])), (60, ([(9, some 66), (11, none)], [(9, some 66), (11, none), (12, none), (13, none), (14, none), (15, none), (16, none), (17, none)])), (66, ([(9, some 66)], [(9, some 66), (11, none), (12, none), (16, none), (17, none)])), (81, ([(9, some 66)], [(9, some 66), (11, none)])), (93, ([], [(11, none)]))]⟩
def S_PlanFor_cl (k : Nat) : Calls' D := ⟨[(35, S_l19Rules_en k), (36, S_SecondsOf_en k), (45, S_FindDirective_en k), (46, S_l22Asked_en k), (37, S_l22Bound_en k), (38, S_HasDirective_en k)], [], [], [], []⟩
theorem S_PlanFor_ck (k : Nat) : CallsOK X (S_PlanFor_cl k) := .cons (S_l19Rules_eo k) (.cons (S_SecondsOf_eo k) (.cons (S_FindDirective_eo k) (.cons (S_l22Asked_eo k) (.cons (S_l22Bound_eo k) (.cons (S_HasDirective_eo k) (.nil cod))))))
def S_PlanFor_c81_L (x : Int × Bool × (List IDirective) × Unit) (o : Int) (Q : Ex → VSt D → Prop) (R : VR D → Prop) : Prop := Q .normal (mkSt ⟨[(9, .ref 500009), (11, .hole)], [(500009, .row)]⟩ [.int .i64 o, .sl 66 x.2.2.1])
def S_PlanFor_c81_cut (k : Nat) : Cut D := cutS ⟨[(9, .ref 500009), (11, .hole), (81, .hole)], [(500009, .row)]⟩ [.ki .i64, .kb, .kl 66] (fun (x : Int × Bool × (List IDirective) × Unit) => S_PlanFor_c81 k x.1 x.2.1 x.2.2.1) S_PlanFor_c81_L
def S_PlanFor_c81_cu (k : Nat) : Cuts D := ⟨[], []⟩
theorem S_PlanFor_c81_ok (k : Nat) : CutFor X S_PlanFor_pl k Go.Proofs.Tryd.f19.results.toList (S_PlanFor_c81_cut k) (sub (bodyOf Go.Proofs.Tryd.f19) [1, 1, 1, 1, 1, 1, 1, 1, 1, 0, 0, 1, 1, 1, 1, 1, 1, 1, 1, 1]) :=
  joinCut_s (X := X) (sg := [.ki .i64, .kb, .kl 66]) (cu := S_PlanFor_c81_cu k) (cl := S_PlanFor_cl k) (tys := [[0]]) (S_PlanFor_ck k) (cutOK_of (l := []) (by kernel_rfl) trivial) fun x Q R h => by
    simp only [S_PlanFor_c81, optK_bind, optK_bif, optK_pure, optK_none, optK_oc, optK_guardT, optK_map] at h
    refine hold_of h ?_
    kernel_rfl
def S_PlanFor_c66_L (x : Int × Int × Int × Bool × Bool × (List IDirective) × Unit) (o : Int) (Q : Ex → VSt D → Prop) (R : VR D → Prop) : Prop := Q .normal (mkSt ⟨[(9, .ref 500009), (11, .hole)], [(500009, .row)]⟩ [.int .i64 o, .sl 66 x.2.2.2.2.2.1])
def S_PlanFor_c66_cut (k : Nat) : Cut D := cutS ⟨[(9, .ref 500009), (11, .hole), (12, .hole), (16, .hole), (17, .hole), (66, .hole)], [(500009, .row)]⟩ [.ki .i64, .ki .i64, .ki .i64, .kb, .kb, .kl 66] (fun (x : Int × Int × Int × Bool × Bool × (List IDirective) × Unit) => S_PlanFor_c66 k x.1 x.2.1 x.2.2.1 x.2.2.2.1 x.2.2.2.2.1 x.2.2.2.2.2.1) S_PlanFor_c66_L
def S_PlanFor_c66_cu (k : Nat) : Cuts D := ⟨[], [(81, some (S_PlanFor_c81_cut k))]⟩
theorem S_PlanFor_c66_ok (k : Nat) : CutFor X S_PlanFor_pl k Go.Proofs.Tryd.f19.results.toList (S_PlanFor_c66_cut k) (sub (bodyOf Go.Proofs.Tryd.f19) [1, 1, 1, 1, 1, 1, 1, 1, 1, 0, 0, 1, 1, 1, 1, 1, 1, 1]) :=
  joinCut_s (X := X) (sg := [.ki .i64, .ki .i64, .ki .i64, .kb, .kb, .kl 66]) (cu := S_PlanFor_c66_cu k) (cl := S_PlanFor_cl k) (tys := [[0]]) (S_PlanFor_ck k) (cutOK_of (l := [(S_PlanFor_c81_cut k, sub (bodyOf Go.Proofs.Tryd.f19) [1, 1, 1, 1, 1, 1, 1, 1, 1, 0, 0, 1, 1, 1, 1, 1, 1, 1, 1, 1])]) (by kernel_rfl) ⟨S_PlanFor_c81_ok k, trivial⟩) fun x Q R h => by
    simp only [S_PlanFor_c66, optK_bind, optK_bif, optK_pure, optK_none, optK_oc, optK_guardT, optK_map] at h
    refine hold_of h ?_
    kernel_rfl
def S_PlanFor_c60_L (x : Int × Int × Int × Bool × Int × Int × Bool × Bool × (List IDirective) × Unit) (o : Int) (Q : Ex → VSt D → Prop) (R : VR D → Prop) : Prop := Q .normal (mkSt ⟨[(9, .ref 500009), (11, .hole)], [(500009, .row)]⟩ [.int .i64 o, .sl 66 x.2.2.2.2.2.2.2.2.1])
def S_PlanFor_c60_cut (k : Nat) : Cut D := cutS ⟨[(9, .ref 500009), (11, .hole), (12, .hole), (13, .hole), (14, .hole), (15, .hole), (16, .hole), (17, .hole), (60, .hole)], [(500009, .row)]⟩ [.ki .i64, .ki .i64, .ki .i64, .kb, .ki .i64, .ki .i64, .kb, .kb, .kl 66] (fun (x : Int × Int × Int × Bool × Int × Int × Bool × Bool × (List IDirective) × Unit) => S_PlanFor_c60 k x.1 x.2.1 x.2.2.1 x.2.2.2.1 x.2.2.2.2.1 x.2.2.2.2.2.1 x.2.2.2.2.2.2.1 x.2.2.2.2.2.2.2.1 x.2.2.2.2.2.2.2.2.1) S_PlanFor_c60_L
def S_PlanFor_c60_cu (k : Nat) : Cuts D := ⟨[], [(66, some (S_PlanFor_c66_cut k))]⟩
theorem S_PlanFor_c60_ok (k : Nat) : CutFor X S_PlanFor_pl k Go.Proofs.Tryd.f19.results.toList (S_PlanFor_c60_cut k) (sub (bodyOf Go.Proofs.Tryd.f19) [1, 1, 1, 1, 1, 1, 1, 1, 1, 0, 0, 1, 1, 1, 1, 1]) :=
  joinCut_s (X := X) (sg := [.ki .i64, .ki .i64, .ki .i64, .kb, .ki .i64, .ki .i64, .kb, .kb, .kl 66]) (cu := S_PlanFor_c60_cu k) (cl := S_PlanFor_cl k) (tys := [[0]]) (S_PlanFor_ck k) (cutOK_of (l := [(S_PlanFor_c66_cut k, sub (bodyOf Go.Proofs.Tryd.f19) [1, 1, 1, 1, 1, 1, 1, 1, 1, 0, 0, 1, 1, 1, 1, 1, 1, 1])]) (by kernel_rfl) ⟨S_PlanFor_c66_ok k, trivial⟩) fun x Q R h => by
    simp only [S_PlanFor_c60, optK_bind, optK_bif, optK_pure, optK_none, optK_oc, optK_guardT, optK_map] at h
    refine hold_of h ?_
    kernel_rfl
def S_PlanFor_c56_L (x : Int × Int × Int × Bool × Int × Int × Bool × Bool × Bool × (List IDirective) × (List IDirective) × Unit) (o : Int) (Q : Ex → VSt D → Prop) (R : VR D → Prop) : Prop := Q .normal (mkSt ⟨[(9, .ref 500009), (11, .hole)], [(500009, .row)]⟩ [.int .i64 o, .sl 66 x.2.2.2.2.2.2.2.2.2.1])
def S_PlanFor_c56_cut (k : Nat) : Cut D := cutS ⟨[(9, .ref 500009), (10, .ref 500010), (11, .hole), (12, .hole), (13, .hole), (14, .hole), (15, .hole), (16, .hole), (17, .hole), (19, .hole), (56, .hole)], [(500009, .row), (500010, .row)]⟩ [.ki .i64, .ki .i64, .ki .i64, .kb, .ki .i64, .ki .i64, .kb, .kb, .kb, .kl 66, .kl 66] (fun (x : Int × Int × Int × Bool × Int × Int × Bool × Bool × Bool × (List IDirective) × (List IDirective) × Unit) => S_PlanFor_c56 k x.1 x.2.1 x.2.2.1 x.2.2.2.1 x.2.2.2.2.1 x.2.2.2.2.2.1 x.2.2.2.2.2.2.1 x.2.2.2.2.2.2.2.1 x.2.2.2.2.2.2.2.2.1 x.2.2.2.2.2.2.2.2.2.1 x.2.2.2.2.2.2.2.2.2.2.1) S_PlanFor_c56_L
def S_PlanFor_c56_cu (k : Nat) : Cuts D := ⟨[], [(60, some (S_PlanFor_c60_cut k))]⟩
theorem S_PlanFor_c56_ok (k : Nat) : CutFor X S_PlanFor_pl k Go.Proofs.Tryd.f19.results.toList (S_PlanFor_c56_cut k) (sub (bodyOf Go.Proofs.Tryd.f19) [1, 1, 1, 1, 1, 1, 1, 1, 1, 0, 0, 1, 1, 1]) :=
  joinCut_s (X := X) (sg := [.ki .i64, .ki .i64, .ki .i64, .kb, .ki .i64, .ki .i64, .kb, .kb, .kb, .kl 66, .kl 66]) (cu := S_PlanFor_c56_cu k) (cl := S_PlanFor_cl k) (tys := [[0]]) (S_PlanFor_ck k) (cutOK_of (l := [(S_PlanFor_c60_cut k, sub (bodyOf Go.Proofs.Tryd.f19) [1, 1, 1, 1, 1, 1, 1, 1, 1, 0, 0, 1, 1, 1, 1, 1])]) (by kernel_rfl) ⟨S_PlanFor_c60_ok k, trivial⟩) fun x Q R h => by
    simp only [S_PlanFor_c56, optK_bind, optK_bif, optK_pure, optK_none, optK_oc, optK_guardT, optK_map] at h
    refine hold_of h ?_
    kernel_rfl
def S_PlanFor_c46_L (x : Int × Int × Int × Int × Int × Bool × Int × Int × Bool × Bool × Bool × (List IDirective) × (List IDirective) × Unit) (o : Int) (Q : Ex → VSt D → Prop) (R : VR D → Prop) : Prop := Q .normal (mkSt ⟨[(9, .ref 500009), (11, .hole)], [(500009, .row)]⟩ [.int .i64 o, .sl 66 x.2.2.2.2.2.2.2.2.2.2.2.1])
def S_PlanFor_c46_cut (k : Nat) : Cut D := cutS ⟨[(2, .hole), (3, .hole), (9, .ref 500009), (10, .ref 500010), (11, .hole), (12, .hole), (13, .hole), (14, .hole), (15, .hole), (16, .hole), (17, .hole), (19, .hole), (46, .hole)], [(500009, .row), (500010, .row)]⟩ [.ki .i64, .ki .i64, .ki .i64, .ki .i64, .ki .i64, .kb, .ki .i64, .ki .i64, .kb, .kb, .kb, .kl 66, .kl 66] (fun (x : Int × Int × Int × Int × Int × Bool × Int × Int × Bool × Bool × Bool × (List IDirective) × (List IDirective) × Unit) => S_PlanFor_c46 k x.1 x.2.1 x.2.2.1 x.2.2.2.1 x.2.2.2.2.1 x.2.2.2.2.2.1 x.2.2.2.2.2.2.1 x.2.2.2.2.2.2.2.1 x.2.2.2.2.2.2.2.2.1 x.2.2.2.2.2.2.2.2.2.1 x.2.2.2.2.2.2.2.2.2.2.1 x.2.2.2.2.2.2.2.2.2.2.2.1 x.2.2.2.2.2.2.2.2.2.2.2.2.1) S_PlanFor_c46_L
def S_PlanFor_c46_cu (k : Nat) : Cuts D := ⟨[], [(56, some (S_PlanFor_c56_cut k))]⟩
theorem S_PlanFor_c46_ok (k : Nat) : CutFor X S_PlanFor_pl k Go.Proofs.Tryd.f19.results.toList (S_PlanFor_c46_cut k) (sub (bodyOf Go.Proofs.Tryd.f19) [1, 1, 1, 1, 1, 1, 1, 1, 1, 0, 0, 1]) :=
  joinCut_s (X := X) (sg := [.ki .i64, .ki .i64, .ki .i64, .ki .i64, .ki .i64, .kb, .ki .i64, .ki .i64, .kb, .kb, .kb, .kl 66, .kl 66]) (cu := S_PlanFor_c46_cu k) (cl := S_PlanFor_cl k) (tys := [[0]]) (S_PlanFor_ck k) (cutOK_of (l := [(S_PlanFor_c56_cut k, sub (bodyOf Go.Proofs.Tryd.f19) [1, 1, 1, 1, 1, 1, 1, 1, 1, 0, 0, 1, 1, 1])]) (by kernel_rfl) ⟨S_PlanFor_c56_ok k, trivial⟩) fun x Q R h => by
    simp only [S_PlanFor_c46, optK_bind, optK_bif, optK_pure, optK_none, optK_oc, optK_guardT, optK_map] at h
    refine hold_of h ?_
    kernel_rfl
def S_PlanFor_b0_L (x : Int × Int × Int × Int × Int × Bool × Int × Int × Bool × Bool × (List IDirective) × (List IDirective) × Unit) (o : Int) (Q : Ex → VSt D → Prop) (R : VR D → Prop) : Prop := Q .normal (mkSt ⟨[(9, .ref 500009), (11, .hole)], [(500009, .row)]⟩ [.int .i64 o, .sl 66 x.2.2.2.2.2.2.2.2.2.2.1])
def S_PlanFor_b0_cut (k : Nat) : Cut D := cutS ⟨[(2, .hole), (3, .hole), (9, .ref 500009), (10, .ref 500010), (11, .hole), (12, .hole), (13, .hole), (14, .hole), (15, .hole), (16, .hole), (17, .hole), (19, .hole)], [(500009, .row), (500010, .row)]⟩ [.ki .i64, .ki .i64, .ki .i64, .ki .i64, .ki .i64, .kb, .ki .i64, .ki .i64, .kb, .kb, .kl 66, .kl 66] (fun (x : Int × Int × Int × Int × Int × Bool × Int × Int × Bool × Bool × (List IDirective) × (List IDirective) × Unit) => S_PlanFor_b0 k x.1 x.2.1 x.2.2.1 x.2.2.2.1 x.2.2.2.2.1 x.2.2.2.2.2.1 x.2.2.2.2.2.2.1 x.2.2.2.2.2.2.2.1 x.2.2.2.2.2.2.2.2.1 x.2.2.2.2.2.2.2.2.2.1 x.2.2.2.2.2.2.2.2.2.2.1 x.2.2.2.2.2.2.2.2.2.2.2.1) S_PlanFor_b0_L
def S_PlanFor_b0_cu (k : Nat) : Cuts D := ⟨[], [(46, some (S_PlanFor_c46_cut k))]⟩
theorem S_PlanFor_b0_ok (k : Nat) : CutFor X S_PlanFor_pl k Go.Proofs.Tryd.f19.results.toList (S_PlanFor_b0_cut k) (sub (bodyOf Go.Proofs.Tryd.f19) [1, 1, 1, 1, 1, 1, 1, 1, 1, 0]) :=
  joinCut_s (X := X) (sg := [.ki .i64, .ki .i64, .ki .i64, .ki .i64, .ki .i64, .kb, .ki .i64, .ki .i64, .kb, .kb, .kl 66, .kl 66]) (cu := S_PlanFor_b0_cu k) (cl := S_PlanFor_cl k) (tys := [[0]]) (S_PlanFor_ck k) (cutOK_of (l := [(S_PlanFor_c46_cut k, sub (bodyOf Go.Proofs.Tryd.f19) [1, 1, 1, 1, 1, 1, 1, 1, 1, 0, 0, 1])]) (by kernel_rfl) ⟨S_PlanFor_c46_ok k, trivial⟩) fun x Q R h => by
    simp only [S_PlanFor_b0, optK_bind, optK_bif, optK_pure, optK_none, optK_oc, optK_guardT, optK_map] at h
    refine hold_of h ?_
    kernel_rfl
def S_PlanFor_cu (k : Nat) : Cuts D := ⟨[(0, some (S_PlanFor_b0_cut k))], []⟩
def S_PlanFor_ar : List Ar := [.a [.ks, .ks, .ks, .kl 95], .a [.ki .i64, .kl 95, .ks], .c (.ki .i64), .c (.ki .i64)]
def S_PlanFor_f (k : Nat) (x : TupA D S_PlanFor_ar) : Option (Int) := S_PlanFor k (⟨x.1.1, x.1.2.1, x.1.2.2.1, x.1.2.2.2.1⟩ : IRequest) (⟨x.2.1.1, x.2.1.2.1, x.2.1.2.2.1⟩ : IResponse) x.2.2.1 x.2.2.2.1
def S_PlanFor_vr (r : Int) : VR D := .p (.c (.int .i64 r))
theorem S_PlanFor_ok (k : Nat) : Does P X 19 S_PlanFor_ar (S_PlanFor_f k) S_PlanFor_vr :=
  does_of (body := bodyOf Go.Proofs.Tryd.f19) (pl := S_PlanFor_pl) (k := k) (cu := S_PlanFor_cu k) (tys := [[0]]) (S_PlanFor_ck k) ctx mixed Go.Proofs.Tryd.func19 (by kernel_rfl) (by kernel_rfl) (cutOK_of (l := [(S_PlanFor_b0_cut k, sub (bodyOf Go.Proofs.Tryd.f19) [1, 1, 1, 1, 1, 1, 1, 1, 1, 0])]) (by kernel_rfl) ⟨S_PlanFor_b0_ok k, trivial⟩) fun x R h => by
    simp only [S_PlanFor_f, S_PlanFor, optK_bind, optK_bif, optK_pure, optK_none, optK_oc, optK_guardT, optK_map] at h
    refine hold_of h ?_
    kernel_rfl
def S_PlanFor_en (k : Nat) : Entry D := entS S_PlanFor_ar (S_PlanFor_f k) S_PlanFor_vr
theorem S_PlanFor_eo (k : Nat) : EntryOK X 19 (S_PlanFor_en k) := (S_PlanFor_ok k).en rfl
def strings_Join_ar : List Ar := [.c (.kl 9), .c (.ks)]
def strings_Join_f (k : Nat) (x : TupA D strings_Join_ar) : Option ((List UInt8)) := strings_Join k x.1 x.2.1
def strings_Join_vr (r : (List UInt8)) : VR D := .p (.c (.str r))
theorem strings_Join_ok (k : Nat) : Does P X 28 strings_Join_ar (strings_Join_f k) strings_Join_vr := does_join (P := P) (D := D) (X := X) (el := 9) ⟨Go.Proofs.Tryd.f28, Go.Proofs.Tryd.func28, by kernel_rfl, by kernel_rfl⟩ (fun (s : List UInt8) => s) (fun (l : List (List UInt8)) s => joinO l s) (fun _ => rfl) (by kernel_rfl) (fun (l : List (List UInt8)) s => congrArg (fun t => joinO t s) (List.map_id' l).symm) (fun a c sep w => Go.Proofs.Tryd.strings_Join_none a c sep w) (fun bk o c xs sep w hg h1 h2 h3 h4 h5 => Go.Proofs.Tryd.strings_Join bk o c xs sep w h1 h2 h3 h4 h5)
def strings_Join_en (k : Nat) : Entry D := entS strings_Join_ar (strings_Join_f k) strings_Join_vr
theorem strings_Join_eo (k : Nat) : EntryOK X 28 (strings_Join_en k) := (strings_Join_ok k).en rfl
def I_JoinList_pl : Plan := ⟨[(0, [(0, some 9)]), (1, [(2, none)])],
  [],
  []⟩
def I_JoinList_cl (k : Nat) : Calls' D := ⟨[(28, strings_Join_en k)], [], [], [], []⟩
theorem I_JoinList_ck (k : Nat) : CallsOK X (I_JoinList_cl k) := .cons (strings_Join_eo k) (.nil cod)
def I_JoinList_cu (k : Nat) : Cuts D := ⟨[], []⟩
def I_JoinList_ar : List Ar := [.c (.kl 9)]
def I_JoinList_f (k : Nat) (x : TupA D I_JoinList_ar) : Option ((List UInt8)) := I_JoinList k x.1
def I_JoinList_vr (r : (List UInt8)) : VR D := .p (.c (.str r))
theorem I_JoinList_ok (k : Nat) : Does P X 97 I_JoinList_ar (I_JoinList_f k) I_JoinList_vr :=
  does_of (body := bodyOf Go.Proofs.Tryd.f97) (pl := I_JoinList_pl) (k := k) (cu := I_JoinList_cu k) (tys := [[0]]) (I_JoinList_ck k) ctx mixed Go.Proofs.Tryd.func97 (by kernel_rfl) (by kernel_rfl) (cutOK_of (l := []) (by kernel_rfl) trivial) fun x R h => by
    simp only [I_JoinList_f, I_JoinList, optK_bind, optK_bif, optK_pure, optK_none, optK_oc, optK_guardT, optK_map] at h
    refine hold_of h ?_
    kernel_rfl
def I_JoinList_en (k : Nat) : Entry D := entS I_JoinList_ar (I_JoinList_f k) I_JoinList_vr
theorem I_JoinList_eo (k : Nat) : EntryOK X 97 (I_JoinList_en k) := (I_JoinList_ok k).en rfl
def I_GetField_pl : Plan := ⟨[(0, [(0, some 95), (1, none)]), (1, [(0, some 95), (1, none), (6, some 9)]), (2, [(1, none), (6, some 9), (10, some 95), (11, none), (12, none)]), (3, [(1, none), (6, some 9), (10, some 95), (11, none), (12, none), (13, none)]), (4, [(1, none), (6, some 9), (8, none), (10, some 95), (11, none), (12, none)]), (5, [(1, none), (6, some 9), (8, none), (10, some 95), (11, none), (12, none), (19, none)]), (6, [(1, none), (6, some 9), (10, some 95), (11, none), (12, none)]), (7, [(1, none), (6, some 9), (10, some 95), (11, none), (12, none)]), (8, [(4, none), (5, none)])],
  [(0, [(6, some 9)]), (1, [(1, none), (6, some 9), (10, some 95), (11, none), (12, none)])],
  [(13, ([(1, none), (6, some 9), (10, some 95), (11, none), (12, none)], [(6, some 9)])), (19, ([(1, none), (6, some 9), (8, none), (10, some 95), (11, none), (12, none)], [(1, none), (6, some 9), (10, some 95), (11, none), (12, none)]))]⟩
def I_GetField_cl (k : Nat) : Calls' D := ⟨[(97, I_JoinList_en k)], [], [], [], []⟩
theorem I_GetField_ck (k : Nat) : CallsOK X (I_GetField_cl k) := .cons (I_JoinList_eo k) (.nil cod)
def I_GetField_c19_L (x : (List UInt8) × (List IField) × Int × Int × Bool × (List (List UInt8)) × (List UInt8) × (List UInt8) × Unit) (o : (List (List UInt8))) (Q : Ex → VSt D → Prop) (R : VR D → Prop) : Prop := Q .normal (mkSt ⟨[(1, .hole), (6, .ref 500006), (10, .hole), (11, .hole), (12, .hole)], [(500006, .row)]⟩ [.str x.1, .sl 95 x.2.1, .int .i64 x.2.2.1, .int .i64 x.2.2.2.1, .sl 9 o])
def I_GetField_c19_cut (k : Nat) : Cut D := cutS ⟨[(1, .hole), (6, .ref 500006), (8, .ptr 8 0), (10, .hole), (11, .hole), (12, .hole), (19, .hole)], [(500006, .row), (8, .var [.hole, .hole])]⟩ [.ks, .kl 95, .ki .i64, .ki .i64, .kb, .kl 9, .ks, .ks] (fun (x : (List UInt8) × (List IField) × Int × Int × Bool × (List (List UInt8)) × (List UInt8) × (List UInt8) × Unit) => I_GetField_c19 k x.1 x.2.1 x.2.2.1 x.2.2.2.1 x.2.2.2.2.1 x.2.2.2.2.2.1 x.2.2.2.2.2.2.1 x.2.2.2.2.2.2.2.1) I_GetField_c19_L
def I_GetField_c19_cu (k : Nat) : Cuts D := ⟨[], []⟩
theorem I_GetField_c19_ok (k : Nat) : CutFor X I_GetField_pl k Go.Proofs.Tryd.f68.results.toList (I_GetField_c19_cut k) (sub (bodyOf Go.Proofs.Tryd.f68) [1, 1, 0, 1, 0, 0, 1, 1, 0, 0, 1, 1]) :=
  joinCut_s (X := X) (sg := [.ks, .kl 95, .ki .i64, .ki .i64, .kb, .kl 9, .ks, .ks]) (cu := I_GetField_c19_cu k) (cl := I_GetField_cl k) (tys := [[0], [0]]) (I_GetField_ck k) (cutOK_of (l := []) (by kernel_rfl) trivial) fun x Q R h => by
    simp only [I_GetField_c19, optK_bind, optK_bif, optK_pure, optK_none, optK_oc, optK_guardT, optK_map] at h
    refine hold_of h ?_
    kernel_rfl
def I_GetField_b1_L (x : (List UInt8) × (List IField) × Int × Int × (List (List UInt8)) × Unit) (o : (List (List UInt8))) (Q : Ex → VSt D → Prop) (R : VR D → Prop) : Prop := Q .normal (mkSt ⟨[(1, .hole), (6, .ref 500006), (10, .hole), (11, .hole), (12, .hole)], [(500006, .row)]⟩ [.str x.1, .sl 95 x.2.1, .int .i64 x.2.2.1, .int .i64 x.2.2.2.1, .sl 9 o])
def I_GetField_b1_cut (k : Nat) : Cut D := cutS ⟨[(1, .hole), (6, .ref 500006), (10, .hole), (11, .hole), (12, .hole)], [(500006, .row)]⟩ [.ks, .kl 95, .ki .i64, .ki .i64, .kl 9] (fun (x : (List UInt8) × (List IField) × Int × Int × (List (List UInt8)) × Unit) => I_GetField_b1 k x.1 x.2.1 x.2.2.1 x.2.2.2.1 x.2.2.2.2.1) I_GetField_b1_L
def I_GetField_b1_cu (k : Nat) : Cuts D := ⟨[], [(19, some (I_GetField_c19_cut k))]⟩
theorem I_GetField_b1_ok (k : Nat) : CutFor X I_GetField_pl k Go.Proofs.Tryd.f68.results.toList (I_GetField_b1_cut k) (sub (bodyOf Go.Proofs.Tryd.f68) [1, 1, 0, 1, 0, 0, 1, 1, 0]) :=
  joinCut_s (X := X) (sg := [.ks, .kl 95, .ki .i64, .ki .i64, .kl 9]) (cu := I_GetField_b1_cu k) (cl := I_GetField_cl k) (tys := [[0], [0]]) (I_GetField_ck k) (cutOK_of (l := [(I_GetField_c19_cut k, sub (bodyOf Go.Proofs.Tryd.f68) [1, 1, 0, 1, 0, 0, 1, 1, 0, 0, 1, 1])]) (by kernel_rfl) ⟨I_GetField_c19_ok k, trivial⟩) fun x Q R h => by
    simp only [I_GetField_b1, optK_bind, optK_bif, optK_pure, optK_none, optK_oc, optK_guardT, optK_map] at h
    refine hold_of h ?_
    kernel_rfl
def I_GetField_b0_L (x : (List UInt8) × (List IField) × Int × Int × (List (List UInt8)) × Unit) (o : (List (List UInt8))) (Q : Ex → VSt D → Prop) (R : VR D → Prop) : Prop := Q .normal (mkSt ⟨[(6, .ref 500006)], [(500006, .row)]⟩ [.sl 9 o])
def I_GetField_b0_cut (k : Nat) : Cut D := cutS ⟨[(1, .hole), (6, .ref 500006), (10, .hole), (11, .hole), (12, .hole)], [(500006, .row)]⟩ [.ks, .kl 95, .ki .i64, .ki .i64, .kl 9] (fun (x : (List UInt8) × (List IField) × Int × Int × (List (List UInt8)) × Unit) => I_GetField_b0 k k x.1 x.2.1 x.2.2.1 x.2.2.2.1 x.2.2.2.2.1) I_GetField_b0_L
def I_GetField_b0_cu (k : Nat) : Cuts D := ⟨[(1, some (I_GetField_b1_cut k))], []⟩
theorem I_GetField_b0_ok (k : Nat) : CutFor X I_GetField_pl k Go.Proofs.Tryd.f68.results.toList (I_GetField_b0_cut k) (sub (bodyOf Go.Proofs.Tryd.f68) [1, 1, 0, 1]) :=
  loopCut_s (X := X) (sg := [.ks, .kl 95, .ki .i64, .ki .i64, .kl 9]) (cu := I_GetField_b0_cu k) (cl := I_GetField_cl k) (tys := [[0], [0]]) (id := 0) (c := sub (bodyOf Go.Proofs.Tryd.f68) [1, 1, 0, 1, 0, 0]) (f := fun n => fun (x : (List UInt8) × (List IField) × Int × Int × (List (List UInt8)) × Unit) => I_GetField_b0 k n x.1 x.2.1 x.2.2.1 x.2.2.2.1 x.2.2.2.2.1) (I_GetField_ck k) (cutOK_of (l := [(I_GetField_b1_cut k, sub (bodyOf Go.Proofs.Tryd.f68) [1, 1, 0, 1, 0, 0, 1, 1, 0])]) (by kernel_rfl) ⟨I_GetField_b1_ok k, trivial⟩) (fun _ => rfl) (fun n x Q R h => by
    simp only [I_GetField_b0, optK_bind, optK_bif, optK_pure, optK_none, optK_oc, optK_guardT, optK_map] at h
    refine hold_of h ?_
    kernel_rfl) (by kernel_rfl)
def I_GetField_cu (k : Nat) : Cuts D := ⟨[(0, some (I_GetField_b0_cut k))], []⟩
def I_GetField_ar : List Ar := [.c (.kl 95), .c (.ks)]
def I_GetField_f (k : Nat) (x : TupA D I_GetField_ar) : Option ((List UInt8) × Bool) := I_GetField k x.1 x.2.1
def I_GetField_vr (r : (List UInt8) × Bool) : VR D := .tup [.c (.str r.1), .c (.bool r.2)]
theorem I_GetField_ok (k : Nat) : Does P X 68 I_GetField_ar (I_GetField_f k) I_GetField_vr :=
  does_of (body := bodyOf Go.Proofs.Tryd.f68) (pl := I_GetField_pl) (k := k) (cu := I_GetField_cu k) (tys := [[0], [0]]) (I_GetField_ck k) ctx mixed Go.Proofs.Tryd.func68 (by kernel_rfl) (by kernel_rfl) (cutOK_of (l := [(I_GetField_b0_cut k, sub (bodyOf Go.Proofs.Tryd.f68) [1, 1, 0, 1])]) (by kernel_rfl) ⟨I_GetField_b0_ok k, trivial⟩) fun x R h => by
    simp only [I_GetField_f, I_GetField, optK_bind, optK_bif, optK_pure, optK_none, optK_oc, optK_guardT, optK_map] at h
    refine hold_of h ?_
    kernel_rfl
def I_GetField_en (k : Nat) : Entry D := entS I_GetField_ar (I_GetField_f k) I_GetField_vr
theorem I_GetField_eo (k : Nat) : EntryOK X 68 (I_GetField_en k) := (I_GetField_ok k).en rfl
def strings_Trim_ar : List Ar := [.c (.ks), .c (.ks)]
def strings_Trim_f (k : Nat) (x : TupA D strings_Trim_ar) : Option ((List UInt8)) := strings_Trim k x.1 x.2.1
def strings_Trim_vr (r : (List UInt8)) : VR D := .p (.c (.str r))
theorem strings_Trim_ok (k : Nat) : Does P X 129 strings_Trim_ar (strings_Trim_f k) strings_Trim_vr := does_trim ⟨Go.Proofs.Tryd.f129, Go.Proofs.Tryd.func129, by kernel_rfl, by kernel_rfl⟩ (fun s cs w hg h1 h2 h3 => Go.Proofs.Any.strings_Trim_laid Go.Proofs.Tryd.lays160 (by kernel_rfl) s cs w h1 h2 h3)
def strings_Trim_en (k : Nat) : Entry D := entS strings_Trim_ar (strings_Trim_f k) strings_Trim_vr
theorem strings_Trim_eo (k : Nat) : EntryOK X 129 (strings_Trim_en k) := (strings_Trim_ok k).en rfl
def I_TrimText_pl : Plan := ⟨[(0, [(0, none)]), (1, [(2, none)])],
  [],
  []⟩
def I_TrimText_cl (k : Nat) : Calls' D := ⟨[(129, strings_Trim_en k)], [], [], [], []⟩
theorem I_TrimText_ck (k : Nat) : CallsOK X (I_TrimText_cl k) := .cons (strings_Trim_eo k) (.nil cod)
def I_TrimText_cu (k : Nat) : Cuts D := ⟨[], []⟩
def I_TrimText_ar : List Ar := [.c (.ks)]
def I_TrimText_f (k : Nat) (x : TupA D I_TrimText_ar) : Option ((List UInt8)) := I_TrimText k x.1
def I_TrimText_vr (r : (List UInt8)) : VR D := .p (.c (.str r))
theorem I_TrimText_ok (k : Nat) : Does P X 120 I_TrimText_ar (I_TrimText_f k) I_TrimText_vr :=
  does_of (body := bodyOf Go.Proofs.Tryd.f120) (pl := I_TrimText_pl) (k := k) (cu := I_TrimText_cu k) (tys := [[0]]) (I_TrimText_ck k) ctx mixed Go.Proofs.Tryd.func120 (by kernel_rfl) (by kernel_rfl) (cutOK_of (l := []) (by kernel_rfl) trivial) fun x R h => by
    simp only [I_TrimText_f, I_TrimText, optK_bind, optK_bif, optK_pure, optK_none, optK_oc, optK_guardT, optK_map] at h
    refine hold_of h ?_
    kernel_rfl
def I_TrimText_en (k : Nat) : Entry D := entS I_TrimText_ar (I_TrimText_f k) I_TrimText_vr
theorem I_TrimText_eo (k : Nat) : EntryOK X 120 (I_TrimText_en k) := (I_TrimText_ok k).en rfl
def I_SplitList_pl : Plan := ⟨[(0, [(0, none)]), (1, [(0, none), (3, some 9)]), (2, [(0, none), (3, some 9), (4, none)]), (3, [(0, none), (3, some 9), (4, none), (5, none)]), (4, [(0, none), (3, some 9), (4, none), (5, none), (6, none)]), (5, [(0, none), (3, some 9), (4, none), (5, none), (6, none), (13, none)]), (6, [(0, none), (3, some 9), (4, none), (5, none), (6, none)]), (7, [(0, none), (3, some 9), (4, none), (5, none), (6, none), (28, none)]), (8, [(0, none), (3, some 9), (4, none), (5, none), (6, none), (32, none)]), (9, [(0, none), (3, some 9), (4, none), (5, none), (6, none)]), (10, [(0, none), (3, some 9), (4, none), (5, none), (6, none), (41, none)]), (11, [(0, none), (3, some 9), (4, none), (5, none), (6, none)]), (12, [(0, none), (3, some 9), (5, none), (6, none), (7, none)]), (13, [(0, none), (3, some 9), (5, none), (6, none), (7, none), (53, none)]), (14, [(0, none), (3, some 9), (5, none), (6, none)]), (15, [(0, none), (3, some 9), (4, none), (5, none), (6, none)]), (16, [(0, none), (3, some 9), (4, none), (63, none)]), (17, [(3, some 9), (8, none)]), (18, [(3, some 9), (8, none), (69, none)]), (19, [(3, some 9)]), (20, [(2, some 9)])],
  [(0, [(0, none), (3, some 9), (4, none)]), (1, [(0, none), (3, some 9), (4, none), (5, none), (6, none)])],
  [(13, ([(0, none), (3, some 9), (4, none), (5, none), (6, none)], [(0, none), (3, some 9), (4, none)])), (28, ([(0, none), (3, some 9), (4, none), (5, none), (6, none)], [(0, none), (3, some 9), (4, none), (5, none), (6, none)])), (32, ([(0, none), (3, some 9), (4, none), (5, none), (6, none)], [(0, none), (3, some 9), (4, none), (5, none), (6, none)])), (41, ([(0, none), (3, some 9), (4, none), (5, none), (6, none)], [(0, none), (3, some 9), (4, none), (5, none), (6, none)])), (53, ([(0, none), (3, some 9), (5, none), (6, none), (7, none)], [(0, none), (3, some 9), (5, none), (6, none)])), (63, ([(0, none), (3, some 9), (4, none)], [(3, some 9)])), (69, ([(3, some 9), (8, none)], [(3, some 9)]))]⟩
def I_SplitList_cl (k : Nat) : Calls' D := ⟨[(120, I_TrimText_en k)], [], [], [], []⟩
theorem I_SplitList_ck (k : Nat) : CallsOK X (I_SplitList_cl k) := .cons (I_TrimText_eo k) (.nil cod)
def I_SplitList_c32_L (x : (List UInt8) × Int × Bool × Int × Bool × (List (List UInt8)) × Unit) (o : Bool) (Q : Ex → VSt D → Prop) (R : VR D → Prop) : Prop := Q .normal (mkSt ⟨[(0, .hole), (3, .ref 500003), (4, .hole), (5, .hole), (6, .hole)], [(500003, .row)]⟩ [.str x.1, .int .i64 x.2.1, .bool o, .int .i64 x.2.2.2.1, .sl 9 x.2.2.2.2.2.1])
def I_SplitList_c32_cut (k : Nat) : Cut D := cutS ⟨[(0, .hole), (3, .ref 500003), (4, .hole), (5, .hole), (6, .hole), (32, .hole)], [(500003, .row)]⟩ [.ks, .ki .i64, .kb, .ki .i64, .kb, .kl 9] (fun (x : (List UInt8) × Int × Bool × Int × Bool × (List (List UInt8)) × Unit) => I_SplitList_c32 k x.1 x.2.1 x.2.2.1 x.2.2.2.1 x.2.2.2.2.1 x.2.2.2.2.2.1) I_SplitList_c32_L
def I_SplitList_c32_cu (k : Nat) : Cuts D := ⟨[], []⟩
theorem I_SplitList_c32_ok (k : Nat) : CutFor X I_SplitList_pl k Go.Proofs.Tryd.f98.results.toList (I_SplitList_c32_cut k) (sub (bodyOf Go.Proofs.Tryd.f98) [1, 1, 1, 1, 0, 1, 0, 0, 1, 0, 0, 0, 1, 0, 0, 1]) :=
  joinCut_s (X := X) (sg := [.ks, .ki .i64, .kb, .ki .i64, .kb, .kl 9]) (cu := I_SplitList_c32_cu k) (cl := I_SplitList_cl k) (tys := [[9]]) (I_SplitList_ck k) (cutOK_of (l := []) (by kernel_rfl) trivial) fun x Q R h => by
    simp only [I_SplitList_c32, optK_bind, optK_bif, optK_pure, optK_none, optK_oc, optK_guardT, optK_map] at h
    refine hold_of h ?_
    kernel_rfl
def I_SplitList_c41_L (x : (List UInt8) × Int × Bool × Int × Bool × (List (List UInt8)) × Unit) (o : Int) (Q : Ex → VSt D → Prop) (R : VR D → Prop) : Prop := Q .normal (mkSt ⟨[(0, .hole), (3, .ref 500003), (4, .hole), (5, .hole), (6, .hole)], [(500003, .row)]⟩ [.str x.1, .int .i64 x.2.1, .bool x.2.2.1, .int .i64 o, .sl 9 x.2.2.2.2.2.1])
def I_SplitList_c41_cut (k : Nat) : Cut D := cutS ⟨[(0, .hole), (3, .ref 500003), (4, .hole), (5, .hole), (6, .hole), (41, .hole)], [(500003, .row)]⟩ [.ks, .ki .i64, .kb, .ki .i64, .kb, .kl 9] (fun (x : (List UInt8) × Int × Bool × Int × Bool × (List (List UInt8)) × Unit) => I_SplitList_c41 k x.1 x.2.1 x.2.2.1 x.2.2.2.1 x.2.2.2.2.1 x.2.2.2.2.2.1) I_SplitList_c41_L
def I_SplitList_c41_cu (k : Nat) : Cuts D := ⟨[], []⟩
theorem I_SplitList_c41_ok (k : Nat) : CutFor X I_SplitList_pl k Go.Proofs.Tryd.f98.results.toList (I_SplitList_c41_cut k) (sub (bodyOf Go.Proofs.Tryd.f98) [1, 1, 1, 1, 0, 1, 0, 0, 1, 0, 0, 0, 1, 0, 1, 0, 1]) :=
  joinCut_s (X := X) (sg := [.ks, .ki .i64, .kb, .ki .i64, .kb, .kl 9]) (cu := I_SplitList_c41_cu k) (cl := I_SplitList_cl k) (tys := [[9]]) (I_SplitList_ck k) (cutOK_of (l := []) (by kernel_rfl) trivial) fun x Q R h => by
    simp only [I_SplitList_c41, optK_bind, optK_bif, optK_pure, optK_none, optK_oc, optK_guardT, optK_map] at h
    refine hold_of h ?_
    kernel_rfl
def I_SplitList_c53_L (x : (List UInt8) × Bool × Int × (List UInt8) × Bool × (List (List UInt8)) × Unit) (o : (List (List UInt8))) (Q : Ex → VSt D → Prop) (R : VR D → Prop) : Prop := Q .normal (mkSt ⟨[(0, .hole), (3, .ref 500003), (5, .hole), (6, .hole)], [(500003, .row)]⟩ [.str x.1, .bool x.2.1, .int .i64 x.2.2.1, .sl 9 o])
def I_SplitList_c53_cut (k : Nat) : Cut D := cutS ⟨[(0, .hole), (3, .ref 500003), (5, .hole), (6, .hole), (7, .hole), (53, .hole)], [(500003, .row)]⟩ [.ks, .kb, .ki .i64, .ks, .kb, .kl 9] (fun (x : (List UInt8) × Bool × Int × (List UInt8) × Bool × (List (List UInt8)) × Unit) => I_SplitList_c53 k x.1 x.2.1 x.2.2.1 x.2.2.2.1 x.2.2.2.2.1 x.2.2.2.2.2.1) I_SplitList_c53_L
def I_SplitList_c53_cu (k : Nat) : Cuts D := ⟨[], []⟩
theorem I_SplitList_c53_ok (k : Nat) : CutFor X I_SplitList_pl k Go.Proofs.Tryd.f98.results.toList (I_SplitList_c53_cut k) (sub (bodyOf Go.Proofs.Tryd.f98) [1, 1, 1, 1, 0, 1, 0, 0, 1, 0, 0, 1, 0, 1, 1]) :=
  joinCut_s (X := X) (sg := [.ks, .kb, .ki .i64, .ks, .kb, .kl 9]) (cu := I_SplitList_c53_cu k) (cl := I_SplitList_cl k) (tys := [[9]]) (I_SplitList_ck k) (cutOK_of (l := []) (by kernel_rfl) trivial) fun x Q R h => by
    simp only [I_SplitList_c53, optK_bind, optK_bif, optK_pure, optK_none, optK_oc, optK_guardT, optK_map] at h
    refine hold_of h ?_
    kernel_rfl
def I_SplitList_b1_L (x : (List UInt8) × Int × Bool × Int × (List (List UInt8)) × Unit) (o : Int × Bool × Int × (List (List UInt8))) (Q : Ex → VSt D → Prop) (R : VR D → Prop) : Prop := Q .normal (mkSt ⟨[(0, .hole), (3, .ref 500003), (4, .hole), (5, .hole), (6, .hole)], [(500003, .row)]⟩ [.str x.1, .int .i64 o.1, .bool o.2.1, .int .i64 o.2.2.1, .sl 9 o.2.2.2])
def I_SplitList_b1_cut (k : Nat) : Cut D := cutS ⟨[(0, .hole), (3, .ref 500003), (4, .hole), (5, .hole), (6, .hole)], [(500003, .row)]⟩ [.ks, .ki .i64, .kb, .ki .i64, .kl 9] (fun (x : (List UInt8) × Int × Bool × Int × (List (List UInt8)) × Unit) => I_SplitList_b1 k x.1 x.2.1 x.2.2.1 x.2.2.2.1 x.2.2.2.2.1) I_SplitList_b1_L
def I_SplitList_b1_cu (k : Nat) : Cuts D := ⟨[], [(32, some (I_SplitList_c32_cut k)), (41, some (I_SplitList_c41_cut k)), (53, some (I_SplitList_c53_cut k))]⟩
theorem I_SplitList_b1_ok (k : Nat) : CutFor X I_SplitList_pl k Go.Proofs.Tryd.f98.results.toList (I_SplitList_b1_cut k) (sub (bodyOf Go.Proofs.Tryd.f98) [1, 1, 1, 1, 0, 1, 0, 0, 1, 0]) :=
  joinCut_s (X := X) (sg := [.ks, .ki .i64, .kb, .ki .i64, .kl 9]) (cu := I_SplitList_b1_cu k) (cl := I_SplitList_cl k) (tys := [[9]]) (I_SplitList_ck k) (cutOK_of (l := [(I_SplitList_c32_cut k, sub (bodyOf Go.Proofs.Tryd.f98) [1, 1, 1, 1, 0, 1, 0, 0, 1, 0, 0, 0, 1, 0, 0, 1]), (I_SplitList_c41_cut k, sub (bodyOf Go.Proofs.Tryd.f98) [1, 1, 1, 1, 0, 1, 0, 0, 1, 0, 0, 0, 1, 0, 1, 0, 1]), (I_SplitList_c53_cut k, sub (bodyOf Go.Proofs.Tryd.f98) [1, 1, 1, 1, 0, 1, 0, 0, 1, 0, 0, 1, 0, 1, 1])]) (by kernel_rfl) ⟨I_SplitList_c32_ok k, I_SplitList_c41_ok k, I_SplitList_c53_ok k, trivial⟩) fun x Q R h => by
    simp only [I_SplitList_b1, optK_bind, optK_bif, optK_pure, optK_none, optK_oc, optK_guardT, optK_map] at h
    refine hold_of h ?_
    kernel_rfl
def I_SplitList_b0_L (x : (List UInt8) × Int × Bool × Int × (List (List UInt8)) × Unit) (o : Int × (List (List UInt8))) (Q : Ex → VSt D → Prop) (R : VR D → Prop) : Prop := Q .normal (mkSt ⟨[(0, .hole), (3, .ref 500003), (4, .hole)], [(500003, .row)]⟩ [.str x.1, .int .i64 o.1, .sl 9 o.2])
def I_SplitList_b0_cut (k : Nat) : Cut D := cutS ⟨[(0, .hole), (3, .ref 500003), (4, .hole), (5, .hole), (6, .hole)], [(500003, .row)]⟩ [.ks, .ki .i64, .kb, .ki .i64, .kl 9] (fun (x : (List UInt8) × Int × Bool × Int × (List (List UInt8)) × Unit) => I_SplitList_b0 k k x.1 x.2.1 x.2.2.1 x.2.2.2.1 x.2.2.2.2.1) I_SplitList_b0_L
def I_SplitList_b0_cu (k : Nat) : Cuts D := ⟨[(1, some (I_SplitList_b1_cut k))], []⟩
theorem I_SplitList_b0_ok (k : Nat) : CutFor X I_SplitList_pl k Go.Proofs.Tryd.f98.results.toList (I_SplitList_b0_cut k) (sub (bodyOf Go.Proofs.Tryd.f98) [1, 1, 1, 1, 0, 1]) :=
  loopCut_s (X := X) (sg := [.ks, .ki .i64, .kb, .ki .i64, .kl 9]) (cu := I_SplitList_b0_cu k) (cl := I_SplitList_cl k) (tys := [[9]]) (id := 0) (c := sub (bodyOf Go.Proofs.Tryd.f98) [1, 1, 1, 1, 0, 1, 0, 0]) (f := fun n => fun (x : (List UInt8) × Int × Bool × Int × (List (List UInt8)) × Unit) => I_SplitList_b0 k n x.1 x.2.1 x.2.2.1 x.2.2.2.1 x.2.2.2.2.1) (I_SplitList_ck k) (cutOK_of (l := [(I_SplitList_b1_cut k, sub (bodyOf Go.Proofs.Tryd.f98) [1, 1, 1, 1, 0, 1, 0, 0, 1, 0])]) (by kernel_rfl) ⟨I_SplitList_b1_ok k, trivial⟩) (fun _ => rfl) (fun n x Q R h => by
    simp only [I_SplitList_b0, optK_bind, optK_bif, optK_pure, optK_none, optK_oc, optK_guardT, optK_map] at h
    refine hold_of h ?_
    kernel_rfl) (by kernel_rfl)
def I_SplitList_c69_L (x : (List UInt8) × Bool × (List (List UInt8)) × Unit) (o : (List (List UInt8))) (Q : Ex → VSt D → Prop) (R : VR D → Prop) : Prop := Q .normal (mkSt ⟨[(3, .ref 500003)], [(500003, .row)]⟩ [.sl 9 o])
def I_SplitList_c69_cut (k : Nat) : Cut D := cutS ⟨[(3, .ref 500003), (8, .hole), (69, .hole)], [(500003, .row)]⟩ [.ks, .kb, .kl 9] (fun (x : (List UInt8) × Bool × (List (List UInt8)) × Unit) => I_SplitList_c69 k x.1 x.2.1 x.2.2.1) I_SplitList_c69_L
def I_SplitList_c69_cu (k : Nat) : Cuts D := ⟨[], []⟩
theorem I_SplitList_c69_ok (k : Nat) : CutFor X I_SplitList_pl k Go.Proofs.Tryd.f98.results.toList (I_SplitList_c69_cut k) (sub (bodyOf Go.Proofs.Tryd.f98) [1, 1, 1, 1, 1, 0, 1, 0, 1, 1]) :=
  joinCut_s (X := X) (sg := [.ks, .kb, .kl 9]) (cu := I_SplitList_c69_cu k) (cl := I_SplitList_cl k) (tys := [[9]]) (I_SplitList_ck k) (cutOK_of (l := []) (by kernel_rfl) trivial) fun x Q R h => by
    simp only [I_SplitList_c69, optK_bind, optK_bif, optK_pure, optK_none, optK_oc, optK_guardT, optK_map] at h
    refine hold_of h ?_
    kernel_rfl
def I_SplitList_c63_L (x : (List UInt8) × Int × Bool × (List (List UInt8)) × Unit) (o : (List (List UInt8))) (Q : Ex → VSt D → Prop) (R : VR D → Prop) : Prop := Q .normal (mkSt ⟨[(3, .ref 500003)], [(500003, .row)]⟩ [.sl 9 o])
def I_SplitList_c63_cut (k : Nat) : Cut D := cutS ⟨[(0, .hole), (3, .ref 500003), (4, .hole), (63, .hole)], [(500003, .row)]⟩ [.ks, .ki .i64, .kb, .kl 9] (fun (x : (List UInt8) × Int × Bool × (List (List UInt8)) × Unit) => I_SplitList_c63 k x.1 x.2.1 x.2.2.1 x.2.2.2.1) I_SplitList_c63_L
def I_SplitList_c63_cu (k : Nat) : Cuts D := ⟨[], [(69, some (I_SplitList_c69_cut k))]⟩
theorem I_SplitList_c63_ok (k : Nat) : CutFor X I_SplitList_pl k Go.Proofs.Tryd.f98.results.toList (I_SplitList_c63_cut k) (sub (bodyOf Go.Proofs.Tryd.f98) [1, 1, 1, 1, 1, 0, 1]) :=
  joinCut_s (X := X) (sg := [.ks, .ki .i64, .kb, .kl 9]) (cu := I_SplitList_c63_cu k) (cl := I_SplitList_cl k) (tys := [[9]]) (I_SplitList_ck k) (cutOK_of (l := [(I_SplitList_c69_cut k, sub (bodyOf Go.Proofs.Tryd.f98) [1, 1, 1, 1, 1, 0, 1, 0, 1, 1])]) (by kernel_rfl) ⟨I_SplitList_c69_ok k, trivial⟩) fun x Q R h => by
    simp only [I_SplitList_c63, optK_bind, optK_bif, optK_pure, optK_none, optK_oc, optK_guardT, optK_map] at h
    refine hold_of h ?_
    kernel_rfl
def I_SplitList_cu (k : Nat) : Cuts D := ⟨[(0, some (I_SplitList_b0_cut k))], [(63, some (I_SplitList_c63_cut k))]⟩
def I_SplitList_ar : List Ar := [.c (.ks)]
def I_SplitList_f (k : Nat) (x : TupA D I_SplitList_ar) : Option ((List (List UInt8))) := I_SplitList k x.1
def I_SplitList_vr (r : (List (List UInt8))) : VR D := .p (.c (.sl 9 r))
theorem I_SplitList_ok (k : Nat) : Does P X 98 I_SplitList_ar (I_SplitList_f k) I_SplitList_vr :=
  does_of (body := bodyOf Go.Proofs.Tryd.f98) (pl := I_SplitList_pl) (k := k) (cu := I_SplitList_cu k) (tys := [[9]]) (I_SplitList_ck k) ctx mixed Go.Proofs.Tryd.func98 (by kernel_rfl) (by kernel_rfl) (cutOK_of (l := [(I_SplitList_b0_cut k, sub (bodyOf Go.Proofs.Tryd.f98) [1, 1, 1, 1, 0, 1]), (I_SplitList_c63_cut k, sub (bodyOf Go.Proofs.Tryd.f98) [1, 1, 1, 1, 1, 0, 1])]) (by kernel_rfl) ⟨I_SplitList_b0_ok k, I_SplitList_c63_ok k, trivial⟩) fun x R h => by
    simp only [I_SplitList_f, I_SplitList, optK_bind, optK_bif, optK_pure, optK_none, optK_oc, optK_guardT, optK_map] at h
    refine hold_of h ?_
    kernel_rfl
def I_SplitList_en (k : Nat) : Entry D := entS I_SplitList_ar (I_SplitList_f k) I_SplitList_vr
theorem I_SplitList_eo (k : Nat) : EntryOK X 98 (I_SplitList_en k) := (I_SplitList_ok k).en rfl
def strings_Cut_ar : List Ar := [.c (.ks), .c (.ks)]
def strings_Cut_f (k : Nat) (x : TupA D strings_Cut_ar) : Option ((List UInt8) × (List UInt8) × Bool) := strings_Cut k x.1 x.2.1
def strings_Cut_vr (r : (List UInt8) × (List UInt8) × Bool) : VR D := .tup [.c (.str r.1), .c (.str r.2.1), .c (.bool r.2.2)]
theorem strings_Cut_ok (k : Nat) : Does P X 51 strings_Cut_ar (strings_Cut_f k) strings_Cut_vr := does_cut ⟨Go.Proofs.Tryd.f51, Go.Proofs.Tryd.func51, by kernel_rfl, by kernel_rfl⟩ (fun s sep w hg hs => let ⟨m, hm⟩ := hg; Go.Proofs.Tryd.strings_Cut s sep m w hs hm)
def strings_Cut_en (k : Nat) : Entry D := entS strings_Cut_ar (strings_Cut_f k) strings_Cut_vr
theorem strings_Cut_eo (k : Nat) : EntryOK X 51 (strings_Cut_en k) := (strings_Cut_ok k).en rfl
def I_SplitPair_pl : Plan := ⟨[(0, [(0, none)]), (1, [(5, none), (6, none), (7, none)]), (2, [(2, none), (3, none), (4, none)])],
  [],
  []⟩
def I_SplitPair_cl (k : Nat) : Calls' D := ⟨[(51, strings_Cut_en k), (120, I_TrimText_en k)], [], [], [], []⟩
theorem I_SplitPair_ck (k : Nat) : CallsOK X (I_SplitPair_cl k) := .cons (strings_Cut_eo k) (.cons (I_TrimText_eo k) (.nil cod))
def I_SplitPair_cu (k : Nat) : Cuts D := ⟨[], []⟩
def I_SplitPair_ar : List Ar := [.c (.ks)]
def I_SplitPair_f (k : Nat) (x : TupA D I_SplitPair_ar) : Option ((List UInt8) × (List UInt8) × Bool) := I_SplitPair k x.1
def I_SplitPair_vr (r : (List UInt8) × (List UInt8) × Bool) : VR D := .tup [.c (.str r.1), .c (.str r.2.1), .c (.bool r.2.2)]
theorem I_SplitPair_ok (k : Nat) : Does P X 99 I_SplitPair_ar (I_SplitPair_f k) I_SplitPair_vr :=
  does_of (body := bodyOf Go.Proofs.Tryd.f99) (pl := I_SplitPair_pl) (k := k) (cu := I_SplitPair_cu k) (tys := [[0], [0], [0]]) (I_SplitPair_ck k) ctx mixed Go.Proofs.Tryd.func99 (by kernel_rfl) (by kernel_rfl) (cutOK_of (l := []) (by kernel_rfl) trivial) fun x R h => by
    simp only [I_SplitPair_f, I_SplitPair, optK_bind, optK_bif, optK_pure, optK_none, optK_oc, optK_guardT, optK_map] at h
    refine hold_of h ?_
    kernel_rfl
def I_SplitPair_en (k : Nat) : Entry D := entS I_SplitPair_ar (I_SplitPair_f k) I_SplitPair_vr
theorem I_SplitPair_eo (k : Nat) : EntryOK X 99 (I_SplitPair_en k) := (I_SplitPair_ok k).en rfl
def I_LowerText_pl : Plan := ⟨[(0, [(0, none)]), (1, [(3, some 5)]), (2, [(3, some 5), (8, some 5), (9, none), (10, none)]), (3, [(3, some 5), (8, some 5), (9, none), (10, none), (11, none)]), (4, [(3, some 5), (4, none), (5, none), (8, some 5), (9, none), (10, none)]), (5, [(3, some 5), (4, none), (5, none), (8, some 5), (9, none), (10, none), (20, none)]), (6, [(3, some 5), (8, some 5), (9, none), (10, none)]), (7, [(3, some 5), (8, some 5), (9, none), (10, none)]), (8, [(2, none)])],
  [(0, [(3, some 5)]), (1, [(3, some 5), (8, some 5), (9, none), (10, none)])],
  [(11, ([(3, some 5), (8, some 5), (9, none), (10, none)], [(3, some 5)])), (20, ([(3, some 5), (4, none), (5, none), (8, some 5), (9, none), (10, none)], [(3, some 5), (8, some 5), (9, none), (10, none)]))]⟩
def I_LowerText_cl (k : Nat) : Calls' D := ⟨[], [], [], [], []⟩
theorem I_LowerText_ck (k : Nat) : CallsOK X (I_LowerText_cl k) := .nil cod
def I_LowerText_c20_L (x : Int × Int × Int × Int × Bool × (List Int) × Unit) (o : (List Int)) (Q : Ex → VSt D → Prop) (R : VR D → Prop) : Prop := Q .normal (mkSt ⟨[(3, .ref 500008), (8, .ref 500008), (9, .hole), (10, .hole)], [(500008, .row)]⟩ [.int .i64 x.2.2.1, .int .i64 x.2.2.2.1, .sl 5 o])
def I_LowerText_c20_cut (k : Nat) : Cut D := cutS ⟨[(3, .ref 500008), (4, .hole), (5, .hole), (8, .ref 500008), (9, .hole), (10, .hole), (20, .hole)], [(500008, .row)]⟩ [.ki .i64, .ki .u8, .ki .i64, .ki .i64, .kb, .kl 5] (fun (x : Int × Int × Int × Int × Bool × (List Int) × Unit) => I_LowerText_c20 k x.1 x.2.1 x.2.2.1 x.2.2.2.1 x.2.2.2.2.1 x.2.2.2.2.2.1) I_LowerText_c20_L
def I_LowerText_c20_cu (k : Nat) : Cuts D := ⟨[], []⟩
theorem I_LowerText_c20_ok (k : Nat) : CutFor X I_LowerText_pl k Go.Proofs.Tryd.f100.results.toList (I_LowerText_c20_cut k) (sub (bodyOf Go.Proofs.Tryd.f100) [1, 1, 0, 1, 0, 0, 1, 1, 0, 0, 1, 1]) :=
  joinCut_s (X := X) (sg := [.ki .i64, .ki .u8, .ki .i64, .ki .i64, .kb, .kl 5]) (cu := I_LowerText_c20_cu k) (cl := I_LowerText_cl k) (tys := [[0]]) (I_LowerText_ck k) (cutOK_of (l := []) (by kernel_rfl) trivial) fun x Q R h => by
    simp only [I_LowerText_c20, optK_bind, optK_bif, optK_pure, optK_none, optK_oc, optK_guardT, optK_map] at h
    refine hold_of h ?_
    kernel_rfl
def I_LowerText_b1_L (x : Int × Int × (List Int) × Unit) (o : (List Int)) (Q : Ex → VSt D → Prop) (R : VR D → Prop) : Prop := Q .normal (mkSt ⟨[(3, .ref 500008), (8, .ref 500008), (9, .hole), (10, .hole)], [(500008, .row)]⟩ [.int .i64 x.1, .int .i64 x.2.1, .sl 5 o])
def I_LowerText_b1_cut (k : Nat) : Cut D := cutS ⟨[(3, .ref 500008), (8, .ref 500008), (9, .hole), (10, .hole)], [(500008, .row)]⟩ [.ki .i64, .ki .i64, .kl 5] (fun (x : Int × Int × (List Int) × Unit) => I_LowerText_b1 k x.1 x.2.1 x.2.2.1) I_LowerText_b1_L
def I_LowerText_b1_cu (k : Nat) : Cuts D := ⟨[], [(20, some (I_LowerText_c20_cut k))]⟩
theorem I_LowerText_b1_ok (k : Nat) : CutFor X I_LowerText_pl k Go.Proofs.Tryd.f100.results.toList (I_LowerText_b1_cut k) (sub (bodyOf Go.Proofs.Tryd.f100) [1, 1, 0, 1, 0, 0, 1, 1, 0]) :=
  joinCut_s (X := X) (sg := [.ki .i64, .ki .i64, .kl 5]) (cu := I_LowerText_b1_cu k) (cl := I_LowerText_cl k) (tys := [[0]]) (I_LowerText_ck k) (cutOK_of (l := [(I_LowerText_c20_cut k, sub (bodyOf Go.Proofs.Tryd.f100) [1, 1, 0, 1, 0, 0, 1, 1, 0, 0, 1, 1])]) (by kernel_rfl) ⟨I_LowerText_c20_ok k, trivial⟩) fun x Q R h => by
    simp only [I_LowerText_b1, optK_bind, optK_bif, optK_pure, optK_none, optK_oc, optK_guardT, optK_map] at h
    refine hold_of h ?_
    kernel_rfl
def I_LowerText_b0_L (x : Int × Int × (List Int) × Unit) (o : (List Int)) (Q : Ex → VSt D → Prop) (R : VR D → Prop) : Prop := Q .normal (mkSt ⟨[(3, .ref 500003)], [(500003, .row)]⟩ [.sl 5 o])
def I_LowerText_b0_cut (k : Nat) : Cut D := cutS ⟨[(3, .ref 500008), (8, .ref 500008), (9, .hole), (10, .hole)], [(500008, .row)]⟩ [.ki .i64, .ki .i64, .kl 5] (fun (x : Int × Int × (List Int) × Unit) => I_LowerText_b0 k k x.1 x.2.1 x.2.2.1) I_LowerText_b0_L
def I_LowerText_b0_cu (k : Nat) : Cuts D := ⟨[(1, some (I_LowerText_b1_cut k))], []⟩
theorem I_LowerText_b0_ok (k : Nat) : CutFor X I_LowerText_pl k Go.Proofs.Tryd.f100.results.toList (I_LowerText_b0_cut k) (sub (bodyOf Go.Proofs.Tryd.f100) [1, 1, 0, 1]) :=
  loopCut_s (X := X) (sg := [.ki .i64, .ki .i64, .kl 5]) (cu := I_LowerText_b0_cu k) (cl := I_LowerText_cl k) (tys := [[0]]) (id := 0) (c := sub (bodyOf Go.Proofs.Tryd.f100) [1, 1, 0, 1, 0, 0]) (f := fun n => fun (x : Int × Int × (List Int) × Unit) => I_LowerText_b0 k n x.1 x.2.1 x.2.2.1) (I_LowerText_ck k) (cutOK_of (l := [(I_LowerText_b1_cut k, sub (bodyOf Go.Proofs.Tryd.f100) [1, 1, 0, 1, 0, 0, 1, 1, 0])]) (by kernel_rfl) ⟨I_LowerText_b1_ok k, trivial⟩) (fun _ => rfl) (fun n x Q R h => by
    simp only [I_LowerText_b0, optK_bind, optK_bif, optK_pure, optK_none, optK_oc, optK_guardT, optK_map] at h
    refine hold_of h ?_
    kernel_rfl) (by kernel_rfl)
def I_LowerText_cu (k : Nat) : Cuts D := ⟨[(0, some (I_LowerText_b0_cut k))], []⟩
def I_LowerText_ar : List Ar := [.c (.ks)]
def I_LowerText_f (k : Nat) (x : TupA D I_LowerText_ar) : Option ((List UInt8)) := I_LowerText k x.1
def I_LowerText_vr (r : (List UInt8)) : VR D := .p (.c (.str r))
theorem I_LowerText_ok (k : Nat) : Does P X 100 I_LowerText_ar (I_LowerText_f k) I_LowerText_vr :=
  does_of (body := bodyOf Go.Proofs.Tryd.f100) (pl := I_LowerText_pl) (k := k) (cu := I_LowerText_cu k) (tys := [[0]]) (I_LowerText_ck k) ctx mixed Go.Proofs.Tryd.func100 (by kernel_rfl) (by kernel_rfl) (cutOK_of (l := [(I_LowerText_b0_cut k, sub (bodyOf Go.Proofs.Tryd.f100) [1, 1, 0, 1])]) (by kernel_rfl) ⟨I_LowerText_b0_ok k, trivial⟩) fun x R h => by
    simp only [I_LowerText_f, I_LowerText, optK_bind, optK_bif, optK_pure, optK_none, optK_oc, optK_guardT, optK_map] at h
    refine hold_of h ?_
    kernel_rfl
def I_LowerText_en (k : Nat) : Entry D := entS I_LowerText_ar (I_LowerText_f k) I_LowerText_vr
theorem I_LowerText_eo (k : Nat) : EntryOK X 100 (I_LowerText_en k) := (I_LowerText_ok k).en rfl
def internal_stringslite_HasPrefix_pl : Plan := ⟨[(0, [(0, none), (1, none)]), (1, [(4, none)])],
  [],
  []⟩
def internal_stringslite_HasPrefix_cl (k : Nat) : Calls' D := ⟨[], [], [], [], []⟩
theorem internal_stringslite_HasPrefix_ck (k : Nat) : CallsOK X (internal_stringslite_HasPrefix_cl k) := .nil cod
def internal_stringslite_HasPrefix_cu (k : Nat) : Cuts D := ⟨[], []⟩
def internal_stringslite_HasPrefix_ar : List Ar := [.c (.ks), .c (.ks)]
def internal_stringslite_HasPrefix_f (k : Nat) (x : TupA D internal_stringslite_HasPrefix_ar) : Option (Bool) := internal_stringslite_HasPrefix k x.1 x.2.1
def internal_stringslite_HasPrefix_vr (r : Bool) : VR D := .p (.c (.bool r))
theorem internal_stringslite_HasPrefix_ok (k : Nat) : Does P X 54 internal_stringslite_HasPrefix_ar (internal_stringslite_HasPrefix_f k) internal_stringslite_HasPrefix_vr :=
  does_of (body := bodyOf Go.Proofs.Tryd.f54) (pl := internal_stringslite_HasPrefix_pl) (k := k) (cu := internal_stringslite_HasPrefix_cu k) (tys := [[0]]) (internal_stringslite_HasPrefix_ck k) ctx mixed Go.Proofs.Tryd.func54 (by kernel_rfl) (by kernel_rfl) (cutOK_of (l := []) (by kernel_rfl) trivial) fun x R h => by
    simp only [internal_stringslite_HasPrefix_f, internal_stringslite_HasPrefix, optK_bind, optK_bif, optK_pure, optK_none, optK_oc, optK_guardT, optK_map] at h
    refine hold_of h ?_
    kernel_rfl
def internal_stringslite_HasPrefix_en (k : Nat) : Entry D := entS internal_stringslite_HasPrefix_ar (internal_stringslite_HasPrefix_f k) internal_stringslite_HasPrefix_vr
theorem internal_stringslite_HasPrefix_eo (k : Nat) : EntryOK X 54 (internal_stringslite_HasPrefix_en k) := (internal_stringslite_HasPrefix_ok k).en rfl
def strings_HasPrefix_pl : Plan := ⟨[(0, [(0, none), (1, none)]), (1, [(4, none)])],
  [],
  []⟩
def strings_HasPrefix_cl (k : Nat) : Calls' D := ⟨[(54, internal_stringslite_HasPrefix_en k)], [], [], [], []⟩
theorem strings_HasPrefix_ck (k : Nat) : CallsOK X (strings_HasPrefix_cl k) := .cons (internal_stringslite_HasPrefix_eo k) (.nil cod)
def strings_HasPrefix_cu (k : Nat) : Cuts D := ⟨[], []⟩
def strings_HasPrefix_ar : List Ar := [.c (.ks), .c (.ks)]
def strings_HasPrefix_f (k : Nat) (x : TupA D strings_HasPrefix_ar) : Option (Bool) := strings_HasPrefix k x.1 x.2.1
def strings_HasPrefix_vr (r : Bool) : VR D := .p (.c (.bool r))
theorem strings_HasPrefix_ok (k : Nat) : Does P X 27 strings_HasPrefix_ar (strings_HasPrefix_f k) strings_HasPrefix_vr :=
  does_of (body := bodyOf Go.Proofs.Tryd.f27) (pl := strings_HasPrefix_pl) (k := k) (cu := strings_HasPrefix_cu k) (tys := [[0]]) (strings_HasPrefix_ck k) ctx mixed Go.Proofs.Tryd.func27 (by kernel_rfl) (by kernel_rfl) (cutOK_of (l := []) (by kernel_rfl) trivial) fun x R h => by
    simp only [strings_HasPrefix_f, strings_HasPrefix, optK_bind, optK_bif, optK_pure, optK_none, optK_oc, optK_guardT, optK_map] at h
    refine hold_of h ?_
    kernel_rfl
def strings_HasPrefix_en (k : Nat) : Entry D := entS strings_HasPrefix_ar (strings_HasPrefix_f k) strings_HasPrefix_vr
theorem strings_HasPrefix_eo (k : Nat) : EntryOK X 27 (strings_HasPrefix_en k) := (strings_HasPrefix_ok k).en rfl
def I_UnquoteText_pl : Plan := ⟨[(0, [(0, none)]), (1, [(0, none), (4, some 5)]), (2, [(0, none), (4, some 5), (5, none)]), (3, [(0, none), (4, some 5), (5, none), (16, none)]), (4, [(0, none), (4, some 5), (5, none), (27, none)]), (5, [(0, none), (4, some 5), (5, none)]), (6, [(0, none), (4, some 5), (5, none)]), (7, [(0, none), (4, some 5), (5, none)]), (8, [(2, none), (3, none)])],
  [(0, [(0, none), (4, some 5), (5, none)]), (1, [(0, none), (4, some 5), (5, none)])],
  [(16, ([(0, none), (4, some 5), (5, none)], [(0, none), (4, some 5), (5, none)])), (27, ([(0, none), (4, some 5), (5, none)], [(0, none), (4, some 5), (5, none)]))]⟩
def I_UnquoteText_cl (k : Nat) : Calls' D := ⟨[(27, strings_HasPrefix_en k)], [], [], [], []⟩
theorem I_UnquoteText_ck (k : Nat) : CallsOK X (I_UnquoteText_cl k) := .cons (strings_HasPrefix_eo k) (.nil cod)
def I_UnquoteText_c27_L (x : (List UInt8) × Int × Bool × (List Int) × Unit) (o : Int) (Q : Ex → VSt D → Prop) (R : VR D → Prop) : Prop := Q .normal (mkSt ⟨[(0, .hole), (4, .ref 500004), (5, .hole)], [(500004, .row)]⟩ [.str x.1, .int .i64 o, .sl 5 x.2.2.2.1])
def I_UnquoteText_c27_cut (k : Nat) : Cut D := cutS ⟨[(0, .hole), (4, .ref 500004), (5, .hole), (27, .hole)], [(500004, .row)]⟩ [.ks, .ki .i64, .kb, .kl 5] (fun (x : (List UInt8) × Int × Bool × (List Int) × Unit) => I_UnquoteText_c27 k x.1 x.2.1 x.2.2.1 x.2.2.2.1) I_UnquoteText_c27_L
def I_UnquoteText_c27_cu (k : Nat) : Cuts D := ⟨[], []⟩
theorem I_UnquoteText_c27_ok (k : Nat) : CutFor X I_UnquoteText_pl k Go.Proofs.Tryd.f102.results.toList (I_UnquoteText_c27_cut k) (sub (bodyOf Go.Proofs.Tryd.f102) [1, 1, 1, 0, 0, 0, 1, 0, 0, 1]) :=
  joinCut_s (X := X) (sg := [.ks, .ki .i64, .kb, .kl 5]) (cu := I_UnquoteText_c27_cu k) (cl := I_UnquoteText_cl k) (tys := [[0], [0]]) (I_UnquoteText_ck k) (cutOK_of (l := []) (by kernel_rfl) trivial) fun x Q R h => by
    simp only [I_UnquoteText_c27, optK_bind, optK_bif, optK_pure, optK_none, optK_oc, optK_guardT, optK_map] at h
    refine hold_of h ?_
    kernel_rfl
def I_UnquoteText_b1_L (x : (List UInt8) × Int × (List Int) × Unit) (o : Int × (List Int)) (Q : Ex → VSt D → Prop) (R : VR D → Prop) : Prop := Q .normal (mkSt ⟨[(0, .hole), (4, .ref 500004), (5, .hole)], [(500004, .row)]⟩ [.str x.1, .int .i64 o.1, .sl 5 o.2])
def I_UnquoteText_b1_cut (k : Nat) : Cut D := cutS ⟨[(0, .hole), (4, .ref 500004), (5, .hole)], [(500004, .row)]⟩ [.ks, .ki .i64, .kl 5] (fun (x : (List UInt8) × Int × (List Int) × Unit) => I_UnquoteText_b1 k x.1 x.2.1 x.2.2.1) I_UnquoteText_b1_L
def I_UnquoteText_b1_cu (k : Nat) : Cuts D := ⟨[], [(27, some (I_UnquoteText_c27_cut k))]⟩
theorem I_UnquoteText_b1_ok (k : Nat) : CutFor X I_UnquoteText_pl k Go.Proofs.Tryd.f102.results.toList (I_UnquoteText_b1_cut k) (sub (bodyOf Go.Proofs.Tryd.f102) [1, 1, 1, 0, 0, 0, 1]) :=
  joinCut_s (X := X) (sg := [.ks, .ki .i64, .kl 5]) (cu := I_UnquoteText_b1_cu k) (cl := I_UnquoteText_cl k) (tys := [[0], [0]]) (I_UnquoteText_ck k) (cutOK_of (l := [(I_UnquoteText_c27_cut k, sub (bodyOf Go.Proofs.Tryd.f102) [1, 1, 1, 0, 0, 0, 1, 0, 0, 1])]) (by kernel_rfl) ⟨I_UnquoteText_c27_ok k, trivial⟩) fun x Q R h => by
    simp only [I_UnquoteText_b1, optK_bind, optK_bif, optK_pure, optK_none, optK_oc, optK_guardT, optK_map] at h
    refine hold_of h ?_
    kernel_rfl
def I_UnquoteText_b0_L (x : (List UInt8) × Int × (List Int) × Unit) (o : Int × (List Int)) (Q : Ex → VSt D → Prop) (R : VR D → Prop) : Prop := Q .normal (mkSt ⟨[(0, .hole), (4, .ref 500004), (5, .hole)], [(500004, .row)]⟩ [.str x.1, .int .i64 o.1, .sl 5 o.2])
def I_UnquoteText_b0_cut (k : Nat) : Cut D := cutS ⟨[(0, .hole), (4, .ref 500004), (5, .hole)], [(500004, .row)]⟩ [.ks, .ki .i64, .kl 5] (fun (x : (List UInt8) × Int × (List Int) × Unit) => I_UnquoteText_b0 k k x.1 x.2.1 x.2.2.1) I_UnquoteText_b0_L
def I_UnquoteText_b0_cu (k : Nat) : Cuts D := ⟨[(1, some (I_UnquoteText_b1_cut k))], []⟩
theorem I_UnquoteText_b0_ok (k : Nat) : CutFor X I_UnquoteText_pl k Go.Proofs.Tryd.f102.results.toList (I_UnquoteText_b0_cut k) (sub (bodyOf Go.Proofs.Tryd.f102) [1, 1, 1, 0]) :=
  loopCut_s (X := X) (sg := [.ks, .ki .i64, .kl 5]) (cu := I_UnquoteText_b0_cu k) (cl := I_UnquoteText_cl k) (tys := [[0], [0]]) (id := 0) (c := sub (bodyOf Go.Proofs.Tryd.f102) [1, 1, 1, 0, 0, 0]) (f := fun n => fun (x : (List UInt8) × Int × (List Int) × Unit) => I_UnquoteText_b0 k n x.1 x.2.1 x.2.2.1) (I_UnquoteText_ck k) (cutOK_of (l := [(I_UnquoteText_b1_cut k, sub (bodyOf Go.Proofs.Tryd.f102) [1, 1, 1, 0, 0, 0, 1])]) (by kernel_rfl) ⟨I_UnquoteText_b1_ok k, trivial⟩) (fun _ => rfl) (fun n x Q R h => by
    simp only [I_UnquoteText_b0, optK_bind, optK_bif, optK_pure, optK_none, optK_oc, optK_guardT, optK_map] at h
    refine hold_of h ?_
    kernel_rfl) (by kernel_rfl)
def I_UnquoteText_cu (k : Nat) : Cuts D := ⟨[(0, some (I_UnquoteText_b0_cut k))], []⟩
def I_UnquoteText_ar : List Ar := [.c (.ks)]
def I_UnquoteText_f (k : Nat) (x : TupA D I_UnquoteText_ar) : Option ((List UInt8) × Bool) := I_UnquoteText k x.1
def I_UnquoteText_vr (r : (List UInt8) × Bool) : VR D := .tup [.c (.str r.1), .c (.bool r.2)]
theorem I_UnquoteText_ok (k : Nat) : Does P X 102 I_UnquoteText_ar (I_UnquoteText_f k) I_UnquoteText_vr :=
  does_of (body := bodyOf Go.Proofs.Tryd.f102) (pl := I_UnquoteText_pl) (k := k) (cu := I_UnquoteText_cu k) (tys := [[0], [0]]) (I_UnquoteText_ck k) ctx mixed Go.Proofs.Tryd.func102 (by kernel_rfl) (by kernel_rfl) (cutOK_of (l := [(I_UnquoteText_b0_cut k, sub (bodyOf Go.Proofs.Tryd.f102) [1, 1, 1, 0])]) (by kernel_rfl) ⟨I_UnquoteText_b0_ok k, trivial⟩) fun x R h => by
    simp only [I_UnquoteText_f, I_UnquoteText, optK_bind, optK_bif, optK_pure, optK_none, optK_oc, optK_guardT, optK_map] at h
    refine hold_of h ?_
    kernel_rfl
def I_UnquoteText_en (k : Nat) : Entry D := entS I_UnquoteText_ar (I_UnquoteText_f k) I_UnquoteText_vr
theorem I_UnquoteText_eo (k : Nat) : EntryOK X 102 (I_UnquoteText_en k) := (I_UnquoteText_ok k).en rfl
def strings_IndexByte_ar : List Ar := [.c (.ks), .c (.ki .u8)]
def strings_IndexByte_f (k : Nat) (x : TupA D strings_IndexByte_ar) : Option (Int) := strings_IndexByte k x.1 x.2.1
def strings_IndexByte_vr (r : Int) : VR D := .p (.c (.int .i64 r))
theorem strings_IndexByte_ok (k : Nat) : Does P X 53 strings_IndexByte_ar (strings_IndexByte_f k) strings_IndexByte_vr := does_indexByte ⟨Go.Proofs.Tryd.f53, Go.Proofs.Tryd.func53, by kernel_rfl, by kernel_rfl⟩ (fun s c w hg => Go.Proofs.Tryd.strings_IndexByte s c w)
def strings_IndexByte_en (k : Nat) : Entry D := entS strings_IndexByte_ar (strings_IndexByte_f k) strings_IndexByte_vr
theorem strings_IndexByte_eo (k : Nat) : EntryOK X 53 (strings_IndexByte_en k) := (strings_IndexByte_ok k).en rfl
def I_isTokenByte_pl : Plan := ⟨[(0, [(0, none)]), (1, [(2, none)])],
  [],
  []⟩
def I_isTokenByte_cl (k : Nat) : Calls' D := ⟨[(53, strings_IndexByte_en k)], [], [], [], []⟩
theorem I_isTokenByte_ck (k : Nat) : CallsOK X (I_isTokenByte_cl k) := .cons (strings_IndexByte_eo k) (.nil cod)
def I_isTokenByte_cu (k : Nat) : Cuts D := ⟨[], []⟩
def I_isTokenByte_ar : List Ar := [.c (.ki .u8)]
def I_isTokenByte_f (k : Nat) (x : TupA D I_isTokenByte_ar) : Option (Bool) := I_isTokenByte k x.1
def I_isTokenByte_vr (r : Bool) : VR D := .p (.c (.bool r))
theorem I_isTokenByte_ok (k : Nat) : Does P X 121 I_isTokenByte_ar (I_isTokenByte_f k) I_isTokenByte_vr :=
  does_of (body := bodyOf Go.Proofs.Tryd.f121) (pl := I_isTokenByte_pl) (k := k) (cu := I_isTokenByte_cu k) (tys := [[0]]) (I_isTokenByte_ck k) ctx mixed Go.Proofs.Tryd.func121 (by kernel_rfl) (by kernel_rfl) (cutOK_of (l := []) (by kernel_rfl) trivial) fun x R h => by
    simp only [I_isTokenByte_f, I_isTokenByte, optK_bind, optK_bif, optK_pure, optK_none, optK_oc, optK_guardT, optK_map] at h
    refine hold_of h ?_
    kernel_rfl
def I_isTokenByte_en (k : Nat) : Entry D := entS I_isTokenByte_ar (I_isTokenByte_f k) I_isTokenByte_vr
theorem I_isTokenByte_eo (k : Nat) : EntryOK X 121 (I_isTokenByte_en k) := (I_isTokenByte_ok k).en rfl
def I_inRange_pl : Plan := ⟨[(0, [(0, none), (1, none), (2, none)]), (1, [(6, none)])],
  [],
  []⟩
def I_inRange_cl (k : Nat) : Calls' D := ⟨[], [], [], [], []⟩
theorem I_inRange_ck (k : Nat) : CallsOK X (I_inRange_cl k) := .nil cod
def I_inRange_cu (k : Nat) : Cuts D := ⟨[], []⟩
def I_inRange_ar : List Ar := [.c (.ki .i64), .c (.ki .i64), .c (.ki .i64)]
def I_inRange_f (k : Nat) (x : TupA D I_inRange_ar) : Option (Bool) := I_inRange k x.1 x.2.1 x.2.2.1
def I_inRange_vr (r : Bool) : VR D := .p (.c (.bool r))
theorem I_inRange_ok (k : Nat) : Does P X 122 I_inRange_ar (I_inRange_f k) I_inRange_vr :=
  does_of (body := bodyOf Go.Proofs.Tryd.f122) (pl := I_inRange_pl) (k := k) (cu := I_inRange_cu k) (tys := [[0]]) (I_inRange_ck k) ctx mixed Go.Proofs.Tryd.func122 (by kernel_rfl) (by kernel_rfl) (cutOK_of (l := []) (by kernel_rfl) trivial) fun x R h => by
    simp only [I_inRange_f, I_inRange, optK_bind, optK_bif, optK_pure, optK_none, optK_oc, optK_guardT, optK_map] at h
    refine hold_of h ?_
    kernel_rfl
def I_inRange_en (k : Nat) : Entry D := entS I_inRange_ar (I_inRange_f k) I_inRange_vr
theorem I_inRange_eo (k : Nat) : EntryOK X 122 (I_inRange_en k) := (I_inRange_ok k).en rfl
def I_IsToken_pl : Plan := ⟨[(0, [(0, none)]), (1, [(0, none), (5, none), (6, none)]), (2, [(0, none), (5, none), (6, none), (7, none)]), (3, [(0, none), (3, none), (5, none), (6, none)]), (4, [(0, none), (5, none), (6, none), (13, none)]), (5, [(2, none)]), (6, [(0, none), (5, none), (6, none)]), (7, [(2, none)])],
  [(0, [(0, none)]), (1, [(0, none), (5, none), (6, none)])],
  [(7, ([(0, none), (5, none), (6, none)], [(0, none)])), (13, ([], [(0, none), (5, none), (6, none)]))]⟩
def I_IsToken_cl (k : Nat) : Calls' D := ⟨[(121, I_isTokenByte_en k), (122, I_inRange_en k)], [], [], [], []⟩
theorem I_IsToken_ck (k : Nat) : CallsOK X (I_IsToken_cl k) := .cons (I_isTokenByte_eo k) (.cons (I_inRange_eo k) (.nil cod))
def I_IsToken_b0_L (x : (List UInt8) × Int × Int × Unit) (o : Oc (Unit) (Bool)) (Q : Ex → VSt D → Prop) (R : VR D → Prop) : Prop := ocP o (fun v0 => Q .normal (mkSt ⟨[(0, .hole)], []⟩ [.str x.1])) (fun w0 => R (.p (.c (.bool w0))))
def I_IsToken_b0_cut (k : Nat) : Cut D := cutS ⟨[(0, .hole), (5, .hole), (6, .hole)], []⟩ [.ks, .ki .i64, .ki .i64] (fun (x : (List UInt8) × Int × Int × Unit) => I_IsToken_b0 k k x.1 x.2.1 x.2.2.1) I_IsToken_b0_L
def I_IsToken_b0_cu (k : Nat) : Cuts D := ⟨[], []⟩
theorem I_IsToken_b0_ok (k : Nat) : CutFor X I_IsToken_pl k Go.Proofs.Tryd.f101.results.toList (I_IsToken_b0_cut k) (sub (bodyOf Go.Proofs.Tryd.f101) [1, 0, 1]) :=
  loopCut_s (X := X) (sg := [.ks, .ki .i64, .ki .i64]) (cu := I_IsToken_b0_cu k) (cl := I_IsToken_cl k) (tys := [[0]]) (id := 0) (c := sub (bodyOf Go.Proofs.Tryd.f101) [1, 0, 1, 0, 0]) (f := fun n => fun (x : (List UInt8) × Int × Int × Unit) => I_IsToken_b0 k n x.1 x.2.1 x.2.2.1) (I_IsToken_ck k) (cutOK_of (l := []) (by kernel_rfl) trivial) (fun _ => rfl) (fun n x Q R h => by
    simp only [I_IsToken_b0, optK_bind, optK_bif, optK_pure, optK_none, optK_oc, optK_guardT, optK_map] at h
    refine hold_of h ?_
    kernel_rfl) (by kernel_rfl)
def I_IsToken_cu (k : Nat) : Cuts D := ⟨[(0, some (I_IsToken_b0_cut k))], []⟩
def I_IsToken_ar : List Ar := [.c (.ks)]
def I_IsToken_f (k : Nat) (x : TupA D I_IsToken_ar) : Option (Bool) := I_IsToken k x.1
def I_IsToken_vr (r : Bool) : VR D := .p (.c (.bool r))
theorem I_IsToken_ok (k : Nat) : Does P X 101 I_IsToken_ar (I_IsToken_f k) I_IsToken_vr :=
  does_of (body := bodyOf Go.Proofs.Tryd.f101) (pl := I_IsToken_pl) (k := k) (cu := I_IsToken_cu k) (tys := [[0]]) (I_IsToken_ck k) ctx mixed Go.Proofs.Tryd.func101 (by kernel_rfl) (by kernel_rfl) (cutOK_of (l := [(I_IsToken_b0_cut k, sub (bodyOf Go.Proofs.Tryd.f101) [1, 0, 1])]) (by kernel_rfl) ⟨I_IsToken_b0_ok k, trivial⟩) fun x R h => by
    simp only [I_IsToken_f, I_IsToken, optK_bind, optK_bif, optK_pure, optK_none, optK_oc, optK_guardT, optK_map] at h
    refine hold_of h ?_
    kernel_rfl
def I_IsToken_en (k : Nat) : Entry D := entS I_IsToken_ar (I_IsToken_f k) I_IsToken_vr
theorem I_IsToken_eo (k : Nat) : EntryOK X 101 (I_IsToken_en k) := (I_IsToken_ok k).en rfl
def I_ParseDirectives_pl : Plan := ⟨[(0, [(0, none)]), (1, [(0, none), (3, some 66)]), (2, [(3, some 66), (13, some 9), (14, none), (15, none)]), (3, [(3, some 66), (13, some 9), (14, none), (15, none), (16, none)]), (4, [(3, some 66), (5, none), (13, some 9), (14, none), (15, none)]), (5, [(3, some 66), (6, none), (7, none), (8, none), (13, some 9), (14, none), (15, none)]), (6, [(3, some 66), (6, none), (7, none), (8, none), (9, none), (13, some 9), (14, none), (15, none)]), (7, [(3, some 66), (6, none), (7, none), (8, none), (9, none), (10, none), (13, some 9), (14, none), (15, none)]), (8, [(3, some 66), (6, none), (7, none), (9, none), (10, none), (13, some 9), (14, none), (15, none), (40, none)]), (9, [(3, some 66), (6, none), (9, none), (10, none), (13, some 9), (14, none), (15, none)]), (10, [(3, some 66), (9, none), (13, some 9), (14, none), (15, none), (51, none)]), (11, [(3, some 66), (13, some 9), (14, none), (15, none)]), (12, [(3, some 66), (13, some 9), (14, none), (15, none)]), (13, [(2, some 66)])],
  [(0, [(3, some 66)]), (1, [(3, some 66), (13, some 9), (14, none), (15, none)])],
  [(16, ([(3, some 66), (13, some 9), (14, none), (15, none)], [(3, some 66)])), (40, ([(3, some 66), (6, none), (7, none), (9, none), (13, some 9), (14, none), (15, none)], [(3, some 66), (6, none), (9, none), (10, none), (13, some 9), (14, none), (15, none)])), (51, ([(3, some 66), (9, none), (13, some 9), (14, none), (15, none)], [(3, some 66), (13, some 9), (14, none), (15, none)]))]⟩
def I_ParseDirectives_cl (k : Nat) : Calls' D := ⟨[(98, I_SplitList_en k), (99, I_SplitPair_en k), (100, I_LowerText_en k), (27, strings_HasPrefix_en k), (102, I_UnquoteText_en k), (101, I_IsToken_en k)], [], [], [], []⟩
theorem I_ParseDirectives_ck (k : Nat) : CallsOK X (I_ParseDirectives_cl k) := .cons (I_SplitList_eo k) (.cons (I_SplitPair_eo k) (.cons (I_LowerText_eo k) (.cons (strings_HasPrefix_eo k) (.cons (I_UnquoteText_eo k) (.cons (I_IsToken_eo k) (.nil cod))))))
def I_ParseDirectives_c40_L (x : (List UInt8) × (List UInt8) × Bool × Int × Int × Bool × (List IDirective) × (List UInt8) × (List UInt8) × Bool × (List (List UInt8)) × Unit) (o : Bool × (List UInt8)) (Q : Ex → VSt D → Prop) (R : VR D → Prop) : Prop := Q .normal (mkSt ⟨[(3, .ref 500003), (6, .hole), (9, .ptr 9 0), (10, .hole), (13, .ref 500013), (14, .hole), (15, .hole)], [(500003, .row), (9, .var [.hole, .hole, .hole]), (500013, .row)]⟩ [.str x.1, .bool o.1, .int .i64 x.2.2.2.1, .int .i64 x.2.2.2.2.1, .sl 66 x.2.2.2.2.2.2.1, .str x.2.2.2.2.2.2.2.1, .str o.2, .bool x.2.2.2.2.2.2.2.2.2.1, .sl 9 x.2.2.2.2.2.2.2.2.2.2.1])
def I_ParseDirectives_c40_cut (k : Nat) : Cut D := cutS ⟨[(3, .ref 500003), (6, .hole), (7, .hole), (9, .ptr 9 0), (10, .hole), (13, .ref 500013), (14, .hole), (15, .hole), (40, .hole)], [(500003, .row), (9, .var [.hole, .hole, .hole]), (500013, .row)]⟩ [.ks, .ks, .kb, .ki .i64, .ki .i64, .kb, .kl 66, .ks, .ks, .kb, .kl 9] (fun (x : (List UInt8) × (List UInt8) × Bool × Int × Int × Bool × (List IDirective) × (List UInt8) × (List UInt8) × Bool × (List (List UInt8)) × Unit) => I_ParseDirectives_c40 k x.1 x.2.1 x.2.2.1 x.2.2.2.1 x.2.2.2.2.1 x.2.2.2.2.2.1 x.2.2.2.2.2.2.1 x.2.2.2.2.2.2.2.1 x.2.2.2.2.2.2.2.2.1 x.2.2.2.2.2.2.2.2.2.1 x.2.2.2.2.2.2.2.2.2.2.1) I_ParseDirectives_c40_L
def I_ParseDirectives_c40_cu (k : Nat) : Cuts D := ⟨[], []⟩
theorem I_ParseDirectives_c40_ok (k : Nat) : CutFor X I_ParseDirectives_pl k Go.Proofs.Tryd.f69.results.toList (I_ParseDirectives_c40_cut k) (sub (bodyOf Go.Proofs.Tryd.f69) [1, 1, 0, 1, 0, 0, 1, 1, 0, 0, 1, 1, 1, 1, 0, 1]) :=
  joinCut_s (X := X) (sg := [.ks, .ks, .kb, .ki .i64, .ki .i64, .kb, .kl 66, .ks, .ks, .kb, .kl 9]) (cu := I_ParseDirectives_c40_cu k) (cl := I_ParseDirectives_cl k) (tys := [[66]]) (I_ParseDirectives_ck k) (cutOK_of (l := []) (by kernel_rfl) trivial) fun x Q R h => by
    simp only [I_ParseDirectives_c40, optK_bind, optK_bif, optK_pure, optK_none, optK_oc, optK_guardT, optK_map] at h
    refine hold_of h ?_
    kernel_rfl
def I_ParseDirectives_c51_L (x : Int × Int × Bool × (List IDirective) × (List UInt8) × (List UInt8) × Bool × (List (List UInt8)) × Unit) (o : (List IDirective)) (Q : Ex → VSt D → Prop) (R : VR D → Prop) : Prop := Q .normal (mkSt ⟨[(3, .ref 500003), (13, .ref 500013), (14, .hole), (15, .hole)], [(500003, .row), (500013, .row)]⟩ [.int .i64 x.1, .int .i64 x.2.1, .sl 66 o, .sl 9 x.2.2.2.2.2.2.2.1])
def I_ParseDirectives_c51_cut (k : Nat) : Cut D := cutS ⟨[(3, .ref 500003), (9, .ptr 9 0), (13, .ref 500013), (14, .hole), (15, .hole), (51, .hole)], [(500003, .row), (9, .var [.hole, .hole, .hole]), (500013, .row)]⟩ [.ki .i64, .ki .i64, .kb, .kl 66, .ks, .ks, .kb, .kl 9] (fun (x : Int × Int × Bool × (List IDirective) × (List UInt8) × (List UInt8) × Bool × (List (List UInt8)) × Unit) => I_ParseDirectives_c51 k x.1 x.2.1 x.2.2.1 x.2.2.2.1 x.2.2.2.2.1 x.2.2.2.2.2.1 x.2.2.2.2.2.2.1 x.2.2.2.2.2.2.2.1) I_ParseDirectives_c51_L
def I_ParseDirectives_c51_cu (k : Nat) : Cuts D := ⟨[], []⟩
theorem I_ParseDirectives_c51_ok (k : Nat) : CutFor X I_ParseDirectives_pl k Go.Proofs.Tryd.f69.results.toList (I_ParseDirectives_c51_cut k) (sub (bodyOf Go.Proofs.Tryd.f69) [1, 1, 0, 1, 0, 0, 1, 1, 0, 0, 1, 1, 1, 1, 1, 1]) :=
  joinCut_s (X := X) (sg := [.ki .i64, .ki .i64, .kb, .kl 66, .ks, .ks, .kb, .kl 9]) (cu := I_ParseDirectives_c51_cu k) (cl := I_ParseDirectives_cl k) (tys := [[66]]) (I_ParseDirectives_ck k) (cutOK_of (l := []) (by kernel_rfl) trivial) fun x Q R h => by
    simp only [I_ParseDirectives_c51, optK_bind, optK_bif, optK_pure, optK_none, optK_oc, optK_guardT, optK_map] at h
    refine hold_of h ?_
    kernel_rfl
def I_ParseDirectives_b1_L (x : Int × Int × (List IDirective) × (List (List UInt8)) × Unit) (o : (List IDirective)) (Q : Ex → VSt D → Prop) (R : VR D → Prop) : Prop := Q .normal (mkSt ⟨[(3, .ref 500003), (13, .ref 500013), (14, .hole), (15, .hole)], [(500003, .row), (500013, .row)]⟩ [.int .i64 x.1, .int .i64 x.2.1, .sl 66 o, .sl 9 x.2.2.2.1])
def I_ParseDirectives_b1_cut (k : Nat) : Cut D := cutS ⟨[(3, .ref 500003), (13, .ref 500013), (14, .hole), (15, .hole)], [(500003, .row), (500013, .row)]⟩ [.ki .i64, .ki .i64, .kl 66, .kl 9] (fun (x : Int × Int × (List IDirective) × (List (List UInt8)) × Unit) => I_ParseDirectives_b1 k x.1 x.2.1 x.2.2.1 x.2.2.2.1) I_ParseDirectives_b1_L
def I_ParseDirectives_b1_cu (k : Nat) : Cuts D := ⟨[], [(40, some (I_ParseDirectives_c40_cut k)), (51, some (I_ParseDirectives_c51_cut k))]⟩
theorem I_ParseDirectives_b1_ok (k : Nat) : CutFor X I_ParseDirectives_pl k Go.Proofs.Tryd.f69.results.toList (I_ParseDirectives_b1_cut k) (sub (bodyOf Go.Proofs.Tryd.f69) [1, 1, 0, 1, 0, 0, 1, 1, 0]) :=
  joinCut_s (X := X) (sg := [.ki .i64, .ki .i64, .kl 66, .kl 9]) (cu := I_ParseDirectives_b1_cu k) (cl := I_ParseDirectives_cl k) (tys := [[66]]) (I_ParseDirectives_ck k) (cutOK_of (l := [(I_ParseDirectives_c40_cut k, sub (bodyOf Go.Proofs.Tryd.f69) [1, 1, 0, 1, 0, 0, 1, 1, 0, 0, 1, 1, 1, 1, 0, 1]), (I_ParseDirectives_c51_cut k, sub (bodyOf Go.Proofs.Tryd.f69) [1, 1, 0, 1, 0, 0, 1, 1, 0, 0, 1, 1, 1, 1, 1, 1])]) (by kernel_rfl) ⟨I_ParseDirectives_c40_ok k, I_ParseDirectives_c51_ok k, trivial⟩) fun x Q R h => by
    simp only [I_ParseDirectives_b1, optK_bind, optK_bif, optK_pure, optK_none, optK_oc, optK_guardT, optK_map] at h
    refine hold_of h ?_
    kernel_rfl
def I_ParseDirectives_b0_L (x : Int × Int × (List IDirective) × (List (List UInt8)) × Unit) (o : (List IDirective)) (Q : Ex → VSt D → Prop) (R : VR D → Prop) : Prop := Q .normal (mkSt ⟨[(3, .ref 500003)], [(500003, .row)]⟩ [.sl 66 o])
def I_ParseDirectives_b0_cut (k : Nat) : Cut D := cutS ⟨[(3, .ref 500003), (13, .ref 500013), (14, .hole), (15, .hole)], [(500003, .row), (500013, .row)]⟩ [.ki .i64, .ki .i64, .kl 66, .kl 9] (fun (x : Int × Int × (List IDirective) × (List (List UInt8)) × Unit) => I_ParseDirectives_b0 k k x.1 x.2.1 x.2.2.1 x.2.2.2.1) I_ParseDirectives_b0_L
def I_ParseDirectives_b0_cu (k : Nat) : Cuts D := ⟨[(1, some (I_ParseDirectives_b1_cut k))], []⟩
theorem I_ParseDirectives_b0_ok (k : Nat) : CutFor X I_ParseDirectives_pl k Go.Proofs.Tryd.f69.results.toList (I_ParseDirectives_b0_cut k) (sub (bodyOf Go.Proofs.Tryd.f69) [1, 1, 0, 1]) :=
  loopCut_s (X := X) (sg := [.ki .i64, .ki .i64, .kl 66, .kl 9]) (cu := I_ParseDirectives_b0_cu k) (cl := I_ParseDirectives_cl k) (tys := [[66]]) (id := 0) (c := sub (bodyOf Go.Proofs.Tryd.f69) [1, 1, 0, 1, 0, 0]) (f := fun n => fun (x : Int × Int × (List IDirective) × (List (List UInt8)) × Unit) => I_ParseDirectives_b0 k n x.1 x.2.1 x.2.2.1 x.2.2.2.1) (I_ParseDirectives_ck k) (cutOK_of (l := [(I_ParseDirectives_b1_cut k, sub (bodyOf Go.Proofs.Tryd.f69) [1, 1, 0, 1, 0, 0, 1, 1, 0])]) (by kernel_rfl) ⟨I_ParseDirectives_b1_ok k, trivial⟩) (fun _ => rfl) (fun n x Q R h => by
    simp only [I_ParseDirectives_b0, optK_bind, optK_bif, optK_pure, optK_none, optK_oc, optK_guardT, optK_map] at h
    refine hold_of h ?_
    kernel_rfl) (by kernel_rfl)
def I_ParseDirectives_cu (k : Nat) : Cuts D := ⟨[(0, some (I_ParseDirectives_b0_cut k))], []⟩
def I_ParseDirectives_ar : List Ar := [.c (.ks)]
def I_ParseDirectives_f (k : Nat) (x : TupA D I_ParseDirectives_ar) : Option ((List IDirective)) := I_ParseDirectives k x.1
def I_ParseDirectives_vr (r : (List IDirective)) : VR D := .p (.c (.sl 66 r))
theorem I_ParseDirectives_ok (k : Nat) : Does P X 69 I_ParseDirectives_ar (I_ParseDirectives_f k) I_ParseDirectives_vr :=
  does_of (body := bodyOf Go.Proofs.Tryd.f69) (pl := I_ParseDirectives_pl) (k := k) (cu := I_ParseDirectives_cu k) (tys := [[66]]) (I_ParseDirectives_ck k) ctx mixed Go.Proofs.Tryd.func69 (by kernel_rfl) (by kernel_rfl) (cutOK_of (l := [(I_ParseDirectives_b0_cut k, sub (bodyOf Go.Proofs.Tryd.f69) [1, 1, 0, 1])]) (by kernel_rfl) ⟨I_ParseDirectives_b0_ok k, trivial⟩) fun x R h => by
    simp only [I_ParseDirectives_f, I_ParseDirectives, optK_bind, optK_bif, optK_pure, optK_none, optK_oc, optK_guardT, optK_map] at h
    refine hold_of h ?_
    kernel_rfl
def I_ParseDirectives_en (k : Nat) : Entry D := entS I_ParseDirectives_ar (I_ParseDirectives_f k) I_ParseDirectives_vr
theorem I_ParseDirectives_eo (k : Nat) : EntryOK X 69 (I_ParseDirectives_en k) := (I_ParseDirectives_ok k).en rfl
def I_rulesOf_pl : Plan := ⟨[(0, [(0, some 95)]), (1, [(3, none)]), (2, [(2, some 66)])],
  [],
  []⟩
def I_rulesOf_cl (k : Nat) : Calls' D := ⟨[(68, I_GetField_en k), (69, I_ParseDirectives_en k)], [], [], [], []⟩
theorem I_rulesOf_ck (k : Nat) : CallsOK X (I_rulesOf_cl k) := .cons (I_GetField_eo k) (.cons (I_ParseDirectives_eo k) (.nil cod))
def I_rulesOf_cu (k : Nat) : Cuts D := ⟨[], []⟩
def I_rulesOf_ar : List Ar := [.c (.kl 95)]
def I_rulesOf_f (k : Nat) (x : TupA D I_rulesOf_ar) : Option ((List IDirective)) := I_rulesOf k x.1
def I_rulesOf_vr (r : (List IDirective)) : VR D := .p (.c (.sl 66 r))
theorem I_rulesOf_ok (k : Nat) : Does P X 40 I_rulesOf_ar (I_rulesOf_f k) I_rulesOf_vr :=
  does_of (body := bodyOf Go.Proofs.Tryd.f40) (pl := I_rulesOf_pl) (k := k) (cu := I_rulesOf_cu k) (tys := [[66]]) (I_rulesOf_ck k) ctx mixed Go.Proofs.Tryd.func40 (by kernel_rfl) (by kernel_rfl) (cutOK_of (l := []) (by kernel_rfl) trivial) fun x R h => by
    simp only [I_rulesOf_f, I_rulesOf, optK_bind, optK_bif, optK_pure, optK_none, optK_oc, optK_guardT, optK_map] at h
    refine hold_of h ?_
    kernel_rfl
def I_rulesOf_en (k : Nat) : Entry D := entS I_rulesOf_ar (I_rulesOf_f k) I_rulesOf_vr
theorem I_rulesOf_eo (k : Nat) : EntryOK X 40 (I_rulesOf_en k) := (I_rulesOf_ok k).en rfl
def I_FindDirective_pl : Plan := ⟨[(0, [(0, some 66), (1, none)]), (1, [(1, none), (7, some 66), (8, none), (9, none)]), (2, [(1, none), (7, some 66), (8, none), (9, none), (10, none)]), (3, [(1, none), (5, none), (6, none), (7, some 66), (8, none), (9, none)]), (4, [(1, none), (5, none), (7, some 66), (8, none), (9, none), (17, none)]), (5, [(4, none)]), (6, [(1, none), (7, some 66), (8, none), (9, none)]), (7, [(4, none)])],
  [(0, []), (1, [(1, none), (7, some 66), (8, none), (9, none)])],
  [(10, ([(1, none), (7, some 66), (8, none), (9, none)], [])), (17, ([(5, none)], [(1, none), (7, some 66), (8, none), (9, none)]))]⟩
def I_FindDirective_cl (k : Nat) : Calls' D := ⟨[], [], [], [], []⟩
theorem I_FindDirective_ck (k : Nat) : CallsOK X (I_FindDirective_cl k) := .nil cod
def I_FindDirective_b0_L (x : (List UInt8) × (List IDirective) × Int × Int × Unit) (o : Oc (Unit) (Int)) (Q : Ex → VSt D → Prop) (R : VR D → Prop) : Prop := ocP o (fun v0 => Q .normal (mkSt ⟨[], []⟩ [])) (fun w0 => R (.p (.c (.int .i64 w0))))
def I_FindDirective_b0_cut (k : Nat) : Cut D := cutS ⟨[(1, .hole), (7, .hole), (8, .hole), (9, .hole)], []⟩ [.ks, .kl 66, .ki .i64, .ki .i64] (fun (x : (List UInt8) × (List IDirective) × Int × Int × Unit) => I_FindDirective_b0 k k x.1 x.2.1 x.2.2.1 x.2.2.2.1) I_FindDirective_b0_L
def I_FindDirective_b0_cu (k : Nat) : Cuts D := ⟨[], []⟩
theorem I_FindDirective_b0_ok (k : Nat) : CutFor X I_FindDirective_pl k Go.Proofs.Tryd.f71.results.toList (I_FindDirective_b0_cut k) (sub (bodyOf Go.Proofs.Tryd.f71) [1, 0, 1]) :=
  loopCut_s (X := X) (sg := [.ks, .kl 66, .ki .i64, .ki .i64]) (cu := I_FindDirective_b0_cu k) (cl := I_FindDirective_cl k) (tys := [[0]]) (id := 0) (c := sub (bodyOf Go.Proofs.Tryd.f71) [1, 0, 1, 0, 0]) (f := fun n => fun (x : (List UInt8) × (List IDirective) × Int × Int × Unit) => I_FindDirective_b0 k n x.1 x.2.1 x.2.2.1 x.2.2.2.1) (I_FindDirective_ck k) (cutOK_of (l := []) (by kernel_rfl) trivial) (fun _ => rfl) (fun n x Q R h => by
    simp only [I_FindDirective_b0, optK_bind, optK_bif, optK_pure, optK_none, optK_oc, optK_guardT, optK_map] at h
    refine hold_of h ?_
    kernel_rfl) (by kernel_rfl)
def I_FindDirective_cu (k : Nat) : Cuts D := ⟨[(0, some (I_FindDirective_b0_cut k))], []⟩
def I_FindDirective_ar : List Ar := [.c (.kl 66), .c (.ks)]
def I_FindDirective_f (k : Nat) (x : TupA D I_FindDirective_ar) : Option (Int) := I_FindDirective k x.1 x.2.1
def I_FindDirective_vr (r : Int) : VR D := .p (.c (.int .i64 r))
theorem I_FindDirective_ok (k : Nat) : Does P X 71 I_FindDirective_ar (I_FindDirective_f k) I_FindDirective_vr :=
  does_of (body := bodyOf Go.Proofs.Tryd.f71) (pl := I_FindDirective_pl) (k := k) (cu := I_FindDirective_cu k) (tys := [[0]]) (I_FindDirective_ck k) ctx mixed Go.Proofs.Tryd.func71 (by kernel_rfl) (by kernel_rfl) (cutOK_of (l := [(I_FindDirective_b0_cut k, sub (bodyOf Go.Proofs.Tryd.f71) [1, 0, 1])]) (by kernel_rfl) ⟨I_FindDirective_b0_ok k, trivial⟩) fun x R h => by
    simp only [I_FindDirective_f, I_FindDirective, optK_bind, optK_bif, optK_pure, optK_none, optK_oc, optK_guardT, optK_map] at h
    refine hold_of h ?_
    kernel_rfl
def I_FindDirective_en (k : Nat) : Entry D := entS I_FindDirective_ar (I_FindDirective_f k) I_FindDirective_vr
theorem I_FindDirective_eo (k : Nat) : EntryOK X 71 (I_FindDirective_en k) := (I_FindDirective_ok k).en rfl
def I_SecondsOf_pl : Plan := ⟨[(0, [(0, some 66), (1, none)]), (1, [(0, some 66), (6, none)]), (2, [(0, some 66), (6, none), (14, none)]), (3, [(4, none), (5, none)]), (4, [(0, some 66), (6, none), (7, none)]), (5, [(7, none), (20, some 5), (21, none), (22, none)]), (6, [(7, none), (20, some 5), (21, none), (22, none), (23, none)]), (7, [(7, none), (9, none), (20, some 5), (21, none), (22, none)]), (8, [(7, none), (9, none), (20, some 5), (21, none), (22, none), (31, none)]), (9, [(4, none), (5, none)]), (10, [(7, none), (20, some 5), (21, none), (22, none)]), (11, [(7, none), (20, some 5), (21, none), (22, none)]), (12, [(4, none), (5, none)])],
  [(0, [(7, none)]), (1, [(7, none), (20, some 5), (21, none), (22, none)])],
  [(14, ([], [(0, some 66), (6, none)])), (23, ([(7, none), (20, some 5), (21, none), (22, none)], [(7, none)])), (31, ([], [(7, none), (9, none), (20, some 5), (21, none), (22, none)]))]⟩
def I_SecondsOf_cl (k : Nat) : Calls' D := ⟨[(71, I_FindDirective_en k)], [], [], [], []⟩
theorem I_SecondsOf_ck (k : Nat) : CallsOK X (I_SecondsOf_cl k) := .cons (I_FindDirective_eo k) (.nil cod)
def I_SecondsOf_b0_L (x : Int × Int × Int × (List Int) × Unit) (o : Oc (Int) (Int × Bool)) (Q : Ex → VSt D → Prop) (R : VR D → Prop) : Prop := ocP o (fun v0 => Q .normal (mkSt ⟨[(7, .hole)], []⟩ [.int .i64 v0])) (fun w0 => R (.tup [.c (.int .i64 w0.1), .c (.bool w0.2)]))
def I_SecondsOf_b0_cut (k : Nat) : Cut D := cutS ⟨[(7, .hole), (20, .ref 500020), (21, .hole), (22, .hole)], [(500020, .row)]⟩ [.ki .i64, .ki .i64, .ki .i64, .kl 5] (fun (x : Int × Int × Int × (List Int) × Unit) => I_SecondsOf_b0 k k x.1 x.2.1 x.2.2.1 x.2.2.2.1) I_SecondsOf_b0_L
def I_SecondsOf_b0_cu (k : Nat) : Cuts D := ⟨[], []⟩
theorem I_SecondsOf_b0_ok (k : Nat) : CutFor X I_SecondsOf_pl k Go.Proofs.Tryd.f43.results.toList (I_SecondsOf_b0_cut k) (sub (bodyOf Go.Proofs.Tryd.f43) [1, 1, 1, 1, 0, 1]) :=
  loopCut_s (X := X) (sg := [.ki .i64, .ki .i64, .ki .i64, .kl 5]) (cu := I_SecondsOf_b0_cu k) (cl := I_SecondsOf_cl k) (tys := [[0], [0]]) (id := 0) (c := sub (bodyOf Go.Proofs.Tryd.f43) [1, 1, 1, 1, 0, 1, 0, 0]) (f := fun n => fun (x : Int × Int × Int × (List Int) × Unit) => I_SecondsOf_b0 k n x.1 x.2.1 x.2.2.1 x.2.2.2.1) (I_SecondsOf_ck k) (cutOK_of (l := []) (by kernel_rfl) trivial) (fun _ => rfl) (fun n x Q R h => by
    simp only [I_SecondsOf_b0, optK_bind, optK_bif, optK_pure, optK_none, optK_oc, optK_guardT, optK_map] at h
    refine hold_of h ?_
    kernel_rfl) (by kernel_rfl)
def I_SecondsOf_cu (k : Nat) : Cuts D := ⟨[(0, some (I_SecondsOf_b0_cut k))], []⟩
def I_SecondsOf_ar : List Ar := [.c (.kl 66), .c (.ks)]
def I_SecondsOf_f (k : Nat) (x : TupA D I_SecondsOf_ar) : Option (Int × Bool) := I_SecondsOf k x.1 x.2.1
def I_SecondsOf_vr (r : Int × Bool) : VR D := .tup [.c (.int .i64 r.1), .c (.bool r.2)]
theorem I_SecondsOf_ok (k : Nat) : Does P X 43 I_SecondsOf_ar (I_SecondsOf_f k) I_SecondsOf_vr :=
  does_of (body := bodyOf Go.Proofs.Tryd.f43) (pl := I_SecondsOf_pl) (k := k) (cu := I_SecondsOf_cu k) (tys := [[0], [0]]) (I_SecondsOf_ck k) ctx mixed Go.Proofs.Tryd.func43 (by kernel_rfl) (by kernel_rfl) (cutOK_of (l := [(I_SecondsOf_b0_cut k, sub (bodyOf Go.Proofs.Tryd.f43) [1, 1, 1, 1, 0, 1])]) (by kernel_rfl) ⟨I_SecondsOf_b0_ok k, trivial⟩) fun x R h => by
    simp only [I_SecondsOf_f, I_SecondsOf, optK_bind, optK_bif, optK_pure, optK_none, optK_oc, optK_guardT, optK_map] at h
    refine hold_of h ?_
    kernel_rfl
def I_SecondsOf_en (k : Nat) : Entry D := entS I_SecondsOf_ar (I_SecondsOf_f k) I_SecondsOf_vr
theorem I_SecondsOf_eo (k : Nat) : EntryOK X 43 (I_SecondsOf_en k) := (I_SecondsOf_ok k).en rfl
def I_HasDirective_pl : Plan := ⟨[(0, [(0, some 66), (1, none)]), (1, [(4, none)])],
  [],
  []⟩
def I_HasDirective_cl (k : Nat) : Calls' D := ⟨[(71, I_FindDirective_en k)], [], [], [], []⟩
theorem I_HasDirective_ck (k : Nat) : CallsOK X (I_HasDirective_cl k) := .cons (I_FindDirective_eo k) (.nil cod)
def I_HasDirective_cu (k : Nat) : Cuts D := ⟨[], []⟩
def I_HasDirective_ar : List Ar := [.c (.kl 66), .c (.ks)]
def I_HasDirective_f (k : Nat) (x : TupA D I_HasDirective_ar) : Option (Bool) := I_HasDirective k x.1 x.2.1
def I_HasDirective_vr (r : Bool) : VR D := .p (.c (.bool r))
theorem I_HasDirective_ok (k : Nat) : Does P X 42 I_HasDirective_ar (I_HasDirective_f k) I_HasDirective_vr :=
  does_of (body := bodyOf Go.Proofs.Tryd.f42) (pl := I_HasDirective_pl) (k := k) (cu := I_HasDirective_cu k) (tys := [[0]]) (I_HasDirective_ck k) ctx mixed Go.Proofs.Tryd.func42 (by kernel_rfl) (by kernel_rfl) (cutOK_of (l := []) (by kernel_rfl) trivial) fun x R h => by
    simp only [I_HasDirective_f, I_HasDirective, optK_bind, optK_bif, optK_pure, optK_none, optK_oc, optK_guardT, optK_map] at h
    refine hold_of h ?_
    kernel_rfl
def I_HasDirective_en (k : Nat) : Entry D := entS I_HasDirective_ar (I_HasDirective_f k) I_HasDirective_vr
theorem I_HasDirective_eo (k : Nat) : EntryOK X 42 (I_HasDirective_en k) := (I_HasDirective_ok k).en rfl
def I_hasAny_pl : Plan := ⟨[(0, [(0, some 66), (1, some 9)]), (1, [(0, some 66), (7, some 9), (8, none), (9, none)]), (2, [(0, some 66), (7, some 9), (8, none), (9, none), (10, none)]), (3, [(0, some 66), (6, none), (7, some 9), (8, none), (9, none)]), (4, [(0, some 66), (7, some 9), (8, none), (9, none), (15, none)]), (5, [(4, none)]), (6, [(0, some 66), (7, some 9), (8, none), (9, none)]), (7, [(4, none)])],
  [(0, []), (1, [(0, some 66), (7, some 9), (8, none), (9, none)])],
  [(10, ([(0, some 66), (7, some 9), (8, none), (9, none)], [])), (15, ([], [(0, some 66), (7, some 9), (8, none), (9, none)]))]⟩
def I_hasAny_cl (k : Nat) : Calls' D := ⟨[(42, I_HasDirective_en k)], [], [], [], []⟩
theorem I_hasAny_ck (k : Nat) : CallsOK X (I_hasAny_cl k) := .cons (I_HasDirective_eo k) (.nil cod)
def I_hasAny_b0_L (x : (List IDirective) × (List (List UInt8)) × Int × Int × Unit) (o : Oc (Unit) (Bool)) (Q : Ex → VSt D → Prop) (R : VR D → Prop) : Prop := ocP o (fun v0 => Q .normal (mkSt ⟨[], []⟩ [])) (fun w0 => R (.p (.c (.bool w0))))
def I_hasAny_b0_cut (k : Nat) : Cut D := cutS ⟨[(0, .hole), (7, .hole), (8, .hole), (9, .hole)], []⟩ [.kl 66, .kl 9, .ki .i64, .ki .i64] (fun (x : (List IDirective) × (List (List UInt8)) × Int × Int × Unit) => I_hasAny_b0 k k x.1 x.2.1 x.2.2.1 x.2.2.2.1) I_hasAny_b0_L
def I_hasAny_b0_cu (k : Nat) : Cuts D := ⟨[], []⟩
theorem I_hasAny_b0_ok (k : Nat) : CutFor X I_hasAny_pl k Go.Proofs.Tryd.f70.results.toList (I_hasAny_b0_cut k) (sub (bodyOf Go.Proofs.Tryd.f70) [1, 0, 1]) :=
  loopCut_s (X := X) (sg := [.kl 66, .kl 9, .ki .i64, .ki .i64]) (cu := I_hasAny_b0_cu k) (cl := I_hasAny_cl k) (tys := [[0]]) (id := 0) (c := sub (bodyOf Go.Proofs.Tryd.f70) [1, 0, 1, 0, 0]) (f := fun n => fun (x : (List IDirective) × (List (List UInt8)) × Int × Int × Unit) => I_hasAny_b0 k n x.1 x.2.1 x.2.2.1 x.2.2.2.1) (I_hasAny_ck k) (cutOK_of (l := []) (by kernel_rfl) trivial) (fun _ => rfl) (fun n x Q R h => by
    simp only [I_hasAny_b0, optK_bind, optK_bif, optK_pure, optK_none, optK_oc, optK_guardT, optK_map] at h
    refine hold_of h ?_
    kernel_rfl) (by kernel_rfl)
def I_hasAny_cu (k : Nat) : Cuts D := ⟨[(0, some (I_hasAny_b0_cut k))], []⟩
def I_hasAny_ar : List Ar := [.c (.kl 66), .c (.kl 9)]
def I_hasAny_f (k : Nat) (x : TupA D I_hasAny_ar) : Option (Bool) := I_hasAny k x.1 x.2.1
def I_hasAny_vr (r : Bool) : VR D := .p (.c (.bool r))
theorem I_hasAny_ok (k : Nat) : Does P X 70 I_hasAny_ar (I_hasAny_f k) I_hasAny_vr :=
  does_of (body := bodyOf Go.Proofs.Tryd.f70) (pl := I_hasAny_pl) (k := k) (cu := I_hasAny_cu k) (tys := [[0]]) (I_hasAny_ck k) ctx mixed Go.Proofs.Tryd.func70 (by kernel_rfl) (by kernel_rfl) (cutOK_of (l := [(I_hasAny_b0_cut k, sub (bodyOf Go.Proofs.Tryd.f70) [1, 0, 1])]) (by kernel_rfl) ⟨I_hasAny_b0_ok k, trivial⟩) fun x R h => by
    simp only [I_hasAny_f, I_hasAny, optK_bind, optK_bif, optK_pure, optK_none, optK_oc, optK_guardT, optK_map] at h
    refine hold_of h ?_
    kernel_rfl
def I_hasAny_en (k : Nat) : Entry D := entS I_hasAny_ar (I_hasAny_f k) I_hasAny_vr
theorem I_hasAny_eo (k : Nat) : EntryOK X 70 (I_hasAny_en k) := (I_hasAny_ok k).en rfl
def I_isBound_pl : Plan := ⟨[(0, [(0, some 66)]), (1, [(2, none)])],
  [],
  []⟩
def I_isBound_cl (k : Nat) : Calls' D := ⟨[(70, I_hasAny_en k)], [], [], [], []⟩
theorem I_isBound_ck (k : Nat) : CallsOK X (I_isBound_cl k) := .cons (I_hasAny_eo k) (.nil cod)
def I_isBound_cu (k : Nat) : Cuts D := ⟨[], []⟩
def I_isBound_ar : List Ar := [.c (.kl 66)]
def I_isBound_f (k : Nat) (x : TupA D I_isBound_ar) : Option (Bool) := I_isBound k x.1
def I_isBound_vr (r : Bool) : VR D := .p (.c (.bool r))
theorem I_isBound_ok (k : Nat) : Does P X 41 I_isBound_ar (I_isBound_f k) I_isBound_vr :=
  does_of (body := bodyOf Go.Proofs.Tryd.f41) (pl := I_isBound_pl) (k := k) (cu := I_isBound_cu k) (tys := [[0]]) (I_isBound_ck k) ctx mixed Go.Proofs.Tryd.func41 (by kernel_rfl) (by kernel_rfl) (cutOK_of (l := []) (by kernel_rfl) trivial) fun x R h => by
    simp only [I_isBound_f, I_isBound, optK_bind, optK_bif, optK_pure, optK_none, optK_oc, optK_guardT, optK_map] at h
    refine hold_of h ?_
    kernel_rfl
def I_isBound_en (k : Nat) : Entry D := entS I_isBound_ar (I_isBound_f k) I_isBound_vr
theorem I_isBound_eo (k : Nat) : EntryOK X 41 (I_isBound_en k) := (I_isBound_ok k).en rfl
def I_planFor_pl : Plan := ⟨[(0, [(0, some 66), (1, some 66), (2, none), (3, none)]), (1, [(0, some 66), (1, some 66), (2, none), (3, none), (9, none), (10, none)]), (2, [(0, some 66), (1, some 66), (2, none), (3, none), (9, none), (10, none), (11, none), (12, none)]), (3, [(0, some 66), (1, some 66), (2, none), (3, none), (12, none), (51, none)]), (4, [(8, none)]), (5, [(0, some 66), (1, some 66), (2, none), (3, none), (12, none), (54, none)]), (6, [(8, none)]), (7, [(0, some 66), (1, some 66), (2, none), (3, none), (59, none)]), (8, [(8, none)]), (9, [(0, some 66), (1, some 66), (2, none), (3, none), (13, none)]), (10, [(0, some 66), (1, some 66), (2, none), (3, none), (13, none), (63, none)]), (11, [(0, some 66), (1, some 66), (2, none), (3, none), (13, none), (14, none)]), (12, [(1, some 66), (2, none), (3, none), (81, none)]), (13, [(8, none)]), (14, [(2, none), (3, none), (16, none), (17, none)]), (15, [(94, none)]), (16, [(8, none)]), (17, [(8, none)])],
  [],
  [(51, ([], [(0, some 66), (1, some 66), (2, none), (3, none), (12, none)])), (54, ([], [(0, some 66), (1, some 66), (2, none), (3, none), (12, none)])), (59, ([], [(0, some 66), (1, some 66), (2, none), (3, none)])), (63, ([(0, some 66), (1, some 66), (2, none), (3, none), (13, none)], [(1, some 66), (2, none), (3, none)])), (81, ([], [(1, some 66), (2, none), (3, none)])), (94, ([], []))]⟩
def I_planFor_cl (k : Nat) : Calls' D := ⟨[(43, I_SecondsOf_en k), (42, I_HasDirective_en k), (41, I_isBound_en k), (71, I_FindDirective_en k)], [], [], [], []⟩
theorem I_planFor_ck (k : Nat) : CallsOK X (I_planFor_cl k) := .cons (I_SecondsOf_eo k) (.cons (I_HasDirective_eo k) (.cons (I_isBound_eo k) (.cons (I_FindDirective_eo k) (.nil cod))))
def I_planFor_c63_L (x : (List IDirective) × (List IDirective) × Int × Int × Int × Bool × Unit) (o : Oc (Unit) (Int)) (Q : Ex → VSt D → Prop) (R : VR D → Prop) : Prop := ocP o (fun v0 => Q .normal (mkSt ⟨[(1, .hole), (2, .hole), (3, .hole)], []⟩ [.sl 66 x.2.1, .int .i64 x.2.2.1, .int .i64 x.2.2.2.1])) (fun w0 => R (.p (.c (.int .i64 w0))))
def I_planFor_c63_cut (k : Nat) : Cut D := cutS ⟨[(0, .hole), (1, .hole), (2, .hole), (3, .hole), (13, .hole), (63, .hole)], []⟩ [.kl 66, .kl 66, .ki .i64, .ki .i64, .ki .i64, .kb] (fun (x : (List IDirective) × (List IDirective) × Int × Int × Int × Bool × Unit) => I_planFor_c63 k x.1 x.2.1 x.2.2.1 x.2.2.2.1 x.2.2.2.2.1 x.2.2.2.2.2.1) I_planFor_c63_L
def I_planFor_c63_cu (k : Nat) : Cuts D := ⟨[], []⟩
theorem I_planFor_c63_ok (k : Nat) : CutFor X I_planFor_pl k Go.Proofs.Tryd.f47.results.toList (I_planFor_c63_cut k) (sub (bodyOf Go.Proofs.Tryd.f47) [1, 1, 1, 1, 1, 1, 0, 1, 1]) :=
  joinCut_s (X := X) (sg := [.kl 66, .kl 66, .ki .i64, .ki .i64, .ki .i64, .kb]) (cu := I_planFor_c63_cu k) (cl := I_planFor_cl k) (tys := [[0]]) (I_planFor_ck k) (cutOK_of (l := []) (by kernel_rfl) trivial) fun x Q R h => by
    simp only [I_planFor_c63, optK_bind, optK_bif, optK_pure, optK_none, optK_oc, optK_guardT, optK_map] at h
    refine hold_of h ?_
    kernel_rfl
def I_planFor_cu (k : Nat) : Cuts D := ⟨[], [(63, some (I_planFor_c63_cut k))]⟩
def I_planFor_ar : List Ar := [.c (.kl 66), .c (.kl 66), .c (.ki .i64), .c (.ki .i64)]
def I_planFor_f (k : Nat) (x : TupA D I_planFor_ar) : Option (Int) := I_planFor k x.1 x.2.1 x.2.2.1 x.2.2.2.1
def I_planFor_vr (r : Int) : VR D := .p (.c (.int .i64 r))
theorem I_planFor_ok (k : Nat) : Does P X 47 I_planFor_ar (I_planFor_f k) I_planFor_vr :=
  does_of (body := bodyOf Go.Proofs.Tryd.f47) (pl := I_planFor_pl) (k := k) (cu := I_planFor_cu k) (tys := [[0]]) (I_planFor_ck k) ctx mixed Go.Proofs.Tryd.func47 (by kernel_rfl) (by kernel_rfl) (cutOK_of (l := [(I_planFor_c63_cut k, sub (bodyOf Go.Proofs.Tryd.f47) [1, 1, 1, 1, 1, 1, 0, 1, 1])]) (by kernel_rfl) ⟨I_planFor_c63_ok k, trivial⟩) fun x R h => by
    simp only [I_planFor_f, I_planFor, optK_bind, optK_bif, optK_pure, optK_none, optK_oc, optK_guardT, optK_map] at h
    refine hold_of h ?_
    kernel_rfl
def I_planFor_en (k : Nat) : Entry D := entS I_planFor_ar (I_planFor_f k) I_planFor_vr
theorem I_planFor_eo (k : Nat) : EntryOK X 47 (I_planFor_en k) := (I_planFor_ok k).en rfl
def I_PlanFor_pl : Plan := ⟨[(0, [(2, none), (3, none), (4, none), (5, none)]), (1, [(4, none), (9, none)]), (2, [(9, none), (26, none)]), (3, [(8, none)]), (4, [(8, none)])],
  [],
  [(26, ([], [(9, none)]))]⟩
def I_PlanFor_cl (k : Nat) : Calls' D := ⟨[(40, I_rulesOf_en k), (47, I_planFor_en k), (42, I_HasDirective_en k)], [], [], [], []⟩
theorem I_PlanFor_ck (k : Nat) : CallsOK X (I_PlanFor_cl k) := .cons (I_rulesOf_eo k) (.cons (I_planFor_eo k) (.cons (I_HasDirective_eo k) (.nil cod)))
def I_PlanFor_cu (k : Nat) : Cuts D := ⟨[], []⟩
def I_PlanFor_ar : List Ar := [.a [.ks, .ks, .ks, .kl 95], .a [.ki .i64, .kl 95, .ks], .c (.ki .i64), .c (.ki .i64)]
def I_PlanFor_f (k : Nat) (x : TupA D I_PlanFor_ar) : Option (Int) := I_PlanFor k (⟨x.1.1, x.1.2.1, x.1.2.2.1, x.1.2.2.2.1⟩ : IRequest) (⟨x.2.1.1, x.2.1.2.1, x.2.1.2.2.1⟩ : IResponse) x.2.2.1 x.2.2.2.1
def I_PlanFor_vr (r : Int) : VR D := .p (.c (.int .i64 r))
theorem I_PlanFor_ok (k : Nat) : Does P X 20 I_PlanFor_ar (I_PlanFor_f k) I_PlanFor_vr :=
  does_of (body := bodyOf Go.Proofs.Tryd.f20) (pl := I_PlanFor_pl) (k := k) (cu := I_PlanFor_cu k) (tys := [[0]]) (I_PlanFor_ck k) ctx mixed Go.Proofs.Tryd.func20 (by kernel_rfl) (by kernel_rfl) (cutOK_of (l := []) (by kernel_rfl) trivial) fun x R h => by
    simp only [I_PlanFor_f, I_PlanFor, optK_bind, optK_bif, optK_pure, optK_none, optK_oc, optK_guardT, optK_map] at h
    refine hold_of h ?_
    kernel_rfl
def I_PlanFor_en (k : Nat) : Entry D := entS I_PlanFor_ar (I_PlanFor_f k) I_PlanFor_vr
theorem I_PlanFor_eo (k : Nat) : EntryOK X 20 (I_PlanFor_en k) := (I_PlanFor_ok k).en rfl
def L_eqField_pl : Plan := ⟨[(0, [(2, none), (3, none)]), (1, [(2, none), (3, none), (9, none)]), (2, [(4, none)]), (3, [(14, none)]), (4, [(4, none)]), (5, [(4, none)])],
  [],
  [(9, ([], [(2, none), (3, none)])), (14, ([], []))]⟩
def L_eqField_cl (k : Nat) : Calls' D := ⟨[], [], [], [], []⟩
theorem L_eqField_ck (k : Nat) : CallsOK X (L_eqField_cl k) := .nil cod
def L_eqField_cu (k : Nat) : Cuts D := ⟨[], []⟩
def L_eqField_ar : List Ar := [.a [.ks, .ks], .a [.ks, .ks]]
def L_eqField_f (k : Nat) (x : TupA D L_eqField_ar) : Option (Bool) := L_eqField k (⟨x.1.1, x.1.2.1⟩ : IField) (⟨x.2.1.1, x.2.1.2.1⟩ : IField)
def L_eqField_vr (r : Bool) : VR D := .p (.c (.bool r))
theorem L_eqField_ok (k : Nat) : Does P X 72 L_eqField_ar (L_eqField_f k) L_eqField_vr :=
  does_of (body := bodyOf Go.Proofs.Tryd.f72) (pl := L_eqField_pl) (k := k) (cu := L_eqField_cu k) (tys := [[0]]) (L_eqField_ck k) ctx mixed Go.Proofs.Tryd.func72 (by kernel_rfl) (by kernel_rfl) (cutOK_of (l := []) (by kernel_rfl) trivial) fun x R h => by
    simp only [L_eqField_f, L_eqField, optK_bind, optK_bif, optK_pure, optK_none, optK_oc, optK_guardT, optK_map] at h
    refine hold_of h ?_
    kernel_rfl
def L_eqField_en (k : Nat) : Entry D := entS L_eqField_ar (L_eqField_f k) L_eqField_vr
theorem L_eqField_eo (k : Nat) : EntryOK X 72 (L_eqField_en k) := (L_eqField_ok k).en rfl
def L_eqFieldS_pl : Plan := ⟨[(0, [(0, some 95), (1, some 95)]), (1, [(0, some 95), (1, some 95), (10, none)]), (2, [(4, none)]), (3, [(0, some 95), (1, some 95), (5, none)]), (4, [(0, some 95), (1, some 95), (5, none), (14, none)]), (5, [(0, some 95), (1, some 95), (5, none)]), (6, [(0, some 95), (1, some 95), (5, none), (26, none)]), (7, [(4, none)]), (8, [(4, none)])],
  [(0, []), (1, [(0, some 95), (1, some 95), (5, none)])],
  [(10, ([], [(0, some 95), (1, some 95)])), (14, ([(0, some 95), (1, some 95), (5, none)], [])), (26, ([], [(0, some 95), (1, some 95), (5, none)]))]⟩
def L_eqFieldS_cl (k : Nat) : Calls' D := ⟨[(72, L_eqField_en k)], [], [], [], []⟩
theorem L_eqFieldS_ck (k : Nat) : CallsOK X (L_eqFieldS_cl k) := .cons (L_eqField_eo k) (.nil cod)
def L_eqFieldS_b0_L (x : (List IField) × (List IField) × Int × Unit) (o : Oc (Unit) (Bool)) (Q : Ex → VSt D → Prop) (R : VR D → Prop) : Prop := ocP o (fun v0 => Q .normal (mkSt ⟨[], []⟩ [])) (fun w0 => R (.p (.c (.bool w0))))
def L_eqFieldS_b0_cut (k : Nat) : Cut D := cutS ⟨[(0, .hole), (1, .hole), (5, .hole)], []⟩ [.kl 95, .kl 95, .ki .i64] (fun (x : (List IField) × (List IField) × Int × Unit) => L_eqFieldS_b0 k k x.1 x.2.1 x.2.2.1) L_eqFieldS_b0_L
def L_eqFieldS_b0_cu (k : Nat) : Cuts D := ⟨[], []⟩
theorem L_eqFieldS_b0_ok (k : Nat) : CutFor X L_eqFieldS_pl k Go.Proofs.Tryd.f44.results.toList (L_eqFieldS_b0_cut k) (sub (bodyOf Go.Proofs.Tryd.f44) [1, 1, 0, 1]) :=
  loopCut_s (X := X) (sg := [.kl 95, .kl 95, .ki .i64]) (cu := L_eqFieldS_b0_cu k) (cl := L_eqFieldS_cl k) (tys := [[0]]) (id := 0) (c := sub (bodyOf Go.Proofs.Tryd.f44) [1, 1, 0, 1, 0, 0]) (f := fun n => fun (x : (List IField) × (List IField) × Int × Unit) => L_eqFieldS_b0 k n x.1 x.2.1 x.2.2.1) (L_eqFieldS_ck k) (cutOK_of (l := []) (by kernel_rfl) trivial) (fun _ => rfl) (fun n x Q R h => by
    simp only [L_eqFieldS_b0, optK_bind, optK_bif, optK_pure, optK_none, optK_oc, optK_guardT, optK_map] at h
    refine hold_of h ?_
    kernel_rfl) (by kernel_rfl)
def L_eqFieldS_cu (k : Nat) : Cuts D := ⟨[(0, some (L_eqFieldS_b0_cut k))], []⟩
def L_eqFieldS_ar : List Ar := [.c (.kl 95), .c (.kl 95)]
def L_eqFieldS_f (k : Nat) (x : TupA D L_eqFieldS_ar) : Option (Bool) := L_eqFieldS k x.1 x.2.1
def L_eqFieldS_vr (r : Bool) : VR D := .p (.c (.bool r))
theorem L_eqFieldS_ok (k : Nat) : Does P X 44 L_eqFieldS_ar (L_eqFieldS_f k) L_eqFieldS_vr :=
  does_of (body := bodyOf Go.Proofs.Tryd.f44) (pl := L_eqFieldS_pl) (k := k) (cu := L_eqFieldS_cu k) (tys := [[0]]) (L_eqFieldS_ck k) ctx mixed Go.Proofs.Tryd.func44 (by kernel_rfl) (by kernel_rfl) (cutOK_of (l := [(L_eqFieldS_b0_cut k, sub (bodyOf Go.Proofs.Tryd.f44) [1, 1, 0, 1])]) (by kernel_rfl) ⟨L_eqFieldS_b0_ok k, trivial⟩) fun x R h => by
    simp only [L_eqFieldS_f, L_eqFieldS, optK_bind, optK_bif, optK_pure, optK_none, optK_oc, optK_guardT, optK_map] at h
    refine hold_of h ?_
    kernel_rfl
def L_eqFieldS_en (k : Nat) : Entry D := entS L_eqFieldS_ar (L_eqFieldS_f k) L_eqFieldS_vr
theorem L_eqFieldS_eo (k : Nat) : EntryOK X 44 (L_eqFieldS_en k) := (L_eqFieldS_ok k).en rfl
def L_eqRequest_pl : Plan := ⟨[(0, [(2, none), (3, none)]), (1, [(2, none), (3, none), (9, none)]), (2, [(4, none)]), (3, [(2, none), (3, none), (14, none)]), (4, [(4, none)]), (5, [(2, none), (3, none), (19, none)]), (6, [(4, none)]), (7, [(25, none)]), (8, [(4, none)]), (9, [(4, none)])],
  [],
  [(9, ([], [(2, none), (3, none)])), (14, ([], [(2, none), (3, none)])), (19, ([], [(2, none), (3, none)])), (25, ([], []))]⟩
def L_eqRequest_cl (k : Nat) : Calls' D := ⟨[(44, L_eqFieldS_en k)], [], [], [], []⟩
theorem L_eqRequest_ck (k : Nat) : CallsOK X (L_eqRequest_cl k) := .cons (L_eqFieldS_eo k) (.nil cod)
def L_eqRequest_cu (k : Nat) : Cuts D := ⟨[], []⟩
def L_eqRequest_ar : List Ar := [.a [.ks, .ks, .ks, .kl 95], .a [.ks, .ks, .ks, .kl 95]]
def L_eqRequest_f (k : Nat) (x : TupA D L_eqRequest_ar) : Option (Bool) := L_eqRequest k (⟨x.1.1, x.1.2.1, x.1.2.2.1, x.1.2.2.2.1⟩ : IRequest) (⟨x.2.1.1, x.2.1.2.1, x.2.1.2.2.1, x.2.1.2.2.2.1⟩ : IRequest)
def L_eqRequest_vr (r : Bool) : VR D := .p (.c (.bool r))
theorem L_eqRequest_ok (k : Nat) : Does P X 17 L_eqRequest_ar (L_eqRequest_f k) L_eqRequest_vr :=
  does_of (body := bodyOf Go.Proofs.Tryd.f17) (pl := L_eqRequest_pl) (k := k) (cu := L_eqRequest_cu k) (tys := [[0]]) (L_eqRequest_ck k) ctx mixed Go.Proofs.Tryd.func17 (by kernel_rfl) (by kernel_rfl) (cutOK_of (l := []) (by kernel_rfl) trivial) fun x R h => by
    simp only [L_eqRequest_f, L_eqRequest, optK_bind, optK_bif, optK_pure, optK_none, optK_oc, optK_guardT, optK_map] at h
    refine hold_of h ?_
    kernel_rfl
def L_eqRequest_en (k : Nat) : Entry D := entS L_eqRequest_ar (L_eqRequest_f k) L_eqRequest_vr
theorem L_eqRequest_eo (k : Nat) : EntryOK X 17 (L_eqRequest_en k) := (L_eqRequest_ok k).en rfl
def L_eqResponse_pl : Plan := ⟨[(0, [(2, none), (3, none)]), (1, [(2, none), (3, none), (9, none)]), (2, [(4, none)]), (3, [(2, none), (3, none), (15, none)]), (4, [(4, none)]), (5, [(20, none)]), (6, [(4, none)]), (7, [(4, none)])],
  [],
  [(9, ([], [(2, none), (3, none)])), (15, ([], [(2, none), (3, none)])), (20, ([], []))]⟩
def L_eqResponse_cl (k : Nat) : Calls' D := ⟨[(44, L_eqFieldS_en k)], [], [], [], []⟩
theorem L_eqResponse_ck (k : Nat) : CallsOK X (L_eqResponse_cl k) := .cons (L_eqFieldS_eo k) (.nil cod)
def L_eqResponse_cu (k : Nat) : Cuts D := ⟨[], []⟩
def L_eqResponse_ar : List Ar := [.a [.ki .i64, .kl 95, .ks], .a [.ki .i64, .kl 95, .ks]]
def L_eqResponse_f (k : Nat) (x : TupA D L_eqResponse_ar) : Option (Bool) := L_eqResponse k (⟨x.1.1, x.1.2.1, x.1.2.2.1⟩ : IResponse) (⟨x.2.1.1, x.2.1.2.1, x.2.1.2.2.1⟩ : IResponse)
def L_eqResponse_vr (r : Bool) : VR D := .p (.c (.bool r))
theorem L_eqResponse_ok (k : Nat) : Does P X 18 L_eqResponse_ar (L_eqResponse_f k) L_eqResponse_vr :=
  does_of (body := bodyOf Go.Proofs.Tryd.f18) (pl := L_eqResponse_pl) (k := k) (cu := L_eqResponse_cu k) (tys := [[0]]) (L_eqResponse_ck k) ctx mixed Go.Proofs.Tryd.func18 (by kernel_rfl) (by kernel_rfl) (cutOK_of (l := []) (by kernel_rfl) trivial) fun x R h => by
    simp only [L_eqResponse_f, L_eqResponse, optK_bind, optK_bif, optK_pure, optK_none, optK_oc, optK_guardT, optK_map] at h
    refine hold_of h ?_
    kernel_rfl
def L_eqResponse_en (k : Nat) : Entry D := entS L_eqResponse_ar (L_eqResponse_f k) L_eqResponse_vr
theorem L_eqResponse_eo (k : Nat) : EntryOK X 18 (L_eqResponse_en k) := (L_eqResponse_ok k).en rfl
def L_FnExactPlanFor_pl : Plan := ⟨[(0, [(2, none), (3, none), (4, none), (5, none)]), (1, [(2, none), (3, none), (4, none), (5, none), (9, none)]), (2, [(2, none), (3, none), (4, none), (5, none), (9, none)]), (3, [(2, none), (3, none), (4, none), (5, none), (9, none), (18, none)]), (4, [(8, none)]), (5, [(2, none), (3, none), (4, none), (5, none), (9, none)]), (6, [(2, none), (3, none), (4, none), (5, none), (23, none)]), (7, [(8, none)]), (8, [(2, none), (3, none), (4, none), (5, none), (10, none)]), (9, [(2, none), (3, none), (4, none), (5, none), (10, none), (11, none)]), (10, [(2, none), (3, none), (4, none), (5, none), (10, none), (11, none), (12, none)]), (11, [(4, none), (5, none), (10, none), (11, none), (12, none), (13, none)]), (12, [(4, none), (5, none), (11, none), (12, none), (42, none)]), (13, [(8, none)]), (14, [(5, none), (12, none), (47, none)]), (15, [(8, none)]), (16, [(52, none)]), (17, [(8, none)]), (18, [(8, none)])],
  [],
  [(18, ([], [(2, none), (3, none), (4, none), (5, none), (9, none)])), (23, ([], [(2, none), (3, none), (4, none), (5, none)])), (42, ([], [(4, none), (5, none), (11, none), (12, none)])), (47, ([], [(5, none), (12, none)])), (52, ([], []))]⟩
def L_FnExactPlanFor_cl (k : Nat) : Calls' D := ⟨[(11, L_szRequest_en k), (12, L_szResponse_en k), (14, L_toRequest_en k), (15, L_toResponse_en k), (19, S_PlanFor_en k), (20, I_PlanFor_en k), (17, L_eqRequest_en k), (18, L_eqResponse_en k)], [], [], [], []⟩
theorem L_FnExactPlanFor_ck (k : Nat) : CallsOK X (L_FnExactPlanFor_cl k) := .cons (L_szRequest_eo k) (.cons (L_szResponse_eo k) (.cons (L_toRequest_eo k) (.cons (L_toResponse_eo k) (.cons (S_PlanFor_eo k) (.cons (I_PlanFor_eo k) (.cons (L_eqRequest_eo k) (.cons (L_eqResponse_eo k) (.nil cod))))))))
def L_FnExactPlanFor_cu (k : Nat) : Cuts D := ⟨[], []⟩
def L_FnExactPlanFor_ar : List Ar := [.a [.ks, .ks, .ks, .kl 90], .a [.ki .i64, .kl 90, .ks], .c (.ki .i64), .c (.ki .i64)]
def L_FnExactPlanFor_f (k : Nat) (x : TupA D L_FnExactPlanFor_ar) : Option (Bool) := L_FnExactPlanFor k (⟨x.1.1, x.1.2.1, x.1.2.2.1, x.1.2.2.2.1⟩ : LRequest) (⟨x.2.1.1, x.2.1.2.1, x.2.1.2.2.1⟩ : LResponse) x.2.2.1 x.2.2.2.1
def L_FnExactPlanFor_vr (r : Bool) : VR D := .p (.c (.bool r))
theorem L_FnExactPlanFor_ok (k : Nat) : Does P X 6 L_FnExactPlanFor_ar (L_FnExactPlanFor_f k) L_FnExactPlanFor_vr :=
  does_of (body := bodyOf Go.Proofs.Tryd.f6) (pl := L_FnExactPlanFor_pl) (k := k) (cu := L_FnExactPlanFor_cu k) (tys := [[0]]) (L_FnExactPlanFor_ck k) ctx mixed Go.Proofs.Tryd.func6 (by kernel_rfl) (by kernel_rfl) (cutOK_of (l := []) (by kernel_rfl) trivial) fun x R h => by
    simp only [L_FnExactPlanFor_f, L_FnExactPlanFor, optK_bind, optK_bif, optK_pure, optK_none, optK_oc, optK_guardT, optK_map] at h
    refine hold_of h ?_
    kernel_rfl
def L_FnExactPlanFor_en (k : Nat) : Entry D := entS L_FnExactPlanFor_ar (L_FnExactPlanFor_f k) L_FnExactPlanFor_vr
theorem L_FnExactPlanFor_eo (k : Nat) : EntryOK X 6 (L_FnExactPlanFor_en k) := (L_FnExactPlanFor_ok k).en rfl

end
end Go.YtbfkbplolhniiaaDoor
