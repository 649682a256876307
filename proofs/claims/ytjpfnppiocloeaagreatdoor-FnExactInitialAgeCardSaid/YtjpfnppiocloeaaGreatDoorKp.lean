/- The machine computes the functions. Nothing is claimed here. -/
import Derived.Test.YtjpfnppiocloeaaGreatDoorKf
import Derived.Test.YtjpfnppiocloeaaGreatDoorShelf
set_option linter.unusedVariables false
set_option linter.unusedSimpArgs false
set_option maxRecDepth 100000
namespace Go.YtjpfnppiocloeaaGreatDoor
open Go Go.RowKit Go.Pv
noncomputable section

def L_szField_pl : Plan := ⟨[(0, [(1, none), (2, none)]), (1, [(1, none), (2, none)]), (2, [(1, none), (2, none), (11, none)]), (3, [(4, none)]), (4, [(1, none)]), (5, [(1, none), (18, none)]), (6, [(4, none)]), (7, [(4, none)])],
  [],
  [(11, ([], [(1, none), (2, none)])), (18, ([], [(1, none)]))]⟩
def L_szField_cl (k : Nat) : Calls' D := ⟨[], [], [], [], []⟩
theorem L_szField_ck (k : Nat) : CallsOK X (L_szField_cl k) := .nil cod
def L_szField_cu (k : Nat) : Cuts D := ⟨[], []⟩
def L_szField_ar : List Ar := [.a [.ks, .ks], .c (.ki .i64)]
def L_szField_f (k : Nat) (x : TupA D L_szField_ar) : Option (Int) := L_szField k (⟨x.1.1, x.1.2.1⟩ : LField) x.2.1
def L_szField_vr (r : Int) : VR D := .p (.c (.int .i64 r))
theorem L_szField_ok (k : Nat) : Does P X 73 L_szField_ar (L_szField_f k) L_szField_vr :=
  does_of (body := bodyOf Go.Proofs.Tryz.f73) (pl := L_szField_pl) (k := k) (cu := L_szField_cu k) (tys := [[0]]) (L_szField_ck k) ctx mixed Go.Proofs.Tryz.func73 (by kernel_rfl) (by kernel_rfl) (cutOK_of (l := []) (by kernel_rfl) trivial) fun x R h => by
    simp only [L_szField_f, L_szField, optK_bind, optK_bif, optK_pure, optK_none, optK_oc, optK_guardT, optK_map] at h
    refine hold_of h ?_
    kernel_rfl
def L_szField_en (k : Nat) : Entry D := entS L_szField_ar (L_szField_f k) L_szField_vr
theorem L_szField_eo (k : Nat) : EntryOK X 73 (L_szField_en k) := (L_szField_ok k).en rfl
def L_szFieldS_pl : Plan := ⟨[(0, [(0, some 100), (1, none)]), (1, [(0, some 100), (1, none)]), (2, [(0, some 100), (1, none), (11, none)]), (3, [(4, none)]), (4, [(0, some 100), (1, none), (5, none)]), (5, [(0, some 100), (1, none), (5, none), (15, none)]), (6, [(0, some 100), (1, none), (5, none)]), (7, [(0, some 100), (1, none), (5, none)]), (8, [(0, some 100), (1, none), (5, none), (25, none)]), (9, [(4, none)]), (10, [(4, none)])],
  [(0, [(1, none)]), (1, [(0, some 100), (1, none), (5, none)])],
  [(11, ([], [(0, some 100), (1, none)])), (15, ([(0, some 100), (1, none), (5, none)], [(1, none)])), (25, ([], [(0, some 100), (1, none), (5, none)]))]⟩
def L_szFieldS_cl (k : Nat) : Calls' D := ⟨[(73, L_szField_en k)], [], [], [], []⟩
theorem L_szFieldS_ck (k : Nat) : CallsOK X (L_szFieldS_cl k) := .cons (L_szField_eo k) (.nil cod)
def L_szFieldS_b0_L (x : (List LField) × Int × Int × Unit) (o : Oc (Int) (Int)) (Q : Ex → VSt D → Prop) (R : VR D → Prop) : Prop := ocP o (fun v0 => Q .normal (mkSt ⟨[(1, .hole)], []⟩ [.int .i64 v0])) (fun w0 => R (.p (.c (.int .i64 w0))))
def L_szFieldS_b0_cut (k : Nat) : Cut D := cutS ⟨[(0, .hole), (1, .hole), (5, .hole)], []⟩ [.kl 100, .ki .i64, .ki .i64] (fun (x : (List LField) × Int × Int × Unit) => L_szFieldS_b0 k k x.1 x.2.1 x.2.2.1) L_szFieldS_b0_L
def L_szFieldS_b0_cu (k : Nat) : Cuts D := ⟨[], []⟩
theorem L_szFieldS_b0_ok (k : Nat) : CutFor X L_szFieldS_pl k Go.Proofs.Tryz.f33.results.toList (L_szFieldS_b0_cut k) (sub (bodyOf Go.Proofs.Tryz.f33) [1, 1, 1, 0, 1]) :=
  loopCut_s (X := X) (sg := [.kl 100, .ki .i64, .ki .i64]) (cu := L_szFieldS_b0_cu k) (cl := L_szFieldS_cl k) (tys := [[0]]) (id := 0) (c := sub (bodyOf Go.Proofs.Tryz.f33) [1, 1, 1, 0, 1, 0, 0]) (f := fun n => fun (x : (List LField) × Int × Int × Unit) => L_szFieldS_b0 k n x.1 x.2.1 x.2.2.1) (L_szFieldS_ck k) (cutOK_of (l := []) (by kernel_rfl) trivial) (fun _ => rfl) (fun n x Q R h => by
    simp only [L_szFieldS_b0, optK_bind, optK_bif, optK_pure, optK_none, optK_oc, optK_guardT, optK_map] at h
    refine hold_of h ?_
    kernel_rfl) (by kernel_rfl)
def L_szFieldS_cu (k : Nat) : Cuts D := ⟨[(0, some (L_szFieldS_b0_cut k))], []⟩
def L_szFieldS_ar : List Ar := [.c (.kl 100), .c (.ki .i64)]
def L_szFieldS_f (k : Nat) (x : TupA D L_szFieldS_ar) : Option (Int) := L_szFieldS k x.1 x.2.1
def L_szFieldS_vr (r : Int) : VR D := .p (.c (.int .i64 r))
theorem L_szFieldS_ok (k : Nat) : Does P X 33 L_szFieldS_ar (L_szFieldS_f k) L_szFieldS_vr :=
  does_of (body := bodyOf Go.Proofs.Tryz.f33) (pl := L_szFieldS_pl) (k := k) (cu := L_szFieldS_cu k) (tys := [[0]]) (L_szFieldS_ck k) ctx mixed Go.Proofs.Tryz.func33 (by kernel_rfl) (by kernel_rfl) (cutOK_of (l := [(L_szFieldS_b0_cut k, sub (bodyOf Go.Proofs.Tryz.f33) [1, 1, 1, 0, 1])]) (by kernel_rfl) ⟨L_szFieldS_b0_ok k, trivial⟩) fun x R h => by
    simp only [L_szFieldS_f, L_szFieldS, optK_bind, optK_bif, optK_pure, optK_none, optK_oc, optK_guardT, optK_map] at h
    refine hold_of h ?_
    kernel_rfl
def L_szFieldS_en (k : Nat) : Entry D := entS L_szFieldS_ar (L_szFieldS_f k) L_szFieldS_vr
theorem L_szFieldS_eo (k : Nat) : EntryOK X 33 (L_szFieldS_en k) := (L_szFieldS_ok k).en rfl
def L_szResponse_pl : Plan := ⟨[(0, [(1, none), (2, none)]), (1, [(1, none), (2, none)]), (2, [(1, none), (2, none), (10, none)]), (3, [(4, none)]), (4, [(1, none)]), (5, [(1, none), (17, none)]), (6, [(4, none)]), (7, [(4, none)])],
  [],
  [(10, ([], [(1, none), (2, none)])), (17, ([], [(1, none)]))]⟩
def L_szResponse_cl (k : Nat) : Calls' D := ⟨[(33, L_szFieldS_en k)], [], [], [], []⟩
theorem L_szResponse_ck (k : Nat) : CallsOK X (L_szResponse_cl k) := .cons (L_szFieldS_eo k) (.nil cod)
def L_szResponse_cu (k : Nat) : Cuts D := ⟨[], []⟩
def L_szResponse_ar : List Ar := [.a [.ki .i64, .kl 100, .ks], .c (.ki .i64)]
def L_szResponse_f (k : Nat) (x : TupA D L_szResponse_ar) : Option (Int) := L_szResponse k (⟨x.1.1, x.1.2.1, x.1.2.2.1⟩ : LResponse) x.2.1
def L_szResponse_vr (r : Int) : VR D := .p (.c (.int .i64 r))
theorem L_szResponse_ok (k : Nat) : Does P X 20 L_szResponse_ar (L_szResponse_f k) L_szResponse_vr :=
  does_of (body := bodyOf Go.Proofs.Tryz.f20) (pl := L_szResponse_pl) (k := k) (cu := L_szResponse_cu k) (tys := [[0]]) (L_szResponse_ck k) ctx mixed Go.Proofs.Tryz.func20 (by kernel_rfl) (by kernel_rfl) (cutOK_of (l := []) (by kernel_rfl) trivial) fun x R h => by
    simp only [L_szResponse_f, L_szResponse, optK_bind, optK_bif, optK_pure, optK_none, optK_oc, optK_guardT, optK_map] at h
    refine hold_of h ?_
    kernel_rfl
def L_szResponse_en (k : Nat) : Entry D := entS L_szResponse_ar (L_szResponse_f k) L_szResponse_vr
theorem L_szResponse_eo (k : Nat) : EntryOK X 20 (L_szResponse_en k) := (L_szResponse_ok k).en rfl
def L_toField_pl : Plan := ⟨[(0, [(1, none), (2, none)]), (1, [(1, none), (2, none), (3, none)]), (2, [(1, none), (2, none), (3, none)]), (3, [(2, none), (3, none)]), (4, [(2, none)])],
  [],
  []⟩
def L_toField_cl (k : Nat) : Calls' D := ⟨[], [], [], [], []⟩
theorem L_toField_ck (k : Nat) : CallsOK X (L_toField_cl k) := .nil cod
def L_toField_cu (k : Nat) : Cuts D := ⟨[], []⟩
def L_toField_ar : List Ar := [.a [.ks, .ks]]
def L_toField_f (k : Nat) (x : TupA D L_toField_ar) : Option (IField) := L_toField k (⟨x.1.1, x.1.2.1⟩ : LField)
def L_toField_vr (r : IField) : VR D := .p (.agg [.str r.Name, .str r.Value])
theorem L_toField_ok (k : Nat) : Does P X 81 L_toField_ar (L_toField_f k) L_toField_vr :=
  does_of (body := bodyOf Go.Proofs.Tryz.f81) (pl := L_toField_pl) (k := k) (cu := L_toField_cu k) (tys := [[0, 0]]) (L_toField_ck k) ctx mixed Go.Proofs.Tryz.func81 (by kernel_rfl) (by kernel_rfl) (cutOK_of (l := []) (by kernel_rfl) trivial) fun x R h => by
    simp only [L_toField_f, L_toField, optK_bind, optK_bif, optK_pure, optK_none, optK_oc, optK_guardT, optK_map] at h
    refine hold_of h ?_
    kernel_rfl
def L_toField_en (k : Nat) : Entry D := entS L_toField_ar (L_toField_f k) L_toField_vr
theorem L_toField_eo (k : Nat) : EntryOK X 81 (L_toField_en k) := (L_toField_ok k).en rfl
def L_toFieldS_pl : Plan := ⟨[(0, [(0, some 100)]), (1, [(0, some 100), (3, some 107)]), (2, [(0, some 100), (3, some 107), (4, none)]), (3, [(0, some 100), (3, some 107), (4, none), (11, none)]), (4, [(0, some 100), (3, some 107), (4, none)]), (5, [(0, some 100), (3, some 107), (4, none)]), (6, [(2, some 107)])],
  [(0, [(3, some 107)]), (1, [(0, some 100), (3, some 107), (4, none)])],
  [(11, ([(0, some 100), (3, some 107), (4, none)], [(3, some 107)]))]⟩
def L_toFieldS_cl (k : Nat) : Calls' D := ⟨[(81, L_toField_en k)], [], [], [], []⟩
theorem L_toFieldS_ck (k : Nat) : CallsOK X (L_toFieldS_cl k) := .cons (L_toField_eo k) (.nil cod)
def L_toFieldS_b0_L (x : (List LField) × Int × (List IField) × Unit) (o : (List IField)) (Q : Ex → VSt D → Prop) (R : VR D → Prop) : Prop := Q .normal (mkSt ⟨[(3, .ref 500003)], [(500003, .row)]⟩ [.sl 107 o])
def L_toFieldS_b0_cut (k : Nat) : Cut D := cutS ⟨[(0, .hole), (3, .ref 500003), (4, .hole)], [(500003, .row)]⟩ [.kl 100, .ki .i64, .kl 107] (fun (x : (List LField) × Int × (List IField) × Unit) => L_toFieldS_b0 k k x.1 x.2.1 x.2.2.1) L_toFieldS_b0_L
def L_toFieldS_b0_cu (k : Nat) : Cuts D := ⟨[], []⟩
theorem L_toFieldS_b0_ok (k : Nat) : CutFor X L_toFieldS_pl k Go.Proofs.Tryz.f36.results.toList (L_toFieldS_b0_cut k) (sub (bodyOf Go.Proofs.Tryz.f36) [1, 1, 0, 1]) :=
  loopCut_s (X := X) (sg := [.kl 100, .ki .i64, .kl 107]) (cu := L_toFieldS_b0_cu k) (cl := L_toFieldS_cl k) (tys := [[107]]) (id := 0) (c := sub (bodyOf Go.Proofs.Tryz.f36) [1, 1, 0, 1, 0, 0]) (f := fun n => fun (x : (List LField) × Int × (List IField) × Unit) => L_toFieldS_b0 k n x.1 x.2.1 x.2.2.1) (L_toFieldS_ck k) (cutOK_of (l := []) (by kernel_rfl) trivial) (fun _ => rfl) (fun n x Q R h => by
    simp only [L_toFieldS_b0, optK_bind, optK_bif, optK_pure, optK_none, optK_oc, optK_guardT, optK_map] at h
    refine hold_of h ?_
    kernel_rfl) (by kernel_rfl)
def L_toFieldS_cu (k : Nat) : Cuts D := ⟨[(0, some (L_toFieldS_b0_cut k))], []⟩
def L_toFieldS_ar : List Ar := [.c (.kl 100)]
def L_toFieldS_f (k : Nat) (x : TupA D L_toFieldS_ar) : Option ((List IField)) := L_toFieldS k x.1
def L_toFieldS_vr (r : (List IField)) : VR D := .p (.c (.sl 107 r))
theorem L_toFieldS_ok (k : Nat) : Does P X 36 L_toFieldS_ar (L_toFieldS_f k) L_toFieldS_vr :=
  does_of (body := bodyOf Go.Proofs.Tryz.f36) (pl := L_toFieldS_pl) (k := k) (cu := L_toFieldS_cu k) (tys := [[107]]) (L_toFieldS_ck k) ctx mixed Go.Proofs.Tryz.func36 (by kernel_rfl) (by kernel_rfl) (cutOK_of (l := [(L_toFieldS_b0_cut k, sub (bodyOf Go.Proofs.Tryz.f36) [1, 1, 0, 1])]) (by kernel_rfl) ⟨L_toFieldS_b0_ok k, trivial⟩) fun x R h => by
    simp only [L_toFieldS_f, L_toFieldS, optK_bind, optK_bif, optK_pure, optK_none, optK_oc, optK_guardT, optK_map] at h
    refine hold_of h ?_
    kernel_rfl
def L_toFieldS_en (k : Nat) : Entry D := entS L_toFieldS_ar (L_toFieldS_f k) L_toFieldS_vr
theorem L_toFieldS_eo (k : Nat) : EntryOK X 36 (L_toFieldS_en k) := (L_toFieldS_ok k).en rfl
def L_toResponse_pl : Plan := ⟨[(0, [(1, none), (2, none)]), (1, [(1, none), (2, none), (3, none)]), (2, [(1, none), (2, none), (3, none)]), (3, [(1, none), (2, none), (3, none)]), (4, [(2, none), (3, none)]), (5, [(2, none)])],
  [],
  []⟩
def L_toResponse_cl (k : Nat) : Calls' D := ⟨[(36, L_toFieldS_en k)], [], [], [], []⟩
theorem L_toResponse_ck (k : Nat) : CallsOK X (L_toResponse_cl k) := .cons (L_toFieldS_eo k) (.nil cod)
def L_toResponse_cu (k : Nat) : Cuts D := ⟨[], []⟩
def L_toResponse_ar : List Ar := [.a [.ki .i64, .kl 100, .ks]]
def L_toResponse_f (k : Nat) (x : TupA D L_toResponse_ar) : Option (IResponse) := L_toResponse k (⟨x.1.1, x.1.2.1, x.1.2.2.1⟩ : LResponse)
def L_toResponse_vr (r : IResponse) : VR D := .p (.agg [.int .i64 r.Code, .sl 107 r.Fields, .str r.Body])
theorem L_toResponse_ok (k : Nat) : Does P X 22 L_toResponse_ar (L_toResponse_f k) L_toResponse_vr :=
  does_of (body := bodyOf Go.Proofs.Tryz.f22) (pl := L_toResponse_pl) (k := k) (cu := L_toResponse_cu k) (tys := [[0, 107, 0]]) (L_toResponse_ck k) ctx mixed Go.Proofs.Tryz.func22 (by kernel_rfl) (by kernel_rfl) (cutOK_of (l := []) (by kernel_rfl) trivial) fun x R h => by
    simp only [L_toResponse_f, L_toResponse, optK_bind, optK_bif, optK_pure, optK_none, optK_oc, optK_guardT, optK_map] at h
    refine hold_of h ?_
    kernel_rfl
def L_toResponse_en (k : Nat) : Entry D := entS L_toResponse_ar (L_toResponse_f k) L_toResponse_vr
theorem L_toResponse_eo (k : Nat) : EntryOK X 22 (L_toResponse_en k) := (L_toResponse_ok k).en rfl
def S_JoinList_pl : Plan := ⟨[(0, [(0, some 9)]), (1, [(0, some 9), (3, none)]), (2, [(0, some 9), (3, none), (4, none)]), (3, [(0, some 9), (3, none), (4, none), (8, none)]), (4, [(0, some 9), (3, none), (4, none)]), (5, [(0, some 9), (3, none), (4, none), (12, none)]), (6, [(0, some 9), (3, none), (4, none)]), (7, [(0, some 9), (3, none), (4, none)]), (8, [(2, none)])],
  [(0, [(3, none)]), (1, [(0, some 9), (3, none), (4, none)])],
  [(8, ([(0, some 9), (3, none), (4, none)], [(3, none)])), (12, ([(0, some 9), (3, none), (4, none)], [(0, some 9), (3, none), (4, none)]))]⟩
def S_JoinList_cl (k : Nat) : Calls' D := ⟨[], [], [], [], []⟩
theorem S_JoinList_ck (k : Nat) : CallsOK X (S_JoinList_cl k) := .nil cod
def S_JoinList_c12_L (x : (List (List UInt8)) × (List UInt8) × Int × Bool × Unit) (o : (List UInt8)) (Q : Ex → VSt D → Prop) (R : VR D → Prop) : Prop := Q .normal (mkSt ⟨[(0, .hole), (3, .hole), (4, .hole)], []⟩ [.sl 9 x.1, .str o, .int .i64 x.2.2.1])
def S_JoinList_c12_cut (k : Nat) : Cut D := cutS ⟨[(0, .hole), (3, .hole), (4, .hole), (12, .hole)], []⟩ [.kl 9, .ks, .ki .i64, .kb] (fun (x : (List (List UInt8)) × (List UInt8) × Int × Bool × Unit) => S_JoinList_c12 k x.1 x.2.1 x.2.2.1 x.2.2.2.1) S_JoinList_c12_L
def S_JoinList_c12_cu (k : Nat) : Cuts D := ⟨[], []⟩
theorem S_JoinList_c12_ok (k : Nat) : CutFor X S_JoinList_pl k Go.Proofs.Tryz.f117.results.toList (S_JoinList_c12_cut k) (sub (bodyOf Go.Proofs.Tryz.f117) [1, 1, 0, 1, 0, 0, 1, 0, 0, 0, 1]) :=
  joinCut_s (X := X) (sg := [.kl 9, .ks, .ki .i64, .kb]) (cu := S_JoinList_c12_cu k) (cl := S_JoinList_cl k) (tys := [[0]]) (S_JoinList_ck k) (cutOK_of (l := []) (by kernel_rfl) trivial) fun x Q R h => by
    simp only [S_JoinList_c12, optK_bind, optK_bif, optK_pure, optK_none, optK_oc, optK_guardT, optK_map] at h
    refine hold_of h ?_
    kernel_rfl
def S_JoinList_b1_L (x : (List (List UInt8)) × (List UInt8) × Int × Unit) (o : (List UInt8)) (Q : Ex → VSt D → Prop) (R : VR D → Prop) : Prop := Q .normal (mkSt ⟨[(0, .hole), (3, .hole), (4, .hole)], []⟩ [.sl 9 x.1, .str o, .int .i64 x.2.2.1])
def S_JoinList_b1_cut (k : Nat) : Cut D := cutS ⟨[(0, .hole), (3, .hole), (4, .hole)], []⟩ [.kl 9, .ks, .ki .i64] (fun (x : (List (List UInt8)) × (List UInt8) × Int × Unit) => S_JoinList_b1 k x.1 x.2.1 x.2.2.1) S_JoinList_b1_L
def S_JoinList_b1_cu (k : Nat) : Cuts D := ⟨[], [(12, some (S_JoinList_c12_cut k))]⟩
theorem S_JoinList_b1_ok (k : Nat) : CutFor X S_JoinList_pl k Go.Proofs.Tryz.f117.results.toList (S_JoinList_b1_cut k) (sub (bodyOf Go.Proofs.Tryz.f117) [1, 1, 0, 1, 0, 0, 1, 0]) :=
  joinCut_s (X := X) (sg := [.kl 9, .ks, .ki .i64]) (cu := S_JoinList_b1_cu k) (cl := S_JoinList_cl k) (tys := [[0]]) (S_JoinList_ck k) (cutOK_of (l := [(S_JoinList_c12_cut k, sub (bodyOf Go.Proofs.Tryz.f117) [1, 1, 0, 1, 0, 0, 1, 0, 0, 0, 1])]) (by kernel_rfl) ⟨S_JoinList_c12_ok k, trivial⟩) fun x Q R h => by
    simp only [S_JoinList_b1, optK_bind, optK_bif, optK_pure, optK_none, optK_oc, optK_guardT, optK_map] at h
    refine hold_of h ?_
    kernel_rfl
def S_JoinList_b0_L (x : (List (List UInt8)) × (List UInt8) × Int × Unit) (o : (List UInt8)) (Q : Ex → VSt D → Prop) (R : VR D → Prop) : Prop := Q .normal (mkSt ⟨[(3, .hole)], []⟩ [.str o])
def S_JoinList_b0_cut (k : Nat) : Cut D := cutS ⟨[(0, .hole), (3, .hole), (4, .hole)], []⟩ [.kl 9, .ks, .ki .i64] (fun (x : (List (List UInt8)) × (List UInt8) × Int × Unit) => S_JoinList_b0 k k x.1 x.2.1 x.2.2.1) S_JoinList_b0_L
def S_JoinList_b0_cu (k : Nat) : Cuts D := ⟨[(1, some (S_JoinList_b1_cut k))], []⟩
theorem S_JoinList_b0_ok (k : Nat) : CutFor X S_JoinList_pl k Go.Proofs.Tryz.f117.results.toList (S_JoinList_b0_cut k) (sub (bodyOf Go.Proofs.Tryz.f117) [1, 1, 0, 1]) :=
  loopCut_s (X := X) (sg := [.kl 9, .ks, .ki .i64]) (cu := S_JoinList_b0_cu k) (cl := S_JoinList_cl k) (tys := [[0]]) (id := 0) (c := sub (bodyOf Go.Proofs.Tryz.f117) [1, 1, 0, 1, 0, 0]) (f := fun n => fun (x : (List (List UInt8)) × (List UInt8) × Int × Unit) => S_JoinList_b0 k n x.1 x.2.1 x.2.2.1) (S_JoinList_ck k) (cutOK_of (l := [(S_JoinList_b1_cut k, sub (bodyOf Go.Proofs.Tryz.f117) [1, 1, 0, 1, 0, 0, 1, 0])]) (by kernel_rfl) ⟨S_JoinList_b1_ok k, trivial⟩) (fun _ => rfl) (fun n x Q R h => by
    simp only [S_JoinList_b0, optK_bind, optK_bif, optK_pure, optK_none, optK_oc, optK_guardT, optK_map] at h
    refine hold_of h ?_
    kernel_rfl) (by kernel_rfl)
def S_JoinList_cu (k : Nat) : Cuts D := ⟨[(0, some (S_JoinList_b0_cut k))], []⟩
def S_JoinList_ar : List Ar := [.c (.kl 9)]
def S_JoinList_f (k : Nat) (x : TupA D S_JoinList_ar) : Option ((List UInt8)) := S_JoinList k x.1
def S_JoinList_vr (r : (List UInt8)) : VR D := .p (.c (.str r))
theorem S_JoinList_ok (k : Nat) : Does P X 117 S_JoinList_ar (S_JoinList_f k) S_JoinList_vr :=
  does_of (body := bodyOf Go.Proofs.Tryz.f117) (pl := S_JoinList_pl) (k := k) (cu := S_JoinList_cu k) (tys := [[0]]) (S_JoinList_ck k) ctx mixed Go.Proofs.Tryz.func117 (by kernel_rfl) (by kernel_rfl) (cutOK_of (l := [(S_JoinList_b0_cut k, sub (bodyOf Go.Proofs.Tryz.f117) [1, 1, 0, 1])]) (by kernel_rfl) ⟨S_JoinList_b0_ok k, trivial⟩) fun x R h => by
    simp only [S_JoinList_f, S_JoinList, optK_bind, optK_bif, optK_pure, optK_none, optK_oc, optK_guardT, optK_map] at h
    refine hold_of h ?_
    kernel_rfl
def S_JoinList_en (k : Nat) : Entry D := entS S_JoinList_ar (S_JoinList_f k) S_JoinList_vr
theorem S_JoinList_eo (k : Nat) : EntryOK X 117 (S_JoinList_en k) := (S_JoinList_ok k).en rfl
def S_GetField_pl : Plan := ⟨[(0, [(0, some 107), (1, none)]), (1, [(0, some 107), (1, none), (6, some 9)]), (2, [(0, some 107), (1, none), (6, some 9), (7, none)]), (3, [(0, some 107), (1, none), (6, some 9), (7, none), (12, none)]), (4, [(0, some 107), (1, none), (6, some 9), (7, none)]), (5, [(0, some 107), (1, none), (6, some 9), (7, none), (21, none)]), (6, [(0, some 107), (1, none), (6, some 9), (7, none)]), (7, [(4, none), (5, none)])],
  [(0, [(6, some 9)]), (1, [(0, some 107), (1, none), (6, some 9), (7, none)])],
  [(12, ([(0, some 107), (1, none), (6, some 9), (7, none)], [(6, some 9)])), (21, ([(0, some 107), (1, none), (6, some 9), (7, none)], [(0, some 107), (1, none), (6, some 9), (7, none)]))]⟩
def S_GetField_cl (k : Nat) : Calls' D := ⟨[(117, S_JoinList_en k)], [], [], [], []⟩
theorem S_GetField_ck (k : Nat) : CallsOK X (S_GetField_cl k) := .cons (S_JoinList_eo k) (.nil cod)
def S_GetField_c21_L (x : (List IField) × (List UInt8) × Int × Bool × (List (List UInt8)) × Unit) (o : (List (List UInt8))) (Q : Ex → VSt D → Prop) (R : VR D → Prop) : Prop := Q .normal (mkSt ⟨[(0, .hole), (1, .hole), (6, .ref 500006), (7, .hole)], [(500006, .row)]⟩ [.sl 107 x.1, .str x.2.1, .int .i64 x.2.2.1, .sl 9 o])
def S_GetField_c21_cut (k : Nat) : Cut D := cutS ⟨[(0, .hole), (1, .hole), (6, .ref 500006), (7, .hole), (21, .hole)], [(500006, .row)]⟩ [.kl 107, .ks, .ki .i64, .kb, .kl 9] (fun (x : (List IField) × (List UInt8) × Int × Bool × (List (List UInt8)) × Unit) => S_GetField_c21 k x.1 x.2.1 x.2.2.1 x.2.2.2.1 x.2.2.2.2.1) S_GetField_c21_L
def S_GetField_c21_cu (k : Nat) : Cuts D := ⟨[], []⟩
theorem S_GetField_c21_ok (k : Nat) : CutFor X S_GetField_pl k Go.Proofs.Tryz.f54.results.toList (S_GetField_c21_cut k) (sub (bodyOf Go.Proofs.Tryz.f54) [1, 1, 0, 1, 0, 0, 1, 0, 0, 1]) :=
  joinCut_s (X := X) (sg := [.kl 107, .ks, .ki .i64, .kb, .kl 9]) (cu := S_GetField_c21_cu k) (cl := S_GetField_cl k) (tys := [[0], [0]]) (S_GetField_ck k) (cutOK_of (l := []) (by kernel_rfl) trivial) fun x Q R h => by
    simp only [S_GetField_c21, optK_bind, optK_bif, optK_pure, optK_none, optK_oc, optK_guardT, optK_map] at h
    refine hold_of h ?_
    kernel_rfl
def S_GetField_b1_L (x : (List IField) × (List UInt8) × Int × (List (List UInt8)) × Unit) (o : (List (List UInt8))) (Q : Ex → VSt D → Prop) (R : VR D → Prop) : Prop := Q .normal (mkSt ⟨[(0, .hole), (1, .hole), (6, .ref 500006), (7, .hole)], [(500006, .row)]⟩ [.sl 107 x.1, .str x.2.1, .int .i64 x.2.2.1, .sl 9 o])
def S_GetField_b1_cut (k : Nat) : Cut D := cutS ⟨[(0, .hole), (1, .hole), (6, .ref 500006), (7, .hole)], [(500006, .row)]⟩ [.kl 107, .ks, .ki .i64, .kl 9] (fun (x : (List IField) × (List UInt8) × Int × (List (List UInt8)) × Unit) => S_GetField_b1 k x.1 x.2.1 x.2.2.1 x.2.2.2.1) S_GetField_b1_L
def S_GetField_b1_cu (k : Nat) : Cuts D := ⟨[], [(21, some (S_GetField_c21_cut k))]⟩
theorem S_GetField_b1_ok (k : Nat) : CutFor X S_GetField_pl k Go.Proofs.Tryz.f54.results.toList (S_GetField_b1_cut k) (sub (bodyOf Go.Proofs.Tryz.f54) [1, 1, 0, 1, 0, 0, 1, 0]) :=
  joinCut_s (X := X) (sg := [.kl 107, .ks, .ki .i64, .kl 9]) (cu := S_GetField_b1_cu k) (cl := S_GetField_cl k) (tys := [[0], [0]]) (S_GetField_ck k) (cutOK_of (l := [(S_GetField_c21_cut k, sub (bodyOf Go.Proofs.Tryz.f54) [1, 1, 0, 1, 0, 0, 1, 0, 0, 1])]) (by kernel_rfl) ⟨S_GetField_c21_ok k, trivial⟩) fun x Q R h => by
    simp only [S_GetField_b1, optK_bind, optK_bif, optK_pure, optK_none, optK_oc, optK_guardT, optK_map] at h
    refine hold_of h ?_
    kernel_rfl
def S_GetField_b0_L (x : (List IField) × (List UInt8) × Int × (List (List UInt8)) × Unit) (o : (List (List UInt8))) (Q : Ex → VSt D → Prop) (R : VR D → Prop) : Prop := Q .normal (mkSt ⟨[(6, .ref 500006)], [(500006, .row)]⟩ [.sl 9 o])
def S_GetField_b0_cut (k : Nat) : Cut D := cutS ⟨[(0, .hole), (1, .hole), (6, .ref 500006), (7, .hole)], [(500006, .row)]⟩ [.kl 107, .ks, .ki .i64, .kl 9] (fun (x : (List IField) × (List UInt8) × Int × (List (List UInt8)) × Unit) => S_GetField_b0 k k x.1 x.2.1 x.2.2.1 x.2.2.2.1) S_GetField_b0_L
def S_GetField_b0_cu (k : Nat) : Cuts D := ⟨[(1, some (S_GetField_b1_cut k))], []⟩
theorem S_GetField_b0_ok (k : Nat) : CutFor X S_GetField_pl k Go.Proofs.Tryz.f54.results.toList (S_GetField_b0_cut k) (sub (bodyOf Go.Proofs.Tryz.f54) [1, 1, 0, 1]) :=
  loopCut_s (X := X) (sg := [.kl 107, .ks, .ki .i64, .kl 9]) (cu := S_GetField_b0_cu k) (cl := S_GetField_cl k) (tys := [[0], [0]]) (id := 0) (c := sub (bodyOf Go.Proofs.Tryz.f54) [1, 1, 0, 1, 0, 0]) (f := fun n => fun (x : (List IField) × (List UInt8) × Int × (List (List UInt8)) × Unit) => S_GetField_b0 k n x.1 x.2.1 x.2.2.1 x.2.2.2.1) (S_GetField_ck k) (cutOK_of (l := [(S_GetField_b1_cut k, sub (bodyOf Go.Proofs.Tryz.f54) [1, 1, 0, 1, 0, 0, 1, 0])]) (by kernel_rfl) ⟨S_GetField_b1_ok k, trivial⟩) (fun _ => rfl) (fun n x Q R h => by
    simp only [S_GetField_b0, optK_bind, optK_bif, optK_pure, optK_none, optK_oc, optK_guardT, optK_map] at h
    refine hold_of h ?_
    kernel_rfl) (by kernel_rfl)
def S_GetField_cu (k : Nat) : Cuts D := ⟨[(0, some (S_GetField_b0_cut k))], []⟩
def S_GetField_ar : List Ar := [.c (.kl 107), .c (.ks)]
def S_GetField_f (k : Nat) (x : TupA D S_GetField_ar) : Option ((List UInt8) × Bool) := S_GetField k x.1 x.2.1
def S_GetField_vr (r : (List UInt8) × Bool) : VR D := .tup [.c (.str r.1), .c (.bool r.2)]
theorem S_GetField_ok (k : Nat) : Does P X 54 S_GetField_ar (S_GetField_f k) S_GetField_vr :=
  does_of (body := bodyOf Go.Proofs.Tryz.f54) (pl := S_GetField_pl) (k := k) (cu := S_GetField_cu k) (tys := [[0], [0]]) (S_GetField_ck k) ctx mixed Go.Proofs.Tryz.func54 (by kernel_rfl) (by kernel_rfl) (cutOK_of (l := [(S_GetField_b0_cut k, sub (bodyOf Go.Proofs.Tryz.f54) [1, 1, 0, 1])]) (by kernel_rfl) ⟨S_GetField_b0_ok k, trivial⟩) fun x R h => by
    simp only [S_GetField_f, S_GetField, optK_bind, optK_bif, optK_pure, optK_none, optK_oc, optK_guardT, optK_map] at h
    refine hold_of h ?_
    kernel_rfl
def S_GetField_en (k : Nat) : Entry D := entS S_GetField_ar (S_GetField_f k) S_GetField_vr
theorem S_GetField_eo (k : Nat) : EntryOK X 54 (S_GetField_en k) := (S_GetField_ok k).en rfl
def S_l5Get_pl : Plan := ⟨[(0, [(0, some 107), (1, none)]), (1, [(5, none)]), (2, [(4, none)])],
  [],
  []⟩
def S_l5Get_cl (k : Nat) : Calls' D := ⟨[(54, S_GetField_en k)], [], [], [], []⟩
theorem S_l5Get_ck (k : Nat) : CallsOK X (S_l5Get_cl k) := .cons (S_GetField_eo k) (.nil cod)
def S_l5Get_cu (k : Nat) : Cuts D := ⟨[], []⟩
def S_l5Get_ar : List Ar := [.c (.kl 107), .c (.ks)]
def S_l5Get_f (k : Nat) (x : TupA D S_l5Get_ar) : Option ((List UInt8)) := S_l5Get k x.1 x.2.1
def S_l5Get_vr (r : (List UInt8)) : VR D := .p (.c (.str r))
theorem S_l5Get_ok (k : Nat) : Does P X 50 S_l5Get_ar (S_l5Get_f k) S_l5Get_vr :=
  does_of (body := bodyOf Go.Proofs.Tryz.f50) (pl := S_l5Get_pl) (k := k) (cu := S_l5Get_cu k) (tys := [[0]]) (S_l5Get_ck k) ctx mixed Go.Proofs.Tryz.func50 (by kernel_rfl) (by kernel_rfl) (cutOK_of (l := []) (by kernel_rfl) trivial) fun x R h => by
    simp only [S_l5Get_f, S_l5Get, optK_bind, optK_bif, optK_pure, optK_none, optK_oc, optK_guardT, optK_map] at h
    refine hold_of h ?_
    kernel_rfl
def S_l5Get_en (k : Nat) : Entry D := entS S_l5Get_ar (S_l5Get_f k) S_l5Get_vr
theorem S_l5Get_eo (k : Nat) : EntryOK X 50 (S_l5Get_en k) := (S_l5Get_ok k).en rfl
def S_l1In_pl : Plan := ⟨[(0, [(0, none), (1, none), (2, none)]), (1, [(6, none)])],
  [],
  []⟩
def S_l1In_cl (k : Nat) : Calls' D := ⟨[], [], [], [], []⟩
theorem S_l1In_ck (k : Nat) : CallsOK X (S_l1In_cl k) := .nil cod
def S_l1In_cu (k : Nat) : Cuts D := ⟨[], []⟩
def S_l1In_ar : List Ar := [.c (.ki .i64), .c (.ki .i64), .c (.ki .i64)]
def S_l1In_f (k : Nat) (x : TupA D S_l1In_ar) : Option (Bool) := S_l1In k x.1 x.2.1 x.2.2.1
def S_l1In_vr (r : Bool) : VR D := .p (.c (.bool r))
theorem S_l1In_ok (k : Nat) : Does P X 78 S_l1In_ar (S_l1In_f k) S_l1In_vr :=
  does_of (body := bodyOf Go.Proofs.Tryz.f78) (pl := S_l1In_pl) (k := k) (cu := S_l1In_cu k) (tys := [[0]]) (S_l1In_ck k) ctx mixed Go.Proofs.Tryz.func78 (by kernel_rfl) (by kernel_rfl) (cutOK_of (l := []) (by kernel_rfl) trivial) fun x R h => by
    simp only [S_l1In_f, S_l1In, optK_bind, optK_bif, optK_pure, optK_none, optK_oc, optK_guardT, optK_map] at h
    refine hold_of h ?_
    kernel_rfl
def S_l1In_en (k : Nat) : Entry D := entS S_l1In_ar (S_l1In_f k) S_l1In_vr
theorem S_l1In_eo (k : Nat) : EntryOK X 78 (S_l1In_en k) := (S_l1In_ok k).en rfl
def S_FormatInt_pl : Plan := ⟨[(0, [(0, none)]), (1, [(0, none), (7, none)]), (2, [(2, none)]), (3, [(0, none), (3, none)]), (4, [(0, none), (3, none), (4, none)]), (5, [(0, none), (3, none), (4, none), (10, none)]), (6, [(0, none), (3, none), (4, none)]), (7, [(0, none), (3, none), (4, none), (5, none)]), (8, [(0, none), (3, none), (4, none), (5, none), (16, none)]), (9, [(0, none), (3, none), (4, none), (5, none)]), (10, [(0, none), (3, none), (4, none)]), (11, [(3, none), (27, none)]), (12, [(2, none)]), (13, [(2, none)])],
  [(0, [(0, none), (3, none)]), (1, [(0, none), (3, none), (4, none)])],
  [(7, ([], [(0, none)])), (10, ([(0, none), (3, none), (4, none)], [(0, none), (3, none)])), (16, ([(0, none), (3, none), (4, none), (5, none)], [(0, none), (3, none), (4, none), (5, none)])), (27, ([(3, none)], [(3, none)]))]⟩
def S_FormatInt_cl (k : Nat) : Calls' D := ⟨[], [], [], [], []⟩
theorem S_FormatInt_ck (k : Nat) : CallsOK X (S_FormatInt_cl k) := .nil cod
def S_FormatInt_c16_L (x : Int × (List UInt8) × Int × Int × Bool × Unit) (o : Int) (Q : Ex → VSt D → Prop) (R : VR D → Prop) : Prop := Q .normal (mkSt ⟨[(0, .hole), (3, .hole), (4, .hole), (5, .hole)], []⟩ [.int .i64 x.1, .str x.2.1, .int .i64 x.2.2.1, .int .i64 o])
def S_FormatInt_c16_cut (k : Nat) : Cut D := cutS ⟨[(0, .hole), (3, .hole), (4, .hole), (5, .hole), (16, .hole)], []⟩ [.ki .i64, .ks, .ki .i64, .ki .i64, .kb] (fun (x : Int × (List UInt8) × Int × Int × Bool × Unit) => S_FormatInt_c16 k x.1 x.2.1 x.2.2.1 x.2.2.2.1 x.2.2.2.2.1) S_FormatInt_c16_L
def S_FormatInt_c16_cu (k : Nat) : Cuts D := ⟨[], []⟩
theorem S_FormatInt_c16_ok (k : Nat) : CutFor X S_FormatInt_pl k Go.Proofs.Tryz.f167.results.toList (S_FormatInt_c16_cut k) (sub (bodyOf Go.Proofs.Tryz.f167) [1, 1, 1, 0, 1, 0, 0, 1, 0, 0, 1, 0, 1]) :=
  joinCut_s (X := X) (sg := [.ki .i64, .ks, .ki .i64, .ki .i64, .kb]) (cu := S_FormatInt_c16_cu k) (cl := S_FormatInt_cl k) (tys := [[0]]) (S_FormatInt_ck k) (cutOK_of (l := []) (by kernel_rfl) trivial) fun x Q R h => by
    simp only [S_FormatInt_c16, optK_bind, optK_bif, optK_pure, optK_none, optK_oc, optK_guardT, optK_map] at h
    refine hold_of h ?_
    kernel_rfl
def S_FormatInt_b1_L (x : Int × (List UInt8) × Int × Unit) (o : (List UInt8)) (Q : Ex → VSt D → Prop) (R : VR D → Prop) : Prop := Q .normal (mkSt ⟨[(0, .hole), (3, .hole), (4, .hole)], []⟩ [.int .i64 x.1, .str o, .int .i64 x.2.2.1])
def S_FormatInt_b1_cut (k : Nat) : Cut D := cutS ⟨[(0, .hole), (3, .hole), (4, .hole)], []⟩ [.ki .i64, .ks, .ki .i64] (fun (x : Int × (List UInt8) × Int × Unit) => S_FormatInt_b1 k x.1 x.2.1 x.2.2.1) S_FormatInt_b1_L
def S_FormatInt_b1_cu (k : Nat) : Cuts D := ⟨[], [(16, some (S_FormatInt_c16_cut k))]⟩
theorem S_FormatInt_b1_ok (k : Nat) : CutFor X S_FormatInt_pl k Go.Proofs.Tryz.f167.results.toList (S_FormatInt_b1_cut k) (sub (bodyOf Go.Proofs.Tryz.f167) [1, 1, 1, 0, 1, 0, 0, 1, 0]) :=
  joinCut_s (X := X) (sg := [.ki .i64, .ks, .ki .i64]) (cu := S_FormatInt_b1_cu k) (cl := S_FormatInt_cl k) (tys := [[0]]) (S_FormatInt_ck k) (cutOK_of (l := [(S_FormatInt_c16_cut k, sub (bodyOf Go.Proofs.Tryz.f167) [1, 1, 1, 0, 1, 0, 0, 1, 0, 0, 1, 0, 1])]) (by kernel_rfl) ⟨S_FormatInt_c16_ok k, trivial⟩) fun x Q R h => by
    simp only [S_FormatInt_b1, optK_bind, optK_bif, optK_pure, optK_none, optK_oc, optK_guardT, optK_map] at h
    refine hold_of h ?_
    kernel_rfl
def S_FormatInt_b0_L (x : Int × (List UInt8) × Int × Unit) (o : (List UInt8)) (Q : Ex → VSt D → Prop) (R : VR D → Prop) : Prop := Q .normal (mkSt ⟨[(0, .hole), (3, .hole)], []⟩ [.int .i64 x.1, .str o])
def S_FormatInt_b0_cut (k : Nat) : Cut D := cutS ⟨[(0, .hole), (3, .hole), (4, .hole)], []⟩ [.ki .i64, .ks, .ki .i64] (fun (x : Int × (List UInt8) × Int × Unit) => S_FormatInt_b0 k k x.1 x.2.1 x.2.2.1) S_FormatInt_b0_L
def S_FormatInt_b0_cu (k : Nat) : Cuts D := ⟨[(1, some (S_FormatInt_b1_cut k))], []⟩
theorem S_FormatInt_b0_ok (k : Nat) : CutFor X S_FormatInt_pl k Go.Proofs.Tryz.f167.results.toList (S_FormatInt_b0_cut k) (sub (bodyOf Go.Proofs.Tryz.f167) [1, 1, 1, 0, 1]) :=
  loopCut_s (X := X) (sg := [.ki .i64, .ks, .ki .i64]) (cu := S_FormatInt_b0_cu k) (cl := S_FormatInt_cl k) (tys := [[0]]) (id := 0) (c := sub (bodyOf Go.Proofs.Tryz.f167) [1, 1, 1, 0, 1, 0, 0]) (f := fun n => fun (x : Int × (List UInt8) × Int × Unit) => S_FormatInt_b0 k n x.1 x.2.1 x.2.2.1) (S_FormatInt_ck k) (cutOK_of (l := [(S_FormatInt_b1_cut k, sub (bodyOf Go.Proofs.Tryz.f167) [1, 1, 1, 0, 1, 0, 0, 1, 0])]) (by kernel_rfl) ⟨S_FormatInt_b1_ok k, trivial⟩) (fun _ => rfl) (fun n x Q R h => by
    simp only [S_FormatInt_b0, optK_bind, optK_bif, optK_pure, optK_none, optK_oc, optK_guardT, optK_map] at h
    refine hold_of h ?_
    kernel_rfl) (by kernel_rfl)
def S_FormatInt_cu (k : Nat) : Cuts D := ⟨[(0, some (S_FormatInt_b0_cut k))], []⟩
def S_FormatInt_ar : List Ar := [.c (.ki .i64)]
def S_FormatInt_f (k : Nat) (x : TupA D S_FormatInt_ar) : Option ((List UInt8)) := S_FormatInt k x.1
def S_FormatInt_vr (r : (List UInt8)) : VR D := .p (.c (.str r))
theorem S_FormatInt_ok (k : Nat) : Does P X 167 S_FormatInt_ar (S_FormatInt_f k) S_FormatInt_vr :=
  does_of (body := bodyOf Go.Proofs.Tryz.f167) (pl := S_FormatInt_pl) (k := k) (cu := S_FormatInt_cu k) (tys := [[0]]) (S_FormatInt_ck k) ctx mixed Go.Proofs.Tryz.func167 (by kernel_rfl) (by kernel_rfl) (cutOK_of (l := [(S_FormatInt_b0_cut k, sub (bodyOf Go.Proofs.Tryz.f167) [1, 1, 1, 0, 1])]) (by kernel_rfl) ⟨S_FormatInt_b0_ok k, trivial⟩) fun x R h => by
    simp only [S_FormatInt_f, S_FormatInt, optK_bind, optK_bif, optK_pure, optK_none, optK_oc, optK_guardT, optK_map] at h
    refine hold_of h ?_
    kernel_rfl
def S_FormatInt_en (k : Nat) : Entry D := entS S_FormatInt_ar (S_FormatInt_f k) S_FormatInt_vr
theorem S_FormatInt_eo (k : Nat) : EntryOK X 167 (S_FormatInt_en k) := (S_FormatInt_ok k).en rfl
def S_ParseInt_pl : Plan := ⟨[(0, [(0, none)]), (1, [(0, none), (9, none)]), (2, [(2, none), (3, none)]), (3, [(0, none), (4, none)]), (4, [(0, none), (4, none), (5, none)]), (5, [(0, none), (4, none), (5, none), (13, none)]), (6, [(0, none), (4, none), (5, none)]), (7, [(0, none), (4, none), (5, none), (21, none)]), (8, [(2, none), (3, none)]), (9, [(0, none), (4, none), (5, none)]), (10, [(4, none), (37, none)]), (11, [(2, none), (3, none)]), (12, [(2, none), (3, none)])],
  [(0, [(0, none), (4, none)]), (1, [(0, none), (4, none), (5, none)])],
  [(9, ([], [(0, none)])), (13, ([(0, none), (4, none), (5, none)], [(0, none), (4, none)])), (21, ([], [(0, none), (4, none), (5, none)])), (37, ([], [(4, none)]))]⟩
def S_ParseInt_cl (k : Nat) : Calls' D := ⟨[(78, S_l1In_en k), (167, S_FormatInt_en k)], [], [], [], []⟩
theorem S_ParseInt_ck (k : Nat) : CallsOK X (S_ParseInt_cl k) := .cons (S_l1In_eo k) (.cons (S_FormatInt_eo k) (.nil cod))
def S_ParseInt_b0_L (x : (List UInt8) × Int × Int × Unit) (o : Oc (Int) (Int × Bool)) (Q : Ex → VSt D → Prop) (R : VR D → Prop) : Prop := ocP o (fun v0 => Q .normal (mkSt ⟨[(0, .hole), (4, .hole)], []⟩ [.str x.1, .int .i64 v0])) (fun w0 => R (.tup [.c (.int .i64 w0.1), .c (.bool w0.2)]))
def S_ParseInt_b0_cut (k : Nat) : Cut D := cutS ⟨[(0, .hole), (4, .hole), (5, .hole)], []⟩ [.ks, .ki .i64, .ki .i64] (fun (x : (List UInt8) × Int × Int × Unit) => S_ParseInt_b0 k k x.1 x.2.1 x.2.2.1) S_ParseInt_b0_L
def S_ParseInt_b0_cu (k : Nat) : Cuts D := ⟨[], []⟩
theorem S_ParseInt_b0_ok (k : Nat) : CutFor X S_ParseInt_pl k Go.Proofs.Tryz.f111.results.toList (S_ParseInt_b0_cut k) (sub (bodyOf Go.Proofs.Tryz.f111) [1, 1, 1, 0, 1]) :=
  loopCut_s (X := X) (sg := [.ks, .ki .i64, .ki .i64]) (cu := S_ParseInt_b0_cu k) (cl := S_ParseInt_cl k) (tys := [[0], [0]]) (id := 0) (c := sub (bodyOf Go.Proofs.Tryz.f111) [1, 1, 1, 0, 1, 0, 0]) (f := fun n => fun (x : (List UInt8) × Int × Int × Unit) => S_ParseInt_b0 k n x.1 x.2.1 x.2.2.1) (S_ParseInt_ck k) (cutOK_of (l := []) (by kernel_rfl) trivial) (fun _ => rfl) (fun n x Q R h => by
    simp only [S_ParseInt_b0, optK_bind, optK_bif, optK_pure, optK_none, optK_oc, optK_guardT, optK_map] at h
    refine hold_of h ?_
    kernel_rfl) (by kernel_rfl)
def S_ParseInt_cu (k : Nat) : Cuts D := ⟨[(0, some (S_ParseInt_b0_cut k))], []⟩
def S_ParseInt_ar : List Ar := [.c (.ks)]
def S_ParseInt_f (k : Nat) (x : TupA D S_ParseInt_ar) : Option (Int × Bool) := S_ParseInt k x.1
def S_ParseInt_vr (r : Int × Bool) : VR D := .tup [.c (.int .i64 r.1), .c (.bool r.2)]
theorem S_ParseInt_ok (k : Nat) : Does P X 111 S_ParseInt_ar (S_ParseInt_f k) S_ParseInt_vr :=
  does_of (body := bodyOf Go.Proofs.Tryz.f111) (pl := S_ParseInt_pl) (k := k) (cu := S_ParseInt_cu k) (tys := [[0], [0]]) (S_ParseInt_ck k) ctx mixed Go.Proofs.Tryz.func111 (by kernel_rfl) (by kernel_rfl) (cutOK_of (l := [(S_ParseInt_b0_cut k, sub (bodyOf Go.Proofs.Tryz.f111) [1, 1, 1, 0, 1])]) (by kernel_rfl) ⟨S_ParseInt_b0_ok k, trivial⟩) fun x R h => by
    simp only [S_ParseInt_f, S_ParseInt, optK_bind, optK_bif, optK_pure, optK_none, optK_oc, optK_guardT, optK_map] at h
    refine hold_of h ?_
    kernel_rfl
def S_ParseInt_en (k : Nat) : Entry D := entS S_ParseInt_ar (S_ParseInt_f k) S_ParseInt_vr
theorem S_ParseInt_eo (k : Nat) : EntryOK X 111 (S_ParseInt_en k) := (S_ParseInt_ok k).en rfl
def S_Min_pl : Plan := ⟨[(0, [(0, none), (1, none)]), (1, [(0, none), (1, none), (7, none)]), (2, [(4, none)]), (3, [(4, none)])],
  [],
  [(7, ([(1, none)], [(0, none)]))]⟩
def S_Min_cl (k : Nat) : Calls' D := ⟨[], [], [], [], []⟩
theorem S_Min_ck (k : Nat) : CallsOK X (S_Min_cl k) := .nil cod
def S_Min_cu (k : Nat) : Cuts D := ⟨[], []⟩
def S_Min_ar : List Ar := [.c (.ki .i64), .c (.ki .i64)]
def S_Min_f (k : Nat) (x : TupA D S_Min_ar) : Option (Int) := S_Min k x.1 x.2.1
def S_Min_vr (r : Int) : VR D := .p (.c (.int .i64 r))
theorem S_Min_ok (k : Nat) : Does P X 51 S_Min_ar (S_Min_f k) S_Min_vr :=
  does_of (body := bodyOf Go.Proofs.Tryz.f51) (pl := S_Min_pl) (k := k) (cu := S_Min_cu k) (tys := [[0]]) (S_Min_ck k) ctx mixed Go.Proofs.Tryz.func51 (by kernel_rfl) (by kernel_rfl) (cutOK_of (l := []) (by kernel_rfl) trivial) fun x R h => by
    simp only [S_Min_f, S_Min, optK_bind, optK_bif, optK_pure, optK_none, optK_oc, optK_guardT, optK_map] at h
    refine hold_of h ?_
    kernel_rfl
def S_Min_en (k : Nat) : Entry D := entS S_Min_ar (S_Min_f k) S_Min_vr
theorem S_Min_eo (k : Nat) : EntryOK X 51 (S_Min_en k) := (S_Min_ok k).en rfl
def S_AgeField_pl : Plan := ⟨[(0, [(1, none)]), (1, [(3, none)]), (2, [(2, none)])],
  [],
  []⟩
def S_AgeField_cl (k : Nat) : Calls' D := ⟨[(50, S_l5Get_en k), (111, S_ParseInt_en k), (51, S_Min_en k)], [], [], [], []⟩
theorem S_AgeField_ck (k : Nat) : CallsOK X (S_AgeField_cl k) := .cons (S_l5Get_eo k) (.cons (S_ParseInt_eo k) (.cons (S_Min_eo k) (.nil cod)))
def S_AgeField_cu (k : Nat) : Cuts D := ⟨[], []⟩
def S_AgeField_ar : List Ar := [.a [.ki .i64, .kl 107, .ks]]
def S_AgeField_f (k : Nat) (x : TupA D S_AgeField_ar) : Option (Int) := S_AgeField k (⟨x.1.1, x.1.2.1, x.1.2.2.1⟩ : IResponse)
def S_AgeField_vr (r : Int) : VR D := .p (.c (.int .i64 r))
theorem S_AgeField_ok (k : Nat) : Does P X 47 S_AgeField_ar (S_AgeField_f k) S_AgeField_vr :=
  does_of (body := bodyOf Go.Proofs.Tryz.f47) (pl := S_AgeField_pl) (k := k) (cu := S_AgeField_cu k) (tys := [[0]]) (S_AgeField_ck k) ctx mixed Go.Proofs.Tryz.func47 (by kernel_rfl) (by kernel_rfl) (cutOK_of (l := []) (by kernel_rfl) trivial) fun x R h => by
    simp only [S_AgeField_f, S_AgeField, optK_bind, optK_bif, optK_pure, optK_none, optK_oc, optK_guardT, optK_map] at h
    refine hold_of h ?_
    kernel_rfl
def S_AgeField_en (k : Nat) : Entry D := entS S_AgeField_ar (S_AgeField_f k) S_AgeField_vr
theorem S_AgeField_eo (k : Nat) : EntryOK X 47 (S_AgeField_en k) := (S_AgeField_ok k).en rfl
def S_Max_pl : Plan := ⟨[(0, [(0, none), (1, none)]), (1, [(0, none), (1, none), (7, none)]), (2, [(4, none)]), (3, [(4, none)])],
  [],
  [(7, ([(1, none)], [(0, none)]))]⟩
def S_Max_cl (k : Nat) : Calls' D := ⟨[], [], [], [], []⟩
theorem S_Max_ck (k : Nat) : CallsOK X (S_Max_cl k) := .nil cod
def S_Max_cu (k : Nat) : Cuts D := ⟨[], []⟩
def S_Max_ar : List Ar := [.c (.ki .i64), .c (.ki .i64)]
def S_Max_f (k : Nat) (x : TupA D S_Max_ar) : Option (Int) := S_Max k x.1 x.2.1
def S_Max_vr (r : Int) : VR D := .p (.c (.int .i64 r))
theorem S_Max_ok (k : Nat) : Does P X 48 S_Max_ar (S_Max_f k) S_Max_vr :=
  does_of (body := bodyOf Go.Proofs.Tryz.f48) (pl := S_Max_pl) (k := k) (cu := S_Max_cu k) (tys := [[0]]) (S_Max_ck k) ctx mixed Go.Proofs.Tryz.func48 (by kernel_rfl) (by kernel_rfl) (cutOK_of (l := []) (by kernel_rfl) trivial) fun x R h => by
    simp only [S_Max_f, S_Max, optK_bind, optK_bif, optK_pure, optK_none, optK_oc, optK_guardT, optK_map] at h
    refine hold_of h ?_
    kernel_rfl
def S_Max_en (k : Nat) : Entry D := entS S_Max_ar (S_Max_f k) S_Max_vr
theorem S_Max_eo (k : Nat) : EntryOK X 48 (S_Max_en k) := (S_Max_ok k).en rfl
def S_l3Two_pl : Plan := ⟨[(0, [(0, none), (1, none)]), (1, [(0, none), (1, none), (30, none)]), (2, [(4, none)]), (3, [(4, none)])],
  [],
  [(30, ([], [(0, none), (1, none)]))]⟩
def S_l3Two_cl (k : Nat) : Calls' D := ⟨[(78, S_l1In_en k)], [], [], [], []⟩
theorem S_l3Two_ck (k : Nat) : CallsOK X (S_l3Two_cl k) := .cons (S_l1In_eo k) (.nil cod)
def S_l3Two_cu (k : Nat) : Cuts D := ⟨[], []⟩
def S_l3Two_ar : List Ar := [.c (.ks), .c (.ki .i64)]
def S_l3Two_f (k : Nat) (x : TupA D S_l3Two_ar) : Option (Int) := S_l3Two k x.1 x.2.1
def S_l3Two_vr (r : Int) : VR D := .p (.c (.int .i64 r))
theorem S_l3Two_ok (k : Nat) : Does P X 112 S_l3Two_ar (S_l3Two_f k) S_l3Two_vr :=
  does_of (body := bodyOf Go.Proofs.Tryz.f112) (pl := S_l3Two_pl) (k := k) (cu := S_l3Two_cu k) (tys := [[0]]) (S_l3Two_ck k) ctx mixed Go.Proofs.Tryz.func112 (by kernel_rfl) (by kernel_rfl) (cutOK_of (l := []) (by kernel_rfl) trivial) fun x R h => by
    simp only [S_l3Two_f, S_l3Two, optK_bind, optK_bif, optK_pure, optK_none, optK_oc, optK_guardT, optK_map] at h
    refine hold_of h ?_
    kernel_rfl
def S_l3Two_en (k : Nat) : Entry D := entS S_l3Two_ar (S_l3Two_f k) S_l3Two_vr
theorem S_l3Two_eo (k : Nat) : EntryOK X 112 (S_l3Two_en k) := (S_l3Two_ok k).en rfl
def S_l3Months_pl : Plan := ⟨[(0, []), (1, [(0, some 9)])],
  [],
  []⟩
def S_l3Months_cl (k : Nat) : Calls' D := ⟨[], [], [], [], []⟩
theorem S_l3Months_ck (k : Nat) : CallsOK X (S_l3Months_cl k) := .nil cod
def S_l3Months_cu (k : Nat) : Cuts D := ⟨[], []⟩
def S_l3Months_ar : List Ar := []
def S_l3Months_f (k : Nat) (x : TupA D S_l3Months_ar) : Option ((List (List UInt8))) := S_l3Months k 
def S_l3Months_vr (r : (List (List UInt8))) : VR D := .p (.c (.sl 9 r))
theorem S_l3Months_ok (k : Nat) : Does P X 168 S_l3Months_ar (S_l3Months_f k) S_l3Months_vr :=
  does_of (body := bodyOf Go.Proofs.Tryz.f168) (pl := S_l3Months_pl) (k := k) (cu := S_l3Months_cu k) (tys := [[9]]) (S_l3Months_ck k) ctx mixed Go.Proofs.Tryz.func168 (by kernel_rfl) (by kernel_rfl) (cutOK_of (l := []) (by kernel_rfl) trivial) fun x R h => by
    simp only [S_l3Months_f, S_l3Months, optK_bind, optK_bif, optK_pure, optK_none, optK_oc, optK_guardT, optK_map] at h
    refine hold_of h ?_
    kernel_rfl
def S_l3Months_en (k : Nat) : Entry D := entS S_l3Months_ar (S_l3Months_f k) S_l3Months_vr
theorem S_l3Months_eo (k : Nat) : EntryOK X 168 (S_l3Months_en k) := (S_l3Months_ok k).en rfl
def S_l3Month_pl : Plan := ⟨[(0, [(0, none), (1, none)]), (1, [(0, none), (1, none), (5, some 9)]), (2, [(0, none), (1, none), (5, some 9), (6, none)]), (3, [(0, none), (1, none), (5, some 9), (6, none), (9, none)]), (4, [(0, none), (1, none), (5, some 9), (6, none)]), (5, [(0, none), (1, none), (5, some 9), (6, none), (32, none)]), (6, [(4, none)]), (7, [(4, none)])],
  [(0, []), (1, [(0, none), (1, none), (5, some 9), (6, none)])],
  [(9, ([(0, none), (1, none), (5, some 9), (6, none)], [])), (32, ([(6, none)], [(0, none), (1, none), (5, some 9), (6, none)]))]⟩
def S_l3Month_cl (k : Nat) : Calls' D := ⟨[(168, S_l3Months_en k)], [], [], [], []⟩
theorem S_l3Month_ck (k : Nat) : CallsOK X (S_l3Month_cl k) := .cons (S_l3Months_eo k) (.nil cod)
def S_l3Month_b0_L (x : (List UInt8) × Int × Int × (List (List UInt8)) × Unit) (o : Oc (Unit) (Int)) (Q : Ex → VSt D → Prop) (R : VR D → Prop) : Prop := ocP o (fun v0 => Q .normal (mkSt ⟨[], []⟩ [])) (fun w0 => R (.p (.c (.int .i64 w0))))
def S_l3Month_b0_cut (k : Nat) : Cut D := cutS ⟨[(0, .hole), (1, .hole), (5, .ref 500005), (6, .hole)], [(500005, .row)]⟩ [.ks, .ki .i64, .ki .i64, .kl 9] (fun (x : (List UInt8) × Int × Int × (List (List UInt8)) × Unit) => S_l3Month_b0 k k x.1 x.2.1 x.2.2.1 x.2.2.2.1) S_l3Month_b0_L
def S_l3Month_b0_cu (k : Nat) : Cuts D := ⟨[], []⟩
theorem S_l3Month_b0_ok (k : Nat) : CutFor X S_l3Month_pl k Go.Proofs.Tryz.f113.results.toList (S_l3Month_b0_cut k) (sub (bodyOf Go.Proofs.Tryz.f113) [1, 1, 0, 1]) :=
  loopCut_s (X := X) (sg := [.ks, .ki .i64, .ki .i64, .kl 9]) (cu := S_l3Month_b0_cu k) (cl := S_l3Month_cl k) (tys := [[0]]) (id := 0) (c := sub (bodyOf Go.Proofs.Tryz.f113) [1, 1, 0, 1, 0, 0]) (f := fun n => fun (x : (List UInt8) × Int × Int × (List (List UInt8)) × Unit) => S_l3Month_b0 k n x.1 x.2.1 x.2.2.1 x.2.2.2.1) (S_l3Month_ck k) (cutOK_of (l := []) (by kernel_rfl) trivial) (fun _ => rfl) (fun n x Q R h => by
    simp only [S_l3Month_b0, optK_bind, optK_bif, optK_pure, optK_none, optK_oc, optK_guardT, optK_map] at h
    refine hold_of h ?_
    kernel_rfl) (by kernel_rfl)
def S_l3Month_cu (k : Nat) : Cuts D := ⟨[(0, some (S_l3Month_b0_cut k))], []⟩
def S_l3Month_ar : List Ar := [.c (.ks), .c (.ki .i64)]
def S_l3Month_f (k : Nat) (x : TupA D S_l3Month_ar) : Option (Int) := S_l3Month k x.1 x.2.1
def S_l3Month_vr (r : Int) : VR D := .p (.c (.int .i64 r))
theorem S_l3Month_ok (k : Nat) : Does P X 113 S_l3Month_ar (S_l3Month_f k) S_l3Month_vr :=
  does_of (body := bodyOf Go.Proofs.Tryz.f113) (pl := S_l3Month_pl) (k := k) (cu := S_l3Month_cu k) (tys := [[0]]) (S_l3Month_ck k) ctx mixed Go.Proofs.Tryz.func113 (by kernel_rfl) (by kernel_rfl) (cutOK_of (l := [(S_l3Month_b0_cut k, sub (bodyOf Go.Proofs.Tryz.f113) [1, 1, 0, 1])]) (by kernel_rfl) ⟨S_l3Month_b0_ok k, trivial⟩) fun x R h => by
    simp only [S_l3Month_f, S_l3Month, optK_bind, optK_bif, optK_pure, optK_none, optK_oc, optK_guardT, optK_map] at h
    refine hold_of h ?_
    kernel_rfl
def S_l3Month_en (k : Nat) : Entry D := entS S_l3Month_ar (S_l3Month_f k) S_l3Month_vr
theorem S_l3Month_eo (k : Nat) : EntryOK X 113 (S_l3Month_en k) := (S_l3Month_ok k).en rfl
def S_Mod_pl : Plan := ⟨[(0, [(0, none), (1, none)]), (1, [(0, none), (1, none), (7, none)]), (2, [(4, none)]), (3, [(4, none)])],
  [],
  [(7, ([], [(0, none), (1, none)]))]⟩
def S_Mod_cl (k : Nat) : Calls' D := ⟨[(78, S_l1In_en k)], [], [], [], []⟩
theorem S_Mod_ck (k : Nat) : CallsOK X (S_Mod_cl k) := .cons (S_l1In_eo k) (.nil cod)
def S_Mod_cu (k : Nat) : Cuts D := ⟨[], []⟩
def S_Mod_ar : List Ar := [.c (.ki .i64), .c (.ki .i64)]
def S_Mod_f (k : Nat) (x : TupA D S_Mod_ar) : Option (Int) := S_Mod k x.1 x.2.1
def S_Mod_vr (r : Int) : VR D := .p (.c (.int .i64 r))
theorem S_Mod_ok (k : Nat) : Does P X 226 S_Mod_ar (S_Mod_f k) S_Mod_vr :=
  does_of (body := bodyOf Go.Proofs.Tryz.f226) (pl := S_Mod_pl) (k := k) (cu := S_Mod_cu k) (tys := [[0]]) (S_Mod_ck k) ctx mixed Go.Proofs.Tryz.func226 (by kernel_rfl) (by kernel_rfl) (cutOK_of (l := []) (by kernel_rfl) trivial) fun x R h => by
    simp only [S_Mod_f, S_Mod, optK_bind, optK_bif, optK_pure, optK_none, optK_oc, optK_guardT, optK_map] at h
    refine hold_of h ?_
    kernel_rfl
def S_Mod_en (k : Nat) : Entry D := entS S_Mod_ar (S_Mod_f k) S_Mod_vr
theorem S_Mod_eo (k : Nat) : EntryOK X 226 (S_Mod_en k) := (S_Mod_ok k).en rfl
def S_IsLeap_pl : Plan := ⟨[(0, [(0, none)]), (1, [(2, none)])],
  [],
  []⟩
def S_IsLeap_cl (k : Nat) : Calls' D := ⟨[(226, S_Mod_en k)], [], [], [], []⟩
theorem S_IsLeap_ck (k : Nat) : CallsOK X (S_IsLeap_cl k) := .cons (S_Mod_eo k) (.nil cod)
def S_IsLeap_cu (k : Nat) : Cuts D := ⟨[], []⟩
def S_IsLeap_ar : List Ar := [.c (.ki .i64)]
def S_IsLeap_f (k : Nat) (x : TupA D S_IsLeap_ar) : Option (Bool) := S_IsLeap k x.1
def S_IsLeap_vr (r : Bool) : VR D := .p (.c (.bool r))
theorem S_IsLeap_ok (k : Nat) : Does P X 170 S_IsLeap_ar (S_IsLeap_f k) S_IsLeap_vr :=
  does_of (body := bodyOf Go.Proofs.Tryz.f170) (pl := S_IsLeap_pl) (k := k) (cu := S_IsLeap_cu k) (tys := [[0]]) (S_IsLeap_ck k) ctx mixed Go.Proofs.Tryz.func170 (by kernel_rfl) (by kernel_rfl) (cutOK_of (l := []) (by kernel_rfl) trivial) fun x R h => by
    simp only [S_IsLeap_f, S_IsLeap, optK_bind, optK_bif, optK_pure, optK_none, optK_oc, optK_guardT, optK_map] at h
    refine hold_of h ?_
    kernel_rfl
def S_IsLeap_en (k : Nat) : Entry D := entS S_IsLeap_ar (S_IsLeap_f k) S_IsLeap_vr
theorem S_IsLeap_eo (k : Nat) : EntryOK X 170 (S_IsLeap_en k) := (S_IsLeap_ok k).en rfl
def S_l3Long_pl : Plan := ⟨[(0, [(0, none), (1, none)]), (1, [(1, none), (10, none)]), (2, [(4, none)]), (3, [(4, none)])],
  [],
  [(10, ([], [(1, none)]))]⟩
def S_l3Long_cl (k : Nat) : Calls' D := ⟨[(170, S_IsLeap_en k)], [], [], [], []⟩
theorem S_l3Long_ck (k : Nat) : CallsOK X (S_l3Long_cl k) := .cons (S_IsLeap_eo k) (.nil cod)
def S_l3Long_cu (k : Nat) : Cuts D := ⟨[], []⟩
def S_l3Long_ar : List Ar := [.c (.ki .i64), .c (.ki .i64)]
def S_l3Long_f (k : Nat) (x : TupA D S_l3Long_ar) : Option (Int) := S_l3Long k x.1 x.2.1
def S_l3Long_vr (r : Int) : VR D := .p (.c (.int .i64 r))
theorem S_l3Long_ok (k : Nat) : Does P X 169 S_l3Long_ar (S_l3Long_f k) S_l3Long_vr :=
  does_of (body := bodyOf Go.Proofs.Tryz.f169) (pl := S_l3Long_pl) (k := k) (cu := S_l3Long_cu k) (tys := [[0]]) (S_l3Long_ck k) ctx mixed Go.Proofs.Tryz.func169 (by kernel_rfl) (by kernel_rfl) (cutOK_of (l := []) (by kernel_rfl) trivial) fun x R h => by
    simp only [S_l3Long_f, S_l3Long, optK_bind, optK_bif, optK_pure, optK_none, optK_oc, optK_guardT, optK_map] at h
    refine hold_of h ?_
    kernel_rfl
def S_l3Long_en (k : Nat) : Entry D := entS S_l3Long_ar (S_l3Long_f k) S_l3Long_vr
theorem S_l3Long_eo (k : Nat) : EntryOK X 169 (S_l3Long_en k) := (S_l3Long_ok k).en rfl
def S_DaysOf_pl : Plan := ⟨[(0, [(0, none), (1, none), (2, none)]), (1, [(0, none), (1, none), (2, none), (25, none)]), (2, [(6, none)]), (3, [(0, none), (1, none), (7, none)]), (4, [(0, none), (1, none), (7, none), (8, none)]), (5, [(0, none), (1, none), (7, none), (8, none), (30, none)]), (6, [(0, none), (1, none), (7, none), (8, none)]), (7, [(0, none), (1, none), (7, none), (8, none)]), (8, [(0, none), (1, none), (7, none), (8, none), (36, none)]), (9, [(0, none), (1, none), (7, none), (8, none)]), (10, [(0, none), (1, none), (7, none), (9, none)]), (11, [(0, none), (1, none), (7, none), (9, none), (41, none)]), (12, [(0, none), (1, none), (7, none), (9, none)]), (13, [(0, none), (1, none), (7, none), (9, none)]), (14, [(6, none)])],
  [(0, [(0, none), (1, none), (7, none)]), (1, [(0, none), (1, none), (7, none), (8, none)]), (2, [(7, none)]), (3, [(0, none), (1, none), (7, none), (9, none)])],
  [(25, ([], [(0, none), (1, none), (2, none)])), (30, ([(0, none), (1, none), (7, none), (8, none)], [(0, none), (1, none), (7, none)])), (36, ([(0, none), (1, none), (7, none), (8, none)], [(0, none), (1, none), (7, none), (8, none)])), (41, ([(0, none), (1, none), (7, none), (9, none)], [(7, none)]))]⟩
def S_DaysOf_cl (k : Nat) : Calls' D := ⟨[(78, S_l1In_en k), (169, S_l3Long_en k), (170, S_IsLeap_en k)], [], [], [], []⟩
theorem S_DaysOf_ck (k : Nat) : CallsOK X (S_DaysOf_cl k) := .cons (S_l1In_eo k) (.cons (S_l3Long_eo k) (.cons (S_IsLeap_eo k) (.nil cod)))
def S_DaysOf_c36_L (x : Int × Int × Int × Int × Bool × Unit) (o : Int) (Q : Ex → VSt D → Prop) (R : VR D → Prop) : Prop := Q .normal (mkSt ⟨[(0, .hole), (1, .hole), (7, .hole), (8, .hole)], []⟩ [.int .i64 x.1, .int .i64 x.2.1, .int .i64 o, .int .i64 x.2.2.2.1])
def S_DaysOf_c36_cut (k : Nat) : Cut D := cutS ⟨[(0, .hole), (1, .hole), (7, .hole), (8, .hole), (36, .hole)], []⟩ [.ki .i64, .ki .i64, .ki .i64, .ki .i64, .kb] (fun (x : Int × Int × Int × Int × Bool × Unit) => S_DaysOf_c36 k x.1 x.2.1 x.2.2.1 x.2.2.2.1 x.2.2.2.2.1) S_DaysOf_c36_L
def S_DaysOf_c36_cu (k : Nat) : Cuts D := ⟨[], []⟩
theorem S_DaysOf_c36_ok (k : Nat) : CutFor X S_DaysOf_pl k Go.Proofs.Tryz.f114.results.toList (S_DaysOf_c36_cut k) (sub (bodyOf Go.Proofs.Tryz.f114) [1, 1, 1, 0, 1, 0, 0, 1, 0, 0, 1, 1]) :=
  joinCut_s (X := X) (sg := [.ki .i64, .ki .i64, .ki .i64, .ki .i64, .kb]) (cu := S_DaysOf_c36_cu k) (cl := S_DaysOf_cl k) (tys := [[0]]) (S_DaysOf_ck k) (cutOK_of (l := []) (by kernel_rfl) trivial) fun x Q R h => by
    simp only [S_DaysOf_c36, optK_bind, optK_bif, optK_pure, optK_none, optK_oc, optK_guardT, optK_map] at h
    refine hold_of h ?_
    kernel_rfl
def S_DaysOf_b1_L (x : Int × Int × Int × Int × Unit) (o : Int) (Q : Ex → VSt D → Prop) (R : VR D → Prop) : Prop := Q .normal (mkSt ⟨[(0, .hole), (1, .hole), (7, .hole), (8, .hole)], []⟩ [.int .i64 x.1, .int .i64 x.2.1, .int .i64 o, .int .i64 x.2.2.2.1])
def S_DaysOf_b1_cut (k : Nat) : Cut D := cutS ⟨[(0, .hole), (1, .hole), (7, .hole), (8, .hole)], []⟩ [.ki .i64, .ki .i64, .ki .i64, .ki .i64] (fun (x : Int × Int × Int × Int × Unit) => S_DaysOf_b1 k x.1 x.2.1 x.2.2.1 x.2.2.2.1) S_DaysOf_b1_L
def S_DaysOf_b1_cu (k : Nat) : Cuts D := ⟨[], [(36, some (S_DaysOf_c36_cut k))]⟩
theorem S_DaysOf_b1_ok (k : Nat) : CutFor X S_DaysOf_pl k Go.Proofs.Tryz.f114.results.toList (S_DaysOf_b1_cut k) (sub (bodyOf Go.Proofs.Tryz.f114) [1, 1, 1, 0, 1, 0, 0, 1, 0]) :=
  joinCut_s (X := X) (sg := [.ki .i64, .ki .i64, .ki .i64, .ki .i64]) (cu := S_DaysOf_b1_cu k) (cl := S_DaysOf_cl k) (tys := [[0]]) (S_DaysOf_ck k) (cutOK_of (l := [(S_DaysOf_c36_cut k, sub (bodyOf Go.Proofs.Tryz.f114) [1, 1, 1, 0, 1, 0, 0, 1, 0, 0, 1, 1])]) (by kernel_rfl) ⟨S_DaysOf_c36_ok k, trivial⟩) fun x Q R h => by
    simp only [S_DaysOf_b1, optK_bind, optK_bif, optK_pure, optK_none, optK_oc, optK_guardT, optK_map] at h
    refine hold_of h ?_
    kernel_rfl
def S_DaysOf_b0_L (x : Int × Int × Int × Int × Unit) (o : Int) (Q : Ex → VSt D → Prop) (R : VR D → Prop) : Prop := Q .normal (mkSt ⟨[(0, .hole), (1, .hole), (7, .hole)], []⟩ [.int .i64 x.1, .int .i64 x.2.1, .int .i64 o])
def S_DaysOf_b0_cut (k : Nat) : Cut D := cutS ⟨[(0, .hole), (1, .hole), (7, .hole), (8, .hole)], []⟩ [.ki .i64, .ki .i64, .ki .i64, .ki .i64] (fun (x : Int × Int × Int × Int × Unit) => S_DaysOf_b0 k k x.1 x.2.1 x.2.2.1 x.2.2.2.1) S_DaysOf_b0_L
def S_DaysOf_b0_cu (k : Nat) : Cuts D := ⟨[(1, some (S_DaysOf_b1_cut k))], []⟩
theorem S_DaysOf_b0_ok (k : Nat) : CutFor X S_DaysOf_pl k Go.Proofs.Tryz.f114.results.toList (S_DaysOf_b0_cut k) (sub (bodyOf Go.Proofs.Tryz.f114) [1, 1, 1, 0, 1]) :=
  loopCut_s (X := X) (sg := [.ki .i64, .ki .i64, .ki .i64, .ki .i64]) (cu := S_DaysOf_b0_cu k) (cl := S_DaysOf_cl k) (tys := [[0]]) (id := 0) (c := sub (bodyOf Go.Proofs.Tryz.f114) [1, 1, 1, 0, 1, 0, 0]) (f := fun n => fun (x : Int × Int × Int × Int × Unit) => S_DaysOf_b0 k n x.1 x.2.1 x.2.2.1 x.2.2.2.1) (S_DaysOf_ck k) (cutOK_of (l := [(S_DaysOf_b1_cut k, sub (bodyOf Go.Proofs.Tryz.f114) [1, 1, 1, 0, 1, 0, 0, 1, 0])]) (by kernel_rfl) ⟨S_DaysOf_b1_ok k, trivial⟩) (fun _ => rfl) (fun n x Q R h => by
    simp only [S_DaysOf_b0, optK_bind, optK_bif, optK_pure, optK_none, optK_oc, optK_guardT, optK_map] at h
    refine hold_of h ?_
    kernel_rfl) (by kernel_rfl)
def S_DaysOf_b2_L (x : Int × Int × Int × Int × Unit) (o : Int) (Q : Ex → VSt D → Prop) (R : VR D → Prop) : Prop := Q .normal (mkSt ⟨[(7, .hole)], []⟩ [.int .i64 o])
def S_DaysOf_b2_cut (k : Nat) : Cut D := cutS ⟨[(0, .hole), (1, .hole), (7, .hole), (9, .hole)], []⟩ [.ki .i64, .ki .i64, .ki .i64, .ki .i64] (fun (x : Int × Int × Int × Int × Unit) => S_DaysOf_b2 k k x.1 x.2.1 x.2.2.1 x.2.2.2.1) S_DaysOf_b2_L
def S_DaysOf_b2_cu (k : Nat) : Cuts D := ⟨[], []⟩
theorem S_DaysOf_b2_ok (k : Nat) : CutFor X S_DaysOf_pl k Go.Proofs.Tryz.f114.results.toList (S_DaysOf_b2_cut k) (sub (bodyOf Go.Proofs.Tryz.f114) [1, 1, 1, 1, 0, 1]) :=
  loopCut_s (X := X) (sg := [.ki .i64, .ki .i64, .ki .i64, .ki .i64]) (cu := S_DaysOf_b2_cu k) (cl := S_DaysOf_cl k) (tys := [[0]]) (id := 2) (c := sub (bodyOf Go.Proofs.Tryz.f114) [1, 1, 1, 1, 0, 1, 0, 0]) (f := fun n => fun (x : Int × Int × Int × Int × Unit) => S_DaysOf_b2 k n x.1 x.2.1 x.2.2.1 x.2.2.2.1) (S_DaysOf_ck k) (cutOK_of (l := []) (by kernel_rfl) trivial) (fun _ => rfl) (fun n x Q R h => by
    simp only [S_DaysOf_b2, optK_bind, optK_bif, optK_pure, optK_none, optK_oc, optK_guardT, optK_map] at h
    refine hold_of h ?_
    kernel_rfl) (by kernel_rfl)
def S_DaysOf_cu (k : Nat) : Cuts D := ⟨[(0, some (S_DaysOf_b0_cut k)), (2, some (S_DaysOf_b2_cut k))], []⟩
def S_DaysOf_ar : List Ar := [.c (.ki .i64), .c (.ki .i64), .c (.ki .i64)]
def S_DaysOf_f (k : Nat) (x : TupA D S_DaysOf_ar) : Option (Int) := S_DaysOf k x.1 x.2.1 x.2.2.1
def S_DaysOf_vr (r : Int) : VR D := .p (.c (.int .i64 r))
theorem S_DaysOf_ok (k : Nat) : Does P X 114 S_DaysOf_ar (S_DaysOf_f k) S_DaysOf_vr :=
  does_of (body := bodyOf Go.Proofs.Tryz.f114) (pl := S_DaysOf_pl) (k := k) (cu := S_DaysOf_cu k) (tys := [[0]]) (S_DaysOf_ck k) ctx mixed Go.Proofs.Tryz.func114 (by kernel_rfl) (by kernel_rfl) (cutOK_of (l := [(S_DaysOf_b0_cut k, sub (bodyOf Go.Proofs.Tryz.f114) [1, 1, 1, 0, 1]), (S_DaysOf_b2_cut k, sub (bodyOf Go.Proofs.Tryz.f114) [1, 1, 1, 1, 0, 1])]) (by kernel_rfl) ⟨S_DaysOf_b0_ok k, S_DaysOf_b2_ok k, trivial⟩) fun x R h => by
    simp only [S_DaysOf_f, S_DaysOf, optK_bind, optK_bif, optK_pure, optK_none, optK_oc, optK_guardT, optK_map] at h
    refine hold_of h ?_
    kernel_rfl
def S_DaysOf_en (k : Nat) : Entry D := entS S_DaysOf_ar (S_DaysOf_f k) S_DaysOf_vr
theorem S_DaysOf_eo (k : Nat) : EntryOK X 114 (S_DaysOf_en k) := (S_DaysOf_ok k).en rfl
def S_CivilOf_pl : Plan := ⟨[(0, [(0, none)]), (1, [(0, none), (10, none)]), (2, [(2, none), (3, none), (4, none)]), (3, [(0, none), (5, none)]), (4, [(0, none), (5, none), (6, none)]), (5, [(0, none), (5, none), (6, none), (12, none)]), (6, [(0, none), (5, none), (6, none)]), (7, [(0, none), (5, none), (6, none), (15, none)]), (8, [(0, none), (5, none)]), (9, [(0, none), (5, none)]), (10, [(0, none), (5, none), (7, none)]), (11, [(0, none), (5, none), (7, none), (25, none)]), (12, [(0, none), (5, none), (7, none)]), (13, [(0, none), (5, none), (7, none)]), (14, [(2, none), (3, none), (4, none)])],
  [(0, [(0, none), (5, none)]), (1, [(0, none), (5, none)]), (2, [(0, none), (5, none), (7, none)]), (3, [(0, none), (5, none), (7, none)])],
  [(10, ([], [(0, none)])), (12, ([(0, none), (5, none)], [(0, none), (5, none), (6, none)])), (15, ([(0, none), (5, none)], [(0, none), (5, none), (6, none)])), (25, ([(0, none), (5, none), (7, none)], [(0, none), (5, none), (7, none)]))]⟩
def S_CivilOf_cl (k : Nat) : Calls' D := ⟨[(78, S_l1In_en k), (170, S_IsLeap_en k), (169, S_l3Long_en k)], [], [], [], []⟩
theorem S_CivilOf_ck (k : Nat) : CallsOK X (S_CivilOf_cl k) := .cons (S_l1In_eo k) (.cons (S_IsLeap_eo k) (.cons (S_l3Long_eo k) (.nil cod)))
def S_CivilOf_c12_L (x : Int × Int × Int × Bool × Unit) (o : Int) (Q : Ex → VSt D → Prop) (R : VR D → Prop) : Prop := Q .normal (mkSt ⟨[(0, .hole), (5, .hole), (6, .hole)], []⟩ [.int .i64 x.1, .int .i64 x.2.1, .int .i64 o])
def S_CivilOf_c12_cut (k : Nat) : Cut D := cutS ⟨[(0, .hole), (5, .hole), (6, .hole), (12, .hole)], []⟩ [.ki .i64, .ki .i64, .ki .i64, .kb] (fun (x : Int × Int × Int × Bool × Unit) => S_CivilOf_c12 k x.1 x.2.1 x.2.2.1 x.2.2.2.1) S_CivilOf_c12_L
def S_CivilOf_c12_cu (k : Nat) : Cuts D := ⟨[], []⟩
theorem S_CivilOf_c12_ok (k : Nat) : CutFor X S_CivilOf_pl k Go.Proofs.Tryz.f171.results.toList (S_CivilOf_c12_cut k) (sub (bodyOf Go.Proofs.Tryz.f171) [1, 1, 1, 0, 0, 0, 0, 1, 0, 1]) :=
  joinCut_s (X := X) (sg := [.ki .i64, .ki .i64, .ki .i64, .kb]) (cu := S_CivilOf_c12_cu k) (cl := S_CivilOf_cl k) (tys := [[0], [0], [0]]) (S_CivilOf_ck k) (cutOK_of (l := []) (by kernel_rfl) trivial) fun x Q R h => by
    simp only [S_CivilOf_c12, optK_bind, optK_bif, optK_pure, optK_none, optK_oc, optK_guardT, optK_map] at h
    refine hold_of h ?_
    kernel_rfl
def S_CivilOf_b1_L (x : Int × Int × Unit) (o : Oc (Int × Int) (Unit)) (Q : Ex → VSt D → Prop) (R : VR D → Prop) : Prop := ocP o (fun v0 => Q .normal (mkSt ⟨[(0, .hole), (5, .hole)], []⟩ [.int .i64 v0.1, .int .i64 v0.2])) (fun w0 => Q (.exit 0) (mkSt ⟨[(0, .hole), (5, .hole)], []⟩ [.int .i64 x.1, .int .i64 x.2.1]))
def S_CivilOf_b1_cut (k : Nat) : Cut D := cutS ⟨[(0, .hole), (5, .hole)], []⟩ [.ki .i64, .ki .i64] (fun (x : Int × Int × Unit) => S_CivilOf_b1 k x.1 x.2.1) S_CivilOf_b1_L
def S_CivilOf_b1_cu (k : Nat) : Cuts D := ⟨[], [(12, some (S_CivilOf_c12_cut k))]⟩
theorem S_CivilOf_b1_ok (k : Nat) : CutFor X S_CivilOf_pl k Go.Proofs.Tryz.f171.results.toList (S_CivilOf_b1_cut k) (sub (bodyOf Go.Proofs.Tryz.f171) [1, 1, 1, 0, 0, 0]) :=
  joinCut_s (X := X) (sg := [.ki .i64, .ki .i64]) (cu := S_CivilOf_b1_cu k) (cl := S_CivilOf_cl k) (tys := [[0], [0], [0]]) (S_CivilOf_ck k) (cutOK_of (l := [(S_CivilOf_c12_cut k, sub (bodyOf Go.Proofs.Tryz.f171) [1, 1, 1, 0, 0, 0, 0, 1, 0, 1])]) (by kernel_rfl) ⟨S_CivilOf_c12_ok k, trivial⟩) fun x Q R h => by
    simp only [S_CivilOf_b1, optK_bind, optK_bif, optK_pure, optK_none, optK_oc, optK_guardT, optK_map] at h
    refine hold_of h ?_
    kernel_rfl
def S_CivilOf_b0_L (x : Int × Int × Unit) (o : Int × Int) (Q : Ex → VSt D → Prop) (R : VR D → Prop) : Prop := Q .normal (mkSt ⟨[(0, .hole), (5, .hole)], []⟩ [.int .i64 o.1, .int .i64 o.2])
def S_CivilOf_b0_cut (k : Nat) : Cut D := cutS ⟨[(0, .hole), (5, .hole)], []⟩ [.ki .i64, .ki .i64] (fun (x : Int × Int × Unit) => S_CivilOf_b0 k k x.1 x.2.1) S_CivilOf_b0_L
def S_CivilOf_b0_cu (k : Nat) : Cuts D := ⟨[(1, some (S_CivilOf_b1_cut k))], []⟩
theorem S_CivilOf_b0_ok (k : Nat) : CutFor X S_CivilOf_pl k Go.Proofs.Tryz.f171.results.toList (S_CivilOf_b0_cut k) (sub (bodyOf Go.Proofs.Tryz.f171) [1, 1, 1, 0]) :=
  loopCut_s (X := X) (sg := [.ki .i64, .ki .i64]) (cu := S_CivilOf_b0_cu k) (cl := S_CivilOf_cl k) (tys := [[0], [0], [0]]) (id := 0) (c := sub (bodyOf Go.Proofs.Tryz.f171) [1, 1, 1, 0, 0, 0]) (f := fun n => fun (x : Int × Int × Unit) => S_CivilOf_b0 k n x.1 x.2.1) (S_CivilOf_ck k) (cutOK_of (l := [(S_CivilOf_b1_cut k, sub (bodyOf Go.Proofs.Tryz.f171) [1, 1, 1, 0, 0, 0])]) (by kernel_rfl) ⟨S_CivilOf_b1_ok k, trivial⟩) (fun _ => rfl) (fun n x Q R h => by
    simp only [S_CivilOf_b0, optK_bind, optK_bif, optK_pure, optK_none, optK_oc, optK_guardT, optK_map] at h
    refine hold_of h ?_
    kernel_rfl) (by kernel_rfl)
def S_CivilOf_b2_L (x : Int × Int × Int × Unit) (o : Int × Int) (Q : Ex → VSt D → Prop) (R : VR D → Prop) : Prop := Q .normal (mkSt ⟨[(0, .hole), (5, .hole), (7, .hole)], []⟩ [.int .i64 o.1, .int .i64 x.2.1, .int .i64 o.2])
def S_CivilOf_b2_cut (k : Nat) : Cut D := cutS ⟨[(0, .hole), (5, .hole), (7, .hole)], []⟩ [.ki .i64, .ki .i64, .ki .i64] (fun (x : Int × Int × Int × Unit) => S_CivilOf_b2 k k x.1 x.2.1 x.2.2.1) S_CivilOf_b2_L
def S_CivilOf_b2_cu (k : Nat) : Cuts D := ⟨[], []⟩
theorem S_CivilOf_b2_ok (k : Nat) : CutFor X S_CivilOf_pl k Go.Proofs.Tryz.f171.results.toList (S_CivilOf_b2_cut k) (sub (bodyOf Go.Proofs.Tryz.f171) [1, 1, 1, 1, 1, 0]) :=
  loopCut_s (X := X) (sg := [.ki .i64, .ki .i64, .ki .i64]) (cu := S_CivilOf_b2_cu k) (cl := S_CivilOf_cl k) (tys := [[0], [0], [0]]) (id := 2) (c := sub (bodyOf Go.Proofs.Tryz.f171) [1, 1, 1, 1, 1, 0, 0, 0]) (f := fun n => fun (x : Int × Int × Int × Unit) => S_CivilOf_b2 k n x.1 x.2.1 x.2.2.1) (S_CivilOf_ck k) (cutOK_of (l := []) (by kernel_rfl) trivial) (fun _ => rfl) (fun n x Q R h => by
    simp only [S_CivilOf_b2, optK_bind, optK_bif, optK_pure, optK_none, optK_oc, optK_guardT, optK_map] at h
    refine hold_of h ?_
    kernel_rfl) (by kernel_rfl)
def S_CivilOf_cu (k : Nat) : Cuts D := ⟨[(0, some (S_CivilOf_b0_cut k)), (2, some (S_CivilOf_b2_cut k))], []⟩
def S_CivilOf_ar : List Ar := [.c (.ki .i64)]
def S_CivilOf_f (k : Nat) (x : TupA D S_CivilOf_ar) : Option (Int × Int × Int) := S_CivilOf k x.1
def S_CivilOf_vr (r : Int × Int × Int) : VR D := .tup [.c (.int .i64 r.1), .c (.int .i64 r.2.1), .c (.int .i64 r.2.2)]
theorem S_CivilOf_ok (k : Nat) : Does P X 171 S_CivilOf_ar (S_CivilOf_f k) S_CivilOf_vr :=
  does_of (body := bodyOf Go.Proofs.Tryz.f171) (pl := S_CivilOf_pl) (k := k) (cu := S_CivilOf_cu k) (tys := [[0], [0], [0]]) (S_CivilOf_ck k) ctx mixed Go.Proofs.Tryz.func171 (by kernel_rfl) (by kernel_rfl) (cutOK_of (l := [(S_CivilOf_b0_cut k, sub (bodyOf Go.Proofs.Tryz.f171) [1, 1, 1, 0]), (S_CivilOf_b2_cut k, sub (bodyOf Go.Proofs.Tryz.f171) [1, 1, 1, 1, 1, 0])]) (by kernel_rfl) ⟨S_CivilOf_b0_ok k, S_CivilOf_b2_ok k, trivial⟩) fun x R h => by
    simp only [S_CivilOf_f, S_CivilOf, optK_bind, optK_bif, optK_pure, optK_none, optK_oc, optK_guardT, optK_map] at h
    refine hold_of h ?_
    kernel_rfl
def S_CivilOf_en (k : Nat) : Entry D := entS S_CivilOf_ar (S_CivilOf_f k) S_CivilOf_vr
theorem S_CivilOf_eo (k : Nat) : EntryOK X 171 (S_CivilOf_en k) := (S_CivilOf_ok k).en rfl
def S_l3Days_pl : Plan := ⟨[(0, []), (1, [(0, some 9)])],
  [],
  []⟩
def S_l3Days_cl (k : Nat) : Calls' D := ⟨[], [], [], [], []⟩
theorem S_l3Days_ck (k : Nat) : CallsOK X (S_l3Days_cl k) := .nil cod
def S_l3Days_cu (k : Nat) : Cuts D := ⟨[], []⟩
def S_l3Days_ar : List Ar := []
def S_l3Days_f (k : Nat) (x : TupA D S_l3Days_ar) : Option ((List (List UInt8))) := S_l3Days k 
def S_l3Days_vr (r : (List (List UInt8))) : VR D := .p (.c (.sl 9 r))
theorem S_l3Days_ok (k : Nat) : Does P X 172 S_l3Days_ar (S_l3Days_f k) S_l3Days_vr :=
  does_of (body := bodyOf Go.Proofs.Tryz.f172) (pl := S_l3Days_pl) (k := k) (cu := S_l3Days_cu k) (tys := [[9]]) (S_l3Days_ck k) ctx mixed Go.Proofs.Tryz.func172 (by kernel_rfl) (by kernel_rfl) (cutOK_of (l := []) (by kernel_rfl) trivial) fun x R h => by
    simp only [S_l3Days_f, S_l3Days, optK_bind, optK_bif, optK_pure, optK_none, optK_oc, optK_guardT, optK_map] at h
    refine hold_of h ?_
    kernel_rfl
def S_l3Days_en (k : Nat) : Entry D := entS S_l3Days_ar (S_l3Days_f k) S_l3Days_vr
theorem S_l3Days_eo (k : Nat) : EntryOK X 172 (S_l3Days_en k) := (S_l3Days_ok k).en rfl
def S_WeekdayOf_pl : Plan := ⟨[(0, [(0, none)]), (1, [(2, none)])],
  [],
  []⟩
def S_WeekdayOf_cl (k : Nat) : Calls' D := ⟨[(226, S_Mod_en k)], [], [], [], []⟩
theorem S_WeekdayOf_ck (k : Nat) : CallsOK X (S_WeekdayOf_cl k) := .cons (S_Mod_eo k) (.nil cod)
def S_WeekdayOf_cu (k : Nat) : Cuts D := ⟨[], []⟩
def S_WeekdayOf_ar : List Ar := [.c (.ki .i64)]
def S_WeekdayOf_f (k : Nat) (x : TupA D S_WeekdayOf_ar) : Option (Int) := S_WeekdayOf k x.1
def S_WeekdayOf_vr (r : Int) : VR D := .p (.c (.int .i64 r))
theorem S_WeekdayOf_ok (k : Nat) : Does P X 173 S_WeekdayOf_ar (S_WeekdayOf_f k) S_WeekdayOf_vr :=
  does_of (body := bodyOf Go.Proofs.Tryz.f173) (pl := S_WeekdayOf_pl) (k := k) (cu := S_WeekdayOf_cu k) (tys := [[0]]) (S_WeekdayOf_ck k) ctx mixed Go.Proofs.Tryz.func173 (by kernel_rfl) (by kernel_rfl) (cutOK_of (l := []) (by kernel_rfl) trivial) fun x R h => by
    simp only [S_WeekdayOf_f, S_WeekdayOf, optK_bind, optK_bif, optK_pure, optK_none, optK_oc, optK_guardT, optK_map] at h
    refine hold_of h ?_
    kernel_rfl
def S_WeekdayOf_en (k : Nat) : Entry D := entS S_WeekdayOf_ar (S_WeekdayOf_f k) S_WeekdayOf_vr
theorem S_WeekdayOf_eo (k : Nat) : EntryOK X 173 (S_WeekdayOf_en k) := (S_WeekdayOf_ok k).en rfl
def S_Digits_pl : Plan := ⟨[(0, [(0, none), (1, none)]), (1, [(1, none), (5, none)]), (2, [(1, none), (5, none), (17, none)]), (3, [(1, none), (5, none)]), (4, [(4, none)])],
  [(0, [(5, none)]), (1, [(1, none), (5, none)])],
  [(17, ([(1, none), (5, none)], [(5, none)]))]⟩
def S_Digits_cl (k : Nat) : Calls' D := ⟨[(48, S_Max_en k), (167, S_FormatInt_en k)], [], [], [], []⟩
theorem S_Digits_ck (k : Nat) : CallsOK X (S_Digits_cl k) := .cons (S_Max_eo k) (.cons (S_FormatInt_eo k) (.nil cod))
def S_Digits_b0_L (x : Int × (List UInt8) × Unit) (o : (List UInt8)) (Q : Ex → VSt D → Prop) (R : VR D → Prop) : Prop := Q .normal (mkSt ⟨[(5, .hole)], []⟩ [.str o])
def S_Digits_b0_cut (k : Nat) : Cut D := cutS ⟨[(1, .hole), (5, .hole)], []⟩ [.ki .i64, .ks] (fun (x : Int × (List UInt8) × Unit) => S_Digits_b0 k k x.1 x.2.1) S_Digits_b0_L
def S_Digits_b0_cu (k : Nat) : Cuts D := ⟨[], []⟩
theorem S_Digits_b0_ok (k : Nat) : CutFor X S_Digits_pl k Go.Proofs.Tryz.f174.results.toList (S_Digits_b0_cut k) (sub (bodyOf Go.Proofs.Tryz.f174) [1, 1, 0]) :=
  loopCut_s (X := X) (sg := [.ki .i64, .ks]) (cu := S_Digits_b0_cu k) (cl := S_Digits_cl k) (tys := [[0]]) (id := 0) (c := sub (bodyOf Go.Proofs.Tryz.f174) [1, 1, 0, 0, 0]) (f := fun n => fun (x : Int × (List UInt8) × Unit) => S_Digits_b0 k n x.1 x.2.1) (S_Digits_ck k) (cutOK_of (l := []) (by kernel_rfl) trivial) (fun _ => rfl) (fun n x Q R h => by
    simp only [S_Digits_b0, optK_bind, optK_bif, optK_pure, optK_none, optK_oc, optK_guardT, optK_map] at h
    refine hold_of h ?_
    kernel_rfl) (by kernel_rfl)
def S_Digits_cu (k : Nat) : Cuts D := ⟨[(0, some (S_Digits_b0_cut k))], []⟩
def S_Digits_ar : List Ar := [.c (.ki .i64), .c (.ki .i64)]
def S_Digits_f (k : Nat) (x : TupA D S_Digits_ar) : Option ((List UInt8)) := S_Digits k x.1 x.2.1
def S_Digits_vr (r : (List UInt8)) : VR D := .p (.c (.str r))
theorem S_Digits_ok (k : Nat) : Does P X 174 S_Digits_ar (S_Digits_f k) S_Digits_vr :=
  does_of (body := bodyOf Go.Proofs.Tryz.f174) (pl := S_Digits_pl) (k := k) (cu := S_Digits_cu k) (tys := [[0]]) (S_Digits_ck k) ctx mixed Go.Proofs.Tryz.func174 (by kernel_rfl) (by kernel_rfl) (cutOK_of (l := [(S_Digits_b0_cut k, sub (bodyOf Go.Proofs.Tryz.f174) [1, 1, 0])]) (by kernel_rfl) ⟨S_Digits_b0_ok k, trivial⟩) fun x R h => by
    simp only [S_Digits_f, S_Digits, optK_bind, optK_bif, optK_pure, optK_none, optK_oc, optK_guardT, optK_map] at h
    refine hold_of h ?_
    kernel_rfl
def S_Digits_en (k : Nat) : Entry D := entS S_Digits_ar (S_Digits_f k) S_Digits_vr
theorem S_Digits_eo (k : Nat) : EntryOK X 174 (S_Digits_en k) := (S_Digits_ok k).en rfl
def S_l3Clock_pl : Plan := ⟨[(0, [(0, none)]), (1, [(3, none)]), (2, [(2, none)])],
  [],
  []⟩
def S_l3Clock_cl (k : Nat) : Calls' D := ⟨[(174, S_Digits_en k)], [], [], [], []⟩
theorem S_l3Clock_ck (k : Nat) : CallsOK X (S_l3Clock_cl k) := .cons (S_Digits_eo k) (.nil cod)
def S_l3Clock_cu (k : Nat) : Cuts D := ⟨[], []⟩
def S_l3Clock_ar : List Ar := [.c (.ki .i64)]
def S_l3Clock_f (k : Nat) (x : TupA D S_l3Clock_ar) : Option ((List UInt8)) := S_l3Clock k x.1
def S_l3Clock_vr (r : (List UInt8)) : VR D := .p (.c (.str r))
theorem S_l3Clock_ok (k : Nat) : Does P X 175 S_l3Clock_ar (S_l3Clock_f k) S_l3Clock_vr :=
  does_of (body := bodyOf Go.Proofs.Tryz.f175) (pl := S_l3Clock_pl) (k := k) (cu := S_l3Clock_cu k) (tys := [[0]]) (S_l3Clock_ck k) ctx mixed Go.Proofs.Tryz.func175 (by kernel_rfl) (by kernel_rfl) (cutOK_of (l := []) (by kernel_rfl) trivial) fun x R h => by
    simp only [S_l3Clock_f, S_l3Clock, optK_bind, optK_bif, optK_pure, optK_none, optK_oc, optK_guardT, optK_map] at h
    refine hold_of h ?_
    kernel_rfl
def S_l3Clock_en (k : Nat) : Entry D := entS S_l3Clock_ar (S_l3Clock_f k) S_l3Clock_vr
theorem S_l3Clock_eo (k : Nat) : EntryOK X 175 (S_l3Clock_en k) := (S_l3Clock_ok k).en rfl
def S_l3Forms_pl : Plan := ⟨[(0, [(0, none)]), (1, [(0, none), (3, none), (4, none), (5, none)]), (2, [(0, none), (3, none), (4, none), (5, none), (6, none)]), (3, [(0, none), (3, none), (5, none), (6, none), (7, none)]), (4, [(0, none), (3, none), (5, none), (6, none), (7, none), (8, none)]), (5, [(0, none), (3, none), (5, none), (6, none), (7, none), (8, none), (9, none)]), (6, [(0, none), (3, none), (5, none), (6, none), (7, none), (8, none), (9, none), (10, none)]), (7, [(0, none), (3, none), (5, none), (6, none), (7, none), (8, none), (9, none), (10, none), (69, none)]), (8, [(0, none), (3, none), (6, none), (7, none), (8, none), (9, none), (10, none)]), (9, [(8, none), (9, none), (11, none)]), (10, [(2, some 9)])],
  [],
  [(69, ([(0, none), (3, none), (5, none), (6, none), (7, none), (8, none), (9, none)], [(0, none), (3, none), (6, none), (7, none), (8, none), (9, none), (10, none)]))]⟩
def S_l3Forms_cl (k : Nat) : Calls' D := ⟨[(171, S_CivilOf_en k), (172, S_l3Days_en k), (173, S_WeekdayOf_en k), (168, S_l3Months_en k), (174, S_Digits_en k), (175, S_l3Clock_en k), (167, S_FormatInt_en k)], [], [], [], []⟩
theorem S_l3Forms_ck (k : Nat) : CallsOK X (S_l3Forms_cl k) := .cons (S_CivilOf_eo k) (.cons (S_l3Days_eo k) (.cons (S_WeekdayOf_eo k) (.cons (S_l3Months_eo k) (.cons (S_Digits_eo k) (.cons (S_l3Clock_eo k) (.cons (S_FormatInt_eo k) (.nil cod)))))))
def S_l3Forms_c69_L (x : Int × Int × Int × (List UInt8) × (List UInt8) × (List UInt8) × (List UInt8) × (List UInt8) × Bool × Unit) (o : (List UInt8)) (Q : Ex → VSt D → Prop) (R : VR D → Prop) : Prop := Q .normal (mkSt ⟨[(0, .hole), (3, .hole), (6, .hole), (7, .hole), (8, .hole), (9, .hole), (10, .hole)], []⟩ [.int .i64 x.1, .int .i64 x.2.1, .str x.2.2.2.1, .str x.2.2.2.2.1, .str x.2.2.2.2.2.1, .str x.2.2.2.2.2.2.1, .str o])
def S_l3Forms_c69_cut (k : Nat) : Cut D := cutS ⟨[(0, .hole), (3, .hole), (5, .hole), (6, .hole), (7, .hole), (8, .hole), (9, .hole), (10, .hole), (69, .hole)], []⟩ [.ki .i64, .ki .i64, .ki .i64, .ks, .ks, .ks, .ks, .ks, .kb] (fun (x : Int × Int × Int × (List UInt8) × (List UInt8) × (List UInt8) × (List UInt8) × (List UInt8) × Bool × Unit) => S_l3Forms_c69 k x.1 x.2.1 x.2.2.1 x.2.2.2.1 x.2.2.2.2.1 x.2.2.2.2.2.1 x.2.2.2.2.2.2.1 x.2.2.2.2.2.2.2.1 x.2.2.2.2.2.2.2.2.1) S_l3Forms_c69_L
def S_l3Forms_c69_cu (k : Nat) : Cuts D := ⟨[], []⟩
theorem S_l3Forms_c69_ok (k : Nat) : CutFor X S_l3Forms_pl k Go.Proofs.Tryz.f115.results.toList (S_l3Forms_c69_cut k) (sub (bodyOf Go.Proofs.Tryz.f115) [1, 1, 1, 1, 1, 1, 1, 0, 1]) :=
  joinCut_s (X := X) (sg := [.ki .i64, .ki .i64, .ki .i64, .ks, .ks, .ks, .ks, .ks, .kb]) (cu := S_l3Forms_c69_cu k) (cl := S_l3Forms_cl k) (tys := [[9]]) (S_l3Forms_ck k) (cutOK_of (l := []) (by kernel_rfl) trivial) fun x Q R h => by
    simp only [S_l3Forms_c69, optK_bind, optK_bif, optK_pure, optK_none, optK_oc, optK_guardT, optK_map] at h
    refine hold_of h ?_
    kernel_rfl
def S_l3Forms_cu (k : Nat) : Cuts D := ⟨[], [(69, some (S_l3Forms_c69_cut k))]⟩
def S_l3Forms_ar : List Ar := [.c (.ki .i64)]
def S_l3Forms_f (k : Nat) (x : TupA D S_l3Forms_ar) : Option ((List (List UInt8))) := S_l3Forms k x.1
def S_l3Forms_vr (r : (List (List UInt8))) : VR D := .p (.c (.sl 9 r))
theorem S_l3Forms_ok (k : Nat) : Does P X 115 S_l3Forms_ar (S_l3Forms_f k) S_l3Forms_vr :=
  does_of (body := bodyOf Go.Proofs.Tryz.f115) (pl := S_l3Forms_pl) (k := k) (cu := S_l3Forms_cu k) (tys := [[9]]) (S_l3Forms_ck k) ctx mixed Go.Proofs.Tryz.func115 (by kernel_rfl) (by kernel_rfl) (cutOK_of (l := [(S_l3Forms_c69_cut k, sub (bodyOf Go.Proofs.Tryz.f115) [1, 1, 1, 1, 1, 1, 1, 0, 1])]) (by kernel_rfl) ⟨S_l3Forms_c69_ok k, trivial⟩) fun x R h => by
    simp only [S_l3Forms_f, S_l3Forms, optK_bind, optK_bif, optK_pure, optK_none, optK_oc, optK_guardT, optK_map] at h
    refine hold_of h ?_
    kernel_rfl
def S_l3Forms_en (k : Nat) : Entry D := entS S_l3Forms_ar (S_l3Forms_f k) S_l3Forms_vr
theorem S_l3Forms_eo (k : Nat) : EntryOK X 115 (S_l3Forms_en k) := (S_l3Forms_ok k).en rfl
def S_ParseDate_pl : Plan := ⟨[(0, [(0, none)]), (1, [(0, none), (4, none)]), (2, [(0, none), (4, none), (5, none), (6, none), (7, none), (8, none)]), (3, [(0, none), (4, none), (5, none), (6, none), (7, none), (8, none), (15, none)]), (4, [(0, none), (5, none)]), (5, [(0, none), (5, none), (6, none)]), (6, [(0, none), (5, none), (6, none), (7, none)]), (7, [(0, none), (5, none), (6, none), (7, none), (8, none)]), (8, [(0, none), (4, none), (5, none), (6, none), (7, none), (8, none), (28, none)]), (9, [(0, none), (5, none)]), (10, [(0, none), (5, none), (6, none)]), (11, [(0, none), (5, none), (6, none), (7, none)]), (12, [(0, none), (5, none), (6, none), (7, none), (43, none)]), (13, [(0, none), (5, none), (6, none), (7, none)]), (14, [(0, none), (5, none), (6, none), (7, none), (8, none)]), (15, [(0, none), (4, none), (5, none), (6, none), (7, none), (8, none), (48, none)]), (16, [(0, none), (4, none), (5, none)]), (17, [(0, none), (4, none), (5, none), (57, none)]), (18, [(0, none), (4, none), (5, none)]), (19, [(0, none), (4, none), (5, none), (6, none)]), (20, [(0, none), (4, none), (5, none), (6, none), (7, none)]), (21, [(0, none), (5, none), (6, none), (7, none), (8, none)]), (22, [(0, none), (8, none), (9, none)]), (23, [(0, none), (8, none), (9, none), (75, none)]), (24, [(2, none), (3, none)]), (25, [(0, none), (10, none)]), (26, [(0, none), (10, none), (96, none)]), (27, [(2, none), (3, none)]), (28, [(0, none), (10, none), (11, some 9)]), (29, [(0, none), (10, none), (11, some 9), (12, none)]), (30, [(0, none), (10, none), (11, some 9), (12, none), (102, none)]), (31, [(0, none), (10, none), (11, some 9), (12, none)]), (32, [(0, none), (10, none), (11, some 9), (12, none), (110, none)]), (33, [(2, none), (3, none)]), (34, [(2, none), (3, none)])],
  [(0, [(0, none), (5, none), (6, none), (7, none), (8, none)]), (1, []), (2, [(0, none), (10, none), (11, some 9), (12, none)])],
  [(15, ([(0, none)], [(0, none), (4, none), (5, none), (6, none), (7, none), (8, none)])), (28, ([(0, none)], [(0, none), (4, none), (5, none), (6, none), (7, none), (8, none)])), (43, ([(0, none), (5, none), (6, none)], [(0, none), (5, none), (6, none), (7, none)])), (48, ([(0, none), (4, none)], [(0, none), (5, none), (6, none), (7, none), (8, none)])), (57, ([(0, none), (4, none), (5, none)], [(0, none), (4, none), (5, none)])), (75, ([], [(0, none), (8, none), (9, none)])), (96, ([], [(0, none), (10, none)])), (102, ([(0, none), (10, none), (11, some 9), (12, none)], [])), (110, ([(10, none)], [(0, none), (10, none), (11, some 9), (12, none)]))]⟩
def S_ParseDate_cl (k : Nat) : Calls' D := ⟨[(112, S_l3Two_en k), (113, S_l3Month_en k), (78, S_l1In_en k), (114, S_DaysOf_en k), (115, S_l3Forms_en k)], [], [], [], []⟩
theorem S_ParseDate_ck (k : Nat) : CallsOK X (S_ParseDate_cl k) := .cons (S_l3Two_eo k) (.cons (S_l3Month_eo k) (.cons (S_l1In_eo k) (.cons (S_DaysOf_eo k) (.cons (S_l3Forms_eo k) (.nil cod)))))
def S_ParseDate_c43_L (x : (List UInt8) × Int × Int × Int × Bool × Unit) (o : Int) (Q : Ex → VSt D → Prop) (R : VR D → Prop) : Prop := Q .normal (mkSt ⟨[(0, .hole), (5, .hole), (6, .hole), (7, .hole)], []⟩ [.str x.1, .int .i64 x.2.1, .int .i64 x.2.2.1, .int .i64 o])
def S_ParseDate_c43_cut (k : Nat) : Cut D := cutS ⟨[(0, .hole), (5, .hole), (6, .hole), (7, .hole), (43, .hole)], []⟩ [.ks, .ki .i64, .ki .i64, .ki .i64, .kb] (fun (x : (List UInt8) × Int × Int × Int × Bool × Unit) => S_ParseDate_c43 k x.1 x.2.1 x.2.2.1 x.2.2.2.1 x.2.2.2.2.1) S_ParseDate_c43_L
def S_ParseDate_c43_cu (k : Nat) : Cuts D := ⟨[], []⟩
theorem S_ParseDate_c43_ok (k : Nat) : CutFor X S_ParseDate_pl k Go.Proofs.Tryz.f49.results.toList (S_ParseDate_c43_cut k) (sub (bodyOf Go.Proofs.Tryz.f49) [1, 1, 1, 0, 0, 1, 1, 1, 0, 1, 1, 1, 0, 1]) :=
  joinCut_s (X := X) (sg := [.ks, .ki .i64, .ki .i64, .ki .i64, .kb]) (cu := S_ParseDate_c43_cu k) (cl := S_ParseDate_cl k) (tys := [[0], [0]]) (S_ParseDate_ck k) (cutOK_of (l := []) (by kernel_rfl) trivial) fun x Q R h => by
    simp only [S_ParseDate_c43, optK_bind, optK_bif, optK_pure, optK_none, optK_oc, optK_guardT, optK_map] at h
    refine hold_of h ?_
    kernel_rfl
def S_ParseDate_c57_L (x : (List UInt8) × Int × Int × Bool × Unit) (o : Int) (Q : Ex → VSt D → Prop) (R : VR D → Prop) : Prop := Q .normal (mkSt ⟨[(0, .hole), (4, .hole), (5, .hole)], []⟩ [.str x.1, .int .i64 x.2.1, .int .i64 o])
def S_ParseDate_c57_cut (k : Nat) : Cut D := cutS ⟨[(0, .hole), (4, .hole), (5, .hole), (57, .hole)], []⟩ [.ks, .ki .i64, .ki .i64, .kb] (fun (x : (List UInt8) × Int × Int × Bool × Unit) => S_ParseDate_c57 k x.1 x.2.1 x.2.2.1 x.2.2.2.1) S_ParseDate_c57_L
def S_ParseDate_c57_cu (k : Nat) : Cuts D := ⟨[], []⟩
theorem S_ParseDate_c57_ok (k : Nat) : CutFor X S_ParseDate_pl k Go.Proofs.Tryz.f49.results.toList (S_ParseDate_c57_cut k) (sub (bodyOf Go.Proofs.Tryz.f49) [1, 1, 1, 0, 0, 1, 1, 1, 1, 1, 0, 1, 0, 1]) :=
  joinCut_s (X := X) (sg := [.ks, .ki .i64, .ki .i64, .kb]) (cu := S_ParseDate_c57_cu k) (cl := S_ParseDate_cl k) (tys := [[0], [0]]) (S_ParseDate_ck k) (cutOK_of (l := []) (by kernel_rfl) trivial) fun x Q R h => by
    simp only [S_ParseDate_c57, optK_bind, optK_bif, optK_pure, optK_none, optK_oc, optK_guardT, optK_map] at h
    refine hold_of h ?_
    kernel_rfl
def S_ParseDate_c48_L (x : (List UInt8) × Int × Int × Int × Int × Int × Bool × Unit) (o : Int × Int × Int × Int) (Q : Ex → VSt D → Prop) (R : VR D → Prop) : Prop := Q .normal (mkSt ⟨[(0, .hole), (5, .hole), (6, .hole), (7, .hole), (8, .hole)], []⟩ [.str x.1, .int .i64 o.1, .int .i64 o.2.1, .int .i64 o.2.2.1, .int .i64 o.2.2.2])
def S_ParseDate_c48_cut (k : Nat) : Cut D := cutS ⟨[(0, .hole), (4, .hole), (5, .hole), (6, .hole), (7, .hole), (8, .hole), (48, .hole)], []⟩ [.ks, .ki .i64, .ki .i64, .ki .i64, .ki .i64, .ki .i64, .kb] (fun (x : (List UInt8) × Int × Int × Int × Int × Int × Bool × Unit) => S_ParseDate_c48 k x.1 x.2.1 x.2.2.1 x.2.2.2.1 x.2.2.2.2.1 x.2.2.2.2.2.1 x.2.2.2.2.2.2.1) S_ParseDate_c48_L
def S_ParseDate_c48_cu (k : Nat) : Cuts D := ⟨[], [(57, some (S_ParseDate_c57_cut k))]⟩
theorem S_ParseDate_c48_ok (k : Nat) : CutFor X S_ParseDate_pl k Go.Proofs.Tryz.f49.results.toList (S_ParseDate_c48_cut k) (sub (bodyOf Go.Proofs.Tryz.f49) [1, 1, 1, 0, 0, 1, 1, 1, 1, 1]) :=
  joinCut_s (X := X) (sg := [.ks, .ki .i64, .ki .i64, .ki .i64, .ki .i64, .ki .i64, .kb]) (cu := S_ParseDate_c48_cu k) (cl := S_ParseDate_cl k) (tys := [[0], [0]]) (S_ParseDate_ck k) (cutOK_of (l := [(S_ParseDate_c57_cut k, sub (bodyOf Go.Proofs.Tryz.f49) [1, 1, 1, 0, 0, 1, 1, 1, 1, 1, 0, 1, 0, 1])]) (by kernel_rfl) ⟨S_ParseDate_c57_ok k, trivial⟩) fun x Q R h => by
    simp only [S_ParseDate_c48, optK_bind, optK_bif, optK_pure, optK_none, optK_oc, optK_guardT, optK_map] at h
    refine hold_of h ?_
    kernel_rfl
def S_ParseDate_c28_L (x : (List UInt8) × Int × Int × Int × Int × Int × Bool × Unit) (o : Int × Int × Int × Int) (Q : Ex → VSt D → Prop) (R : VR D → Prop) : Prop := Q .normal (mkSt ⟨[(0, .hole), (5, .hole), (6, .hole), (7, .hole), (8, .hole)], []⟩ [.str x.1, .int .i64 o.1, .int .i64 o.2.1, .int .i64 o.2.2.1, .int .i64 o.2.2.2])
def S_ParseDate_c28_cut (k : Nat) : Cut D := cutS ⟨[(0, .hole), (4, .hole), (5, .hole), (6, .hole), (7, .hole), (8, .hole), (28, .hole)], []⟩ [.ks, .ki .i64, .ki .i64, .ki .i64, .ki .i64, .ki .i64, .kb] (fun (x : (List UInt8) × Int × Int × Int × Int × Int × Bool × Unit) => S_ParseDate_c28 k x.1 x.2.1 x.2.2.1 x.2.2.2.1 x.2.2.2.2.1 x.2.2.2.2.2.1 x.2.2.2.2.2.2.1) S_ParseDate_c28_L
def S_ParseDate_c28_cu (k : Nat) : Cuts D := ⟨[], [(43, some (S_ParseDate_c43_cut k)), (48, some (S_ParseDate_c48_cut k))]⟩
theorem S_ParseDate_c28_ok (k : Nat) : CutFor X S_ParseDate_pl k Go.Proofs.Tryz.f49.results.toList (S_ParseDate_c28_cut k) (sub (bodyOf Go.Proofs.Tryz.f49) [1, 1, 1, 0, 0, 1, 1, 1]) :=
  joinCut_s (X := X) (sg := [.ks, .ki .i64, .ki .i64, .ki .i64, .ki .i64, .ki .i64, .kb]) (cu := S_ParseDate_c28_cu k) (cl := S_ParseDate_cl k) (tys := [[0], [0]]) (S_ParseDate_ck k) (cutOK_of (l := [(S_ParseDate_c43_cut k, sub (bodyOf Go.Proofs.Tryz.f49) [1, 1, 1, 0, 0, 1, 1, 1, 0, 1, 1, 1, 0, 1]), (S_ParseDate_c48_cut k, sub (bodyOf Go.Proofs.Tryz.f49) [1, 1, 1, 0, 0, 1, 1, 1, 1, 1])]) (by kernel_rfl) ⟨S_ParseDate_c43_ok k, S_ParseDate_c48_ok k, trivial⟩) fun x Q R h => by
    simp only [S_ParseDate_c28, optK_bind, optK_bif, optK_pure, optK_none, optK_oc, optK_guardT, optK_map] at h
    refine hold_of h ?_
    kernel_rfl
def S_ParseDate_c15_L (x : (List UInt8) × Int × Int × Int × Int × Int × Bool × Unit) (o : Int × Int × Int × Int) (Q : Ex → VSt D → Prop) (R : VR D → Prop) : Prop := Q .normal (mkSt ⟨[(0, .hole), (5, .hole), (6, .hole), (7, .hole), (8, .hole)], []⟩ [.str x.1, .int .i64 o.1, .int .i64 o.2.1, .int .i64 o.2.2.1, .int .i64 o.2.2.2])
def S_ParseDate_c15_cut (k : Nat) : Cut D := cutS ⟨[(0, .hole), (4, .hole), (5, .hole), (6, .hole), (7, .hole), (8, .hole), (15, .hole)], []⟩ [.ks, .ki .i64, .ki .i64, .ki .i64, .ki .i64, .ki .i64, .kb] (fun (x : (List UInt8) × Int × Int × Int × Int × Int × Bool × Unit) => S_ParseDate_c15 k x.1 x.2.1 x.2.2.1 x.2.2.2.1 x.2.2.2.2.1 x.2.2.2.2.2.1 x.2.2.2.2.2.2.1) S_ParseDate_c15_L
def S_ParseDate_c15_cu (k : Nat) : Cuts D := ⟨[], [(28, some (S_ParseDate_c28_cut k))]⟩
theorem S_ParseDate_c15_ok (k : Nat) : CutFor X S_ParseDate_pl k Go.Proofs.Tryz.f49.results.toList (S_ParseDate_c15_cut k) (sub (bodyOf Go.Proofs.Tryz.f49) [1, 1, 1, 0, 0, 1]) :=
  joinCut_s (X := X) (sg := [.ks, .ki .i64, .ki .i64, .ki .i64, .ki .i64, .ki .i64, .kb]) (cu := S_ParseDate_c15_cu k) (cl := S_ParseDate_cl k) (tys := [[0], [0]]) (S_ParseDate_ck k) (cutOK_of (l := [(S_ParseDate_c28_cut k, sub (bodyOf Go.Proofs.Tryz.f49) [1, 1, 1, 0, 0, 1, 1, 1])]) (by kernel_rfl) ⟨S_ParseDate_c28_ok k, trivial⟩) fun x Q R h => by
    simp only [S_ParseDate_c15, optK_bind, optK_bif, optK_pure, optK_none, optK_oc, optK_guardT, optK_map] at h
    refine hold_of h ?_
    kernel_rfl
def S_ParseDate_b0_L (x : (List UInt8) × Int × Int × Int × Int × Int × Unit) (o : Int × Int × Int × Int) (Q : Ex → VSt D → Prop) (R : VR D → Prop) : Prop := Q .normal (mkSt ⟨[(0, .hole), (5, .hole), (6, .hole), (7, .hole), (8, .hole)], []⟩ [.str x.1, .int .i64 o.1, .int .i64 o.2.1, .int .i64 o.2.2.1, .int .i64 o.2.2.2])
def S_ParseDate_b0_cut (k : Nat) : Cut D := cutS ⟨[(0, .hole), (4, .hole), (5, .hole), (6, .hole), (7, .hole), (8, .hole)], []⟩ [.ks, .ki .i64, .ki .i64, .ki .i64, .ki .i64, .ki .i64] (fun (x : (List UInt8) × Int × Int × Int × Int × Int × Unit) => S_ParseDate_b0 k x.1 x.2.1 x.2.2.1 x.2.2.2.1 x.2.2.2.2.1 x.2.2.2.2.2.1) S_ParseDate_b0_L
def S_ParseDate_b0_cu (k : Nat) : Cuts D := ⟨[], [(15, some (S_ParseDate_c15_cut k))]⟩
theorem S_ParseDate_b0_ok (k : Nat) : CutFor X S_ParseDate_pl k Go.Proofs.Tryz.f49.results.toList (S_ParseDate_b0_cut k) (sub (bodyOf Go.Proofs.Tryz.f49) [1, 1, 1, 0]) :=
  joinCut_s (X := X) (sg := [.ks, .ki .i64, .ki .i64, .ki .i64, .ki .i64, .ki .i64]) (cu := S_ParseDate_b0_cu k) (cl := S_ParseDate_cl k) (tys := [[0], [0]]) (S_ParseDate_ck k) (cutOK_of (l := [(S_ParseDate_c15_cut k, sub (bodyOf Go.Proofs.Tryz.f49) [1, 1, 1, 0, 0, 1])]) (by kernel_rfl) ⟨S_ParseDate_c15_ok k, trivial⟩) fun x Q R h => by
    simp only [S_ParseDate_b0, optK_bind, optK_bif, optK_pure, optK_none, optK_oc, optK_guardT, optK_map] at h
    refine hold_of h ?_
    kernel_rfl
def S_ParseDate_b1_L (x : (List UInt8) × Int × Int × (List (List UInt8)) × Unit) (o : Oc (Unit) (Int × Bool)) (Q : Ex → VSt D → Prop) (R : VR D → Prop) : Prop := ocP o (fun v0 => Q .normal (mkSt ⟨[], []⟩ [])) (fun w0 => R (.tup [.c (.int .i64 w0.1), .c (.bool w0.2)]))
def S_ParseDate_b1_cut (k : Nat) : Cut D := cutS ⟨[(0, .hole), (10, .hole), (11, .ref 500011), (12, .hole)], [(500011, .row)]⟩ [.ks, .ki .i64, .ki .i64, .kl 9] (fun (x : (List UInt8) × Int × Int × (List (List UInt8)) × Unit) => S_ParseDate_b1 k k x.1 x.2.1 x.2.2.1 x.2.2.2.1) S_ParseDate_b1_L
def S_ParseDate_b1_cu (k : Nat) : Cuts D := ⟨[], []⟩
theorem S_ParseDate_b1_ok (k : Nat) : CutFor X S_ParseDate_pl k Go.Proofs.Tryz.f49.results.toList (S_ParseDate_b1_cut k) (sub (bodyOf Go.Proofs.Tryz.f49) [1, 1, 1, 1, 1, 1, 1, 1, 1, 0, 1]) :=
  loopCut_s (X := X) (sg := [.ks, .ki .i64, .ki .i64, .kl 9]) (cu := S_ParseDate_b1_cu k) (cl := S_ParseDate_cl k) (tys := [[0], [0]]) (id := 1) (c := sub (bodyOf Go.Proofs.Tryz.f49) [1, 1, 1, 1, 1, 1, 1, 1, 1, 0, 1, 0, 0]) (f := fun n => fun (x : (List UInt8) × Int × Int × (List (List UInt8)) × Unit) => S_ParseDate_b1 k n x.1 x.2.1 x.2.2.1 x.2.2.2.1) (S_ParseDate_ck k) (cutOK_of (l := []) (by kernel_rfl) trivial) (fun _ => rfl) (fun n x Q R h => by
    simp only [S_ParseDate_b1, optK_bind, optK_bif, optK_pure, optK_none, optK_oc, optK_guardT, optK_map] at h
    refine hold_of h ?_
    kernel_rfl) (by kernel_rfl)
def S_ParseDate_cu (k : Nat) : Cuts D := ⟨[(0, some (S_ParseDate_b0_cut k)), (1, some (S_ParseDate_b1_cut k))], []⟩
def S_ParseDate_ar : List Ar := [.c (.ks)]
def S_ParseDate_f (k : Nat) (x : TupA D S_ParseDate_ar) : Option (Int × Bool) := S_ParseDate k x.1
def S_ParseDate_vr (r : Int × Bool) : VR D := .tup [.c (.int .i64 r.1), .c (.bool r.2)]
theorem S_ParseDate_ok (k : Nat) : Does P X 49 S_ParseDate_ar (S_ParseDate_f k) S_ParseDate_vr :=
  does_of (body := bodyOf Go.Proofs.Tryz.f49) (pl := S_ParseDate_pl) (k := k) (cu := S_ParseDate_cu k) (tys := [[0], [0]]) (S_ParseDate_ck k) ctx mixed Go.Proofs.Tryz.func49 (by kernel_rfl) (by kernel_rfl) (cutOK_of (l := [(S_ParseDate_b0_cut k, sub (bodyOf Go.Proofs.Tryz.f49) [1, 1, 1, 0]), (S_ParseDate_b1_cut k, sub (bodyOf Go.Proofs.Tryz.f49) [1, 1, 1, 1, 1, 1, 1, 1, 1, 0, 1])]) (by kernel_rfl) ⟨S_ParseDate_b0_ok k, S_ParseDate_b1_ok k, trivial⟩) fun x R h => by
    simp only [S_ParseDate_f, S_ParseDate, optK_bind, optK_bif, optK_pure, optK_none, optK_oc, optK_guardT, optK_map] at h
    refine hold_of h ?_
    kernel_rfl
def S_ParseDate_en (k : Nat) : Entry D := entS S_ParseDate_ar (S_ParseDate_f k) S_ParseDate_vr
theorem S_ParseDate_eo (k : Nat) : EntryOK X 49 (S_ParseDate_en k) := (S_ParseDate_ok k).en rfl
def S_InitialAge_pl : Plan := ⟨[(0, [(1, none), (2, none), (3, none)]), (1, [(2, none), (3, none), (7, none)]), (2, [(2, none), (7, none), (8, none), (9, none)]), (3, [(2, none), (7, none), (8, none), (24, none)]), (4, [(7, none)]), (5, [(6, none)])],
  [],
  [(24, ([(2, none), (7, none), (8, none)], [(7, none)]))]⟩
def S_InitialAge_cl (k : Nat) : Calls' D := ⟨[(47, S_AgeField_en k), (48, S_Max_en k), (50, S_l5Get_en k), (49, S_ParseDate_en k), (51, S_Min_en k)], [], [], [], []⟩
theorem S_InitialAge_ck (k : Nat) : CallsOK X (S_InitialAge_cl k) := .cons (S_AgeField_eo k) (.cons (S_Max_eo k) (.cons (S_l5Get_eo k) (.cons (S_ParseDate_eo k) (.cons (S_Min_eo k) (.nil cod)))))
def S_InitialAge_c24_L (x : Int × Int × Int × Bool × Unit) (o : Int) (Q : Ex → VSt D → Prop) (R : VR D → Prop) : Prop := Q .normal (mkSt ⟨[(7, .hole)], []⟩ [.int .i64 o])
def S_InitialAge_c24_cut (k : Nat) : Cut D := cutS ⟨[(2, .hole), (7, .hole), (8, .hole), (24, .hole)], []⟩ [.ki .i64, .ki .i64, .ki .i64, .kb] (fun (x : Int × Int × Int × Bool × Unit) => S_InitialAge_c24 k x.1 x.2.1 x.2.2.1 x.2.2.2.1) S_InitialAge_c24_L
def S_InitialAge_c24_cu (k : Nat) : Cuts D := ⟨[], []⟩
theorem S_InitialAge_c24_ok (k : Nat) : CutFor X S_InitialAge_pl k Go.Proofs.Tryz.f21.results.toList (S_InitialAge_c24_cut k) (sub (bodyOf Go.Proofs.Tryz.f21) [1, 1, 1, 0, 1]) :=
  joinCut_s (X := X) (sg := [.ki .i64, .ki .i64, .ki .i64, .kb]) (cu := S_InitialAge_c24_cu k) (cl := S_InitialAge_cl k) (tys := [[0]]) (S_InitialAge_ck k) (cutOK_of (l := []) (by kernel_rfl) trivial) fun x Q R h => by
    simp only [S_InitialAge_c24, optK_bind, optK_bif, optK_pure, optK_none, optK_oc, optK_guardT, optK_map] at h
    refine hold_of h ?_
    kernel_rfl
def S_InitialAge_cu (k : Nat) : Cuts D := ⟨[], [(24, some (S_InitialAge_c24_cut k))]⟩
def S_InitialAge_ar : List Ar := [.a [.ki .i64, .kl 107, .ks], .c (.ki .i64), .c (.ki .i64)]
def S_InitialAge_f (k : Nat) (x : TupA D S_InitialAge_ar) : Option (Int) := S_InitialAge k (⟨x.1.1, x.1.2.1, x.1.2.2.1⟩ : IResponse) x.2.1 x.2.2.1
def S_InitialAge_vr (r : Int) : VR D := .p (.c (.int .i64 r))
theorem S_InitialAge_ok (k : Nat) : Does P X 21 S_InitialAge_ar (S_InitialAge_f k) S_InitialAge_vr :=
  does_of (body := bodyOf Go.Proofs.Tryz.f21) (pl := S_InitialAge_pl) (k := k) (cu := S_InitialAge_cu k) (tys := [[0]]) (S_InitialAge_ck k) ctx mixed Go.Proofs.Tryz.func21 (by kernel_rfl) (by kernel_rfl) (cutOK_of (l := [(S_InitialAge_c24_cut k, sub (bodyOf Go.Proofs.Tryz.f21) [1, 1, 1, 0, 1])]) (by kernel_rfl) ⟨S_InitialAge_c24_ok k, trivial⟩) fun x R h => by
    simp only [S_InitialAge_f, S_InitialAge, optK_bind, optK_bif, optK_pure, optK_none, optK_oc, optK_guardT, optK_map] at h
    refine hold_of h ?_
    kernel_rfl
def S_InitialAge_en (k : Nat) : Entry D := entS S_InitialAge_ar (S_InitialAge_f k) S_InitialAge_vr
theorem S_InitialAge_eo (k : Nat) : EntryOK X 21 (S_InitialAge_en k) := (S_InitialAge_ok k).en rfl
def strings_Join_ar : List Ar := [.c (.kl 9), .c (.ks)]
def strings_Join_f (k : Nat) (x : TupA D strings_Join_ar) : Option ((List UInt8)) := strings_Join k x.1 x.2.1
def strings_Join_vr (r : (List UInt8)) : VR D := .p (.c (.str r))
theorem strings_Join_ok (k : Nat) : Does P X 85 strings_Join_ar (strings_Join_f k) strings_Join_vr := does_join (P := P) (D := D) (X := X) (el := 9) ⟨Go.Proofs.Tryz.f85, Go.Proofs.Tryz.func85, by kernel_rfl, by kernel_rfl⟩ (fun (s : List UInt8) => s) (fun (l : List (List UInt8)) s => joinO l s) (fun _ => rfl) (by kernel_rfl) (fun (l : List (List UInt8)) s => congrArg (fun t => joinO t s) (List.map_id' l).symm) (fun a c sep w => Go.Proofs.Tryz.strings_Join_none a c sep w) (fun bk o c xs sep w hg h1 h2 h3 h4 h5 => Go.Proofs.Tryz.strings_Join bk o c xs sep w h1 h2 h3 h4 h5)
def strings_Join_en (k : Nat) : Entry D := entS strings_Join_ar (strings_Join_f k) strings_Join_vr
theorem strings_Join_eo (k : Nat) : EntryOK X 85 (strings_Join_en k) := (strings_Join_ok k).en rfl
def I_JoinList_pl : Plan := ⟨[(0, [(0, some 9)]), (1, [(2, none)])],
  [],
  []⟩
def I_JoinList_cl (k : Nat) : Calls' D := ⟨[(85, strings_Join_en k)], [], [], [], []⟩
theorem I_JoinList_ck (k : Nat) : CallsOK X (I_JoinList_cl k) := .cons (strings_Join_eo k) (.nil cod)
def I_JoinList_cu (k : Nat) : Cuts D := ⟨[], []⟩
def I_JoinList_ar : List Ar := [.c (.kl 9)]
def I_JoinList_f (k : Nat) (x : TupA D I_JoinList_ar) : Option ((List UInt8)) := I_JoinList k x.1
def I_JoinList_vr (r : (List UInt8)) : VR D := .p (.c (.str r))
theorem I_JoinList_ok (k : Nat) : Does P X 119 I_JoinList_ar (I_JoinList_f k) I_JoinList_vr :=
  does_of (body := bodyOf Go.Proofs.Tryz.f119) (pl := I_JoinList_pl) (k := k) (cu := I_JoinList_cu k) (tys := [[0]]) (I_JoinList_ck k) ctx mixed Go.Proofs.Tryz.func119 (by kernel_rfl) (by kernel_rfl) (cutOK_of (l := []) (by kernel_rfl) trivial) fun x R h => by
    simp only [I_JoinList_f, I_JoinList, optK_bind, optK_bif, optK_pure, optK_none, optK_oc, optK_guardT, optK_map] at h
    refine hold_of h ?_
    kernel_rfl
def I_JoinList_en (k : Nat) : Entry D := entS I_JoinList_ar (I_JoinList_f k) I_JoinList_vr
theorem I_JoinList_eo (k : Nat) : EntryOK X 119 (I_JoinList_en k) := (I_JoinList_ok k).en rfl
def I_GetField_pl : Plan := ⟨[(0, [(0, some 107), (1, none)]), (1, [(0, some 107), (1, none), (6, some 9)]), (2, [(1, none), (6, some 9), (10, some 107), (11, none), (12, none)]), (3, [(1, none), (6, some 9), (10, some 107), (11, none), (12, none), (13, none)]), (4, [(1, none), (6, some 9), (8, none), (10, some 107), (11, none), (12, none)]), (5, [(1, none), (6, some 9), (8, none), (10, some 107), (11, none), (12, none), (19, none)]), (6, [(1, none), (6, some 9), (10, some 107), (11, none), (12, none)]), (7, [(1, none), (6, some 9), (10, some 107), (11, none), (12, none)]), (8, [(4, none), (5, none)])],
  [(0, [(6, some 9)]), (1, [(1, none), (6, some 9), (10, some 107), (11, none), (12, none)])],
  [(13, ([(1, none), (6, some 9), (10, some 107), (11, none), (12, none)], [(6, some 9)])), (19, ([(1, none), (6, some 9), (8, none), (10, some 107), (11, none), (12, none)], [(1, none), (6, some 9), (10, some 107), (11, none), (12, none)]))]⟩
def I_GetField_cl (k : Nat) : Calls' D := ⟨[(119, I_JoinList_en k)], [], [], [], []⟩
theorem I_GetField_ck (k : Nat) : CallsOK X (I_GetField_cl k) := .cons (I_JoinList_eo k) (.nil cod)
def I_GetField_c19_L (x : (List UInt8) × (List IField) × Int × Int × Bool × (List (List UInt8)) × (List UInt8) × (List UInt8) × Unit) (o : (List (List UInt8))) (Q : Ex → VSt D → Prop) (R : VR D → Prop) : Prop := Q .normal (mkSt ⟨[(1, .hole), (6, .ref 500006), (10, .hole), (11, .hole), (12, .hole)], [(500006, .row)]⟩ [.str x.1, .sl 107 x.2.1, .int .i64 x.2.2.1, .int .i64 x.2.2.2.1, .sl 9 o])
def I_GetField_c19_cut (k : Nat) : Cut D := cutS ⟨[(1, .hole), (6, .ref 500006), (8, .ptr 8 0), (10, .hole), (11, .hole), (12, .hole), (19, .hole)], [(500006, .row), (8, .var [.hole, .hole])]⟩ [.ks, .kl 107, .ki .i64, .ki .i64, .kb, .kl 9, .ks, .ks] (fun (x : (List UInt8) × (List IField) × Int × Int × Bool × (List (List UInt8)) × (List UInt8) × (List UInt8) × Unit) => I_GetField_c19 k x.1 x.2.1 x.2.2.1 x.2.2.2.1 x.2.2.2.2.1 x.2.2.2.2.2.1 x.2.2.2.2.2.2.1 x.2.2.2.2.2.2.2.1) I_GetField_c19_L
def I_GetField_c19_cu (k : Nat) : Cuts D := ⟨[], []⟩
theorem I_GetField_c19_ok (k : Nat) : CutFor X I_GetField_pl k Go.Proofs.Tryz.f57.results.toList (I_GetField_c19_cut k) (sub (bodyOf Go.Proofs.Tryz.f57) [1, 1, 0, 1, 0, 0, 1, 1, 0, 0, 1, 1]) :=
  joinCut_s (X := X) (sg := [.ks, .kl 107, .ki .i64, .ki .i64, .kb, .kl 9, .ks, .ks]) (cu := I_GetField_c19_cu k) (cl := I_GetField_cl k) (tys := [[0], [0]]) (I_GetField_ck k) (cutOK_of (l := []) (by kernel_rfl) trivial) fun x Q R h => by
    simp only [I_GetField_c19, optK_bind, optK_bif, optK_pure, optK_none, optK_oc, optK_guardT, optK_map] at h
    refine hold_of h ?_
    kernel_rfl
def I_GetField_b1_L (x : (List UInt8) × (List IField) × Int × Int × (List (List UInt8)) × Unit) (o : (List (List UInt8))) (Q : Ex → VSt D → Prop) (R : VR D → Prop) : Prop := Q .normal (mkSt ⟨[(1, .hole), (6, .ref 500006), (10, .hole), (11, .hole), (12, .hole)], [(500006, .row)]⟩ [.str x.1, .sl 107 x.2.1, .int .i64 x.2.2.1, .int .i64 x.2.2.2.1, .sl 9 o])
def I_GetField_b1_cut (k : Nat) : Cut D := cutS ⟨[(1, .hole), (6, .ref 500006), (10, .hole), (11, .hole), (12, .hole)], [(500006, .row)]⟩ [.ks, .kl 107, .ki .i64, .ki .i64, .kl 9] (fun (x : (List UInt8) × (List IField) × Int × Int × (List (List UInt8)) × Unit) => I_GetField_b1 k x.1 x.2.1 x.2.2.1 x.2.2.2.1 x.2.2.2.2.1) I_GetField_b1_L
def I_GetField_b1_cu (k : Nat) : Cuts D := ⟨[], [(19, some (I_GetField_c19_cut k))]⟩
theorem I_GetField_b1_ok (k : Nat) : CutFor X I_GetField_pl k Go.Proofs.Tryz.f57.results.toList (I_GetField_b1_cut k) (sub (bodyOf Go.Proofs.Tryz.f57) [1, 1, 0, 1, 0, 0, 1, 1, 0]) :=
  joinCut_s (X := X) (sg := [.ks, .kl 107, .ki .i64, .ki .i64, .kl 9]) (cu := I_GetField_b1_cu k) (cl := I_GetField_cl k) (tys := [[0], [0]]) (I_GetField_ck k) (cutOK_of (l := [(I_GetField_c19_cut k, sub (bodyOf Go.Proofs.Tryz.f57) [1, 1, 0, 1, 0, 0, 1, 1, 0, 0, 1, 1])]) (by kernel_rfl) ⟨I_GetField_c19_ok k, trivial⟩) fun x Q R h => by
    simp only [I_GetField_b1, optK_bind, optK_bif, optK_pure, optK_none, optK_oc, optK_guardT, optK_map] at h
    refine hold_of h ?_
    kernel_rfl
def I_GetField_b0_L (x : (List UInt8) × (List IField) × Int × Int × (List (List UInt8)) × Unit) (o : (List (List UInt8))) (Q : Ex → VSt D → Prop) (R : VR D → Prop) : Prop := Q .normal (mkSt ⟨[(6, .ref 500006)], [(500006, .row)]⟩ [.sl 9 o])
def I_GetField_b0_cut (k : Nat) : Cut D := cutS ⟨[(1, .hole), (6, .ref 500006), (10, .hole), (11, .hole), (12, .hole)], [(500006, .row)]⟩ [.ks, .kl 107, .ki .i64, .ki .i64, .kl 9] (fun (x : (List UInt8) × (List IField) × Int × Int × (List (List UInt8)) × Unit) => I_GetField_b0 k k x.1 x.2.1 x.2.2.1 x.2.2.2.1 x.2.2.2.2.1) I_GetField_b0_L
def I_GetField_b0_cu (k : Nat) : Cuts D := ⟨[(1, some (I_GetField_b1_cut k))], []⟩
theorem I_GetField_b0_ok (k : Nat) : CutFor X I_GetField_pl k Go.Proofs.Tryz.f57.results.toList (I_GetField_b0_cut k) (sub (bodyOf Go.Proofs.Tryz.f57) [1, 1, 0, 1]) :=
  loopCut_s (X := X) (sg := [.ks, .kl 107, .ki .i64, .ki .i64, .kl 9]) (cu := I_GetField_b0_cu k) (cl := I_GetField_cl k) (tys := [[0], [0]]) (id := 0) (c := sub (bodyOf Go.Proofs.Tryz.f57) [1, 1, 0, 1, 0, 0]) (f := fun n => fun (x : (List UInt8) × (List IField) × Int × Int × (List (List UInt8)) × Unit) => I_GetField_b0 k n x.1 x.2.1 x.2.2.1 x.2.2.2.1 x.2.2.2.2.1) (I_GetField_ck k) (cutOK_of (l := [(I_GetField_b1_cut k, sub (bodyOf Go.Proofs.Tryz.f57) [1, 1, 0, 1, 0, 0, 1, 1, 0])]) (by kernel_rfl) ⟨I_GetField_b1_ok k, trivial⟩) (fun _ => rfl) (fun n x Q R h => by
    simp only [I_GetField_b0, optK_bind, optK_bif, optK_pure, optK_none, optK_oc, optK_guardT, optK_map] at h
    refine hold_of h ?_
    kernel_rfl) (by kernel_rfl)
def I_GetField_cu (k : Nat) : Cuts D := ⟨[(0, some (I_GetField_b0_cut k))], []⟩
def I_GetField_ar : List Ar := [.c (.kl 107), .c (.ks)]
def I_GetField_f (k : Nat) (x : TupA D I_GetField_ar) : Option ((List UInt8) × Bool) := I_GetField k x.1 x.2.1
def I_GetField_vr (r : (List UInt8) × Bool) : VR D := .tup [.c (.str r.1), .c (.bool r.2)]
theorem I_GetField_ok (k : Nat) : Does P X 57 I_GetField_ar (I_GetField_f k) I_GetField_vr :=
  does_of (body := bodyOf Go.Proofs.Tryz.f57) (pl := I_GetField_pl) (k := k) (cu := I_GetField_cu k) (tys := [[0], [0]]) (I_GetField_ck k) ctx mixed Go.Proofs.Tryz.func57 (by kernel_rfl) (by kernel_rfl) (cutOK_of (l := [(I_GetField_b0_cut k, sub (bodyOf Go.Proofs.Tryz.f57) [1, 1, 0, 1])]) (by kernel_rfl) ⟨I_GetField_b0_ok k, trivial⟩) fun x R h => by
    simp only [I_GetField_f, I_GetField, optK_bind, optK_bif, optK_pure, optK_none, optK_oc, optK_guardT, optK_map] at h
    refine hold_of h ?_
    kernel_rfl
def I_GetField_en (k : Nat) : Entry D := entS I_GetField_ar (I_GetField_f k) I_GetField_vr
theorem I_GetField_eo (k : Nat) : EntryOK X 57 (I_GetField_en k) := (I_GetField_ok k).en rfl
def strconv_Atoi_ar : List Ar := [.c (.ks)]
def strconv_Atoi_f (k : Nat) (x : TupA D strconv_Atoi_ar) : Option (Int × Bool) := strconv_Atoi k x.1
def strconv_Atoi_vr (r : Int × Bool) : VR D := .tup [.c (.int .i64 r.1), .c (.err r.2)]
theorem strconv_Atoi_ok (k : Nat) : Does P X 176 strconv_Atoi_ar (strconv_Atoi_f k) strconv_Atoi_vr := does_atoi ⟨Go.Proofs.Tryz.f176, Go.Proofs.Tryz.func176, by kernel_rfl, by kernel_rfl⟩ (fun s v w hg h1 h2 => Go.Proofs.Tryz.strconv_Atoi_ok s h1 v h2 w) (fun s w hg h1 h2 => let ⟨tp, p, hv⟩ := hg.1; (Go.Proofs.Tryz.strconv_Atoi_range_var s h1 h2 tp p w hv).mono fun e w1 ⟨N, h, _, _, hb⟩ => ⟨_, h, hb⟩) (fun s w hg h1 h2 h3 => let ⟨tp, p, hv⟩ := hg.2.1; (Go.Proofs.Any.strconv_Atoi_syntax_var Go.Proofs.Tryz.laysC172 s h1 (atoi_bad h2 h3) tp p w hv).mono fun e w1 ⟨N, h, _, _, hb⟩ => ⟨_, h, hb⟩)
def strconv_Atoi_en (k : Nat) : Entry D := entS strconv_Atoi_ar (strconv_Atoi_f k) strconv_Atoi_vr
theorem strconv_Atoi_eo (k : Nat) : EntryOK X 176 (strconv_Atoi_en k) := (strconv_Atoi_ok k).en rfl
def I_inRange_pl : Plan := ⟨[(0, [(0, none), (1, none), (2, none)]), (1, [(6, none)])],
  [],
  []⟩
def I_inRange_cl (k : Nat) : Calls' D := ⟨[], [], [], [], []⟩
theorem I_inRange_ck (k : Nat) : CallsOK X (I_inRange_cl k) := .nil cod
def I_inRange_cu (k : Nat) : Cuts D := ⟨[], []⟩
def I_inRange_ar : List Ar := [.c (.ki .i64), .c (.ki .i64), .c (.ki .i64)]
def I_inRange_f (k : Nat) (x : TupA D I_inRange_ar) : Option (Bool) := I_inRange k x.1 x.2.1 x.2.2.1
def I_inRange_vr (r : Bool) : VR D := .p (.c (.bool r))
theorem I_inRange_ok (k : Nat) : Does P X 94 I_inRange_ar (I_inRange_f k) I_inRange_vr :=
  does_of (body := bodyOf Go.Proofs.Tryz.f94) (pl := I_inRange_pl) (k := k) (cu := I_inRange_cu k) (tys := [[0]]) (I_inRange_ck k) ctx mixed Go.Proofs.Tryz.func94 (by kernel_rfl) (by kernel_rfl) (cutOK_of (l := []) (by kernel_rfl) trivial) fun x R h => by
    simp only [I_inRange_f, I_inRange, optK_bind, optK_bif, optK_pure, optK_none, optK_oc, optK_guardT, optK_map] at h
    refine hold_of h ?_
    kernel_rfl
def I_inRange_en (k : Nat) : Entry D := entS I_inRange_ar (I_inRange_f k) I_inRange_vr
theorem I_inRange_eo (k : Nat) : EntryOK X 94 (I_inRange_en k) := (I_inRange_ok k).en rfl
def strconv_Itoa_ar : List Ar := [.c (.ki .i64)]
def strconv_Itoa_f (k : Nat) (x : TupA D strconv_Itoa_ar) : Option ((List UInt8)) := strconv_Itoa k x.1
def strconv_Itoa_vr (r : (List UInt8)) : VR D := .p (.c (.str r))
theorem strconv_Itoa_ok (k : Nat) : Does P X 229 strconv_Itoa_ar (strconv_Itoa_f k) strconv_Itoa_vr := does_itoa ⟨Go.Proofs.Tryz.f229, Go.Proofs.Tryz.func229, by kernel_rfl, by kernel_rfl⟩ (fun n w hg h0 h1 => Go.Proofs.Tryz.strconv_Itoa n h0 h1 w hg.2.2.1)
def strconv_Itoa_en (k : Nat) : Entry D := entS strconv_Itoa_ar (strconv_Itoa_f k) strconv_Itoa_vr
theorem strconv_Itoa_eo (k : Nat) : EntryOK X 229 (strconv_Itoa_en k) := (strconv_Itoa_ok k).en rfl
def I_FormatInt_pl : Plan := ⟨[(0, [(0, none)]), (1, [(2, none)])],
  [],
  []⟩
def I_FormatInt_cl (k : Nat) : Calls' D := ⟨[(229, strconv_Itoa_en k)], [], [], [], []⟩
theorem I_FormatInt_ck (k : Nat) : CallsOK X (I_FormatInt_cl k) := .cons (strconv_Itoa_eo k) (.nil cod)
def I_FormatInt_cu (k : Nat) : Cuts D := ⟨[], []⟩
def I_FormatInt_ar : List Ar := [.c (.ki .i64)]
def I_FormatInt_f (k : Nat) (x : TupA D I_FormatInt_ar) : Option ((List UInt8)) := I_FormatInt k x.1
def I_FormatInt_vr (r : (List UInt8)) : VR D := .p (.c (.str r))
theorem I_FormatInt_ok (k : Nat) : Does P X 177 I_FormatInt_ar (I_FormatInt_f k) I_FormatInt_vr :=
  does_of (body := bodyOf Go.Proofs.Tryz.f177) (pl := I_FormatInt_pl) (k := k) (cu := I_FormatInt_cu k) (tys := [[0]]) (I_FormatInt_ck k) ctx mixed Go.Proofs.Tryz.func177 (by kernel_rfl) (by kernel_rfl) (cutOK_of (l := []) (by kernel_rfl) trivial) fun x R h => by
    simp only [I_FormatInt_f, I_FormatInt, optK_bind, optK_bif, optK_pure, optK_none, optK_oc, optK_guardT, optK_map] at h
    refine hold_of h ?_
    kernel_rfl
def I_FormatInt_en (k : Nat) : Entry D := entS I_FormatInt_ar (I_FormatInt_f k) I_FormatInt_vr
theorem I_FormatInt_eo (k : Nat) : EntryOK X 177 (I_FormatInt_en k) := (I_FormatInt_ok k).en rfl
def I_ParseInt_pl : Plan := ⟨[(0, [(0, none)]), (1, [(0, none), (8, none)]), (2, [(2, none), (3, none)]), (3, [(0, none), (4, none), (5, none)]), (4, [(4, none), (26, none)]), (5, [(2, none), (3, none)]), (6, [(2, none), (3, none)])],
  [],
  [(8, ([], [(0, none)])), (26, ([], [(4, none)]))]⟩
def I_ParseInt_cl (k : Nat) : Calls' D := ⟨[(176, strconv_Atoi_en k), (94, I_inRange_en k), (177, I_FormatInt_en k)], [], [], [], []⟩
theorem I_ParseInt_ck (k : Nat) : CallsOK X (I_ParseInt_cl k) := .cons (strconv_Atoi_eo k) (.cons (I_inRange_eo k) (.cons (I_FormatInt_eo k) (.nil cod)))
def I_ParseInt_cu (k : Nat) : Cuts D := ⟨[], []⟩
def I_ParseInt_ar : List Ar := [.c (.ks)]
def I_ParseInt_f (k : Nat) (x : TupA D I_ParseInt_ar) : Option (Int × Bool) := I_ParseInt k x.1
def I_ParseInt_vr (r : Int × Bool) : VR D := .tup [.c (.int .i64 r.1), .c (.bool r.2)]
theorem I_ParseInt_ok (k : Nat) : Does P X 116 I_ParseInt_ar (I_ParseInt_f k) I_ParseInt_vr :=
  does_of (body := bodyOf Go.Proofs.Tryz.f116) (pl := I_ParseInt_pl) (k := k) (cu := I_ParseInt_cu k) (tys := [[0], [0]]) (I_ParseInt_ck k) ctx mixed Go.Proofs.Tryz.func116 (by kernel_rfl) (by kernel_rfl) (cutOK_of (l := []) (by kernel_rfl) trivial) fun x R h => by
    simp only [I_ParseInt_f, I_ParseInt, optK_bind, optK_bif, optK_pure, optK_none, optK_oc, optK_guardT, optK_map] at h
    refine hold_of h ?_
    kernel_rfl
def I_ParseInt_en (k : Nat) : Entry D := entS I_ParseInt_ar (I_ParseInt_f k) I_ParseInt_vr
theorem I_ParseInt_eo (k : Nat) : EntryOK X 116 (I_ParseInt_en k) := (I_ParseInt_ok k).en rfl
def I_AgeField_pl : Plan := ⟨[(0, [(1, none)]), (1, [(3, none)]), (2, [(5, none)]), (3, [(2, none)])],
  [],
  []⟩
def I_AgeField_cl (k : Nat) : Calls' D := ⟨[(57, I_GetField_en k), (116, I_ParseInt_en k)], [], [], [], []⟩
theorem I_AgeField_ck (k : Nat) : CallsOK X (I_AgeField_cl k) := .cons (I_GetField_eo k) (.cons (I_ParseInt_eo k) (.nil cod))
def I_AgeField_cu (k : Nat) : Cuts D := ⟨[], []⟩
def I_AgeField_ar : List Ar := [.a [.ki .i64, .kl 107, .ks]]
def I_AgeField_f (k : Nat) (x : TupA D I_AgeField_ar) : Option (Int) := I_AgeField k (⟨x.1.1, x.1.2.1, x.1.2.2.1⟩ : IResponse)
def I_AgeField_vr (r : Int) : VR D := .p (.c (.int .i64 r))
theorem I_AgeField_ok (k : Nat) : Does P X 52 I_AgeField_ar (I_AgeField_f k) I_AgeField_vr :=
  does_of (body := bodyOf Go.Proofs.Tryz.f52) (pl := I_AgeField_pl) (k := k) (cu := I_AgeField_cu k) (tys := [[0]]) (I_AgeField_ck k) ctx mixed Go.Proofs.Tryz.func52 (by kernel_rfl) (by kernel_rfl) (cutOK_of (l := []) (by kernel_rfl) trivial) fun x R h => by
    simp only [I_AgeField_f, I_AgeField, optK_bind, optK_bif, optK_pure, optK_none, optK_oc, optK_guardT, optK_map] at h
    refine hold_of h ?_
    kernel_rfl
def I_AgeField_en (k : Nat) : Entry D := entS I_AgeField_ar (I_AgeField_f k) I_AgeField_vr
theorem I_AgeField_eo (k : Nat) : EntryOK X 52 (I_AgeField_en k) := (I_AgeField_ok k).en rfl
def strings_Cut_ar : List Ar := [.c (.ks), .c (.ks)]
def strings_Cut_f (k : Nat) (x : TupA D strings_Cut_ar) : Option ((List UInt8) × (List UInt8) × Bool) := strings_Cut k x.1 x.2.1
def strings_Cut_vr (r : (List UInt8) × (List UInt8) × Bool) : VR D := .tup [.c (.str r.1), .c (.str r.2.1), .c (.bool r.2.2)]
theorem strings_Cut_ok (k : Nat) : Does P X 141 strings_Cut_ar (strings_Cut_f k) strings_Cut_vr := does_cut ⟨Go.Proofs.Tryz.f141, Go.Proofs.Tryz.func141, by kernel_rfl, by kernel_rfl⟩ (fun s sep w hg hs => let ⟨m, hm⟩ := hg.2.2.2; Go.Proofs.Tryz.strings_Cut s sep m w hs hm)
def strings_Cut_en (k : Nat) : Entry D := entS strings_Cut_ar (strings_Cut_f k) strings_Cut_vr
theorem strings_Cut_eo (k : Nat) : EntryOK X 141 (strings_Cut_en k) := (strings_Cut_ok k).en rfl
def strings_TrimLeft_ar : List Ar := [.c (.ks), .c (.ks)]
def strings_TrimLeft_f (k : Nat) (x : TupA D strings_TrimLeft_ar) : Option ((List UInt8)) := strings_TrimLeft k x.1 x.2.1
def strings_TrimLeft_vr (r : (List UInt8)) : VR D := .p (.c (.str r))
theorem strings_TrimLeft_ok (k : Nat) : Does P X 233 strings_TrimLeft_ar (strings_TrimLeft_f k) strings_TrimLeft_vr := does_trimLeft ⟨Go.Proofs.Tryz.f233, Go.Proofs.Tryz.func233, by kernel_rfl, by kernel_rfl⟩ (fun s c w hg h => Go.Proofs.Tryz.strings_TrimLeft_one s c h w)
def strings_TrimLeft_en (k : Nat) : Entry D := entS strings_TrimLeft_ar (strings_TrimLeft_f k) strings_TrimLeft_vr
theorem strings_TrimLeft_eo (k : Nat) : EntryOK X 233 (strings_TrimLeft_en k) := (strings_TrimLeft_ok k).en rfl
def I_digitsIn_pl : Plan := ⟨[(0, [(0, none)]), (1, [(3, none), (4, none)]), (2, [(3, none), (12, none)]), (3, [(2, none)]), (4, [(2, none)])],
  [],
  [(12, ([], [(3, none)]))]⟩
def I_digitsIn_cl (k : Nat) : Calls' D := ⟨[(233, strings_TrimLeft_en k), (176, strconv_Atoi_en k)], [], [], [], []⟩
theorem I_digitsIn_ck (k : Nat) : CallsOK X (I_digitsIn_cl k) := .cons (strings_TrimLeft_eo k) (.cons (strconv_Atoi_eo k) (.nil cod))
def I_digitsIn_cu (k : Nat) : Cuts D := ⟨[], []⟩
def I_digitsIn_ar : List Ar := [.c (.ks)]
def I_digitsIn_f (k : Nat) (x : TupA D I_digitsIn_ar) : Option (Int) := I_digitsIn k x.1
def I_digitsIn_vr (r : Int) : VR D := .p (.c (.int .i64 r))
theorem I_digitsIn_ok (k : Nat) : Does P X 187 I_digitsIn_ar (I_digitsIn_f k) I_digitsIn_vr :=
  does_of (body := bodyOf Go.Proofs.Tryz.f187) (pl := I_digitsIn_pl) (k := k) (cu := I_digitsIn_cu k) (tys := [[0]]) (I_digitsIn_ck k) ctx mixed Go.Proofs.Tryz.func187 (by kernel_rfl) (by kernel_rfl) (cutOK_of (l := []) (by kernel_rfl) trivial) fun x R h => by
    simp only [I_digitsIn_f, I_digitsIn, optK_bind, optK_bif, optK_pure, optK_none, optK_oc, optK_guardT, optK_map] at h
    refine hold_of h ?_
    kernel_rfl
def I_digitsIn_en (k : Nat) : Entry D := entS I_digitsIn_ar (I_digitsIn_f k) I_digitsIn_vr
theorem I_digitsIn_eo (k : Nat) : EntryOK X 187 (I_digitsIn_en k) := (I_digitsIn_ok k).en rfl
def strings_Index_ar : List Ar := [.c (.ks), .c (.ks)]
def strings_Index_f (k : Nat) (x : TupA D strings_Index_ar) : Option (Int) := strings_Index k x.1 x.2.1
def strings_Index_vr (r : Int) : VR D := .p (.c (.int .i64 r))
theorem strings_Index_ok (k : Nat) : Does P X 205 strings_Index_ar (strings_Index_f k) strings_Index_vr := does_index ⟨Go.Proofs.Tryz.f205, Go.Proofs.Tryz.func205, by kernel_rfl, by kernel_rfl⟩ (fun s sub w hg hs => let ⟨m, hm⟩ := hg.2.2.2; Go.Proofs.Tryz.strings_Index s sub m w hs hm)
def strings_Index_en (k : Nat) : Entry D := entS strings_Index_ar (strings_Index_f k) strings_Index_vr
theorem strings_Index_eo (k : Nat) : EntryOK X 205 (strings_Index_en k) := (strings_Index_ok k).en rfl
def I_Mod_pl : Plan := ⟨[(0, [(0, none), (1, none)]), (1, [(0, none), (1, none), (7, none)]), (2, [(4, none)]), (3, [(4, none)])],
  [],
  [(7, ([], [(0, none), (1, none)]))]⟩
def I_Mod_cl (k : Nat) : Calls' D := ⟨[(94, I_inRange_en k)], [], [], [], []⟩
theorem I_Mod_ck (k : Nat) : CallsOK X (I_Mod_cl k) := .cons (I_inRange_eo k) (.nil cod)
def I_Mod_cu (k : Nat) : Cuts D := ⟨[], []⟩
def I_Mod_ar : List Ar := [.c (.ki .i64), .c (.ki .i64)]
def I_Mod_f (k : Nat) (x : TupA D I_Mod_ar) : Option (Int) := I_Mod k x.1 x.2.1
def I_Mod_vr (r : Int) : VR D := .p (.c (.int .i64 r))
theorem I_Mod_ok (k : Nat) : Does P X 237 I_Mod_ar (I_Mod_f k) I_Mod_vr :=
  does_of (body := bodyOf Go.Proofs.Tryz.f237) (pl := I_Mod_pl) (k := k) (cu := I_Mod_cu k) (tys := [[0]]) (I_Mod_ck k) ctx mixed Go.Proofs.Tryz.func237 (by kernel_rfl) (by kernel_rfl) (cutOK_of (l := []) (by kernel_rfl) trivial) fun x R h => by
    simp only [I_Mod_f, I_Mod, optK_bind, optK_bif, optK_pure, optK_none, optK_oc, optK_guardT, optK_map] at h
    refine hold_of h ?_
    kernel_rfl
def I_Mod_en (k : Nat) : Entry D := entS I_Mod_ar (I_Mod_f k) I_Mod_vr
theorem I_Mod_eo (k : Nat) : EntryOK X 237 (I_Mod_en k) := (I_Mod_ok k).en rfl
def I_IsLeap_pl : Plan := ⟨[(0, [(0, none)]), (1, [(2, none)])],
  [],
  []⟩
def I_IsLeap_cl (k : Nat) : Calls' D := ⟨[(237, I_Mod_en k)], [], [], [], []⟩
theorem I_IsLeap_ck (k : Nat) : CallsOK X (I_IsLeap_cl k) := .cons (I_Mod_eo k) (.nil cod)
def I_IsLeap_cu (k : Nat) : Cuts D := ⟨[], []⟩
def I_IsLeap_ar : List Ar := [.c (.ki .i64)]
def I_IsLeap_f (k : Nat) (x : TupA D I_IsLeap_ar) : Option (Bool) := I_IsLeap k x.1
def I_IsLeap_vr (r : Bool) : VR D := .p (.c (.bool r))
theorem I_IsLeap_ok (k : Nat) : Does P X 262 I_IsLeap_ar (I_IsLeap_f k) I_IsLeap_vr :=
  does_of (body := bodyOf Go.Proofs.Tryz.f262) (pl := I_IsLeap_pl) (k := k) (cu := I_IsLeap_cu k) (tys := [[0]]) (I_IsLeap_ck k) ctx mixed Go.Proofs.Tryz.func262 (by kernel_rfl) (by kernel_rfl) (cutOK_of (l := []) (by kernel_rfl) trivial) fun x R h => by
    simp only [I_IsLeap_f, I_IsLeap, optK_bind, optK_bif, optK_pure, optK_none, optK_oc, optK_guardT, optK_map] at h
    refine hold_of h ?_
    kernel_rfl
def I_IsLeap_en (k : Nat) : Entry D := entS I_IsLeap_ar (I_IsLeap_f k) I_IsLeap_vr
theorem I_IsLeap_eo (k : Nat) : EntryOK X 262 (I_IsLeap_en k) := (I_IsLeap_ok k).en rfl
def I_monthDays_pl : Plan := ⟨[(0, [(0, none), (1, none)]), (1, [(0, none), (5, none)]), (2, [(0, none), (5, none), (6, none)]), (3, [(9, none)]), (4, [(4, none)]), (5, [(4, none)]), (6, [(5, none), (10, none)]), (7, [(5, none), (10, none)]), (8, [(5, none), (10, none)]), (9, [(10, none)]), (10, [(4, none)]), (11, [(4, none)])],
  [(0, [])],
  [(6, ([(0, none)], [(5, none)])), (9, ([], [])), (10, ([(10, none)], [(5, none)]))]⟩
def I_monthDays_cl (k : Nat) : Calls' D := ⟨[(262, I_IsLeap_en k)], [], [], [], []⟩
theorem I_monthDays_ck (k : Nat) : CallsOK X (I_monthDays_cl k) := .cons (I_IsLeap_eo k) (.nil cod)
def I_monthDays_c6_L (x : Int × Int × Bool × Unit) (o : Oc (Unit) (Int)) (Q : Ex → VSt D → Prop) (R : VR D → Prop) : Prop := ocP o (fun v0 => Q .normal (mkSt ⟨[(5, .gone)], []⟩ [])) (fun w0 => R (.p (.c (.int .i64 w0))))
def I_monthDays_c6_cut (k : Nat) : Cut D := cutS ⟨[(0, .hole), (5, .hole), (6, .hole)], []⟩ [.ki .i64, .ki .i64, .kb] (fun (x : Int × Int × Bool × Unit) => I_monthDays_c6 k x.1 x.2.1 x.2.2.1) I_monthDays_c6_L
def I_monthDays_c6_cu (k : Nat) : Cuts D := ⟨[], []⟩
theorem I_monthDays_c6_ok (k : Nat) : CutFor X I_monthDays_pl k Go.Proofs.Tryz.f236.results.toList (I_monthDays_c6_cut k) (sub (bodyOf Go.Proofs.Tryz.f236) [1, 0, 1, 0, 1]) :=
  joinCut_s (X := X) (sg := [.ki .i64, .ki .i64, .kb]) (cu := I_monthDays_c6_cu k) (cl := I_monthDays_cl k) (tys := [[0]]) (I_monthDays_ck k) (cutOK_of (l := []) (by kernel_rfl) trivial) fun x Q R h => by
    simp only [I_monthDays_c6, optK_bind, optK_bif, optK_pure, optK_none, optK_oc, optK_guardT, optK_map] at h
    refine hold_of h ?_
    kernel_rfl
def I_monthDays_b0_L (x : Int × Int × Unit) (o : Oc (Unit) (Int)) (Q : Ex → VSt D → Prop) (R : VR D → Prop) : Prop := ocP o (fun v0 => Q .normal (mkSt ⟨[], []⟩ [])) (fun w0 => R (.p (.c (.int .i64 w0))))
def I_monthDays_b0_cut (k : Nat) : Cut D := cutS ⟨[(0, .hole), (5, .hole)], []⟩ [.ki .i64, .ki .i64] (fun (x : Int × Int × Unit) => I_monthDays_b0 k x.1 x.2.1) I_monthDays_b0_L
def I_monthDays_b0_cu (k : Nat) : Cuts D := ⟨[], [(6, some (I_monthDays_c6_cut k))]⟩
theorem I_monthDays_b0_ok (k : Nat) : CutFor X I_monthDays_pl k Go.Proofs.Tryz.f236.results.toList (I_monthDays_b0_cut k) (sub (bodyOf Go.Proofs.Tryz.f236) [1, 0, 1]) :=
  joinCut_s (X := X) (sg := [.ki .i64, .ki .i64]) (cu := I_monthDays_b0_cu k) (cl := I_monthDays_cl k) (tys := [[0]]) (I_monthDays_ck k) (cutOK_of (l := [(I_monthDays_c6_cut k, sub (bodyOf Go.Proofs.Tryz.f236) [1, 0, 1, 0, 1])]) (by kernel_rfl) ⟨I_monthDays_c6_ok k, trivial⟩) fun x Q R h => by
    simp only [I_monthDays_b0, optK_bind, optK_bif, optK_pure, optK_none, optK_oc, optK_guardT, optK_map] at h
    refine hold_of h ?_
    kernel_rfl
def I_monthDays_cu (k : Nat) : Cuts D := ⟨[(0, some (I_monthDays_b0_cut k))], []⟩
def I_monthDays_ar : List Ar := [.c (.ki .i64), .c (.ki .i64)]
def I_monthDays_f (k : Nat) (x : TupA D I_monthDays_ar) : Option (Int) := I_monthDays k x.1 x.2.1
def I_monthDays_vr (r : Int) : VR D := .p (.c (.int .i64 r))
theorem I_monthDays_ok (k : Nat) : Does P X 236 I_monthDays_ar (I_monthDays_f k) I_monthDays_vr :=
  does_of (body := bodyOf Go.Proofs.Tryz.f236) (pl := I_monthDays_pl) (k := k) (cu := I_monthDays_cu k) (tys := [[0]]) (I_monthDays_ck k) ctx mixed Go.Proofs.Tryz.func236 (by kernel_rfl) (by kernel_rfl) (cutOK_of (l := [(I_monthDays_b0_cut k, sub (bodyOf Go.Proofs.Tryz.f236) [1, 0, 1])]) (by kernel_rfl) ⟨I_monthDays_b0_ok k, trivial⟩) fun x R h => by
    simp only [I_monthDays_f, I_monthDays, optK_bind, optK_bif, optK_pure, optK_none, optK_oc, optK_guardT, optK_map] at h
    refine hold_of h ?_
    kernel_rfl
def I_monthDays_en (k : Nat) : Entry D := entS I_monthDays_ar (I_monthDays_f k) I_monthDays_vr
theorem I_monthDays_eo (k : Nat) : EntryOK X 236 (I_monthDays_en k) := (I_monthDays_ok k).en rfl
def I_yearDays_pl : Plan := ⟨[(0, [(0, none)]), (1, [(4, none)]), (2, [(2, none)]), (3, [(2, none)])],
  [],
  [(4, ([], []))]⟩
def I_yearDays_cl (k : Nat) : Calls' D := ⟨[(262, I_IsLeap_en k)], [], [], [], []⟩
theorem I_yearDays_ck (k : Nat) : CallsOK X (I_yearDays_cl k) := .cons (I_IsLeap_eo k) (.nil cod)
def I_yearDays_cu (k : Nat) : Cuts D := ⟨[], []⟩
def I_yearDays_ar : List Ar := [.c (.ki .i64)]
def I_yearDays_f (k : Nat) (x : TupA D I_yearDays_ar) : Option (Int) := I_yearDays k x.1
def I_yearDays_vr (r : Int) : VR D := .p (.c (.int .i64 r))
theorem I_yearDays_ok (k : Nat) : Does P X 235 I_yearDays_ar (I_yearDays_f k) I_yearDays_vr :=
  does_of (body := bodyOf Go.Proofs.Tryz.f235) (pl := I_yearDays_pl) (k := k) (cu := I_yearDays_cu k) (tys := [[0]]) (I_yearDays_ck k) ctx mixed Go.Proofs.Tryz.func235 (by kernel_rfl) (by kernel_rfl) (cutOK_of (l := []) (by kernel_rfl) trivial) fun x R h => by
    simp only [I_yearDays_f, I_yearDays, optK_bind, optK_bif, optK_pure, optK_none, optK_oc, optK_guardT, optK_map] at h
    refine hold_of h ?_
    kernel_rfl
def I_yearDays_en (k : Nat) : Entry D := entS I_yearDays_ar (I_yearDays_f k) I_yearDays_vr
theorem I_yearDays_eo (k : Nat) : EntryOK X 235 (I_yearDays_en k) := (I_yearDays_ok k).en rfl
def I_DaysOf_pl : Plan := ⟨[(0, [(0, none), (1, none), (2, none)]), (1, [(0, none), (1, none), (2, none), (25, none)]), (2, [(6, none)]), (3, [(0, none), (1, none), (7, none)]), (4, [(0, none), (1, none), (7, none), (8, none)]), (5, [(0, none), (1, none), (7, none), (8, none), (30, none)]), (6, [(0, none), (1, none), (7, none), (8, none)]), (7, [(0, none), (1, none), (7, none), (8, none)]), (8, [(0, none), (1, none), (7, none), (9, none)]), (9, [(0, none), (1, none), (7, none), (9, none), (39, none)]), (10, [(0, none), (1, none), (7, none), (9, none)]), (11, [(0, none), (1, none), (7, none), (9, none)]), (12, [(6, none)])],
  [(0, [(0, none), (1, none), (7, none)]), (1, [(0, none), (1, none), (7, none), (8, none)]), (2, [(7, none)]), (3, [(0, none), (1, none), (7, none), (9, none)])],
  [(25, ([], [(0, none), (1, none), (2, none)])), (30, ([(0, none), (1, none), (7, none), (8, none)], [(0, none), (1, none), (7, none)])), (39, ([(0, none), (1, none), (7, none), (9, none)], [(7, none)]))]⟩
def I_DaysOf_cl (k : Nat) : Calls' D := ⟨[(94, I_inRange_en k), (236, I_monthDays_en k), (235, I_yearDays_en k)], [], [], [], []⟩
theorem I_DaysOf_ck (k : Nat) : CallsOK X (I_DaysOf_cl k) := .cons (I_inRange_eo k) (.cons (I_monthDays_eo k) (.cons (I_yearDays_eo k) (.nil cod)))
def I_DaysOf_b0_L (x : Int × Int × Int × Int × Unit) (o : Int) (Q : Ex → VSt D → Prop) (R : VR D → Prop) : Prop := Q .normal (mkSt ⟨[(0, .hole), (1, .hole), (7, .hole)], []⟩ [.int .i64 x.1, .int .i64 x.2.1, .int .i64 o])
def I_DaysOf_b0_cut (k : Nat) : Cut D := cutS ⟨[(0, .hole), (1, .hole), (7, .hole), (8, .hole)], []⟩ [.ki .i64, .ki .i64, .ki .i64, .ki .i64] (fun (x : Int × Int × Int × Int × Unit) => I_DaysOf_b0 k k x.1 x.2.1 x.2.2.1 x.2.2.2.1) I_DaysOf_b0_L
def I_DaysOf_b0_cu (k : Nat) : Cuts D := ⟨[], []⟩
theorem I_DaysOf_b0_ok (k : Nat) : CutFor X I_DaysOf_pl k Go.Proofs.Tryz.f234.results.toList (I_DaysOf_b0_cut k) (sub (bodyOf Go.Proofs.Tryz.f234) [1, 1, 1, 0, 1]) :=
  loopCut_s (X := X) (sg := [.ki .i64, .ki .i64, .ki .i64, .ki .i64]) (cu := I_DaysOf_b0_cu k) (cl := I_DaysOf_cl k) (tys := [[0]]) (id := 0) (c := sub (bodyOf Go.Proofs.Tryz.f234) [1, 1, 1, 0, 1, 0, 0]) (f := fun n => fun (x : Int × Int × Int × Int × Unit) => I_DaysOf_b0 k n x.1 x.2.1 x.2.2.1 x.2.2.2.1) (I_DaysOf_ck k) (cutOK_of (l := []) (by kernel_rfl) trivial) (fun _ => rfl) (fun n x Q R h => by
    simp only [I_DaysOf_b0, optK_bind, optK_bif, optK_pure, optK_none, optK_oc, optK_guardT, optK_map] at h
    refine hold_of h ?_
    kernel_rfl) (by kernel_rfl)
def I_DaysOf_b2_L (x : Int × Int × Int × Int × Unit) (o : Int) (Q : Ex → VSt D → Prop) (R : VR D → Prop) : Prop := Q .normal (mkSt ⟨[(7, .hole)], []⟩ [.int .i64 o])
def I_DaysOf_b2_cut (k : Nat) : Cut D := cutS ⟨[(0, .hole), (1, .hole), (7, .hole), (9, .hole)], []⟩ [.ki .i64, .ki .i64, .ki .i64, .ki .i64] (fun (x : Int × Int × Int × Int × Unit) => I_DaysOf_b2 k k x.1 x.2.1 x.2.2.1 x.2.2.2.1) I_DaysOf_b2_L
def I_DaysOf_b2_cu (k : Nat) : Cuts D := ⟨[], []⟩
theorem I_DaysOf_b2_ok (k : Nat) : CutFor X I_DaysOf_pl k Go.Proofs.Tryz.f234.results.toList (I_DaysOf_b2_cut k) (sub (bodyOf Go.Proofs.Tryz.f234) [1, 1, 1, 1, 0, 1]) :=
  loopCut_s (X := X) (sg := [.ki .i64, .ki .i64, .ki .i64, .ki .i64]) (cu := I_DaysOf_b2_cu k) (cl := I_DaysOf_cl k) (tys := [[0]]) (id := 2) (c := sub (bodyOf Go.Proofs.Tryz.f234) [1, 1, 1, 1, 0, 1, 0, 0]) (f := fun n => fun (x : Int × Int × Int × Int × Unit) => I_DaysOf_b2 k n x.1 x.2.1 x.2.2.1 x.2.2.2.1) (I_DaysOf_ck k) (cutOK_of (l := []) (by kernel_rfl) trivial) (fun _ => rfl) (fun n x Q R h => by
    simp only [I_DaysOf_b2, optK_bind, optK_bif, optK_pure, optK_none, optK_oc, optK_guardT, optK_map] at h
    refine hold_of h ?_
    kernel_rfl) (by kernel_rfl)
def I_DaysOf_cu (k : Nat) : Cuts D := ⟨[(0, some (I_DaysOf_b0_cut k)), (2, some (I_DaysOf_b2_cut k))], []⟩
def I_DaysOf_ar : List Ar := [.c (.ki .i64), .c (.ki .i64), .c (.ki .i64)]
def I_DaysOf_f (k : Nat) (x : TupA D I_DaysOf_ar) : Option (Int) := I_DaysOf k x.1 x.2.1 x.2.2.1
def I_DaysOf_vr (r : Int) : VR D := .p (.c (.int .i64 r))
theorem I_DaysOf_ok (k : Nat) : Does P X 234 I_DaysOf_ar (I_DaysOf_f k) I_DaysOf_vr :=
  does_of (body := bodyOf Go.Proofs.Tryz.f234) (pl := I_DaysOf_pl) (k := k) (cu := I_DaysOf_cu k) (tys := [[0]]) (I_DaysOf_ck k) ctx mixed Go.Proofs.Tryz.func234 (by kernel_rfl) (by kernel_rfl) (cutOK_of (l := [(I_DaysOf_b0_cut k, sub (bodyOf Go.Proofs.Tryz.f234) [1, 1, 1, 0, 1]), (I_DaysOf_b2_cut k, sub (bodyOf Go.Proofs.Tryz.f234) [1, 1, 1, 1, 0, 1])]) (by kernel_rfl) ⟨I_DaysOf_b0_ok k, I_DaysOf_b2_ok k, trivial⟩) fun x R h => by
    simp only [I_DaysOf_f, I_DaysOf, optK_bind, optK_bif, optK_pure, optK_none, optK_oc, optK_guardT, optK_map] at h
    refine hold_of h ?_
    kernel_rfl
def I_DaysOf_en (k : Nat) : Entry D := entS I_DaysOf_ar (I_DaysOf_f k) I_DaysOf_vr
theorem I_DaysOf_eo (k : Nat) : EntryOK X 234 (I_DaysOf_en k) := (I_DaysOf_ok k).en rfl
def I_timeOf_pl : Plan := ⟨[(0, [(0, none), (1, none), (2, none), (3, none)]), (1, [(3, none), (10, none)]), (2, [(3, none), (10, none), (19, none)]), (3, [(8, none), (9, none)]), (4, [(8, none), (9, none)])],
  [],
  [(19, ([], [(3, none), (10, none)]))]⟩
def I_timeOf_cl (k : Nat) : Calls' D := ⟨[(205, strings_Index_en k), (234, I_DaysOf_en k), (187, I_digitsIn_en k)], [], [], [], []⟩
theorem I_timeOf_ck (k : Nat) : CallsOK X (I_timeOf_cl k) := .cons (strings_Index_eo k) (.cons (I_DaysOf_eo k) (.cons (I_digitsIn_eo k) (.nil cod)))
def I_timeOf_cu (k : Nat) : Cuts D := ⟨[], []⟩
def I_timeOf_ar : List Ar := [.c (.ki .i64), .c (.ks), .c (.ki .i64), .c (.ks)]
def I_timeOf_f (k : Nat) (x : TupA D I_timeOf_ar) : Option (Int × Bool) := I_timeOf k x.1 x.2.1 x.2.2.1 x.2.2.2.1
def I_timeOf_vr (r : Int × Bool) : VR D := .tup [.c (.int .i64 r.1), .c (.bool r.2)]
theorem I_timeOf_ok (k : Nat) : Does P X 188 I_timeOf_ar (I_timeOf_f k) I_timeOf_vr :=
  does_of (body := bodyOf Go.Proofs.Tryz.f188) (pl := I_timeOf_pl) (k := k) (cu := I_timeOf_cu k) (tys := [[0], [0]]) (I_timeOf_ck k) ctx mixed Go.Proofs.Tryz.func188 (by kernel_rfl) (by kernel_rfl) (cutOK_of (l := []) (by kernel_rfl) trivial) fun x R h => by
    simp only [I_timeOf_f, I_timeOf, optK_bind, optK_bif, optK_pure, optK_none, optK_oc, optK_guardT, optK_map] at h
    refine hold_of h ?_
    kernel_rfl
def I_timeOf_en (k : Nat) : Entry D := entS I_timeOf_ar (I_timeOf_f k) I_timeOf_vr
theorem I_timeOf_eo (k : Nat) : EntryOK X 188 (I_timeOf_en k) := (I_timeOf_ok k).en rfl
def I_dateIn_pl : Plan := ⟨[(0, [(0, none), (1, none)]), (1, [(0, none), (1, none), (11, none)]), (2, [(6, none), (7, none), (8, none)]), (3, [(7, none), (29, none)]), (4, [(4, none), (5, none)]), (5, [(7, none), (9, none)]), (6, [(7, none), (9, none), (34, none)]), (7, [(7, none), (9, none)]), (8, [(4, none), (5, none)]), (9, [(0, none), (1, none), (55, none)]), (10, [(4, none), (5, none)]), (11, [(0, none), (75, none)]), (12, [(4, none), (5, none)]), (13, [(4, none), (5, none)])],
  [],
  [(11, ([(0, none)], [(0, none), (1, none)])), (29, ([], [(7, none)])), (34, ([(7, none), (9, none)], [(7, none), (9, none)])), (55, ([(0, none)], [(0, none), (1, none)])), (75, ([(0, none)], []))]⟩
def I_dateIn_cl (k : Nat) : Calls' D := ⟨[(141, strings_Cut_en k), (187, I_digitsIn_en k), (188, I_timeOf_en k)], [], [], [], []⟩
theorem I_dateIn_ck (k : Nat) : CallsOK X (I_dateIn_cl k) := .cons (strings_Cut_eo k) (.cons (I_digitsIn_eo k) (.cons (I_timeOf_eo k) (.nil cod)))
def I_dateIn_c34_L (x : (List UInt8) × Int × Bool × Unit) (o : Int) (Q : Ex → VSt D → Prop) (R : VR D → Prop) : Prop := Q .normal (mkSt ⟨[(7, .hole), (9, .hole)], []⟩ [.str x.1, .int .i64 o])
def I_dateIn_c34_cut (k : Nat) : Cut D := cutS ⟨[(7, .hole), (9, .hole), (34, .hole)], []⟩ [.ks, .ki .i64, .kb] (fun (x : (List UInt8) × Int × Bool × Unit) => I_dateIn_c34 k x.1 x.2.1 x.2.2.1) I_dateIn_c34_L
def I_dateIn_c34_cu (k : Nat) : Cuts D := ⟨[], []⟩
theorem I_dateIn_c34_ok (k : Nat) : CutFor X I_dateIn_pl k Go.Proofs.Tryz.f123.results.toList (I_dateIn_c34_cut k) (sub (bodyOf Go.Proofs.Tryz.f123) [1, 0, 1, 0, 1, 1, 1, 0, 1]) :=
  joinCut_s (X := X) (sg := [.ks, .ki .i64, .kb]) (cu := I_dateIn_c34_cu k) (cl := I_dateIn_cl k) (tys := [[0], [0]]) (I_dateIn_ck k) (cutOK_of (l := []) (by kernel_rfl) trivial) fun x Q R h => by
    simp only [I_dateIn_c34, optK_bind, optK_bif, optK_pure, optK_none, optK_oc, optK_guardT, optK_map] at h
    refine hold_of h ?_
    kernel_rfl
def I_dateIn_cu (k : Nat) : Cuts D := ⟨[], [(34, some (I_dateIn_c34_cut k))]⟩
def I_dateIn_ar : List Ar := [.c (.ks), .c (.ki .i64)]
def I_dateIn_f (k : Nat) (x : TupA D I_dateIn_ar) : Option (Int × Bool) := I_dateIn k x.1 x.2.1
def I_dateIn_vr (r : Int × Bool) : VR D := .tup [.c (.int .i64 r.1), .c (.bool r.2)]
theorem I_dateIn_ok (k : Nat) : Does P X 123 I_dateIn_ar (I_dateIn_f k) I_dateIn_vr :=
  does_of (body := bodyOf Go.Proofs.Tryz.f123) (pl := I_dateIn_pl) (k := k) (cu := I_dateIn_cu k) (tys := [[0], [0]]) (I_dateIn_ck k) ctx mixed Go.Proofs.Tryz.func123 (by kernel_rfl) (by kernel_rfl) (cutOK_of (l := [(I_dateIn_c34_cut k, sub (bodyOf Go.Proofs.Tryz.f123) [1, 0, 1, 0, 1, 1, 1, 0, 1])]) (by kernel_rfl) ⟨I_dateIn_c34_ok k, trivial⟩) fun x R h => by
    simp only [I_dateIn_f, I_dateIn, optK_bind, optK_bif, optK_pure, optK_none, optK_oc, optK_guardT, optK_map] at h
    refine hold_of h ?_
    kernel_rfl
def I_dateIn_en (k : Nat) : Entry D := entS I_dateIn_ar (I_dateIn_f k) I_dateIn_vr
theorem I_dateIn_eo (k : Nat) : EntryOK X 123 (I_dateIn_en k) := (I_dateIn_ok k).en rfl
def I_CivilOf_pl : Plan := ⟨[(0, [(0, none)]), (1, [(0, none), (9, none)]), (2, [(2, none), (3, none), (4, none)]), (3, [(0, none), (5, none), (6, none)]), (4, [(0, none), (5, none), (6, none), (13, none)]), (5, [(0, none), (5, none), (6, none)]), (6, [(0, none), (5, none), (6, none)]), (7, [(0, none), (5, none), (6, none), (24, none)]), (8, [(0, none), (5, none), (6, none)]), (9, [(0, none), (5, none), (6, none)]), (10, [(2, none), (3, none), (4, none)])],
  [(0, [(0, none), (5, none), (6, none)]), (1, [(0, none), (5, none), (6, none)]), (2, [(0, none), (5, none), (6, none)]), (3, [(0, none), (5, none), (6, none)])],
  [(9, ([], [(0, none)])), (13, ([(0, none), (5, none), (6, none)], [(0, none), (5, none), (6, none)])), (24, ([(0, none), (5, none), (6, none)], [(0, none), (5, none), (6, none)]))]⟩
def I_CivilOf_cl (k : Nat) : Calls' D := ⟨[(94, I_inRange_en k), (235, I_yearDays_en k), (236, I_monthDays_en k)], [], [], [], []⟩
theorem I_CivilOf_ck (k : Nat) : CallsOK X (I_CivilOf_cl k) := .cons (I_inRange_eo k) (.cons (I_yearDays_eo k) (.cons (I_monthDays_eo k) (.nil cod)))
def I_CivilOf_b0_L (x : Int × Int × Int × Unit) (o : Int × Int) (Q : Ex → VSt D → Prop) (R : VR D → Prop) : Prop := Q .normal (mkSt ⟨[(0, .hole), (5, .hole), (6, .hole)], []⟩ [.int .i64 o.1, .int .i64 o.2, .int .i64 x.2.2.1])
def I_CivilOf_b0_cut (k : Nat) : Cut D := cutS ⟨[(0, .hole), (5, .hole), (6, .hole)], []⟩ [.ki .i64, .ki .i64, .ki .i64] (fun (x : Int × Int × Int × Unit) => I_CivilOf_b0 k k x.1 x.2.1 x.2.2.1) I_CivilOf_b0_L
def I_CivilOf_b0_cu (k : Nat) : Cuts D := ⟨[], []⟩
theorem I_CivilOf_b0_ok (k : Nat) : CutFor X I_CivilOf_pl k Go.Proofs.Tryz.f189.results.toList (I_CivilOf_b0_cut k) (sub (bodyOf Go.Proofs.Tryz.f189) [1, 1, 1, 0]) :=
  loopCut_s (X := X) (sg := [.ki .i64, .ki .i64, .ki .i64]) (cu := I_CivilOf_b0_cu k) (cl := I_CivilOf_cl k) (tys := [[0], [0], [0]]) (id := 0) (c := sub (bodyOf Go.Proofs.Tryz.f189) [1, 1, 1, 0, 0, 0]) (f := fun n => fun (x : Int × Int × Int × Unit) => I_CivilOf_b0 k n x.1 x.2.1 x.2.2.1) (I_CivilOf_ck k) (cutOK_of (l := []) (by kernel_rfl) trivial) (fun _ => rfl) (fun n x Q R h => by
    simp only [I_CivilOf_b0, optK_bind, optK_bif, optK_pure, optK_none, optK_oc, optK_guardT, optK_map] at h
    refine hold_of h ?_
    kernel_rfl) (by kernel_rfl)
def I_CivilOf_b2_L (x : Int × Int × Int × Unit) (o : Int × Int) (Q : Ex → VSt D → Prop) (R : VR D → Prop) : Prop := Q .normal (mkSt ⟨[(0, .hole), (5, .hole), (6, .hole)], []⟩ [.int .i64 o.1, .int .i64 x.2.1, .int .i64 o.2])
def I_CivilOf_b2_cut (k : Nat) : Cut D := cutS ⟨[(0, .hole), (5, .hole), (6, .hole)], []⟩ [.ki .i64, .ki .i64, .ki .i64] (fun (x : Int × Int × Int × Unit) => I_CivilOf_b2 k k x.1 x.2.1 x.2.2.1) I_CivilOf_b2_L
def I_CivilOf_b2_cu (k : Nat) : Cuts D := ⟨[], []⟩
theorem I_CivilOf_b2_ok (k : Nat) : CutFor X I_CivilOf_pl k Go.Proofs.Tryz.f189.results.toList (I_CivilOf_b2_cut k) (sub (bodyOf Go.Proofs.Tryz.f189) [1, 1, 1, 1, 0]) :=
  loopCut_s (X := X) (sg := [.ki .i64, .ki .i64, .ki .i64]) (cu := I_CivilOf_b2_cu k) (cl := I_CivilOf_cl k) (tys := [[0], [0], [0]]) (id := 2) (c := sub (bodyOf Go.Proofs.Tryz.f189) [1, 1, 1, 1, 0, 0, 0]) (f := fun n => fun (x : Int × Int × Int × Unit) => I_CivilOf_b2 k n x.1 x.2.1 x.2.2.1) (I_CivilOf_ck k) (cutOK_of (l := []) (by kernel_rfl) trivial) (fun _ => rfl) (fun n x Q R h => by
    simp only [I_CivilOf_b2, optK_bind, optK_bif, optK_pure, optK_none, optK_oc, optK_guardT, optK_map] at h
    refine hold_of h ?_
    kernel_rfl) (by kernel_rfl)
def I_CivilOf_cu (k : Nat) : Cuts D := ⟨[(0, some (I_CivilOf_b0_cut k)), (2, some (I_CivilOf_b2_cut k))], []⟩
def I_CivilOf_ar : List Ar := [.c (.ki .i64)]
def I_CivilOf_f (k : Nat) (x : TupA D I_CivilOf_ar) : Option (Int × Int × Int) := I_CivilOf k x.1
def I_CivilOf_vr (r : Int × Int × Int) : VR D := .tup [.c (.int .i64 r.1), .c (.int .i64 r.2.1), .c (.int .i64 r.2.2)]
theorem I_CivilOf_ok (k : Nat) : Does P X 189 I_CivilOf_ar (I_CivilOf_f k) I_CivilOf_vr :=
  does_of (body := bodyOf Go.Proofs.Tryz.f189) (pl := I_CivilOf_pl) (k := k) (cu := I_CivilOf_cu k) (tys := [[0], [0], [0]]) (I_CivilOf_ck k) ctx mixed Go.Proofs.Tryz.func189 (by kernel_rfl) (by kernel_rfl) (cutOK_of (l := [(I_CivilOf_b0_cut k, sub (bodyOf Go.Proofs.Tryz.f189) [1, 1, 1, 0]), (I_CivilOf_b2_cut k, sub (bodyOf Go.Proofs.Tryz.f189) [1, 1, 1, 1, 0])]) (by kernel_rfl) ⟨I_CivilOf_b0_ok k, I_CivilOf_b2_ok k, trivial⟩) fun x R h => by
    simp only [I_CivilOf_f, I_CivilOf, optK_bind, optK_bif, optK_pure, optK_none, optK_oc, optK_guardT, optK_map] at h
    refine hold_of h ?_
    kernel_rfl
def I_CivilOf_en (k : Nat) : Entry D := entS I_CivilOf_ar (I_CivilOf_f k) I_CivilOf_vr
theorem I_CivilOf_eo (k : Nat) : EntryOK X 189 (I_CivilOf_en k) := (I_CivilOf_ok k).en rfl
def I_WeekdayOf_pl : Plan := ⟨[(0, [(0, none)]), (1, [(2, none)])],
  [],
  []⟩
def I_WeekdayOf_cl (k : Nat) : Calls' D := ⟨[(237, I_Mod_en k)], [], [], [], []⟩
theorem I_WeekdayOf_ck (k : Nat) : CallsOK X (I_WeekdayOf_cl k) := .cons (I_Mod_eo k) (.nil cod)
def I_WeekdayOf_cu (k : Nat) : Cuts D := ⟨[], []⟩
def I_WeekdayOf_ar : List Ar := [.c (.ki .i64)]
def I_WeekdayOf_f (k : Nat) (x : TupA D I_WeekdayOf_ar) : Option (Int) := I_WeekdayOf k x.1
def I_WeekdayOf_vr (r : Int) : VR D := .p (.c (.int .i64 r))
theorem I_WeekdayOf_ok (k : Nat) : Does P X 190 I_WeekdayOf_ar (I_WeekdayOf_f k) I_WeekdayOf_vr :=
  does_of (body := bodyOf Go.Proofs.Tryz.f190) (pl := I_WeekdayOf_pl) (k := k) (cu := I_WeekdayOf_cu k) (tys := [[0]]) (I_WeekdayOf_ck k) ctx mixed Go.Proofs.Tryz.func190 (by kernel_rfl) (by kernel_rfl) (cutOK_of (l := []) (by kernel_rfl) trivial) fun x R h => by
    simp only [I_WeekdayOf_f, I_WeekdayOf, optK_bind, optK_bif, optK_pure, optK_none, optK_oc, optK_guardT, optK_map] at h
    refine hold_of h ?_
    kernel_rfl
def I_WeekdayOf_en (k : Nat) : Entry D := entS I_WeekdayOf_ar (I_WeekdayOf_f k) I_WeekdayOf_vr
theorem I_WeekdayOf_eo (k : Nat) : EntryOK X 190 (I_WeekdayOf_en k) := (I_WeekdayOf_ok k).en rfl
def I_Digits_pl : Plan := ⟨[(0, [(0, none), (1, none)]), (1, [(1, none), (5, none)]), (2, [(1, none), (5, none), (17, none)]), (3, [(1, none), (5, none)]), (4, [(4, none)])],
  [(0, [(5, none)]), (1, [(1, none), (5, none)])],
  [(17, ([(1, none), (5, none)], [(5, none)]))]⟩
def I_Digits_cl (k : Nat) : Calls' D := ⟨[(177, I_FormatInt_en k)], [], [], [], []⟩
theorem I_Digits_ck (k : Nat) : CallsOK X (I_Digits_cl k) := .cons (I_FormatInt_eo k) (.nil cod)
def I_Digits_b0_L (x : Int × (List UInt8) × Unit) (o : (List UInt8)) (Q : Ex → VSt D → Prop) (R : VR D → Prop) : Prop := Q .normal (mkSt ⟨[(5, .hole)], []⟩ [.str o])
def I_Digits_b0_cut (k : Nat) : Cut D := cutS ⟨[(1, .hole), (5, .hole)], []⟩ [.ki .i64, .ks] (fun (x : Int × (List UInt8) × Unit) => I_Digits_b0 k k x.1 x.2.1) I_Digits_b0_L
def I_Digits_b0_cu (k : Nat) : Cuts D := ⟨[], []⟩
theorem I_Digits_b0_ok (k : Nat) : CutFor X I_Digits_pl k Go.Proofs.Tryz.f191.results.toList (I_Digits_b0_cut k) (sub (bodyOf Go.Proofs.Tryz.f191) [1, 1, 0]) :=
  loopCut_s (X := X) (sg := [.ki .i64, .ks]) (cu := I_Digits_b0_cu k) (cl := I_Digits_cl k) (tys := [[0]]) (id := 0) (c := sub (bodyOf Go.Proofs.Tryz.f191) [1, 1, 0, 0, 0]) (f := fun n => fun (x : Int × (List UInt8) × Unit) => I_Digits_b0 k n x.1 x.2.1) (I_Digits_ck k) (cutOK_of (l := []) (by kernel_rfl) trivial) (fun _ => rfl) (fun n x Q R h => by
    simp only [I_Digits_b0, optK_bind, optK_bif, optK_pure, optK_none, optK_oc, optK_guardT, optK_map] at h
    refine hold_of h ?_
    kernel_rfl) (by kernel_rfl)
def I_Digits_cu (k : Nat) : Cuts D := ⟨[(0, some (I_Digits_b0_cut k))], []⟩
def I_Digits_ar : List Ar := [.c (.ki .i64), .c (.ki .i64)]
def I_Digits_f (k : Nat) (x : TupA D I_Digits_ar) : Option ((List UInt8)) := I_Digits k x.1 x.2.1
def I_Digits_vr (r : (List UInt8)) : VR D := .p (.c (.str r))
theorem I_Digits_ok (k : Nat) : Does P X 191 I_Digits_ar (I_Digits_f k) I_Digits_vr :=
  does_of (body := bodyOf Go.Proofs.Tryz.f191) (pl := I_Digits_pl) (k := k) (cu := I_Digits_cu k) (tys := [[0]]) (I_Digits_ck k) ctx mixed Go.Proofs.Tryz.func191 (by kernel_rfl) (by kernel_rfl) (cutOK_of (l := [(I_Digits_b0_cut k, sub (bodyOf Go.Proofs.Tryz.f191) [1, 1, 0])]) (by kernel_rfl) ⟨I_Digits_b0_ok k, trivial⟩) fun x R h => by
    simp only [I_Digits_f, I_Digits, optK_bind, optK_bif, optK_pure, optK_none, optK_oc, optK_guardT, optK_map] at h
    refine hold_of h ?_
    kernel_rfl
def I_Digits_en (k : Nat) : Entry D := entS I_Digits_ar (I_Digits_f k) I_Digits_vr
theorem I_Digits_eo (k : Nat) : EntryOK X 191 (I_Digits_en k) := (I_Digits_ok k).en rfl
def I_fullDay_pl : Plan := ⟨[(0, [(0, none)]), (1, [(2, none)])],
  [],
  []⟩
def I_fullDay_cl (k : Nat) : Calls' D := ⟨[], [], [], [], []⟩
theorem I_fullDay_ck (k : Nat) : CallsOK X (I_fullDay_cl k) := .nil cod
def I_fullDay_cu (k : Nat) : Cuts D := ⟨[], []⟩
def I_fullDay_ar : List Ar := [.c (.ki .i64)]
def I_fullDay_f (k : Nat) (x : TupA D I_fullDay_ar) : Option ((List UInt8)) := I_fullDay k x.1
def I_fullDay_vr (r : (List UInt8)) : VR D := .p (.c (.str r))
theorem I_fullDay_ok (k : Nat) : Does P X 192 I_fullDay_ar (I_fullDay_f k) I_fullDay_vr :=
  does_of (body := bodyOf Go.Proofs.Tryz.f192) (pl := I_fullDay_pl) (k := k) (cu := I_fullDay_cu k) (tys := [[0]]) (I_fullDay_ck k) ctx mixed Go.Proofs.Tryz.func192 (by kernel_rfl) (by kernel_rfl) (cutOK_of (l := []) (by kernel_rfl) trivial) fun x R h => by
    simp only [I_fullDay_f, I_fullDay, optK_bind, optK_bif, optK_pure, optK_none, optK_oc, optK_guardT, optK_map] at h
    refine hold_of h ?_
    kernel_rfl
def I_fullDay_en (k : Nat) : Entry D := entS I_fullDay_ar (I_fullDay_f k) I_fullDay_vr
theorem I_fullDay_eo (k : Nat) : EntryOK X 192 (I_fullDay_en k) := (I_fullDay_ok k).en rfl
def I_dateText_pl : Plan := ⟨[(0, [(0, none), (1, none)]), (1, [(0, none), (1, none), (15, none)]), (2, [(4, none)]), (3, [(0, none), (1, none), (5, none), (6, none), (7, none)]), (4, [(0, none), (1, none), (5, none), (6, none), (7, none), (8, none)]), (5, [(1, none), (5, none), (6, none), (7, none), (8, none), (9, none)]), (6, [(1, none), (5, none), (7, none), (8, none), (9, none), (10, none), (11, none)]), (7, [(5, none), (7, none), (8, none), (9, none), (10, none), (11, none), (53, none)]), (8, [(5, none), (7, none), (8, none), (9, none), (10, none), (11, none), (53, none), (54, none)]), (9, [(4, none)]), (10, [(5, none), (7, none), (8, none), (9, none), (10, none), (11, none), (72, none)]), (11, [(5, none), (7, none), (8, none), (9, none), (11, none), (75, none)]), (12, [(4, none)]), (13, [(4, none)]), (14, [(5, none), (7, none), (9, none), (10, none), (11, none), (12, none)]), (15, [(5, none), (9, none), (10, none), (11, none), (12, none), (97, none)]), (16, [(5, none), (9, none), (10, none), (11, none), (12, none)]), (17, [(4, none)])],
  [(0, [(5, none), (7, none), (9, none), (10, none), (11, none)])],
  [(15, ([], [(0, none), (1, none)])), (54, ([(5, none), (7, none), (9, none), (10, none), (11, none)], [(5, none), (7, none), (8, none), (9, none), (10, none), (11, none), (53, none)])), (72, ([(5, none), (7, none), (8, none), (9, none), (11, none)], [(5, none), (7, none), (9, none), (10, none), (11, none)])), (75, ([], [(5, none), (7, none), (8, none), (9, none), (11, none)])), (97, ([(5, none), (9, none), (10, none), (11, none), (12, none)], [(5, none), (9, none), (10, none), (11, none), (12, none)]))]⟩
def I_dateText_cl (k : Nat) : Calls' D := ⟨[(94, I_inRange_en k), (189, I_CivilOf_en k), (190, I_WeekdayOf_en k), (191, I_Digits_en k), (177, I_FormatInt_en k), (192, I_fullDay_en k)], [], [], [], []⟩
theorem I_dateText_ck (k : Nat) : CallsOK X (I_dateText_cl k) := .cons (I_inRange_eo k) (.cons (I_CivilOf_eo k) (.cons (I_WeekdayOf_eo k) (.cons (I_Digits_eo k) (.cons (I_FormatInt_eo k) (.cons (I_fullDay_eo k) (.nil cod))))))
def I_dateText_c97_L (x : Int × (List UInt8) × (List UInt8) × (List UInt8) × (List UInt8) × Bool × Unit) (o : (List UInt8)) (Q : Ex → VSt D → Prop) (R : VR D → Prop) : Prop := Q .normal (mkSt ⟨[(5, .hole), (9, .hole), (10, .hole), (11, .hole), (12, .hole)], []⟩ [.int .i64 x.1, .str x.2.1, .str x.2.2.1, .str x.2.2.2.1, .str o])
def I_dateText_c97_cut (k : Nat) : Cut D := cutS ⟨[(5, .hole), (9, .hole), (10, .hole), (11, .hole), (12, .hole), (97, .hole)], []⟩ [.ki .i64, .ks, .ks, .ks, .ks, .kb] (fun (x : Int × (List UInt8) × (List UInt8) × (List UInt8) × (List UInt8) × Bool × Unit) => I_dateText_c97 k x.1 x.2.1 x.2.2.1 x.2.2.2.1 x.2.2.2.2.1 x.2.2.2.2.2.1) I_dateText_c97_L
def I_dateText_c97_cu (k : Nat) : Cuts D := ⟨[], []⟩
theorem I_dateText_c97_ok (k : Nat) : CutFor X I_dateText_pl k Go.Proofs.Tryz.f124.results.toList (I_dateText_c97_cut k) (sub (bodyOf Go.Proofs.Tryz.f124) [1, 1, 1, 1, 1, 1, 1, 1, 0, 1]) :=
  joinCut_s (X := X) (sg := [.ki .i64, .ks, .ks, .ks, .ks, .kb]) (cu := I_dateText_c97_cu k) (cl := I_dateText_cl k) (tys := [[0]]) (I_dateText_ck k) (cutOK_of (l := []) (by kernel_rfl) trivial) fun x Q R h => by
    simp only [I_dateText_c97, optK_bind, optK_bif, optK_pure, optK_none, optK_oc, optK_guardT, optK_map] at h
    refine hold_of h ?_
    kernel_rfl
def I_dateText_cu (k : Nat) : Cuts D := ⟨[], [(97, some (I_dateText_c97_cut k))]⟩
def I_dateText_ar : List Ar := [.c (.ki .i64), .c (.ki .i64)]
def I_dateText_f (k : Nat) (x : TupA D I_dateText_ar) : Option ((List UInt8)) := I_dateText k x.1 x.2.1
def I_dateText_vr (r : (List UInt8)) : VR D := .p (.c (.str r))
theorem I_dateText_ok (k : Nat) : Does P X 124 I_dateText_ar (I_dateText_f k) I_dateText_vr :=
  does_of (body := bodyOf Go.Proofs.Tryz.f124) (pl := I_dateText_pl) (k := k) (cu := I_dateText_cu k) (tys := [[0]]) (I_dateText_ck k) ctx mixed Go.Proofs.Tryz.func124 (by kernel_rfl) (by kernel_rfl) (cutOK_of (l := [(I_dateText_c97_cut k, sub (bodyOf Go.Proofs.Tryz.f124) [1, 1, 1, 1, 1, 1, 1, 1, 0, 1])]) (by kernel_rfl) ⟨I_dateText_c97_ok k, trivial⟩) fun x R h => by
    simp only [I_dateText_f, I_dateText, optK_bind, optK_bif, optK_pure, optK_none, optK_oc, optK_guardT, optK_map] at h
    refine hold_of h ?_
    kernel_rfl
def I_dateText_en (k : Nat) : Entry D := entS I_dateText_ar (I_dateText_f k) I_dateText_vr
theorem I_dateText_eo (k : Nat) : EntryOK X 124 (I_dateText_en k) := (I_dateText_ok k).en rfl
def I_ParseDate_pl : Plan := ⟨[(0, [(0, none)]), (1, [(0, none), (4, none)]), (2, [(0, none), (4, none), (8, none)]), (3, [(0, none), (4, none)]), (4, [(0, none), (4, none), (5, none), (6, none)]), (5, [(0, none), (4, none), (5, none), (24, none)]), (6, [(2, none), (3, none)]), (7, [(2, none), (3, none)])],
  [(0, []), (1, [(0, none), (4, none)])],
  [(8, ([(0, none), (4, none)], [])), (24, ([(5, none)], [(0, none), (4, none)]))]⟩
def I_ParseDate_cl (k : Nat) : Calls' D := ⟨[(123, I_dateIn_en k), (124, I_dateText_en k)], [], [], [], []⟩
theorem I_ParseDate_ck (k : Nat) : CallsOK X (I_ParseDate_cl k) := .cons (I_dateIn_eo k) (.cons (I_dateText_eo k) (.nil cod))
def I_ParseDate_b0_L (x : (List UInt8) × Int × Unit) (o : Oc (Unit) (Int × Bool)) (Q : Ex → VSt D → Prop) (R : VR D → Prop) : Prop := ocP o (fun v0 => Q .normal (mkSt ⟨[], []⟩ [])) (fun w0 => R (.tup [.c (.int .i64 w0.1), .c (.bool w0.2)]))
def I_ParseDate_b0_cut (k : Nat) : Cut D := cutS ⟨[(0, .hole), (4, .hole)], []⟩ [.ks, .ki .i64] (fun (x : (List UInt8) × Int × Unit) => I_ParseDate_b0 k k x.1 x.2.1) I_ParseDate_b0_L
def I_ParseDate_b0_cu (k : Nat) : Cuts D := ⟨[], []⟩
theorem I_ParseDate_b0_ok (k : Nat) : CutFor X I_ParseDate_pl k Go.Proofs.Tryz.f61.results.toList (I_ParseDate_b0_cut k) (sub (bodyOf Go.Proofs.Tryz.f61) [1, 0, 1]) :=
  loopCut_s (X := X) (sg := [.ks, .ki .i64]) (cu := I_ParseDate_b0_cu k) (cl := I_ParseDate_cl k) (tys := [[0], [0]]) (id := 0) (c := sub (bodyOf Go.Proofs.Tryz.f61) [1, 0, 1, 0, 0]) (f := fun n => fun (x : (List UInt8) × Int × Unit) => I_ParseDate_b0 k n x.1 x.2.1) (I_ParseDate_ck k) (cutOK_of (l := []) (by kernel_rfl) trivial) (fun _ => rfl) (fun n x Q R h => by
    simp only [I_ParseDate_b0, optK_bind, optK_bif, optK_pure, optK_none, optK_oc, optK_guardT, optK_map] at h
    refine hold_of h ?_
    kernel_rfl) (by kernel_rfl)
def I_ParseDate_cu (k : Nat) : Cuts D := ⟨[(0, some (I_ParseDate_b0_cut k))], []⟩
def I_ParseDate_ar : List Ar := [.c (.ks)]
def I_ParseDate_f (k : Nat) (x : TupA D I_ParseDate_ar) : Option (Int × Bool) := I_ParseDate k x.1
def I_ParseDate_vr (r : Int × Bool) : VR D := .tup [.c (.int .i64 r.1), .c (.bool r.2)]
theorem I_ParseDate_ok (k : Nat) : Does P X 61 I_ParseDate_ar (I_ParseDate_f k) I_ParseDate_vr :=
  does_of (body := bodyOf Go.Proofs.Tryz.f61) (pl := I_ParseDate_pl) (k := k) (cu := I_ParseDate_cu k) (tys := [[0], [0]]) (I_ParseDate_ck k) ctx mixed Go.Proofs.Tryz.func61 (by kernel_rfl) (by kernel_rfl) (cutOK_of (l := [(I_ParseDate_b0_cut k, sub (bodyOf Go.Proofs.Tryz.f61) [1, 0, 1])]) (by kernel_rfl) ⟨I_ParseDate_b0_ok k, trivial⟩) fun x R h => by
    simp only [I_ParseDate_f, I_ParseDate, optK_bind, optK_bif, optK_pure, optK_none, optK_oc, optK_guardT, optK_map] at h
    refine hold_of h ?_
    kernel_rfl
def I_ParseDate_en (k : Nat) : Entry D := entS I_ParseDate_ar (I_ParseDate_f k) I_ParseDate_vr
theorem I_ParseDate_eo (k : Nat) : EntryOK X 61 (I_ParseDate_en k) := (I_ParseDate_ok k).en rfl
def I_dateField_pl : Plan := ⟨[(0, [(1, none), (2, none)]), (1, [(6, none)]), (2, [(4, none), (5, none)])],
  [],
  []⟩
def I_dateField_cl (k : Nat) : Calls' D := ⟨[(57, I_GetField_en k), (61, I_ParseDate_en k)], [], [], [], []⟩
theorem I_dateField_ck (k : Nat) : CallsOK X (I_dateField_cl k) := .cons (I_GetField_eo k) (.cons (I_ParseDate_eo k) (.nil cod))
def I_dateField_cu (k : Nat) : Cuts D := ⟨[], []⟩
def I_dateField_ar : List Ar := [.a [.ki .i64, .kl 107, .ks], .c (.ks)]
def I_dateField_f (k : Nat) (x : TupA D I_dateField_ar) : Option (Int × Bool) := I_dateField k (⟨x.1.1, x.1.2.1, x.1.2.2.1⟩ : IResponse) x.2.1
def I_dateField_vr (r : Int × Bool) : VR D := .tup [.c (.int .i64 r.1), .c (.bool r.2)]
theorem I_dateField_ok (k : Nat) : Does P X 53 I_dateField_ar (I_dateField_f k) I_dateField_vr :=
  does_of (body := bodyOf Go.Proofs.Tryz.f53) (pl := I_dateField_pl) (k := k) (cu := I_dateField_cu k) (tys := [[0], [0]]) (I_dateField_ck k) ctx mixed Go.Proofs.Tryz.func53 (by kernel_rfl) (by kernel_rfl) (cutOK_of (l := []) (by kernel_rfl) trivial) fun x R h => by
    simp only [I_dateField_f, I_dateField, optK_bind, optK_bif, optK_pure, optK_none, optK_oc, optK_guardT, optK_map] at h
    refine hold_of h ?_
    kernel_rfl
def I_dateField_en (k : Nat) : Entry D := entS I_dateField_ar (I_dateField_f k) I_dateField_vr
theorem I_dateField_eo (k : Nat) : EntryOK X 53 (I_dateField_en k) := (I_dateField_ok k).en rfl
def I_InitialAge_pl : Plan := ⟨[(0, [(1, none), (2, none), (3, none)]), (1, [(2, none), (3, none), (7, none)]), (2, [(2, none), (7, none), (8, none), (9, none)]), (3, [(2, none), (7, none), (8, none), (22, none)]), (4, [(7, none)]), (5, [(6, none)])],
  [],
  [(22, ([(2, none), (7, none), (8, none)], [(7, none)]))]⟩
def I_InitialAge_cl (k : Nat) : Calls' D := ⟨[(52, I_AgeField_en k), (53, I_dateField_en k)], [], [], [], []⟩
theorem I_InitialAge_ck (k : Nat) : CallsOK X (I_InitialAge_cl k) := .cons (I_AgeField_eo k) (.cons (I_dateField_eo k) (.nil cod))
def I_InitialAge_c22_L (x : Int × Int × Int × Bool × Unit) (o : Int) (Q : Ex → VSt D → Prop) (R : VR D → Prop) : Prop := Q .normal (mkSt ⟨[(7, .hole)], []⟩ [.int .i64 o])
def I_InitialAge_c22_cut (k : Nat) : Cut D := cutS ⟨[(2, .hole), (7, .hole), (8, .hole), (22, .hole)], []⟩ [.ki .i64, .ki .i64, .ki .i64, .kb] (fun (x : Int × Int × Int × Bool × Unit) => I_InitialAge_c22 k x.1 x.2.1 x.2.2.1 x.2.2.2.1) I_InitialAge_c22_L
def I_InitialAge_c22_cu (k : Nat) : Cuts D := ⟨[], []⟩
theorem I_InitialAge_c22_ok (k : Nat) : CutFor X I_InitialAge_pl k Go.Proofs.Tryz.f23.results.toList (I_InitialAge_c22_cut k) (sub (bodyOf Go.Proofs.Tryz.f23) [1, 1, 0, 1, 1]) :=
  joinCut_s (X := X) (sg := [.ki .i64, .ki .i64, .ki .i64, .kb]) (cu := I_InitialAge_c22_cu k) (cl := I_InitialAge_cl k) (tys := [[0]]) (I_InitialAge_ck k) (cutOK_of (l := []) (by kernel_rfl) trivial) fun x Q R h => by
    simp only [I_InitialAge_c22, optK_bind, optK_bif, optK_pure, optK_none, optK_oc, optK_guardT, optK_map] at h
    refine hold_of h ?_
    kernel_rfl
def I_InitialAge_cu (k : Nat) : Cuts D := ⟨[], [(22, some (I_InitialAge_c22_cut k))]⟩
def I_InitialAge_ar : List Ar := [.a [.ki .i64, .kl 107, .ks], .c (.ki .i64), .c (.ki .i64)]
def I_InitialAge_f (k : Nat) (x : TupA D I_InitialAge_ar) : Option (Int) := I_InitialAge k (⟨x.1.1, x.1.2.1, x.1.2.2.1⟩ : IResponse) x.2.1 x.2.2.1
def I_InitialAge_vr (r : Int) : VR D := .p (.c (.int .i64 r))
theorem I_InitialAge_ok (k : Nat) : Does P X 23 I_InitialAge_ar (I_InitialAge_f k) I_InitialAge_vr :=
  does_of (body := bodyOf Go.Proofs.Tryz.f23) (pl := I_InitialAge_pl) (k := k) (cu := I_InitialAge_cu k) (tys := [[0]]) (I_InitialAge_ck k) ctx mixed Go.Proofs.Tryz.func23 (by kernel_rfl) (by kernel_rfl) (cutOK_of (l := [(I_InitialAge_c22_cut k, sub (bodyOf Go.Proofs.Tryz.f23) [1, 1, 0, 1, 1])]) (by kernel_rfl) ⟨I_InitialAge_c22_ok k, trivial⟩) fun x R h => by
    simp only [I_InitialAge_f, I_InitialAge, optK_bind, optK_bif, optK_pure, optK_none, optK_oc, optK_guardT, optK_map] at h
    refine hold_of h ?_
    kernel_rfl
def I_InitialAge_en (k : Nat) : Entry D := entS I_InitialAge_ar (I_InitialAge_f k) I_InitialAge_vr
theorem I_InitialAge_eo (k : Nat) : EntryOK X 23 (I_InitialAge_en k) := (I_InitialAge_ok k).en rfl
def L_eqField_pl : Plan := ⟨[(0, [(2, none), (3, none)]), (1, [(2, none), (3, none), (9, none)]), (2, [(4, none)]), (3, [(14, none)]), (4, [(4, none)]), (5, [(4, none)])],
  [],
  [(9, ([], [(2, none), (3, none)])), (14, ([], []))]⟩
def L_eqField_cl (k : Nat) : Calls' D := ⟨[], [], [], [], []⟩
theorem L_eqField_ck (k : Nat) : CallsOK X (L_eqField_cl k) := .nil cod
def L_eqField_cu (k : Nat) : Cuts D := ⟨[], []⟩
def L_eqField_ar : List Ar := [.a [.ks, .ks], .a [.ks, .ks]]
def L_eqField_f (k : Nat) (x : TupA D L_eqField_ar) : Option (Bool) := L_eqField k (⟨x.1.1, x.1.2.1⟩ : IField) (⟨x.2.1.1, x.2.1.2.1⟩ : IField)
def L_eqField_vr (r : Bool) : VR D := .p (.c (.bool r))
theorem L_eqField_ok (k : Nat) : Does P X 96 L_eqField_ar (L_eqField_f k) L_eqField_vr :=
  does_of (body := bodyOf Go.Proofs.Tryz.f96) (pl := L_eqField_pl) (k := k) (cu := L_eqField_cu k) (tys := [[0]]) (L_eqField_ck k) ctx mixed Go.Proofs.Tryz.func96 (by kernel_rfl) (by kernel_rfl) (cutOK_of (l := []) (by kernel_rfl) trivial) fun x R h => by
    simp only [L_eqField_f, L_eqField, optK_bind, optK_bif, optK_pure, optK_none, optK_oc, optK_guardT, optK_map] at h
    refine hold_of h ?_
    kernel_rfl
def L_eqField_en (k : Nat) : Entry D := entS L_eqField_ar (L_eqField_f k) L_eqField_vr
theorem L_eqField_eo (k : Nat) : EntryOK X 96 (L_eqField_en k) := (L_eqField_ok k).en rfl
def L_eqFieldS_pl : Plan := ⟨[(0, [(0, some 107), (1, some 107)]), (1, [(0, some 107), (1, some 107), (10, none)]), (2, [(4, none)]), (3, [(0, some 107), (1, some 107), (5, none)]), (4, [(0, some 107), (1, some 107), (5, none), (14, none)]), (5, [(0, some 107), (1, some 107), (5, none)]), (6, [(0, some 107), (1, some 107), (5, none), (26, none)]), (7, [(4, none)]), (8, [(4, none)])],
  [(0, []), (1, [(0, some 107), (1, some 107), (5, none)])],
  [(10, ([], [(0, some 107), (1, some 107)])), (14, ([(0, some 107), (1, some 107), (5, none)], [])), (26, ([], [(0, some 107), (1, some 107), (5, none)]))]⟩
def L_eqFieldS_cl (k : Nat) : Calls' D := ⟨[(96, L_eqField_en k)], [], [], [], []⟩
theorem L_eqFieldS_ck (k : Nat) : CallsOK X (L_eqFieldS_cl k) := .cons (L_eqField_eo k) (.nil cod)
def L_eqFieldS_b0_L (x : (List IField) × (List IField) × Int × Unit) (o : Oc (Unit) (Bool)) (Q : Ex → VSt D → Prop) (R : VR D → Prop) : Prop := ocP o (fun v0 => Q .normal (mkSt ⟨[], []⟩ [])) (fun w0 => R (.p (.c (.bool w0))))
def L_eqFieldS_b0_cut (k : Nat) : Cut D := cutS ⟨[(0, .hole), (1, .hole), (5, .hole)], []⟩ [.kl 107, .kl 107, .ki .i64] (fun (x : (List IField) × (List IField) × Int × Unit) => L_eqFieldS_b0 k k x.1 x.2.1 x.2.2.1) L_eqFieldS_b0_L
def L_eqFieldS_b0_cu (k : Nat) : Cuts D := ⟨[], []⟩
theorem L_eqFieldS_b0_ok (k : Nat) : CutFor X L_eqFieldS_pl k Go.Proofs.Tryz.f39.results.toList (L_eqFieldS_b0_cut k) (sub (bodyOf Go.Proofs.Tryz.f39) [1, 1, 0, 1]) :=
  loopCut_s (X := X) (sg := [.kl 107, .kl 107, .ki .i64]) (cu := L_eqFieldS_b0_cu k) (cl := L_eqFieldS_cl k) (tys := [[0]]) (id := 0) (c := sub (bodyOf Go.Proofs.Tryz.f39) [1, 1, 0, 1, 0, 0]) (f := fun n => fun (x : (List IField) × (List IField) × Int × Unit) => L_eqFieldS_b0 k n x.1 x.2.1 x.2.2.1) (L_eqFieldS_ck k) (cutOK_of (l := []) (by kernel_rfl) trivial) (fun _ => rfl) (fun n x Q R h => by
    simp only [L_eqFieldS_b0, optK_bind, optK_bif, optK_pure, optK_none, optK_oc, optK_guardT, optK_map] at h
    refine hold_of h ?_
    kernel_rfl) (by kernel_rfl)
def L_eqFieldS_cu (k : Nat) : Cuts D := ⟨[(0, some (L_eqFieldS_b0_cut k))], []⟩
def L_eqFieldS_ar : List Ar := [.c (.kl 107), .c (.kl 107)]
def L_eqFieldS_f (k : Nat) (x : TupA D L_eqFieldS_ar) : Option (Bool) := L_eqFieldS k x.1 x.2.1
def L_eqFieldS_vr (r : Bool) : VR D := .p (.c (.bool r))
theorem L_eqFieldS_ok (k : Nat) : Does P X 39 L_eqFieldS_ar (L_eqFieldS_f k) L_eqFieldS_vr :=
  does_of (body := bodyOf Go.Proofs.Tryz.f39) (pl := L_eqFieldS_pl) (k := k) (cu := L_eqFieldS_cu k) (tys := [[0]]) (L_eqFieldS_ck k) ctx mixed Go.Proofs.Tryz.func39 (by kernel_rfl) (by kernel_rfl) (cutOK_of (l := [(L_eqFieldS_b0_cut k, sub (bodyOf Go.Proofs.Tryz.f39) [1, 1, 0, 1])]) (by kernel_rfl) ⟨L_eqFieldS_b0_ok k, trivial⟩) fun x R h => by
    simp only [L_eqFieldS_f, L_eqFieldS, optK_bind, optK_bif, optK_pure, optK_none, optK_oc, optK_guardT, optK_map] at h
    refine hold_of h ?_
    kernel_rfl
def L_eqFieldS_en (k : Nat) : Entry D := entS L_eqFieldS_ar (L_eqFieldS_f k) L_eqFieldS_vr
theorem L_eqFieldS_eo (k : Nat) : EntryOK X 39 (L_eqFieldS_en k) := (L_eqFieldS_ok k).en rfl
def L_eqResponse_pl : Plan := ⟨[(0, [(2, none), (3, none)]), (1, [(2, none), (3, none), (9, none)]), (2, [(4, none)]), (3, [(2, none), (3, none), (15, none)]), (4, [(4, none)]), (5, [(20, none)]), (6, [(4, none)]), (7, [(4, none)])],
  [],
  [(9, ([], [(2, none), (3, none)])), (15, ([], [(2, none), (3, none)])), (20, ([], []))]⟩
def L_eqResponse_cl (k : Nat) : Calls' D := ⟨[(39, L_eqFieldS_en k)], [], [], [], []⟩
theorem L_eqResponse_ck (k : Nat) : CallsOK X (L_eqResponse_cl k) := .cons (L_eqFieldS_eo k) (.nil cod)
def L_eqResponse_cu (k : Nat) : Cuts D := ⟨[], []⟩
def L_eqResponse_ar : List Ar := [.a [.ki .i64, .kl 107, .ks], .a [.ki .i64, .kl 107, .ks]]
def L_eqResponse_f (k : Nat) (x : TupA D L_eqResponse_ar) : Option (Bool) := L_eqResponse k (⟨x.1.1, x.1.2.1, x.1.2.2.1⟩ : IResponse) (⟨x.2.1.1, x.2.1.2.1, x.2.1.2.2.1⟩ : IResponse)
def L_eqResponse_vr (r : Bool) : VR D := .p (.c (.bool r))
theorem L_eqResponse_ok (k : Nat) : Does P X 24 L_eqResponse_ar (L_eqResponse_f k) L_eqResponse_vr :=
  does_of (body := bodyOf Go.Proofs.Tryz.f24) (pl := L_eqResponse_pl) (k := k) (cu := L_eqResponse_cu k) (tys := [[0]]) (L_eqResponse_ck k) ctx mixed Go.Proofs.Tryz.func24 (by kernel_rfl) (by kernel_rfl) (cutOK_of (l := []) (by kernel_rfl) trivial) fun x R h => by
    simp only [L_eqResponse_f, L_eqResponse, optK_bind, optK_bif, optK_pure, optK_none, optK_oc, optK_guardT, optK_map] at h
    refine hold_of h ?_
    kernel_rfl
def L_eqResponse_en (k : Nat) : Entry D := entS L_eqResponse_ar (L_eqResponse_f k) L_eqResponse_vr
theorem L_eqResponse_eo (k : Nat) : EntryOK X 24 (L_eqResponse_en k) := (L_eqResponse_ok k).en rfl
def L_FnExactInitialAge_pl : Plan := ⟨[(0, [(1, none), (2, none), (3, none)]), (1, [(1, none), (2, none), (3, none), (7, none)]), (2, [(1, none), (2, none), (3, none), (7, none)]), (3, [(1, none), (2, none), (3, none), (15, none)]), (4, [(6, none)]), (5, [(1, none), (2, none), (3, none), (8, none)]), (6, [(1, none), (2, none), (3, none), (8, none), (9, none)]), (7, [(3, none), (8, none), (9, none), (10, none)]), (8, [(3, none), (9, none), (29, none)]), (9, [(6, none)]), (10, [(34, none)]), (11, [(6, none)]), (12, [(6, none)])],
  [],
  [(15, ([], [(1, none), (2, none), (3, none)])), (29, ([], [(3, none), (9, none)])), (34, ([], []))]⟩
def L_FnExactInitialAge_cl (k : Nat) : Calls' D := ⟨[(20, L_szResponse_en k), (22, L_toResponse_en k), (21, S_InitialAge_en k), (23, I_InitialAge_en k), (24, L_eqResponse_en k)], [], [], [], []⟩
theorem L_FnExactInitialAge_ck (k : Nat) : CallsOK X (L_FnExactInitialAge_cl k) := .cons (L_szResponse_eo k) (.cons (L_toResponse_eo k) (.cons (S_InitialAge_eo k) (.cons (I_InitialAge_eo k) (.cons (L_eqResponse_eo k) (.nil cod)))))
def L_FnExactInitialAge_cu (k : Nat) : Cuts D := ⟨[], []⟩
def L_FnExactInitialAge_ar : List Ar := [.a [.ki .i64, .kl 100, .ks], .c (.ki .i64), .c (.ki .i64)]
def L_FnExactInitialAge_f (k : Nat) (x : TupA D L_FnExactInitialAge_ar) : Option (Bool) := L_FnExactInitialAge k (⟨x.1.1, x.1.2.1, x.1.2.2.1⟩ : LResponse) x.2.1 x.2.2.1
def L_FnExactInitialAge_vr (r : Bool) : VR D := .p (.c (.bool r))
theorem L_FnExactInitialAge_ok (k : Nat) : Does P X 5 L_FnExactInitialAge_ar (L_FnExactInitialAge_f k) L_FnExactInitialAge_vr :=
  does_of (body := bodyOf Go.Proofs.Tryz.f5) (pl := L_FnExactInitialAge_pl) (k := k) (cu := L_FnExactInitialAge_cu k) (tys := [[0]]) (L_FnExactInitialAge_ck k) ctx mixed Go.Proofs.Tryz.func5 (by kernel_rfl) (by kernel_rfl) (cutOK_of (l := []) (by kernel_rfl) trivial) fun x R h => by
    simp only [L_FnExactInitialAge_f, L_FnExactInitialAge, optK_bind, optK_bif, optK_pure, optK_none, optK_oc, optK_guardT, optK_map] at h
    refine hold_of h ?_
    kernel_rfl
def L_FnExactInitialAge_en (k : Nat) : Entry D := entS L_FnExactInitialAge_ar (L_FnExactInitialAge_f k) L_FnExactInitialAge_vr
theorem L_FnExactInitialAge_eo (k : Nat) : EntryOK X 5 (L_FnExactInitialAge_en k) := (L_FnExactInitialAge_ok k).en rfl

end
end Go.YtjpfnppiocloeaaGreatDoor
