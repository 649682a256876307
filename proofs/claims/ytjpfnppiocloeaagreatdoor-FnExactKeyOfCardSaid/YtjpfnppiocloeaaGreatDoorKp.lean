/- The machine computes the functions. Nothing is claimed here. -/
import Derived.Test.YtjpfnppiocloeaaGreatDoorKf
import Derived.Test.YtjpfnppiocloeaaGreatDoorShelf
import Derived.Shelf.Strings.SlTrimAscii
set_option linter.unusedVariables false
set_option linter.unusedSimpArgs false
set_option maxRecDepth 100000
namespace Go.YtjpfnppiocloeaaGreatDoor
open Go Go.RowKit Go.Pv
noncomputable section

def L_szField_pl : Plan := ⟨[(0, [(1, none), (2, none)]), (1, [(1, none), (2, none)]), (2, [(1, none), (2, none), (11, none)]), (3, [(4, none)]), (4, [(1, none)]), (5, [(1, none), (18, none)]), (6, [(4, none)]), (7, [(4, none)])],
  [],
  [(11, ([], [(1, none), (2, none)])), (18, ([], [(1, none)]))]⟩
def L_szField_cl (k : Nat) : Calls' D := ⟨[], [], [], [], []⟩
theorem L_szField_ck (k : Nat) : CallsOK X (L_szField_cl k) := .nil cod
def L_szField_cu (k : Nat) : Cuts D := ⟨[], []⟩
def L_szField_ar : List Ar := [.a [.ks, .ks], .c (.ki .i64)]
def L_szField_f (k : Nat) (x : TupA D L_szField_ar) : Option (Int) := L_szField k (⟨x.1.1, x.1.2.1⟩ : LField) x.2.1
def L_szField_vr (r : Int) : VR D := .p (.c (.int .i64 r))
theorem L_szField_ok (k : Nat) : Does P X 73 L_szField_ar (L_szField_f k) L_szField_vr :=
  does_of (body := bodyOf Go.Proofs.Tryz.f73) (pl := L_szField_pl) (k := k) (cu := L_szField_cu k) (tys := [[0]]) (L_szField_ck k) ctx mixed Go.Proofs.Tryz.func73 (by kernel_rfl) (by kernel_rfl) (cutOK_of (l := []) (by kernel_rfl) trivial) fun x R h => by
    simp only [L_szField_f, L_szField, optK_bind, optK_bif, optK_pure, optK_none, optK_oc, optK_guardT, optK_map] at h
    refine hold_of h ?_
    kernel_rfl
def L_szField_en (k : Nat) : Entry D := entS L_szField_ar (L_szField_f k) L_szField_vr
theorem L_szField_eo (k : Nat) : EntryOK X 73 (L_szField_en k) := (L_szField_ok k).en rfl
def L_szFieldS_pl : Plan := ⟨[(0, [(0, some 100), (1, none)]), (1, [(0, some 100), (1, none)]), (2, [(0, some 100), (1, none), (11, none)]), (3, [(4, none)]), (4, [(0, some 100), (1, none), (5, none)]), (5, [(0, some 100), (1, none), (5, none), (15, none)]), (6, [(0, some 100), (1, none), (5, none)]), (7, [(0, some 100), (1, none), (5, none)]), (8, [(0, some 100), (1, none), (5, none), (25, none)]), (9, [(4, none)]), (10, [(4, none)])],
  [(0, [(1, none)]), (1, [(0, some 100), (1, none), (5, none)])],
  [(11, ([], [(0, some 100), (1, none)])), (15, ([(0, some 100), (1, none), (5, none)], [(1, none)])), (25, ([], [(0, some 100), (1, none), (5, none)]))]⟩
def L_szFieldS_cl (k : Nat) : Calls' D := ⟨[(73, L_szField_en k)], [], [], [], []⟩
theorem L_szFieldS_ck (k : Nat) : CallsOK X (L_szFieldS_cl k) := .cons (L_szField_eo k) (.nil cod)
def L_szFieldS_b0_L (x : (List LField) × Int × Int × Unit) (o : Oc (Int) (Int)) (Q : Ex → VSt D → Prop) (R : VR D → Prop) : Prop := ocP o (fun v0 => Q .normal (mkSt ⟨[(1, .hole)], []⟩ [.int .i64 v0])) (fun w0 => R (.p (.c (.int .i64 w0))))
def L_szFieldS_b0_cut (k : Nat) : Cut D := cutS ⟨[(0, .hole), (1, .hole), (5, .hole)], []⟩ [.kl 100, .ki .i64, .ki .i64] (fun (x : (List LField) × Int × Int × Unit) => L_szFieldS_b0 k k x.1 x.2.1 x.2.2.1) L_szFieldS_b0_L
def L_szFieldS_b0_cu (k : Nat) : Cuts D := ⟨[], []⟩
theorem L_szFieldS_b0_ok (k : Nat) : CutFor X L_szFieldS_pl k Go.Proofs.Tryz.f33.results.toList (L_szFieldS_b0_cut k) (sub (bodyOf Go.Proofs.Tryz.f33) [1, 1, 1, 0, 1]) :=
  loopCut_s (X := X) (sg := [.kl 100, .ki .i64, .ki .i64]) (cu := L_szFieldS_b0_cu k) (cl := L_szFieldS_cl k) (tys := [[0]]) (id := 0) (c := sub (bodyOf Go.Proofs.Tryz.f33) [1, 1, 1, 0, 1, 0, 0]) (f := fun n => fun (x : (List LField) × Int × Int × Unit) => L_szFieldS_b0 k n x.1 x.2.1 x.2.2.1) (L_szFieldS_ck k) (cutOK_of (l := []) (by kernel_rfl) trivial) (fun _ => rfl) (fun n x Q R h => by
    simp only [L_szFieldS_b0, optK_bind, optK_bif, optK_pure, optK_none, optK_oc, optK_guardT, optK_map] at h
    refine hold_of h ?_
    kernel_rfl) (by kernel_rfl)
def L_szFieldS_cu (k : Nat) : Cuts D := ⟨[(0, some (L_szFieldS_b0_cut k))], []⟩
def L_szFieldS_ar : List Ar := [.c (.kl 100), .c (.ki .i64)]
def L_szFieldS_f (k : Nat) (x : TupA D L_szFieldS_ar) : Option (Int) := L_szFieldS k x.1 x.2.1
def L_szFieldS_vr (r : Int) : VR D := .p (.c (.int .i64 r))
theorem L_szFieldS_ok (k : Nat) : Does P X 33 L_szFieldS_ar (L_szFieldS_f k) L_szFieldS_vr :=
  does_of (body := bodyOf Go.Proofs.Tryz.f33) (pl := L_szFieldS_pl) (k := k) (cu := L_szFieldS_cu k) (tys := [[0]]) (L_szFieldS_ck k) ctx mixed Go.Proofs.Tryz.func33 (by kernel_rfl) (by kernel_rfl) (cutOK_of (l := [(L_szFieldS_b0_cut k, sub (bodyOf Go.Proofs.Tryz.f33) [1, 1, 1, 0, 1])]) (by kernel_rfl) ⟨L_szFieldS_b0_ok k, trivial⟩) fun x R h => by
    simp only [L_szFieldS_f, L_szFieldS, optK_bind, optK_bif, optK_pure, optK_none, optK_oc, optK_guardT, optK_map] at h
    refine hold_of h ?_
    kernel_rfl
def L_szFieldS_en (k : Nat) : Entry D := entS L_szFieldS_ar (L_szFieldS_f k) L_szFieldS_vr
theorem L_szFieldS_eo (k : Nat) : EntryOK X 33 (L_szFieldS_en k) := (L_szFieldS_ok k).en rfl
def L_szRequest_pl : Plan := ⟨[(0, [(1, none), (2, none)]), (1, [(1, none), (2, none)]), (2, [(1, none), (2, none), (11, none)]), (3, [(4, none)]), (4, [(1, none), (2, none)]), (5, [(1, none), (2, none), (18, none)]), (6, [(4, none)]), (7, [(1, none), (2, none)]), (8, [(1, none), (2, none), (25, none)]), (9, [(4, none)]), (10, [(1, none)]), (11, [(1, none), (31, none)]), (12, [(4, none)]), (13, [(4, none)])],
  [],
  [(11, ([], [(1, none), (2, none)])), (18, ([], [(1, none), (2, none)])), (25, ([], [(1, none), (2, none)])), (31, ([], [(1, none)]))]⟩
def L_szRequest_cl (k : Nat) : Calls' D := ⟨[(33, L_szFieldS_en k)], [], [], [], []⟩
theorem L_szRequest_ck (k : Nat) : CallsOK X (L_szRequest_cl k) := .cons (L_szFieldS_eo k) (.nil cod)
def L_szRequest_cu (k : Nat) : Cuts D := ⟨[], []⟩
def L_szRequest_ar : List Ar := [.a [.ks, .ks, .ks, .kl 100], .c (.ki .i64)]
def L_szRequest_f (k : Nat) (x : TupA D L_szRequest_ar) : Option (Int) := L_szRequest k (⟨x.1.1, x.1.2.1, x.1.2.2.1, x.1.2.2.2.1⟩ : LRequest) x.2.1
def L_szRequest_vr (r : Int) : VR D := .p (.c (.int .i64 r))
theorem L_szRequest_ok (k : Nat) : Does P X 10 L_szRequest_ar (L_szRequest_f k) L_szRequest_vr :=
  does_of (body := bodyOf Go.Proofs.Tryz.f10) (pl := L_szRequest_pl) (k := k) (cu := L_szRequest_cu k) (tys := [[0]]) (L_szRequest_ck k) ctx mixed Go.Proofs.Tryz.func10 (by kernel_rfl) (by kernel_rfl) (cutOK_of (l := []) (by kernel_rfl) trivial) fun x R h => by
    simp only [L_szRequest_f, L_szRequest, optK_bind, optK_bif, optK_pure, optK_none, optK_oc, optK_guardT, optK_map] at h
    refine hold_of h ?_
    kernel_rfl
def L_szRequest_en (k : Nat) : Entry D := entS L_szRequest_ar (L_szRequest_f k) L_szRequest_vr
theorem L_szRequest_eo (k : Nat) : EntryOK X 10 (L_szRequest_en k) := (L_szRequest_ok k).en rfl
def L_toField_pl : Plan := ⟨[(0, [(1, none), (2, none)]), (1, [(1, none), (2, none), (3, none)]), (2, [(1, none), (2, none), (3, none)]), (3, [(2, none), (3, none)]), (4, [(2, none)])],
  [],
  []⟩
def L_toField_cl (k : Nat) : Calls' D := ⟨[], [], [], [], []⟩
theorem L_toField_ck (k : Nat) : CallsOK X (L_toField_cl k) := .nil cod
def L_toField_cu (k : Nat) : Cuts D := ⟨[], []⟩
def L_toField_ar : List Ar := [.a [.ks, .ks]]
def L_toField_f (k : Nat) (x : TupA D L_toField_ar) : Option (IField) := L_toField k (⟨x.1.1, x.1.2.1⟩ : LField)
def L_toField_vr (r : IField) : VR D := .p (.agg [.str r.Name, .str r.Value])
theorem L_toField_ok (k : Nat) : Does P X 81 L_toField_ar (L_toField_f k) L_toField_vr :=
  does_of (body := bodyOf Go.Proofs.Tryz.f81) (pl := L_toField_pl) (k := k) (cu := L_toField_cu k) (tys := [[0, 0]]) (L_toField_ck k) ctx mixed Go.Proofs.Tryz.func81 (by kernel_rfl) (by kernel_rfl) (cutOK_of (l := []) (by kernel_rfl) trivial) fun x R h => by
    simp only [L_toField_f, L_toField, optK_bind, optK_bif, optK_pure, optK_none, optK_oc, optK_guardT, optK_map] at h
    refine hold_of h ?_
    kernel_rfl
def L_toField_en (k : Nat) : Entry D := entS L_toField_ar (L_toField_f k) L_toField_vr
theorem L_toField_eo (k : Nat) : EntryOK X 81 (L_toField_en k) := (L_toField_ok k).en rfl
def L_toFieldS_pl : Plan := ⟨[(0, [(0, some 100)]), (1, [(0, some 100), (3, some 107)]), (2, [(0, some 100), (3, some 107), (4, none)]), (3, [(0, some 100), (3, some 107), (4, none), (11, none)]), (4, [(0, some 100), (3, some 107), (4, none)]), (5, [(0, some 100), (3, some 107), (4, none)]), (6, [(2, some 107)])],
  [(0, [(3, some 107)]), (1, [(0, some 100), (3, some 107), (4, none)])],
  [(11, ([(0, some 100), (3, some 107), (4, none)], [(3, some 107)]))]⟩
def L_toFieldS_cl (k : Nat) : Calls' D := ⟨[(81, L_toField_en k)], [], [], [], []⟩
theorem L_toFieldS_ck (k : Nat) : CallsOK X (L_toFieldS_cl k) := .cons (L_toField_eo k) (.nil cod)
def L_toFieldS_b0_L (x : (List LField) × Int × (List IField) × Unit) (o : (List IField)) (Q : Ex → VSt D → Prop) (R : VR D → Prop) : Prop := Q .normal (mkSt ⟨[(3, .ref 500003)], [(500003, .row)]⟩ [.sl 107 o])
def L_toFieldS_b0_cut (k : Nat) : Cut D := cutS ⟨[(0, .hole), (3, .ref 500003), (4, .hole)], [(500003, .row)]⟩ [.kl 100, .ki .i64, .kl 107] (fun (x : (List LField) × Int × (List IField) × Unit) => L_toFieldS_b0 k k x.1 x.2.1 x.2.2.1) L_toFieldS_b0_L
def L_toFieldS_b0_cu (k : Nat) : Cuts D := ⟨[], []⟩
theorem L_toFieldS_b0_ok (k : Nat) : CutFor X L_toFieldS_pl k Go.Proofs.Tryz.f36.results.toList (L_toFieldS_b0_cut k) (sub (bodyOf Go.Proofs.Tryz.f36) [1, 1, 0, 1]) :=
  loopCut_s (X := X) (sg := [.kl 100, .ki .i64, .kl 107]) (cu := L_toFieldS_b0_cu k) (cl := L_toFieldS_cl k) (tys := [[107]]) (id := 0) (c := sub (bodyOf Go.Proofs.Tryz.f36) [1, 1, 0, 1, 0, 0]) (f := fun n => fun (x : (List LField) × Int × (List IField) × Unit) => L_toFieldS_b0 k n x.1 x.2.1 x.2.2.1) (L_toFieldS_ck k) (cutOK_of (l := []) (by kernel_rfl) trivial) (fun _ => rfl) (fun n x Q R h => by
    simp only [L_toFieldS_b0, optK_bind, optK_bif, optK_pure, optK_none, optK_oc, optK_guardT, optK_map] at h
    refine hold_of h ?_
    kernel_rfl) (by kernel_rfl)
def L_toFieldS_cu (k : Nat) : Cuts D := ⟨[(0, some (L_toFieldS_b0_cut k))], []⟩
def L_toFieldS_ar : List Ar := [.c (.kl 100)]
def L_toFieldS_f (k : Nat) (x : TupA D L_toFieldS_ar) : Option ((List IField)) := L_toFieldS k x.1
def L_toFieldS_vr (r : (List IField)) : VR D := .p (.c (.sl 107 r))
theorem L_toFieldS_ok (k : Nat) : Does P X 36 L_toFieldS_ar (L_toFieldS_f k) L_toFieldS_vr :=
  does_of (body := bodyOf Go.Proofs.Tryz.f36) (pl := L_toFieldS_pl) (k := k) (cu := L_toFieldS_cu k) (tys := [[107]]) (L_toFieldS_ck k) ctx mixed Go.Proofs.Tryz.func36 (by kernel_rfl) (by kernel_rfl) (cutOK_of (l := [(L_toFieldS_b0_cut k, sub (bodyOf Go.Proofs.Tryz.f36) [1, 1, 0, 1])]) (by kernel_rfl) ⟨L_toFieldS_b0_ok k, trivial⟩) fun x R h => by
    simp only [L_toFieldS_f, L_toFieldS, optK_bind, optK_bif, optK_pure, optK_none, optK_oc, optK_guardT, optK_map] at h
    refine hold_of h ?_
    kernel_rfl
def L_toFieldS_en (k : Nat) : Entry D := entS L_toFieldS_ar (L_toFieldS_f k) L_toFieldS_vr
theorem L_toFieldS_eo (k : Nat) : EntryOK X 36 (L_toFieldS_en k) := (L_toFieldS_ok k).en rfl
def L_toRequest_pl : Plan := ⟨[(0, [(1, none), (2, none)]), (1, [(1, none), (2, none), (3, none)]), (2, [(1, none), (2, none), (3, none)]), (3, [(1, none), (2, none), (3, none)]), (4, [(1, none), (2, none), (3, none)]), (5, [(2, none), (3, none)]), (6, [(2, none)])],
  [],
  []⟩
def L_toRequest_cl (k : Nat) : Calls' D := ⟨[(36, L_toFieldS_en k)], [], [], [], []⟩
theorem L_toRequest_ck (k : Nat) : CallsOK X (L_toRequest_cl k) := .cons (L_toFieldS_eo k) (.nil cod)
def L_toRequest_cu (k : Nat) : Cuts D := ⟨[], []⟩
def L_toRequest_ar : List Ar := [.a [.ks, .ks, .ks, .kl 100]]
def L_toRequest_f (k : Nat) (x : TupA D L_toRequest_ar) : Option (IRequest) := L_toRequest k (⟨x.1.1, x.1.2.1, x.1.2.2.1, x.1.2.2.2.1⟩ : LRequest)
def L_toRequest_vr (r : IRequest) : VR D := .p (.agg [.str r.Method, .str r.Host, .str r.Target, .sl 107 r.Fields])
theorem L_toRequest_ok (k : Nat) : Does P X 12 L_toRequest_ar (L_toRequest_f k) L_toRequest_vr :=
  does_of (body := bodyOf Go.Proofs.Tryz.f12) (pl := L_toRequest_pl) (k := k) (cu := L_toRequest_cu k) (tys := [[0, 0, 0, 107]]) (L_toRequest_ck k) ctx mixed Go.Proofs.Tryz.func12 (by kernel_rfl) (by kernel_rfl) (cutOK_of (l := []) (by kernel_rfl) trivial) fun x R h => by
    simp only [L_toRequest_f, L_toRequest, optK_bind, optK_bif, optK_pure, optK_none, optK_oc, optK_guardT, optK_map] at h
    refine hold_of h ?_
    kernel_rfl
def L_toRequest_en (k : Nat) : Entry D := entS L_toRequest_ar (L_toRequest_f k) L_toRequest_vr
theorem L_toRequest_eo (k : Nat) : EntryOK X 12 (L_toRequest_en k) := (L_toRequest_ok k).en rfl
def S_SplitTarget_pl : Plan := ⟨[(0, [(0, none)]), (1, [(0, none), (5, none)]), (2, [(0, none), (5, none), (9, none)]), (3, [(0, none), (5, none)]), (4, [(0, none), (5, none), (15, none)]), (5, [(2, none), (3, none), (4, none)]), (6, [(2, none), (3, none), (4, none)])],
  [(0, [(0, none)]), (1, [(0, none), (5, none)])],
  [(9, ([(0, none), (5, none)], [(0, none)])), (15, ([(0, none), (5, none)], [(0, none), (5, none)]))]⟩
def S_SplitTarget_cl (k : Nat) : Calls' D := ⟨[], [], [], [], []⟩
theorem S_SplitTarget_ck (k : Nat) : CallsOK X (S_SplitTarget_cl k) := .nil cod
def S_SplitTarget_b0_L (x : (List UInt8) × Int × Unit) (o : Oc (Unit) ((List UInt8) × (List UInt8) × Bool)) (Q : Ex → VSt D → Prop) (R : VR D → Prop) : Prop := ocP o (fun v0 => Q .normal (mkSt ⟨[(0, .hole)], []⟩ [.str x.1])) (fun w0 => R (.tup [.c (.str w0.1), .c (.str w0.2.1), .c (.bool w0.2.2)]))
def S_SplitTarget_b0_cut (k : Nat) : Cut D := cutS ⟨[(0, .hole), (5, .hole)], []⟩ [.ks, .ki .i64] (fun (x : (List UInt8) × Int × Unit) => S_SplitTarget_b0 k k x.1 x.2.1) S_SplitTarget_b0_L
def S_SplitTarget_b0_cu (k : Nat) : Cuts D := ⟨[], []⟩
theorem S_SplitTarget_b0_ok (k : Nat) : CutFor X S_SplitTarget_pl k Go.Proofs.Tryz.f74.results.toList (S_SplitTarget_b0_cut k) (sub (bodyOf Go.Proofs.Tryz.f74) [1, 0, 1]) :=
  loopCut_s (X := X) (sg := [.ks, .ki .i64]) (cu := S_SplitTarget_b0_cu k) (cl := S_SplitTarget_cl k) (tys := [[0], [0], [0]]) (id := 0) (c := sub (bodyOf Go.Proofs.Tryz.f74) [1, 0, 1, 0, 0]) (f := fun n => fun (x : (List UInt8) × Int × Unit) => S_SplitTarget_b0 k n x.1 x.2.1) (S_SplitTarget_ck k) (cutOK_of (l := []) (by kernel_rfl) trivial) (fun _ => rfl) (fun n x Q R h => by
    simp only [S_SplitTarget_b0, optK_bind, optK_bif, optK_pure, optK_none, optK_oc, optK_guardT, optK_map] at h
    refine hold_of h ?_
    kernel_rfl) (by kernel_rfl)
def S_SplitTarget_cu (k : Nat) : Cuts D := ⟨[(0, some (S_SplitTarget_b0_cut k))], []⟩
def S_SplitTarget_ar : List Ar := [.c (.ks)]
def S_SplitTarget_f (k : Nat) (x : TupA D S_SplitTarget_ar) : Option ((List UInt8) × (List UInt8) × Bool) := S_SplitTarget k x.1
def S_SplitTarget_vr (r : (List UInt8) × (List UInt8) × Bool) : VR D := .tup [.c (.str r.1), .c (.str r.2.1), .c (.bool r.2.2)]
theorem S_SplitTarget_ok (k : Nat) : Does P X 74 S_SplitTarget_ar (S_SplitTarget_f k) S_SplitTarget_vr :=
  does_of (body := bodyOf Go.Proofs.Tryz.f74) (pl := S_SplitTarget_pl) (k := k) (cu := S_SplitTarget_cu k) (tys := [[0], [0], [0]]) (S_SplitTarget_ck k) ctx mixed Go.Proofs.Tryz.func74 (by kernel_rfl) (by kernel_rfl) (cutOK_of (l := [(S_SplitTarget_b0_cut k, sub (bodyOf Go.Proofs.Tryz.f74) [1, 0, 1])]) (by kernel_rfl) ⟨S_SplitTarget_b0_ok k, trivial⟩) fun x R h => by
    simp only [S_SplitTarget_f, S_SplitTarget, optK_bind, optK_bif, optK_pure, optK_none, optK_oc, optK_guardT, optK_map] at h
    refine hold_of h ?_
    kernel_rfl
def S_SplitTarget_en (k : Nat) : Entry D := entS S_SplitTarget_ar (S_SplitTarget_f k) S_SplitTarget_vr
theorem S_SplitTarget_eo (k : Nat) : EntryOK X 74 (S_SplitTarget_en k) := (S_SplitTarget_ok k).en rfl
def S_l1In_pl : Plan := ⟨[(0, [(0, none), (1, none), (2, none)]), (1, [(6, none)])],
  [],
  []⟩
def S_l1In_cl (k : Nat) : Calls' D := ⟨[], [], [], [], []⟩
theorem S_l1In_ck (k : Nat) : CallsOK X (S_l1In_cl k) := .nil cod
def S_l1In_cu (k : Nat) : Cuts D := ⟨[], []⟩
def S_l1In_ar : List Ar := [.c (.ki .i64), .c (.ki .i64), .c (.ki .i64)]
def S_l1In_f (k : Nat) (x : TupA D S_l1In_ar) : Option (Bool) := S_l1In k x.1 x.2.1 x.2.2.1
def S_l1In_vr (r : Bool) : VR D := .p (.c (.bool r))
theorem S_l1In_ok (k : Nat) : Does P X 78 S_l1In_ar (S_l1In_f k) S_l1In_vr :=
  does_of (body := bodyOf Go.Proofs.Tryz.f78) (pl := S_l1In_pl) (k := k) (cu := S_l1In_cu k) (tys := [[0]]) (S_l1In_ck k) ctx mixed Go.Proofs.Tryz.func78 (by kernel_rfl) (by kernel_rfl) (cutOK_of (l := []) (by kernel_rfl) trivial) fun x R h => by
    simp only [S_l1In_f, S_l1In, optK_bind, optK_bif, optK_pure, optK_none, optK_oc, optK_guardT, optK_map] at h
    refine hold_of h ?_
    kernel_rfl
def S_l1In_en (k : Nat) : Entry D := entS S_l1In_ar (S_l1In_f k) S_l1In_vr
theorem S_l1In_eo (k : Nat) : EntryOK X 78 (S_l1In_en k) := (S_l1In_ok k).en rfl
def S_l12Hex_pl : Plan := ⟨[(0, [(0, none)]), (1, [(0, none), (3, none)]), (2, [(2, none)]), (3, [(0, none), (10, none)]), (4, [(2, none)]), (5, [(0, none), (18, none)]), (6, [(2, none)]), (7, [(2, none)])],
  [(0, [])],
  [(3, ([(0, none)], [(0, none)])), (10, ([(0, none)], [(0, none)])), (18, ([(0, none)], []))]⟩
def S_l12Hex_cl (k : Nat) : Calls' D := ⟨[(78, S_l1In_en k)], [], [], [], []⟩
theorem S_l12Hex_ck (k : Nat) : CallsOK X (S_l12Hex_cl k) := .cons (S_l1In_eo k) (.nil cod)
def S_l12Hex_cu (k : Nat) : Cuts D := ⟨[], []⟩
def S_l12Hex_ar : List Ar := [.c (.ki .u8)]
def S_l12Hex_f (k : Nat) (x : TupA D S_l12Hex_ar) : Option (Int) := S_l12Hex k x.1
def S_l12Hex_vr (r : Int) : VR D := .p (.c (.int .i64 r))
theorem S_l12Hex_ok (k : Nat) : Does P X 136 S_l12Hex_ar (S_l12Hex_f k) S_l12Hex_vr :=
  does_of (body := bodyOf Go.Proofs.Tryz.f136) (pl := S_l12Hex_pl) (k := k) (cu := S_l12Hex_cu k) (tys := [[0]]) (S_l12Hex_ck k) ctx mixed Go.Proofs.Tryz.func136 (by kernel_rfl) (by kernel_rfl) (cutOK_of (l := []) (by kernel_rfl) trivial) fun x R h => by
    simp only [S_l12Hex_f, S_l12Hex, optK_bind, optK_bif, optK_pure, optK_none, optK_oc, optK_guardT, optK_map] at h
    refine hold_of h ?_
    kernel_rfl
def S_l12Hex_en (k : Nat) : Entry D := entS S_l12Hex_ar (S_l12Hex_f k) S_l12Hex_vr
theorem S_l12Hex_eo (k : Nat) : EntryOK X 136 (S_l12Hex_en k) := (S_l12Hex_ok k).en rfl
def S_l4Letter_pl : Plan := ⟨[(0, [(0, none)]), (1, [(2, none)])],
  [],
  []⟩
def S_l4Letter_cl (k : Nat) : Calls' D := ⟨[(78, S_l1In_en k)], [], [], [], []⟩
theorem S_l4Letter_ck (k : Nat) : CallsOK X (S_l4Letter_cl k) := .cons (S_l1In_eo k) (.nil cod)
def S_l4Letter_cu (k : Nat) : Cuts D := ⟨[], []⟩
def S_l4Letter_ar : List Ar := [.c (.ki .u8)]
def S_l4Letter_f (k : Nat) (x : TupA D S_l4Letter_ar) : Option (Bool) := S_l4Letter k x.1
def S_l4Letter_vr (r : Bool) : VR D := .p (.c (.bool r))
theorem S_l4Letter_ok (k : Nat) : Does P X 137 S_l4Letter_ar (S_l4Letter_f k) S_l4Letter_vr :=
  does_of (body := bodyOf Go.Proofs.Tryz.f137) (pl := S_l4Letter_pl) (k := k) (cu := S_l4Letter_cu k) (tys := [[0]]) (S_l4Letter_ck k) ctx mixed Go.Proofs.Tryz.func137 (by kernel_rfl) (by kernel_rfl) (cutOK_of (l := []) (by kernel_rfl) trivial) fun x R h => by
    simp only [S_l4Letter_f, S_l4Letter, optK_bind, optK_bif, optK_pure, optK_none, optK_oc, optK_guardT, optK_map] at h
    refine hold_of h ?_
    kernel_rfl
def S_l4Letter_en (k : Nat) : Entry D := entS S_l4Letter_ar (S_l4Letter_f k) S_l4Letter_vr
theorem S_l4Letter_eo (k : Nat) : EntryOK X 137 (S_l4Letter_en k) := (S_l4Letter_ok k).en rfl
def S_l12Plain_pl : Plan := ⟨[(0, [(0, none)]), (1, [(0, none), (4, some 5)]), (2, [(0, none), (4, some 5), (5, none)]), (3, [(0, none), (4, some 5), (5, none), (11, none)]), (4, [(0, none), (4, some 5), (5, none)]), (5, [(0, none), (4, some 5), (5, none), (17, none)]), (6, [(0, none), (4, some 5), (5, none)]), (7, [(0, none), (4, some 5), (5, none), (44, none)]), (8, [(2, none), (3, none)]), (9, [(0, none), (4, some 5), (5, none), (6, none)]), (10, [(0, none), (4, some 5), (5, none), (6, none), (75, none)]), (11, [(0, none), (4, some 5), (5, none)]), (12, [(0, none), (4, some 5), (5, none)]), (13, [(0, none), (4, some 5), (5, none)]), (14, [(2, none), (3, none)])],
  [(0, [(4, some 5)]), (1, [(0, none), (4, some 5), (5, none)])],
  [(11, ([(0, none), (4, some 5), (5, none)], [(4, some 5)])), (17, ([(0, none), (4, some 5), (5, none)], [(0, none), (4, some 5), (5, none)])), (44, ([], [(0, none), (4, some 5), (5, none)])), (75, ([(0, none), (4, some 5), (5, none), (6, none)], [(0, none), (4, some 5), (5, none), (6, none)]))]⟩
def S_l12Plain_cl (k : Nat) : Calls' D := ⟨[(136, S_l12Hex_en k), (137, S_l4Letter_en k)], [], [], [], []⟩
theorem S_l12Plain_ck (k : Nat) : CallsOK X (S_l12Plain_cl k) := .cons (S_l12Hex_eo k) (.cons (S_l4Letter_eo k) (.nil cod))
def S_l12Plain_c75_L (x : (List UInt8) × Int × Int × Bool × (List Int) × Unit) (o : (List Int)) (Q : Ex → VSt D → Prop) (R : VR D → Prop) : Prop := Q .normal (mkSt ⟨[(0, .hole), (4, .ref 500004), (5, .hole)], [(500004, .row)]⟩ [.str x.1, .int .i64 x.2.1, .sl 5 o])
def S_l12Plain_c75_cut (k : Nat) : Cut D := cutS ⟨[(0, .hole), (4, .ref 500004), (5, .hole), (6, .hole), (75, .hole)], [(500004, .row)]⟩ [.ks, .ki .i64, .ki .u8, .kb, .kl 5] (fun (x : (List UInt8) × Int × Int × Bool × (List Int) × Unit) => S_l12Plain_c75 k x.1 x.2.1 x.2.2.1 x.2.2.2.1 x.2.2.2.2.1) S_l12Plain_c75_L
def S_l12Plain_c75_cu (k : Nat) : Cuts D := ⟨[], []⟩
theorem S_l12Plain_c75_ok (k : Nat) : CutFor X S_l12Plain_pl k Go.Proofs.Tryz.f75.results.toList (S_l12Plain_c75_cut k) (sub (bodyOf Go.Proofs.Tryz.f75) [1, 1, 0, 1, 0, 0, 1, 0, 0, 1, 1, 1, 0, 1]) :=
  joinCut_s (X := X) (sg := [.ks, .ki .i64, .ki .u8, .kb, .kl 5]) (cu := S_l12Plain_c75_cu k) (cl := S_l12Plain_cl k) (tys := [[0], [0]]) (S_l12Plain_ck k) (cutOK_of (l := []) (by kernel_rfl) trivial) fun x Q R h => by
    simp only [S_l12Plain_c75, optK_bind, optK_bif, optK_pure, optK_none, optK_oc, optK_guardT, optK_map] at h
    refine hold_of h ?_
    kernel_rfl
def S_l12Plain_b1_L (x : (List UInt8) × Int × (List Int) × Unit) (o : Oc (Int × (List Int)) ((List UInt8) × Bool)) (Q : Ex → VSt D → Prop) (R : VR D → Prop) : Prop := ocP o (fun v0 => Q .normal (mkSt ⟨[(0, .hole), (4, .ref 500004), (5, .hole)], [(500004, .row)]⟩ [.str x.1, .int .i64 v0.1, .sl 5 v0.2])) (fun w0 => R (.tup [.c (.str w0.1), .c (.bool w0.2)]))
def S_l12Plain_b1_cut (k : Nat) : Cut D := cutS ⟨[(0, .hole), (4, .ref 500004), (5, .hole)], [(500004, .row)]⟩ [.ks, .ki .i64, .kl 5] (fun (x : (List UInt8) × Int × (List Int) × Unit) => S_l12Plain_b1 k x.1 x.2.1 x.2.2.1) S_l12Plain_b1_L
def S_l12Plain_b1_cu (k : Nat) : Cuts D := ⟨[], [(75, some (S_l12Plain_c75_cut k))]⟩
theorem S_l12Plain_b1_ok (k : Nat) : CutFor X S_l12Plain_pl k Go.Proofs.Tryz.f75.results.toList (S_l12Plain_b1_cut k) (sub (bodyOf Go.Proofs.Tryz.f75) [1, 1, 0, 1, 0, 0, 1, 0]) :=
  joinCut_s (X := X) (sg := [.ks, .ki .i64, .kl 5]) (cu := S_l12Plain_b1_cu k) (cl := S_l12Plain_cl k) (tys := [[0], [0]]) (S_l12Plain_ck k) (cutOK_of (l := [(S_l12Plain_c75_cut k, sub (bodyOf Go.Proofs.Tryz.f75) [1, 1, 0, 1, 0, 0, 1, 0, 0, 1, 1, 1, 0, 1])]) (by kernel_rfl) ⟨S_l12Plain_c75_ok k, trivial⟩) fun x Q R h => by
    simp only [S_l12Plain_b1, optK_bind, optK_bif, optK_pure, optK_none, optK_oc, optK_guardT, optK_map] at h
    refine hold_of h ?_
    kernel_rfl
def S_l12Plain_b0_L (x : (List UInt8) × Int × (List Int) × Unit) (o : Oc ((List Int)) ((List UInt8) × Bool)) (Q : Ex → VSt D → Prop) (R : VR D → Prop) : Prop := ocP o (fun v0 => Q .normal (mkSt ⟨[(4, .ref 500004)], [(500004, .row)]⟩ [.sl 5 v0])) (fun w0 => R (.tup [.c (.str w0.1), .c (.bool w0.2)]))
def S_l12Plain_b0_cut (k : Nat) : Cut D := cutS ⟨[(0, .hole), (4, .ref 500004), (5, .hole)], [(500004, .row)]⟩ [.ks, .ki .i64, .kl 5] (fun (x : (List UInt8) × Int × (List Int) × Unit) => S_l12Plain_b0 k k x.1 x.2.1 x.2.2.1) S_l12Plain_b0_L
def S_l12Plain_b0_cu (k : Nat) : Cuts D := ⟨[(1, some (S_l12Plain_b1_cut k))], []⟩
theorem S_l12Plain_b0_ok (k : Nat) : CutFor X S_l12Plain_pl k Go.Proofs.Tryz.f75.results.toList (S_l12Plain_b0_cut k) (sub (bodyOf Go.Proofs.Tryz.f75) [1, 1, 0, 1]) :=
  loopCut_s (X := X) (sg := [.ks, .ki .i64, .kl 5]) (cu := S_l12Plain_b0_cu k) (cl := S_l12Plain_cl k) (tys := [[0], [0]]) (id := 0) (c := sub (bodyOf Go.Proofs.Tryz.f75) [1, 1, 0, 1, 0, 0]) (f := fun n => fun (x : (List UInt8) × Int × (List Int) × Unit) => S_l12Plain_b0 k n x.1 x.2.1 x.2.2.1) (S_l12Plain_ck k) (cutOK_of (l := [(S_l12Plain_b1_cut k, sub (bodyOf Go.Proofs.Tryz.f75) [1, 1, 0, 1, 0, 0, 1, 0])]) (by kernel_rfl) ⟨S_l12Plain_b1_ok k, trivial⟩) (fun _ => rfl) (fun n x Q R h => by
    simp only [S_l12Plain_b0, optK_bind, optK_bif, optK_pure, optK_none, optK_oc, optK_guardT, optK_map] at h
    refine hold_of h ?_
    kernel_rfl) (by kernel_rfl)
def S_l12Plain_cu (k : Nat) : Cuts D := ⟨[(0, some (S_l12Plain_b0_cut k))], []⟩
def S_l12Plain_ar : List Ar := [.c (.ks)]
def S_l12Plain_f (k : Nat) (x : TupA D S_l12Plain_ar) : Option ((List UInt8) × Bool) := S_l12Plain k x.1
def S_l12Plain_vr (r : (List UInt8) × Bool) : VR D := .tup [.c (.str r.1), .c (.bool r.2)]
theorem S_l12Plain_ok (k : Nat) : Does P X 75 S_l12Plain_ar (S_l12Plain_f k) S_l12Plain_vr :=
  does_of (body := bodyOf Go.Proofs.Tryz.f75) (pl := S_l12Plain_pl) (k := k) (cu := S_l12Plain_cu k) (tys := [[0], [0]]) (S_l12Plain_ck k) ctx mixed Go.Proofs.Tryz.func75 (by kernel_rfl) (by kernel_rfl) (cutOK_of (l := [(S_l12Plain_b0_cut k, sub (bodyOf Go.Proofs.Tryz.f75) [1, 1, 0, 1])]) (by kernel_rfl) ⟨S_l12Plain_b0_ok k, trivial⟩) fun x R h => by
    simp only [S_l12Plain_f, S_l12Plain, optK_bind, optK_bif, optK_pure, optK_none, optK_oc, optK_guardT, optK_map] at h
    refine hold_of h ?_
    kernel_rfl
def S_l12Plain_en (k : Nat) : Entry D := entS S_l12Plain_ar (S_l12Plain_f k) S_l12Plain_vr
theorem S_l12Plain_eo (k : Nat) : EntryOK X 75 (S_l12Plain_en k) := (S_l12Plain_ok k).en rfl
def S_l12Split_pl : Plan := ⟨[(0, [(0, none), (1, none)]), (1, [(0, none), (1, none), (5, some 9)]), (2, [(0, none), (1, none), (5, some 9), (6, none)]), (3, [(0, none), (1, none), (5, some 9), (6, none), (7, none)]), (4, [(0, none), (1, none), (5, some 9), (6, none), (7, none), (12, none)]), (5, [(0, none), (1, none), (5, some 9), (6, none), (7, none)]), (6, [(0, none), (1, none), (5, some 9), (6, none), (7, none), (19, none)]), (7, [(0, none), (1, none), (5, some 9), (7, none)]), (8, [(0, none), (1, none), (5, some 9), (6, none), (7, none)]), (9, [(4, some 9)])],
  [(0, [(0, none), (5, some 9), (6, none)]), (1, [(0, none), (1, none), (5, some 9), (6, none), (7, none)])],
  [(12, ([(0, none), (1, none), (5, some 9), (6, none), (7, none)], [(0, none), (5, some 9), (6, none)])), (19, ([(0, none), (1, none), (5, some 9), (6, none), (7, none)], [(0, none), (1, none), (5, some 9), (6, none), (7, none)]))]⟩
def S_l12Split_cl (k : Nat) : Calls' D := ⟨[], [], [], [], []⟩
theorem S_l12Split_ck (k : Nat) : CallsOK X (S_l12Split_cl k) := .nil cod
def S_l12Split_c19_L (x : (List UInt8) × Int × Int × Int × Bool × (List (List UInt8)) × Unit) (o : Int × (List (List UInt8))) (Q : Ex → VSt D → Prop) (R : VR D → Prop) : Prop := Q .normal (mkSt ⟨[(0, .hole), (1, .hole), (5, .ref 500005), (6, .hole), (7, .hole)], [(500005, .row)]⟩ [.str x.1, .int .u8 x.2.1, .int .i64 o.1, .int .i64 x.2.2.2.1, .sl 9 o.2])
def S_l12Split_c19_cut (k : Nat) : Cut D := cutS ⟨[(0, .hole), (1, .hole), (5, .ref 500005), (6, .hole), (7, .hole), (19, .hole)], [(500005, .row)]⟩ [.ks, .ki .u8, .ki .i64, .ki .i64, .kb, .kl 9] (fun (x : (List UInt8) × Int × Int × Int × Bool × (List (List UInt8)) × Unit) => S_l12Split_c19 k x.1 x.2.1 x.2.2.1 x.2.2.2.1 x.2.2.2.2.1 x.2.2.2.2.2.1) S_l12Split_c19_L
def S_l12Split_c19_cu (k : Nat) : Cuts D := ⟨[], []⟩
theorem S_l12Split_c19_ok (k : Nat) : CutFor X S_l12Split_pl k Go.Proofs.Tryz.f138.results.toList (S_l12Split_c19_cut k) (sub (bodyOf Go.Proofs.Tryz.f138) [1, 1, 1, 0, 1, 0, 0, 1, 0, 0, 1]) :=
  joinCut_s (X := X) (sg := [.ks, .ki .u8, .ki .i64, .ki .i64, .kb, .kl 9]) (cu := S_l12Split_c19_cu k) (cl := S_l12Split_cl k) (tys := [[9]]) (S_l12Split_ck k) (cutOK_of (l := []) (by kernel_rfl) trivial) fun x Q R h => by
    simp only [S_l12Split_c19, optK_bind, optK_bif, optK_pure, optK_none, optK_oc, optK_guardT, optK_map] at h
    refine hold_of h ?_
    kernel_rfl
def S_l12Split_b1_L (x : (List UInt8) × Int × Int × Int × (List (List UInt8)) × Unit) (o : Int × (List (List UInt8))) (Q : Ex → VSt D → Prop) (R : VR D → Prop) : Prop := Q .normal (mkSt ⟨[(0, .hole), (1, .hole), (5, .ref 500005), (6, .hole), (7, .hole)], [(500005, .row)]⟩ [.str x.1, .int .u8 x.2.1, .int .i64 o.1, .int .i64 x.2.2.2.1, .sl 9 o.2])
def S_l12Split_b1_cut (k : Nat) : Cut D := cutS ⟨[(0, .hole), (1, .hole), (5, .ref 500005), (6, .hole), (7, .hole)], [(500005, .row)]⟩ [.ks, .ki .u8, .ki .i64, .ki .i64, .kl 9] (fun (x : (List UInt8) × Int × Int × Int × (List (List UInt8)) × Unit) => S_l12Split_b1 k x.1 x.2.1 x.2.2.1 x.2.2.2.1 x.2.2.2.2.1) S_l12Split_b1_L
def S_l12Split_b1_cu (k : Nat) : Cuts D := ⟨[], [(19, some (S_l12Split_c19_cut k))]⟩
theorem S_l12Split_b1_ok (k : Nat) : CutFor X S_l12Split_pl k Go.Proofs.Tryz.f138.results.toList (S_l12Split_b1_cut k) (sub (bodyOf Go.Proofs.Tryz.f138) [1, 1, 1, 0, 1, 0, 0, 1, 0]) :=
  joinCut_s (X := X) (sg := [.ks, .ki .u8, .ki .i64, .ki .i64, .kl 9]) (cu := S_l12Split_b1_cu k) (cl := S_l12Split_cl k) (tys := [[9]]) (S_l12Split_ck k) (cutOK_of (l := [(S_l12Split_c19_cut k, sub (bodyOf Go.Proofs.Tryz.f138) [1, 1, 1, 0, 1, 0, 0, 1, 0, 0, 1])]) (by kernel_rfl) ⟨S_l12Split_c19_ok k, trivial⟩) fun x Q R h => by
    simp only [S_l12Split_b1, optK_bind, optK_bif, optK_pure, optK_none, optK_oc, optK_guardT, optK_map] at h
    refine hold_of h ?_
    kernel_rfl
def S_l12Split_b0_L (x : (List UInt8) × Int × Int × Int × (List (List UInt8)) × Unit) (o : Int × (List (List UInt8))) (Q : Ex → VSt D → Prop) (R : VR D → Prop) : Prop := Q .normal (mkSt ⟨[(0, .hole), (5, .ref 500005), (6, .hole)], [(500005, .row)]⟩ [.str x.1, .int .i64 o.1, .sl 9 o.2])
def S_l12Split_b0_cut (k : Nat) : Cut D := cutS ⟨[(0, .hole), (1, .hole), (5, .ref 500005), (6, .hole), (7, .hole)], [(500005, .row)]⟩ [.ks, .ki .u8, .ki .i64, .ki .i64, .kl 9] (fun (x : (List UInt8) × Int × Int × Int × (List (List UInt8)) × Unit) => S_l12Split_b0 k k x.1 x.2.1 x.2.2.1 x.2.2.2.1 x.2.2.2.2.1) S_l12Split_b0_L
def S_l12Split_b0_cu (k : Nat) : Cuts D := ⟨[(1, some (S_l12Split_b1_cut k))], []⟩
theorem S_l12Split_b0_ok (k : Nat) : CutFor X S_l12Split_pl k Go.Proofs.Tryz.f138.results.toList (S_l12Split_b0_cut k) (sub (bodyOf Go.Proofs.Tryz.f138) [1, 1, 1, 0, 1]) :=
  loopCut_s (X := X) (sg := [.ks, .ki .u8, .ki .i64, .ki .i64, .kl 9]) (cu := S_l12Split_b0_cu k) (cl := S_l12Split_cl k) (tys := [[9]]) (id := 0) (c := sub (bodyOf Go.Proofs.Tryz.f138) [1, 1, 1, 0, 1, 0, 0]) (f := fun n => fun (x : (List UInt8) × Int × Int × Int × (List (List UInt8)) × Unit) => S_l12Split_b0 k n x.1 x.2.1 x.2.2.1 x.2.2.2.1 x.2.2.2.2.1) (S_l12Split_ck k) (cutOK_of (l := [(S_l12Split_b1_cut k, sub (bodyOf Go.Proofs.Tryz.f138) [1, 1, 1, 0, 1, 0, 0, 1, 0])]) (by kernel_rfl) ⟨S_l12Split_b1_ok k, trivial⟩) (fun _ => rfl) (fun n x Q R h => by
    simp only [S_l12Split_b0, optK_bind, optK_bif, optK_pure, optK_none, optK_oc, optK_guardT, optK_map] at h
    refine hold_of h ?_
    kernel_rfl) (by kernel_rfl)
def S_l12Split_cu (k : Nat) : Cuts D := ⟨[(0, some (S_l12Split_b0_cut k))], []⟩
def S_l12Split_ar : List Ar := [.c (.ks), .c (.ki .u8)]
def S_l12Split_f (k : Nat) (x : TupA D S_l12Split_ar) : Option ((List (List UInt8))) := S_l12Split k x.1 x.2.1
def S_l12Split_vr (r : (List (List UInt8))) : VR D := .p (.c (.sl 9 r))
theorem S_l12Split_ok (k : Nat) : Does P X 138 S_l12Split_ar (S_l12Split_f k) S_l12Split_vr :=
  does_of (body := bodyOf Go.Proofs.Tryz.f138) (pl := S_l12Split_pl) (k := k) (cu := S_l12Split_cu k) (tys := [[9]]) (S_l12Split_ck k) ctx mixed Go.Proofs.Tryz.func138 (by kernel_rfl) (by kernel_rfl) (cutOK_of (l := [(S_l12Split_b0_cut k, sub (bodyOf Go.Proofs.Tryz.f138) [1, 1, 1, 0, 1])]) (by kernel_rfl) ⟨S_l12Split_b0_ok k, trivial⟩) fun x R h => by
    simp only [S_l12Split_f, S_l12Split, optK_bind, optK_bif, optK_pure, optK_none, optK_oc, optK_guardT, optK_map] at h
    refine hold_of h ?_
    kernel_rfl
def S_l12Split_en (k : Nat) : Entry D := entS S_l12Split_ar (S_l12Split_f k) S_l12Split_vr
theorem S_l12Split_eo (k : Nat) : EntryOK X 138 (S_l12Split_en k) := (S_l12Split_ok k).en rfl
def S_l12Path_pl : Plan := ⟨[(0, [(0, none)]), (1, [(3, some 9)]), (2, [(3, some 9), (4, some 9)]), (3, [(3, some 9), (4, some 9), (5, none)]), (4, [(3, some 9), (4, some 9), (5, none), (16, none)]), (5, [(3, some 9), (4, some 9), (5, none)]), (6, [(3, some 9), (4, some 9), (5, none), (6, none)]), (7, [(3, some 9), (4, some 9), (5, none), (6, none), (24, none)]), (8, [(3, some 9), (4, some 9), (5, none), (6, none)]), (9, [(3, some 9), (4, some 9), (5, none), (6, none), (40, none)]), (10, [(3, some 9), (4, some 9), (5, none)]), (11, [(3, some 9), (4, some 9), (5, none), (6, none)]), (12, [(3, some 9), (4, some 9), (5, none), (60, none)]), (13, [(3, some 9), (4, some 9), (5, none)]), (14, [(4, some 9), (7, none)]), (15, [(4, some 9), (7, none), (8, none)]), (16, [(4, some 9), (7, none), (8, none), (67, none)]), (17, [(4, some 9), (7, none), (8, none)]), (18, [(4, some 9), (7, none), (8, none)]), (19, [(2, none)])],
  [(0, [(4, some 9)]), (1, [(3, some 9), (4, some 9), (5, none)]), (2, [(3, some 9), (4, some 9), (5, none), (6, none)]), (3, [(7, none)]), (4, [(4, some 9), (7, none), (8, none)])],
  [(16, ([(3, some 9), (4, some 9), (5, none)], [(4, some 9)])), (24, ([(3, some 9), (4, some 9), (5, none), (6, none)], [(3, some 9), (4, some 9), (5, none), (6, none)])), (40, ([(3, some 9), (4, some 9), (5, none)], [(3, some 9), (4, some 9), (5, none), (6, none)])), (60, ([(3, some 9), (4, some 9), (5, none)], [(3, some 9), (4, some 9), (5, none)])), (67, ([(4, some 9), (7, none), (8, none)], [(7, none)]))]⟩
def S_l12Path_cl (k : Nat) : Calls' D := ⟨[(138, S_l12Split_en k)], [], [], [], []⟩
theorem S_l12Path_ck (k : Nat) : CallsOK X (S_l12Path_cl k) := .cons (S_l12Split_eo k) (.nil cod)
def S_l12Path_c40_L (x : Int × Bool × Bool × (List (List UInt8)) × (List (List UInt8)) × Unit) (o : Bool × (List (List UInt8))) (Q : Ex → VSt D → Prop) (R : VR D → Prop) : Prop := Q .normal (mkSt ⟨[(3, .ref 500003), (4, .ref 500004), (5, .hole), (6, .hole)], [(500003, .row), (500004, .row)]⟩ [.int .i64 x.1, .bool o.1, .sl 9 x.2.2.2.1, .sl 9 o.2])
def S_l12Path_c40_cut (k : Nat) : Cut D := cutS ⟨[(3, .ref 500003), (4, .ref 500004), (5, .hole), (6, .hole), (40, .hole)], [(500003, .row), (500004, .row)]⟩ [.ki .i64, .kb, .kb, .kl 9, .kl 9] (fun (x : Int × Bool × Bool × (List (List UInt8)) × (List (List UInt8)) × Unit) => S_l12Path_c40 k x.1 x.2.1 x.2.2.1 x.2.2.2.1 x.2.2.2.2.1) S_l12Path_c40_L
def S_l12Path_c40_cu (k : Nat) : Cuts D := ⟨[], []⟩
theorem S_l12Path_c40_ok (k : Nat) : CutFor X S_l12Path_pl k Go.Proofs.Tryz.f76.results.toList (S_l12Path_c40_cut k) (sub (bodyOf Go.Proofs.Tryz.f76) [1, 1, 1, 0, 1, 0, 0, 1, 0, 0, 1, 0, 0, 1, 1, 1]) :=
  joinCut_s (X := X) (sg := [.ki .i64, .kb, .kb, .kl 9, .kl 9]) (cu := S_l12Path_c40_cu k) (cl := S_l12Path_cl k) (tys := [[0]]) (S_l12Path_ck k) (cutOK_of (l := []) (by kernel_rfl) trivial) fun x Q R h => by
    simp only [S_l12Path_c40, optK_bind, optK_bif, optK_pure, optK_none, optK_oc, optK_guardT, optK_map] at h
    refine hold_of h ?_
    kernel_rfl
def S_l12Path_c24_L (x : Int × Bool × Bool × (List (List UInt8)) × (List (List UInt8)) × Unit) (o : Bool × (List (List UInt8))) (Q : Ex → VSt D → Prop) (R : VR D → Prop) : Prop := Q .normal (mkSt ⟨[(3, .ref 500003), (4, .ref 500004), (5, .hole), (6, .hole)], [(500003, .row), (500004, .row)]⟩ [.int .i64 x.1, .bool o.1, .sl 9 x.2.2.2.1, .sl 9 o.2])
def S_l12Path_c24_cut (k : Nat) : Cut D := cutS ⟨[(3, .ref 500003), (4, .ref 500004), (5, .hole), (6, .hole), (24, .hole)], [(500003, .row), (500004, .row)]⟩ [.ki .i64, .kb, .kb, .kl 9, .kl 9] (fun (x : Int × Bool × Bool × (List (List UInt8)) × (List (List UInt8)) × Unit) => S_l12Path_c24 k x.1 x.2.1 x.2.2.1 x.2.2.2.1 x.2.2.2.2.1) S_l12Path_c24_L
def S_l12Path_c24_cu (k : Nat) : Cuts D := ⟨[], [(40, some (S_l12Path_c40_cut k))]⟩
theorem S_l12Path_c24_ok (k : Nat) : CutFor X S_l12Path_pl k Go.Proofs.Tryz.f76.results.toList (S_l12Path_c24_cut k) (sub (bodyOf Go.Proofs.Tryz.f76) [1, 1, 1, 0, 1, 0, 0, 1, 0, 0, 1, 0, 0, 1]) :=
  joinCut_s (X := X) (sg := [.ki .i64, .kb, .kb, .kl 9, .kl 9]) (cu := S_l12Path_c24_cu k) (cl := S_l12Path_cl k) (tys := [[0]]) (S_l12Path_ck k) (cutOK_of (l := [(S_l12Path_c40_cut k, sub (bodyOf Go.Proofs.Tryz.f76) [1, 1, 1, 0, 1, 0, 0, 1, 0, 0, 1, 0, 0, 1, 1, 1])]) (by kernel_rfl) ⟨S_l12Path_c40_ok k, trivial⟩) fun x Q R h => by
    simp only [S_l12Path_c24, optK_bind, optK_bif, optK_pure, optK_none, optK_oc, optK_guardT, optK_map] at h
    refine hold_of h ?_
    kernel_rfl
def S_l12Path_b2_L (x : Int × Bool × (List (List UInt8)) × (List (List UInt8)) × Unit) (o : Bool × (List (List UInt8))) (Q : Ex → VSt D → Prop) (R : VR D → Prop) : Prop := Q .normal (mkSt ⟨[(3, .ref 500003), (4, .ref 500004), (5, .hole), (6, .hole)], [(500003, .row), (500004, .row)]⟩ [.int .i64 x.1, .bool o.1, .sl 9 x.2.2.1, .sl 9 o.2])
def S_l12Path_b2_cut (k : Nat) : Cut D := cutS ⟨[(3, .ref 500003), (4, .ref 500004), (5, .hole), (6, .hole)], [(500003, .row), (500004, .row)]⟩ [.ki .i64, .kb, .kl 9, .kl 9] (fun (x : Int × Bool × (List (List UInt8)) × (List (List UInt8)) × Unit) => S_l12Path_b2 k x.1 x.2.1 x.2.2.1 x.2.2.2.1) S_l12Path_b2_L
def S_l12Path_b2_cu (k : Nat) : Cuts D := ⟨[], [(24, some (S_l12Path_c24_cut k))]⟩
theorem S_l12Path_b2_ok (k : Nat) : CutFor X S_l12Path_pl k Go.Proofs.Tryz.f76.results.toList (S_l12Path_b2_cut k) (sub (bodyOf Go.Proofs.Tryz.f76) [1, 1, 1, 0, 1, 0, 0, 1, 0, 0, 1, 0]) :=
  joinCut_s (X := X) (sg := [.ki .i64, .kb, .kl 9, .kl 9]) (cu := S_l12Path_b2_cu k) (cl := S_l12Path_cl k) (tys := [[0]]) (S_l12Path_ck k) (cutOK_of (l := [(S_l12Path_c24_cut k, sub (bodyOf Go.Proofs.Tryz.f76) [1, 1, 1, 0, 1, 0, 0, 1, 0, 0, 1, 0, 0, 1])]) (by kernel_rfl) ⟨S_l12Path_c24_ok k, trivial⟩) fun x Q R h => by
    simp only [S_l12Path_b2, optK_bind, optK_bif, optK_pure, optK_none, optK_oc, optK_guardT, optK_map] at h
    refine hold_of h ?_
    kernel_rfl
def S_l12Path_c60_L (x : Int × Bool × (List (List UInt8)) × (List (List UInt8)) × Unit) (o : (List (List UInt8))) (Q : Ex → VSt D → Prop) (R : VR D → Prop) : Prop := Q .normal (mkSt ⟨[(3, .ref 500003), (4, .ref 500004), (5, .hole)], [(500003, .row), (500004, .row)]⟩ [.int .i64 x.1, .sl 9 x.2.2.1, .sl 9 o])
def S_l12Path_c60_cut (k : Nat) : Cut D := cutS ⟨[(3, .ref 500003), (4, .ref 500004), (5, .hole), (60, .hole)], [(500003, .row), (500004, .row)]⟩ [.ki .i64, .kb, .kl 9, .kl 9] (fun (x : Int × Bool × (List (List UInt8)) × (List (List UInt8)) × Unit) => S_l12Path_c60 k x.1 x.2.1 x.2.2.1 x.2.2.2.1) S_l12Path_c60_L
def S_l12Path_c60_cu (k : Nat) : Cuts D := ⟨[], []⟩
theorem S_l12Path_c60_ok (k : Nat) : CutFor X S_l12Path_pl k Go.Proofs.Tryz.f76.results.toList (S_l12Path_c60_cut k) (sub (bodyOf Go.Proofs.Tryz.f76) [1, 1, 1, 0, 1, 0, 0, 1, 0, 0, 1, 1, 1]) :=
  joinCut_s (X := X) (sg := [.ki .i64, .kb, .kl 9, .kl 9]) (cu := S_l12Path_c60_cu k) (cl := S_l12Path_cl k) (tys := [[0]]) (S_l12Path_ck k) (cutOK_of (l := []) (by kernel_rfl) trivial) fun x Q R h => by
    simp only [S_l12Path_c60, optK_bind, optK_bif, optK_pure, optK_none, optK_oc, optK_guardT, optK_map] at h
    refine hold_of h ?_
    kernel_rfl
def S_l12Path_b1_L (x : Int × (List (List UInt8)) × (List (List UInt8)) × Unit) (o : (List (List UInt8))) (Q : Ex → VSt D → Prop) (R : VR D → Prop) : Prop := Q .normal (mkSt ⟨[(3, .ref 500003), (4, .ref 500004), (5, .hole)], [(500003, .row), (500004, .row)]⟩ [.int .i64 x.1, .sl 9 x.2.1, .sl 9 o])
def S_l12Path_b1_cut (k : Nat) : Cut D := cutS ⟨[(3, .ref 500003), (4, .ref 500004), (5, .hole)], [(500003, .row), (500004, .row)]⟩ [.ki .i64, .kl 9, .kl 9] (fun (x : Int × (List (List UInt8)) × (List (List UInt8)) × Unit) => S_l12Path_b1 k x.1 x.2.1 x.2.2.1) S_l12Path_b1_L
def S_l12Path_b1_cu (k : Nat) : Cuts D := ⟨[(2, some (S_l12Path_b2_cut k))], [(60, some (S_l12Path_c60_cut k))]⟩
theorem S_l12Path_b1_ok (k : Nat) : CutFor X S_l12Path_pl k Go.Proofs.Tryz.f76.results.toList (S_l12Path_b1_cut k) (sub (bodyOf Go.Proofs.Tryz.f76) [1, 1, 1, 0, 1, 0, 0, 1, 0]) :=
  joinCut_s (X := X) (sg := [.ki .i64, .kl 9, .kl 9]) (cu := S_l12Path_b1_cu k) (cl := S_l12Path_cl k) (tys := [[0]]) (S_l12Path_ck k) (cutOK_of (l := [(S_l12Path_b2_cut k, sub (bodyOf Go.Proofs.Tryz.f76) [1, 1, 1, 0, 1, 0, 0, 1, 0, 0, 1, 0]), (S_l12Path_c60_cut k, sub (bodyOf Go.Proofs.Tryz.f76) [1, 1, 1, 0, 1, 0, 0, 1, 0, 0, 1, 1, 1])]) (by kernel_rfl) ⟨S_l12Path_b2_ok k, S_l12Path_c60_ok k, trivial⟩) fun x Q R h => by
    simp only [S_l12Path_b1, optK_bind, optK_bif, optK_pure, optK_none, optK_oc, optK_guardT, optK_map] at h
    refine hold_of h ?_
    kernel_rfl
def S_l12Path_b0_L (x : Int × (List (List UInt8)) × (List (List UInt8)) × Unit) (o : (List (List UInt8))) (Q : Ex → VSt D → Prop) (R : VR D → Prop) : Prop := Q .normal (mkSt ⟨[(4, .ref 500004)], [(500004, .row)]⟩ [.sl 9 o])
def S_l12Path_b0_cut (k : Nat) : Cut D := cutS ⟨[(3, .ref 500003), (4, .ref 500004), (5, .hole)], [(500003, .row), (500004, .row)]⟩ [.ki .i64, .kl 9, .kl 9] (fun (x : Int × (List (List UInt8)) × (List (List UInt8)) × Unit) => S_l12Path_b0 k k x.1 x.2.1 x.2.2.1) S_l12Path_b0_L
def S_l12Path_b0_cu (k : Nat) : Cuts D := ⟨[(1, some (S_l12Path_b1_cut k))], []⟩
theorem S_l12Path_b0_ok (k : Nat) : CutFor X S_l12Path_pl k Go.Proofs.Tryz.f76.results.toList (S_l12Path_b0_cut k) (sub (bodyOf Go.Proofs.Tryz.f76) [1, 1, 1, 0, 1]) :=
  loopCut_s (X := X) (sg := [.ki .i64, .kl 9, .kl 9]) (cu := S_l12Path_b0_cu k) (cl := S_l12Path_cl k) (tys := [[0]]) (id := 0) (c := sub (bodyOf Go.Proofs.Tryz.f76) [1, 1, 1, 0, 1, 0, 0]) (f := fun n => fun (x : Int × (List (List UInt8)) × (List (List UInt8)) × Unit) => S_l12Path_b0 k n x.1 x.2.1 x.2.2.1) (S_l12Path_ck k) (cutOK_of (l := [(S_l12Path_b1_cut k, sub (bodyOf Go.Proofs.Tryz.f76) [1, 1, 1, 0, 1, 0, 0, 1, 0])]) (by kernel_rfl) ⟨S_l12Path_b1_ok k, trivial⟩) (fun _ => rfl) (fun n x Q R h => by
    simp only [S_l12Path_b0, optK_bind, optK_bif, optK_pure, optK_none, optK_oc, optK_guardT, optK_map] at h
    refine hold_of h ?_
    kernel_rfl) (by kernel_rfl)
def S_l12Path_b3_L (x : (List UInt8) × Int × (List (List UInt8)) × Unit) (o : (List UInt8)) (Q : Ex → VSt D → Prop) (R : VR D → Prop) : Prop := Q .normal (mkSt ⟨[(7, .hole)], []⟩ [.str o])
def S_l12Path_b3_cut (k : Nat) : Cut D := cutS ⟨[(4, .ref 500004), (7, .hole), (8, .hole)], [(500004, .row)]⟩ [.ks, .ki .i64, .kl 9] (fun (x : (List UInt8) × Int × (List (List UInt8)) × Unit) => S_l12Path_b3 k k x.1 x.2.1 x.2.2.1) S_l12Path_b3_L
def S_l12Path_b3_cu (k : Nat) : Cuts D := ⟨[], []⟩
theorem S_l12Path_b3_ok (k : Nat) : CutFor X S_l12Path_pl k Go.Proofs.Tryz.f76.results.toList (S_l12Path_b3_cut k) (sub (bodyOf Go.Proofs.Tryz.f76) [1, 1, 1, 1, 1, 0, 1]) :=
  loopCut_s (X := X) (sg := [.ks, .ki .i64, .kl 9]) (cu := S_l12Path_b3_cu k) (cl := S_l12Path_cl k) (tys := [[0]]) (id := 3) (c := sub (bodyOf Go.Proofs.Tryz.f76) [1, 1, 1, 1, 1, 0, 1, 0, 0]) (f := fun n => fun (x : (List UInt8) × Int × (List (List UInt8)) × Unit) => S_l12Path_b3 k n x.1 x.2.1 x.2.2.1) (S_l12Path_ck k) (cutOK_of (l := []) (by kernel_rfl) trivial) (fun _ => rfl) (fun n x Q R h => by
    simp only [S_l12Path_b3, optK_bind, optK_bif, optK_pure, optK_none, optK_oc, optK_guardT, optK_map] at h
    refine hold_of h ?_
    kernel_rfl) (by kernel_rfl)
def S_l12Path_cu (k : Nat) : Cuts D := ⟨[(0, some (S_l12Path_b0_cut k)), (3, some (S_l12Path_b3_cut k))], []⟩
def S_l12Path_ar : List Ar := [.c (.ks)]
def S_l12Path_f (k : Nat) (x : TupA D S_l12Path_ar) : Option ((List UInt8)) := S_l12Path k x.1
def S_l12Path_vr (r : (List UInt8)) : VR D := .p (.c (.str r))
theorem S_l12Path_ok (k : Nat) : Does P X 76 S_l12Path_ar (S_l12Path_f k) S_l12Path_vr :=
  does_of (body := bodyOf Go.Proofs.Tryz.f76) (pl := S_l12Path_pl) (k := k) (cu := S_l12Path_cu k) (tys := [[0]]) (S_l12Path_ck k) ctx mixed Go.Proofs.Tryz.func76 (by kernel_rfl) (by kernel_rfl) (cutOK_of (l := [(S_l12Path_b0_cut k, sub (bodyOf Go.Proofs.Tryz.f76) [1, 1, 1, 0, 1]), (S_l12Path_b3_cut k, sub (bodyOf Go.Proofs.Tryz.f76) [1, 1, 1, 1, 1, 0, 1])]) (by kernel_rfl) ⟨S_l12Path_b0_ok k, S_l12Path_b3_ok k, trivial⟩) fun x R h => by
    simp only [S_l12Path_f, S_l12Path, optK_bind, optK_bif, optK_pure, optK_none, optK_oc, optK_guardT, optK_map] at h
    refine hold_of h ?_
    kernel_rfl
def S_l12Path_en (k : Nat) : Entry D := entS S_l12Path_ar (S_l12Path_f k) S_l12Path_vr
theorem S_l12Path_eo (k : Nat) : EntryOK X 76 (S_l12Path_en k) := (S_l12Path_ok k).en rfl
def S_l12Query_pl : Plan := ⟨[(0, [(0, none)]), (1, [(3, some 9)]), (2, [(3, some 9), (4, some 9)]), (3, [(3, some 9), (4, some 9), (5, none)]), (4, [(3, some 9), (4, some 9), (5, none), (15, none)]), (5, [(3, some 9), (4, some 9), (5, none)]), (6, [(3, some 9), (4, some 9), (5, none), (6, none)]), (7, [(3, some 9), (4, some 9), (5, none), (6, none), (33, none)]), (8, [(3, some 9), (4, some 9), (5, none), (6, none)]), (9, [(3, some 9), (4, some 9), (5, none), (6, none), (40, none)]), (10, [(3, some 9), (4, some 9), (5, none)]), (11, [(4, some 9), (7, none)]), (12, [(4, some 9), (7, none), (8, none)]), (13, [(4, some 9), (7, none), (8, none), (59, none)]), (14, [(4, some 9), (7, none), (8, none)]), (15, [(4, some 9), (7, none), (8, none), (63, none)]), (16, [(4, some 9), (7, none), (8, none)]), (17, [(4, some 9), (7, none), (8, none)]), (18, [(2, none)])],
  [(0, [(4, some 9)]), (1, [(3, some 9), (4, some 9), (5, none)]), (2, [(3, some 9), (4, some 9), (5, none), (6, none)]), (3, [(3, some 9), (4, some 9), (5, none), (6, none)]), (4, [(7, none)]), (5, [(4, some 9), (7, none), (8, none)])],
  [(15, ([(3, some 9), (4, some 9), (5, none)], [(4, some 9)])), (33, ([(3, some 9), (4, some 9), (5, none), (6, none)], [(3, some 9), (4, some 9), (5, none), (6, none)])), (40, ([(3, some 9), (4, some 9), (5, none), (6, none), (1000004, some 9)], [(3, some 9), (4, some 9), (5, none)])), (59, ([(4, some 9), (7, none), (8, none)], [(7, none)])), (63, ([(4, some 9), (7, none), (8, none)], [(4, some 9), (7, none), (8, none)]))]⟩
def S_l12Query_cl (k : Nat) : Calls' D := ⟨[(138, S_l12Split_en k)], [], [], [], []⟩
theorem S_l12Query_ck (k : Nat) : CallsOK X (S_l12Query_cl k) := .cons (S_l12Split_eo k) (.nil cod)
def S_l12Query_b2_L (x : Int × Int × (List (List UInt8)) × (List (List UInt8)) × Unit) (o : Int) (Q : Ex → VSt D → Prop) (R : VR D → Prop) : Prop := Q .normal (mkSt ⟨[(3, .ref 500003), (4, .ref 500004), (5, .hole), (6, .hole)], [(500003, .row), (500004, .row)]⟩ [.int .i64 x.1, .int .i64 o, .sl 9 x.2.2.1, .sl 9 x.2.2.2.1])
def S_l12Query_b2_cut (k : Nat) : Cut D := cutS ⟨[(3, .ref 500003), (4, .ref 500004), (5, .hole), (6, .hole)], [(500003, .row), (500004, .row)]⟩ [.ki .i64, .ki .i64, .kl 9, .kl 9] (fun (x : Int × Int × (List (List UInt8)) × (List (List UInt8)) × Unit) => S_l12Query_b2 k k x.1 x.2.1 x.2.2.1 x.2.2.2.1) S_l12Query_b2_L
def S_l12Query_b2_cu (k : Nat) : Cuts D := ⟨[], []⟩
theorem S_l12Query_b2_ok (k : Nat) : CutFor X S_l12Query_pl k Go.Proofs.Tryz.f77.results.toList (S_l12Query_b2_cut k) (sub (bodyOf Go.Proofs.Tryz.f77) [1, 1, 1, 0, 1, 0, 0, 1, 0, 0, 1, 0]) :=
  loopCut_s (X := X) (sg := [.ki .i64, .ki .i64, .kl 9, .kl 9]) (cu := S_l12Query_b2_cu k) (cl := S_l12Query_cl k) (tys := [[0]]) (id := 2) (c := sub (bodyOf Go.Proofs.Tryz.f77) [1, 1, 1, 0, 1, 0, 0, 1, 0, 0, 1, 0, 0, 0]) (f := fun n => fun (x : Int × Int × (List (List UInt8)) × (List (List UInt8)) × Unit) => S_l12Query_b2 k n x.1 x.2.1 x.2.2.1 x.2.2.2.1) (S_l12Query_ck k) (cutOK_of (l := []) (by kernel_rfl) trivial) (fun _ => rfl) (fun n x Q R h => by
    simp only [S_l12Query_b2, optK_bind, optK_bif, optK_pure, optK_none, optK_oc, optK_guardT, optK_map] at h
    refine hold_of h ?_
    kernel_rfl) (by kernel_rfl)
def S_l12Query_c40_L (x : Int × Int × Bool × (List (List UInt8)) × (List (List UInt8)) × Unit) (o : (List (List UInt8))) (Q : Ex → VSt D → Prop) (R : VR D → Prop) : Prop := Q .normal (mkSt ⟨[(3, .ref 500003), (4, .ref 500004), (5, .hole)], [(500003, .row), (500004, .row)]⟩ [.int .i64 x.1, .sl 9 x.2.2.2.1, .sl 9 o])
def S_l12Query_c40_cut (k : Nat) : Cut D := cutS ⟨[(3, .ref 500003), (4, .ref 500004), (5, .hole), (6, .hole), (40, .hole)], [(500003, .row), (500004, .row)]⟩ [.ki .i64, .ki .i64, .kb, .kl 9, .kl 9] (fun (x : Int × Int × Bool × (List (List UInt8)) × (List (List UInt8)) × Unit) => S_l12Query_c40 k x.1 x.2.1 x.2.2.1 x.2.2.2.1 x.2.2.2.2.1) S_l12Query_c40_L
def S_l12Query_c40_cu (k : Nat) : Cuts D := ⟨[], []⟩
theorem S_l12Query_c40_ok (k : Nat) : CutFor X S_l12Query_pl k Go.Proofs.Tryz.f77.results.toList (S_l12Query_c40_cut k) (sub (bodyOf Go.Proofs.Tryz.f77) [1, 1, 1, 0, 1, 0, 0, 1, 0, 0, 1, 1, 1]) :=
  joinCut_s (X := X) (sg := [.ki .i64, .ki .i64, .kb, .kl 9, .kl 9]) (cu := S_l12Query_c40_cu k) (cl := S_l12Query_cl k) (tys := [[0]]) (S_l12Query_ck k) (cutOK_of (l := []) (by kernel_rfl) trivial) fun x Q R h => by
    simp only [S_l12Query_c40, optK_bind, optK_bif, optK_pure, optK_none, optK_oc, optK_guardT, optK_map] at h
    refine hold_of h ?_
    kernel_rfl
def S_l12Query_b1_L (x : Int × (List (List UInt8)) × (List (List UInt8)) × Unit) (o : (List (List UInt8))) (Q : Ex → VSt D → Prop) (R : VR D → Prop) : Prop := Q .normal (mkSt ⟨[(3, .ref 500003), (4, .ref 500004), (5, .hole)], [(500003, .row), (500004, .row)]⟩ [.int .i64 x.1, .sl 9 x.2.1, .sl 9 o])
def S_l12Query_b1_cut (k : Nat) : Cut D := cutS ⟨[(3, .ref 500003), (4, .ref 500004), (5, .hole)], [(500003, .row), (500004, .row)]⟩ [.ki .i64, .kl 9, .kl 9] (fun (x : Int × (List (List UInt8)) × (List (List UInt8)) × Unit) => S_l12Query_b1 k x.1 x.2.1 x.2.2.1) S_l12Query_b1_L
def S_l12Query_b1_cu (k : Nat) : Cuts D := ⟨[(2, some (S_l12Query_b2_cut k))], [(40, some (S_l12Query_c40_cut k))]⟩
theorem S_l12Query_b1_ok (k : Nat) : CutFor X S_l12Query_pl k Go.Proofs.Tryz.f77.results.toList (S_l12Query_b1_cut k) (sub (bodyOf Go.Proofs.Tryz.f77) [1, 1, 1, 0, 1, 0, 0, 1, 0]) :=
  joinCut_s (X := X) (sg := [.ki .i64, .kl 9, .kl 9]) (cu := S_l12Query_b1_cu k) (cl := S_l12Query_cl k) (tys := [[0]]) (S_l12Query_ck k) (cutOK_of (l := [(S_l12Query_b2_cut k, sub (bodyOf Go.Proofs.Tryz.f77) [1, 1, 1, 0, 1, 0, 0, 1, 0, 0, 1, 0]), (S_l12Query_c40_cut k, sub (bodyOf Go.Proofs.Tryz.f77) [1, 1, 1, 0, 1, 0, 0, 1, 0, 0, 1, 1, 1])]) (by kernel_rfl) ⟨S_l12Query_b2_ok k, S_l12Query_c40_ok k, trivial⟩) fun x Q R h => by
    simp only [S_l12Query_b1, optK_bind, optK_bif, optK_pure, optK_none, optK_oc, optK_guardT, optK_map] at h
    refine hold_of h ?_
    kernel_rfl
def S_l12Query_b0_L (x : Int × (List (List UInt8)) × (List (List UInt8)) × Unit) (o : (List (List UInt8))) (Q : Ex → VSt D → Prop) (R : VR D → Prop) : Prop := Q .normal (mkSt ⟨[(4, .ref 500004)], [(500004, .row)]⟩ [.sl 9 o])
def S_l12Query_b0_cut (k : Nat) : Cut D := cutS ⟨[(3, .ref 500003), (4, .ref 500004), (5, .hole)], [(500003, .row), (500004, .row)]⟩ [.ki .i64, .kl 9, .kl 9] (fun (x : Int × (List (List UInt8)) × (List (List UInt8)) × Unit) => S_l12Query_b0 k k x.1 x.2.1 x.2.2.1) S_l12Query_b0_L
def S_l12Query_b0_cu (k : Nat) : Cuts D := ⟨[(1, some (S_l12Query_b1_cut k))], []⟩
theorem S_l12Query_b0_ok (k : Nat) : CutFor X S_l12Query_pl k Go.Proofs.Tryz.f77.results.toList (S_l12Query_b0_cut k) (sub (bodyOf Go.Proofs.Tryz.f77) [1, 1, 1, 0, 1]) :=
  loopCut_s (X := X) (sg := [.ki .i64, .kl 9, .kl 9]) (cu := S_l12Query_b0_cu k) (cl := S_l12Query_cl k) (tys := [[0]]) (id := 0) (c := sub (bodyOf Go.Proofs.Tryz.f77) [1, 1, 1, 0, 1, 0, 0]) (f := fun n => fun (x : Int × (List (List UInt8)) × (List (List UInt8)) × Unit) => S_l12Query_b0 k n x.1 x.2.1 x.2.2.1) (S_l12Query_ck k) (cutOK_of (l := [(S_l12Query_b1_cut k, sub (bodyOf Go.Proofs.Tryz.f77) [1, 1, 1, 0, 1, 0, 0, 1, 0])]) (by kernel_rfl) ⟨S_l12Query_b1_ok k, trivial⟩) (fun _ => rfl) (fun n x Q R h => by
    simp only [S_l12Query_b0, optK_bind, optK_bif, optK_pure, optK_none, optK_oc, optK_guardT, optK_map] at h
    refine hold_of h ?_
    kernel_rfl) (by kernel_rfl)
def S_l12Query_c63_L (x : (List UInt8) × Int × Bool × (List (List UInt8)) × Unit) (o : (List UInt8)) (Q : Ex → VSt D → Prop) (R : VR D → Prop) : Prop := Q .normal (mkSt ⟨[(4, .ref 500004), (7, .hole), (8, .hole)], [(500004, .row)]⟩ [.str o, .int .i64 x.2.1, .sl 9 x.2.2.2.1])
def S_l12Query_c63_cut (k : Nat) : Cut D := cutS ⟨[(4, .ref 500004), (7, .hole), (8, .hole), (63, .hole)], [(500004, .row)]⟩ [.ks, .ki .i64, .kb, .kl 9] (fun (x : (List UInt8) × Int × Bool × (List (List UInt8)) × Unit) => S_l12Query_c63 k x.1 x.2.1 x.2.2.1 x.2.2.2.1) S_l12Query_c63_L
def S_l12Query_c63_cu (k : Nat) : Cuts D := ⟨[], []⟩
theorem S_l12Query_c63_ok (k : Nat) : CutFor X S_l12Query_pl k Go.Proofs.Tryz.f77.results.toList (S_l12Query_c63_cut k) (sub (bodyOf Go.Proofs.Tryz.f77) [1, 1, 1, 1, 1, 0, 1, 0, 0, 1, 0, 0, 0, 1]) :=
  joinCut_s (X := X) (sg := [.ks, .ki .i64, .kb, .kl 9]) (cu := S_l12Query_c63_cu k) (cl := S_l12Query_cl k) (tys := [[0]]) (S_l12Query_ck k) (cutOK_of (l := []) (by kernel_rfl) trivial) fun x Q R h => by
    simp only [S_l12Query_c63, optK_bind, optK_bif, optK_pure, optK_none, optK_oc, optK_guardT, optK_map] at h
    refine hold_of h ?_
    kernel_rfl
def S_l12Query_b5_L (x : (List UInt8) × Int × (List (List UInt8)) × Unit) (o : (List UInt8)) (Q : Ex → VSt D → Prop) (R : VR D → Prop) : Prop := Q .normal (mkSt ⟨[(4, .ref 500004), (7, .hole), (8, .hole)], [(500004, .row)]⟩ [.str o, .int .i64 x.2.1, .sl 9 x.2.2.1])
def S_l12Query_b5_cut (k : Nat) : Cut D := cutS ⟨[(4, .ref 500004), (7, .hole), (8, .hole)], [(500004, .row)]⟩ [.ks, .ki .i64, .kl 9] (fun (x : (List UInt8) × Int × (List (List UInt8)) × Unit) => S_l12Query_b5 k x.1 x.2.1 x.2.2.1) S_l12Query_b5_L
def S_l12Query_b5_cu (k : Nat) : Cuts D := ⟨[], [(63, some (S_l12Query_c63_cut k))]⟩
theorem S_l12Query_b5_ok (k : Nat) : CutFor X S_l12Query_pl k Go.Proofs.Tryz.f77.results.toList (S_l12Query_b5_cut k) (sub (bodyOf Go.Proofs.Tryz.f77) [1, 1, 1, 1, 1, 0, 1, 0, 0, 1, 0]) :=
  joinCut_s (X := X) (sg := [.ks, .ki .i64, .kl 9]) (cu := S_l12Query_b5_cu k) (cl := S_l12Query_cl k) (tys := [[0]]) (S_l12Query_ck k) (cutOK_of (l := [(S_l12Query_c63_cut k, sub (bodyOf Go.Proofs.Tryz.f77) [1, 1, 1, 1, 1, 0, 1, 0, 0, 1, 0, 0, 0, 1])]) (by kernel_rfl) ⟨S_l12Query_c63_ok k, trivial⟩) fun x Q R h => by
    simp only [S_l12Query_b5, optK_bind, optK_bif, optK_pure, optK_none, optK_oc, optK_guardT, optK_map] at h
    refine hold_of h ?_
    kernel_rfl
def S_l12Query_b4_L (x : (List UInt8) × Int × (List (List UInt8)) × Unit) (o : (List UInt8)) (Q : Ex → VSt D → Prop) (R : VR D → Prop) : Prop := Q .normal (mkSt ⟨[(7, .hole)], []⟩ [.str o])
def S_l12Query_b4_cut (k : Nat) : Cut D := cutS ⟨[(4, .ref 500004), (7, .hole), (8, .hole)], [(500004, .row)]⟩ [.ks, .ki .i64, .kl 9] (fun (x : (List UInt8) × Int × (List (List UInt8)) × Unit) => S_l12Query_b4 k k x.1 x.2.1 x.2.2.1) S_l12Query_b4_L
def S_l12Query_b4_cu (k : Nat) : Cuts D := ⟨[(5, some (S_l12Query_b5_cut k))], []⟩
theorem S_l12Query_b4_ok (k : Nat) : CutFor X S_l12Query_pl k Go.Proofs.Tryz.f77.results.toList (S_l12Query_b4_cut k) (sub (bodyOf Go.Proofs.Tryz.f77) [1, 1, 1, 1, 1, 0, 1]) :=
  loopCut_s (X := X) (sg := [.ks, .ki .i64, .kl 9]) (cu := S_l12Query_b4_cu k) (cl := S_l12Query_cl k) (tys := [[0]]) (id := 4) (c := sub (bodyOf Go.Proofs.Tryz.f77) [1, 1, 1, 1, 1, 0, 1, 0, 0]) (f := fun n => fun (x : (List UInt8) × Int × (List (List UInt8)) × Unit) => S_l12Query_b4 k n x.1 x.2.1 x.2.2.1) (S_l12Query_ck k) (cutOK_of (l := [(S_l12Query_b5_cut k, sub (bodyOf Go.Proofs.Tryz.f77) [1, 1, 1, 1, 1, 0, 1, 0, 0, 1, 0])]) (by kernel_rfl) ⟨S_l12Query_b5_ok k, trivial⟩) (fun _ => rfl) (fun n x Q R h => by
    simp only [S_l12Query_b4, optK_bind, optK_bif, optK_pure, optK_none, optK_oc, optK_guardT, optK_map] at h
    refine hold_of h ?_
    kernel_rfl) (by kernel_rfl)
def S_l12Query_cu (k : Nat) : Cuts D := ⟨[(0, some (S_l12Query_b0_cut k)), (4, some (S_l12Query_b4_cut k))], []⟩
def S_l12Query_ar : List Ar := [.c (.ks)]
def S_l12Query_f (k : Nat) (x : TupA D S_l12Query_ar) : Option ((List UInt8)) := S_l12Query k x.1
def S_l12Query_vr (r : (List UInt8)) : VR D := .p (.c (.str r))
theorem S_l12Query_ok (k : Nat) : Does P X 77 S_l12Query_ar (S_l12Query_f k) S_l12Query_vr :=
  does_of (body := bodyOf Go.Proofs.Tryz.f77) (pl := S_l12Query_pl) (k := k) (cu := S_l12Query_cu k) (tys := [[0]]) (S_l12Query_ck k) ctx mixed Go.Proofs.Tryz.func77 (by kernel_rfl) (by kernel_rfl) (cutOK_of (l := [(S_l12Query_b0_cut k, sub (bodyOf Go.Proofs.Tryz.f77) [1, 1, 1, 0, 1]), (S_l12Query_b4_cut k, sub (bodyOf Go.Proofs.Tryz.f77) [1, 1, 1, 1, 1, 0, 1])]) (by kernel_rfl) ⟨S_l12Query_b0_ok k, S_l12Query_b4_ok k, trivial⟩) fun x R h => by
    simp only [S_l12Query_f, S_l12Query, optK_bind, optK_bif, optK_pure, optK_none, optK_oc, optK_guardT, optK_map] at h
    refine hold_of h ?_
    kernel_rfl
def S_l12Query_en (k : Nat) : Entry D := entS S_l12Query_ar (S_l12Query_f k) S_l12Query_vr
theorem S_l12Query_eo (k : Nat) : EntryOK X 77 (S_l12Query_en k) := (S_l12Query_ok k).en rfl
def S_NormalTarget_pl : Plan := ⟨[(0, [(0, none)]), (1, [(4, none), (5, none)]), (2, [(5, none), (7, none), (8, none)]), (3, [(7, none), (8, none), (9, none), (10, none)]), (4, [(7, none), (9, none), (44, none)]), (5, [(2, none), (3, none)]), (6, [(9, none), (11, none)]), (7, [(11, none), (12, none)]), (8, [(11, none), (12, none), (50, none)]), (9, [(11, none)]), (10, [(2, none), (3, none)])],
  [],
  [(44, ([], [(7, none), (9, none)])), (50, ([(11, none), (12, none)], [(11, none)]))]⟩
def S_NormalTarget_cl (k : Nat) : Calls' D := ⟨[(74, S_SplitTarget_en k), (75, S_l12Plain_en k), (76, S_l12Path_en k), (77, S_l12Query_en k)], [], [], [], []⟩
theorem S_NormalTarget_ck (k : Nat) : CallsOK X (S_NormalTarget_cl k) := .cons (S_SplitTarget_eo k) (.cons (S_l12Plain_eo k) (.cons (S_l12Path_eo k) (.cons (S_l12Query_eo k) (.nil cod))))
def S_NormalTarget_c50_L (x : (List UInt8) × (List UInt8) × Bool × Unit) (o : (List UInt8)) (Q : Ex → VSt D → Prop) (R : VR D → Prop) : Prop := Q .normal (mkSt ⟨[(11, .hole)], []⟩ [.str o])
def S_NormalTarget_c50_cut (k : Nat) : Cut D := cutS ⟨[(11, .hole), (12, .hole), (50, .hole)], []⟩ [.ks, .ks, .kb] (fun (x : (List UInt8) × (List UInt8) × Bool × Unit) => S_NormalTarget_c50 k x.1 x.2.1 x.2.2.1) S_NormalTarget_c50_L
def S_NormalTarget_c50_cu (k : Nat) : Cuts D := ⟨[], []⟩
theorem S_NormalTarget_c50_ok (k : Nat) : CutFor X S_NormalTarget_pl k Go.Proofs.Tryz.f34.results.toList (S_NormalTarget_c50_cut k) (sub (bodyOf Go.Proofs.Tryz.f34) [1, 1, 1, 1, 1, 1, 0, 1, 1]) :=
  joinCut_s (X := X) (sg := [.ks, .ks, .kb]) (cu := S_NormalTarget_c50_cu k) (cl := S_NormalTarget_cl k) (tys := [[0], [0]]) (S_NormalTarget_ck k) (cutOK_of (l := []) (by kernel_rfl) trivial) fun x Q R h => by
    simp only [S_NormalTarget_c50, optK_bind, optK_bif, optK_pure, optK_none, optK_oc, optK_guardT, optK_map] at h
    refine hold_of h ?_
    kernel_rfl
def S_NormalTarget_cu (k : Nat) : Cuts D := ⟨[], [(50, some (S_NormalTarget_c50_cut k))]⟩
def S_NormalTarget_ar : List Ar := [.c (.ks)]
def S_NormalTarget_f (k : Nat) (x : TupA D S_NormalTarget_ar) : Option ((List UInt8) × Bool) := S_NormalTarget k x.1
def S_NormalTarget_vr (r : (List UInt8) × Bool) : VR D := .tup [.c (.str r.1), .c (.bool r.2)]
theorem S_NormalTarget_ok (k : Nat) : Does P X 34 S_NormalTarget_ar (S_NormalTarget_f k) S_NormalTarget_vr :=
  does_of (body := bodyOf Go.Proofs.Tryz.f34) (pl := S_NormalTarget_pl) (k := k) (cu := S_NormalTarget_cu k) (tys := [[0], [0]]) (S_NormalTarget_ck k) ctx mixed Go.Proofs.Tryz.func34 (by kernel_rfl) (by kernel_rfl) (cutOK_of (l := [(S_NormalTarget_c50_cut k, sub (bodyOf Go.Proofs.Tryz.f34) [1, 1, 1, 1, 1, 1, 0, 1, 1])]) (by kernel_rfl) ⟨S_NormalTarget_c50_ok k, trivial⟩) fun x R h => by
    simp only [S_NormalTarget_f, S_NormalTarget, optK_bind, optK_bif, optK_pure, optK_none, optK_oc, optK_guardT, optK_map] at h
    refine hold_of h ?_
    kernel_rfl
def S_NormalTarget_en (k : Nat) : Entry D := entS S_NormalTarget_ar (S_NormalTarget_f k) S_NormalTarget_vr
theorem S_NormalTarget_eo (k : Nat) : EntryOK X 34 (S_NormalTarget_en k) := (S_NormalTarget_ok k).en rfl
def S_JoinList_pl : Plan := ⟨[(0, [(0, some 9)]), (1, [(0, some 9), (3, none)]), (2, [(0, some 9), (3, none), (4, none)]), (3, [(0, some 9), (3, none), (4, none), (8, none)]), (4, [(0, some 9), (3, none), (4, none)]), (5, [(0, some 9), (3, none), (4, none), (12, none)]), (6, [(0, some 9), (3, none), (4, none)]), (7, [(0, some 9), (3, none), (4, none)]), (8, [(2, none)])],
  [(0, [(3, none)]), (1, [(0, some 9), (3, none), (4, none)])],
  [(8, ([(0, some 9), (3, none), (4, none)], [(3, none)])), (12, ([(0, some 9), (3, none), (4, none)], [(0, some 9), (3, none), (4, none)]))]⟩
def S_JoinList_cl (k : Nat) : Calls' D := ⟨[], [], [], [], []⟩
theorem S_JoinList_ck (k : Nat) : CallsOK X (S_JoinList_cl k) := .nil cod
def S_JoinList_c12_L (x : (List (List UInt8)) × (List UInt8) × Int × Bool × Unit) (o : (List UInt8)) (Q : Ex → VSt D → Prop) (R : VR D → Prop) : Prop := Q .normal (mkSt ⟨[(0, .hole), (3, .hole), (4, .hole)], []⟩ [.sl 9 x.1, .str o, .int .i64 x.2.2.1])
def S_JoinList_c12_cut (k : Nat) : Cut D := cutS ⟨[(0, .hole), (3, .hole), (4, .hole), (12, .hole)], []⟩ [.kl 9, .ks, .ki .i64, .kb] (fun (x : (List (List UInt8)) × (List UInt8) × Int × Bool × Unit) => S_JoinList_c12 k x.1 x.2.1 x.2.2.1 x.2.2.2.1) S_JoinList_c12_L
def S_JoinList_c12_cu (k : Nat) : Cuts D := ⟨[], []⟩
theorem S_JoinList_c12_ok (k : Nat) : CutFor X S_JoinList_pl k Go.Proofs.Tryz.f117.results.toList (S_JoinList_c12_cut k) (sub (bodyOf Go.Proofs.Tryz.f117) [1, 1, 0, 1, 0, 0, 1, 0, 0, 0, 1]) :=
  joinCut_s (X := X) (sg := [.kl 9, .ks, .ki .i64, .kb]) (cu := S_JoinList_c12_cu k) (cl := S_JoinList_cl k) (tys := [[0]]) (S_JoinList_ck k) (cutOK_of (l := []) (by kernel_rfl) trivial) fun x Q R h => by
    simp only [S_JoinList_c12, optK_bind, optK_bif, optK_pure, optK_none, optK_oc, optK_guardT, optK_map] at h
    refine hold_of h ?_
    kernel_rfl
def S_JoinList_b1_L (x : (List (List UInt8)) × (List UInt8) × Int × Unit) (o : (List UInt8)) (Q : Ex → VSt D → Prop) (R : VR D → Prop) : Prop := Q .normal (mkSt ⟨[(0, .hole), (3, .hole), (4, .hole)], []⟩ [.sl 9 x.1, .str o, .int .i64 x.2.2.1])
def S_JoinList_b1_cut (k : Nat) : Cut D := cutS ⟨[(0, .hole), (3, .hole), (4, .hole)], []⟩ [.kl 9, .ks, .ki .i64] (fun (x : (List (List UInt8)) × (List UInt8) × Int × Unit) => S_JoinList_b1 k x.1 x.2.1 x.2.2.1) S_JoinList_b1_L
def S_JoinList_b1_cu (k : Nat) : Cuts D := ⟨[], [(12, some (S_JoinList_c12_cut k))]⟩
theorem S_JoinList_b1_ok (k : Nat) : CutFor X S_JoinList_pl k Go.Proofs.Tryz.f117.results.toList (S_JoinList_b1_cut k) (sub (bodyOf Go.Proofs.Tryz.f117) [1, 1, 0, 1, 0, 0, 1, 0]) :=
  joinCut_s (X := X) (sg := [.kl 9, .ks, .ki .i64]) (cu := S_JoinList_b1_cu k) (cl := S_JoinList_cl k) (tys := [[0]]) (S_JoinList_ck k) (cutOK_of (l := [(S_JoinList_c12_cut k, sub (bodyOf Go.Proofs.Tryz.f117) [1, 1, 0, 1, 0, 0, 1, 0, 0, 0, 1])]) (by kernel_rfl) ⟨S_JoinList_c12_ok k, trivial⟩) fun x Q R h => by
    simp only [S_JoinList_b1, optK_bind, optK_bif, optK_pure, optK_none, optK_oc, optK_guardT, optK_map] at h
    refine hold_of h ?_
    kernel_rfl
def S_JoinList_b0_L (x : (List (List UInt8)) × (List UInt8) × Int × Unit) (o : (List UInt8)) (Q : Ex → VSt D → Prop) (R : VR D → Prop) : Prop := Q .normal (mkSt ⟨[(3, .hole)], []⟩ [.str o])
def S_JoinList_b0_cut (k : Nat) : Cut D := cutS ⟨[(0, .hole), (3, .hole), (4, .hole)], []⟩ [.kl 9, .ks, .ki .i64] (fun (x : (List (List UInt8)) × (List UInt8) × Int × Unit) => S_JoinList_b0 k k x.1 x.2.1 x.2.2.1) S_JoinList_b0_L
def S_JoinList_b0_cu (k : Nat) : Cuts D := ⟨[(1, some (S_JoinList_b1_cut k))], []⟩
theorem S_JoinList_b0_ok (k : Nat) : CutFor X S_JoinList_pl k Go.Proofs.Tryz.f117.results.toList (S_JoinList_b0_cut k) (sub (bodyOf Go.Proofs.Tryz.f117) [1, 1, 0, 1]) :=
  loopCut_s (X := X) (sg := [.kl 9, .ks, .ki .i64]) (cu := S_JoinList_b0_cu k) (cl := S_JoinList_cl k) (tys := [[0]]) (id := 0) (c := sub (bodyOf Go.Proofs.Tryz.f117) [1, 1, 0, 1, 0, 0]) (f := fun n => fun (x : (List (List UInt8)) × (List UInt8) × Int × Unit) => S_JoinList_b0 k n x.1 x.2.1 x.2.2.1) (S_JoinList_ck k) (cutOK_of (l := [(S_JoinList_b1_cut k, sub (bodyOf Go.Proofs.Tryz.f117) [1, 1, 0, 1, 0, 0, 1, 0])]) (by kernel_rfl) ⟨S_JoinList_b1_ok k, trivial⟩) (fun _ => rfl) (fun n x Q R h => by
    simp only [S_JoinList_b0, optK_bind, optK_bif, optK_pure, optK_none, optK_oc, optK_guardT, optK_map] at h
    refine hold_of h ?_
    kernel_rfl) (by kernel_rfl)
def S_JoinList_cu (k : Nat) : Cuts D := ⟨[(0, some (S_JoinList_b0_cut k))], []⟩
def S_JoinList_ar : List Ar := [.c (.kl 9)]
def S_JoinList_f (k : Nat) (x : TupA D S_JoinList_ar) : Option ((List UInt8)) := S_JoinList k x.1
def S_JoinList_vr (r : (List UInt8)) : VR D := .p (.c (.str r))
theorem S_JoinList_ok (k : Nat) : Does P X 117 S_JoinList_ar (S_JoinList_f k) S_JoinList_vr :=
  does_of (body := bodyOf Go.Proofs.Tryz.f117) (pl := S_JoinList_pl) (k := k) (cu := S_JoinList_cu k) (tys := [[0]]) (S_JoinList_ck k) ctx mixed Go.Proofs.Tryz.func117 (by kernel_rfl) (by kernel_rfl) (cutOK_of (l := [(S_JoinList_b0_cut k, sub (bodyOf Go.Proofs.Tryz.f117) [1, 1, 0, 1])]) (by kernel_rfl) ⟨S_JoinList_b0_ok k, trivial⟩) fun x R h => by
    simp only [S_JoinList_f, S_JoinList, optK_bind, optK_bif, optK_pure, optK_none, optK_oc, optK_guardT, optK_map] at h
    refine hold_of h ?_
    kernel_rfl
def S_JoinList_en (k : Nat) : Entry D := entS S_JoinList_ar (S_JoinList_f k) S_JoinList_vr
theorem S_JoinList_eo (k : Nat) : EntryOK X 117 (S_JoinList_en k) := (S_JoinList_ok k).en rfl
def S_GetField_pl : Plan := ⟨[(0, [(0, some 107), (1, none)]), (1, [(0, some 107), (1, none), (6, some 9)]), (2, [(0, some 107), (1, none), (6, some 9), (7, none)]), (3, [(0, some 107), (1, none), (6, some 9), (7, none), (12, none)]), (4, [(0, some 107), (1, none), (6, some 9), (7, none)]), (5, [(0, some 107), (1, none), (6, some 9), (7, none), (21, none)]), (6, [(0, some 107), (1, none), (6, some 9), (7, none)]), (7, [(4, none), (5, none)])],
  [(0, [(6, some 9)]), (1, [(0, some 107), (1, none), (6, some 9), (7, none)])],
  [(12, ([(0, some 107), (1, none), (6, some 9), (7, none)], [(6, some 9)])), (21, ([(0, some 107), (1, none), (6, some 9), (7, none)], [(0, some 107), (1, none), (6, some 9), (7, none)]))]⟩
def S_GetField_cl (k : Nat) : Calls' D := ⟨[(117, S_JoinList_en k)], [], [], [], []⟩
theorem S_GetField_ck (k : Nat) : CallsOK X (S_GetField_cl k) := .cons (S_JoinList_eo k) (.nil cod)
def S_GetField_c21_L (x : (List IField) × (List UInt8) × Int × Bool × (List (List UInt8)) × Unit) (o : (List (List UInt8))) (Q : Ex → VSt D → Prop) (R : VR D → Prop) : Prop := Q .normal (mkSt ⟨[(0, .hole), (1, .hole), (6, .ref 500006), (7, .hole)], [(500006, .row)]⟩ [.sl 107 x.1, .str x.2.1, .int .i64 x.2.2.1, .sl 9 o])
def S_GetField_c21_cut (k : Nat) : Cut D := cutS ⟨[(0, .hole), (1, .hole), (6, .ref 500006), (7, .hole), (21, .hole)], [(500006, .row)]⟩ [.kl 107, .ks, .ki .i64, .kb, .kl 9] (fun (x : (List IField) × (List UInt8) × Int × Bool × (List (List UInt8)) × Unit) => S_GetField_c21 k x.1 x.2.1 x.2.2.1 x.2.2.2.1 x.2.2.2.2.1) S_GetField_c21_L
def S_GetField_c21_cu (k : Nat) : Cuts D := ⟨[], []⟩
theorem S_GetField_c21_ok (k : Nat) : CutFor X S_GetField_pl k Go.Proofs.Tryz.f54.results.toList (S_GetField_c21_cut k) (sub (bodyOf Go.Proofs.Tryz.f54) [1, 1, 0, 1, 0, 0, 1, 0, 0, 1]) :=
  joinCut_s (X := X) (sg := [.kl 107, .ks, .ki .i64, .kb, .kl 9]) (cu := S_GetField_c21_cu k) (cl := S_GetField_cl k) (tys := [[0], [0]]) (S_GetField_ck k) (cutOK_of (l := []) (by kernel_rfl) trivial) fun x Q R h => by
    simp only [S_GetField_c21, optK_bind, optK_bif, optK_pure, optK_none, optK_oc, optK_guardT, optK_map] at h
    refine hold_of h ?_
    kernel_rfl
def S_GetField_b1_L (x : (List IField) × (List UInt8) × Int × (List (List UInt8)) × Unit) (o : (List (List UInt8))) (Q : Ex → VSt D → Prop) (R : VR D → Prop) : Prop := Q .normal (mkSt ⟨[(0, .hole), (1, .hole), (6, .ref 500006), (7, .hole)], [(500006, .row)]⟩ [.sl 107 x.1, .str x.2.1, .int .i64 x.2.2.1, .sl 9 o])
def S_GetField_b1_cut (k : Nat) : Cut D := cutS ⟨[(0, .hole), (1, .hole), (6, .ref 500006), (7, .hole)], [(500006, .row)]⟩ [.kl 107, .ks, .ki .i64, .kl 9] (fun (x : (List IField) × (List UInt8) × Int × (List (List UInt8)) × Unit) => S_GetField_b1 k x.1 x.2.1 x.2.2.1 x.2.2.2.1) S_GetField_b1_L
def S_GetField_b1_cu (k : Nat) : Cuts D := ⟨[], [(21, some (S_GetField_c21_cut k))]⟩
theorem S_GetField_b1_ok (k : Nat) : CutFor X S_GetField_pl k Go.Proofs.Tryz.f54.results.toList (S_GetField_b1_cut k) (sub (bodyOf Go.Proofs.Tryz.f54) [1, 1, 0, 1, 0, 0, 1, 0]) :=
  joinCut_s (X := X) (sg := [.kl 107, .ks, .ki .i64, .kl 9]) (cu := S_GetField_b1_cu k) (cl := S_GetField_cl k) (tys := [[0], [0]]) (S_GetField_ck k) (cutOK_of (l := [(S_GetField_c21_cut k, sub (bodyOf Go.Proofs.Tryz.f54) [1, 1, 0, 1, 0, 0, 1, 0, 0, 1])]) (by kernel_rfl) ⟨S_GetField_c21_ok k, trivial⟩) fun x Q R h => by
    simp only [S_GetField_b1, optK_bind, optK_bif, optK_pure, optK_none, optK_oc, optK_guardT, optK_map] at h
    refine hold_of h ?_
    kernel_rfl
def S_GetField_b0_L (x : (List IField) × (List UInt8) × Int × (List (List UInt8)) × Unit) (o : (List (List UInt8))) (Q : Ex → VSt D → Prop) (R : VR D → Prop) : Prop := Q .normal (mkSt ⟨[(6, .ref 500006)], [(500006, .row)]⟩ [.sl 9 o])
def S_GetField_b0_cut (k : Nat) : Cut D := cutS ⟨[(0, .hole), (1, .hole), (6, .ref 500006), (7, .hole)], [(500006, .row)]⟩ [.kl 107, .ks, .ki .i64, .kl 9] (fun (x : (List IField) × (List UInt8) × Int × (List (List UInt8)) × Unit) => S_GetField_b0 k k x.1 x.2.1 x.2.2.1 x.2.2.2.1) S_GetField_b0_L
def S_GetField_b0_cu (k : Nat) : Cuts D := ⟨[(1, some (S_GetField_b1_cut k))], []⟩
theorem S_GetField_b0_ok (k : Nat) : CutFor X S_GetField_pl k Go.Proofs.Tryz.f54.results.toList (S_GetField_b0_cut k) (sub (bodyOf Go.Proofs.Tryz.f54) [1, 1, 0, 1]) :=
  loopCut_s (X := X) (sg := [.kl 107, .ks, .ki .i64, .kl 9]) (cu := S_GetField_b0_cu k) (cl := S_GetField_cl k) (tys := [[0], [0]]) (id := 0) (c := sub (bodyOf Go.Proofs.Tryz.f54) [1, 1, 0, 1, 0, 0]) (f := fun n => fun (x : (List IField) × (List UInt8) × Int × (List (List UInt8)) × Unit) => S_GetField_b0 k n x.1 x.2.1 x.2.2.1 x.2.2.2.1) (S_GetField_ck k) (cutOK_of (l := [(S_GetField_b1_cut k, sub (bodyOf Go.Proofs.Tryz.f54) [1, 1, 0, 1, 0, 0, 1, 0])]) (by kernel_rfl) ⟨S_GetField_b1_ok k, trivial⟩) (fun _ => rfl) (fun n x Q R h => by
    simp only [S_GetField_b0, optK_bind, optK_bif, optK_pure, optK_none, optK_oc, optK_guardT, optK_map] at h
    refine hold_of h ?_
    kernel_rfl) (by kernel_rfl)
def S_GetField_cu (k : Nat) : Cuts D := ⟨[(0, some (S_GetField_b0_cut k))], []⟩
def S_GetField_ar : List Ar := [.c (.kl 107), .c (.ks)]
def S_GetField_f (k : Nat) (x : TupA D S_GetField_ar) : Option ((List UInt8) × Bool) := S_GetField k x.1 x.2.1
def S_GetField_vr (r : (List UInt8) × Bool) : VR D := .tup [.c (.str r.1), .c (.bool r.2)]
theorem S_GetField_ok (k : Nat) : Does P X 54 S_GetField_ar (S_GetField_f k) S_GetField_vr :=
  does_of (body := bodyOf Go.Proofs.Tryz.f54) (pl := S_GetField_pl) (k := k) (cu := S_GetField_cu k) (tys := [[0], [0]]) (S_GetField_ck k) ctx mixed Go.Proofs.Tryz.func54 (by kernel_rfl) (by kernel_rfl) (cutOK_of (l := [(S_GetField_b0_cut k, sub (bodyOf Go.Proofs.Tryz.f54) [1, 1, 0, 1])]) (by kernel_rfl) ⟨S_GetField_b0_ok k, trivial⟩) fun x R h => by
    simp only [S_GetField_f, S_GetField, optK_bind, optK_bif, optK_pure, optK_none, optK_oc, optK_guardT, optK_map] at h
    refine hold_of h ?_
    kernel_rfl
def S_GetField_en (k : Nat) : Entry D := entS S_GetField_ar (S_GetField_f k) S_GetField_vr
theorem S_GetField_eo (k : Nat) : EntryOK X 54 (S_GetField_en k) := (S_GetField_ok k).en rfl
def S_l4Token_pl : Plan := ⟨[(0, [(0, none)]), (1, [(0, none), (3, none)]), (2, [(0, none), (3, none), (5, none)]), (3, [(0, none), (3, none)]), (4, [(0, none), (3, none), (11, none)]), (5, [(2, none)]), (6, [(2, none)])],
  [(0, [(0, none)]), (1, [(0, none), (3, none)])],
  [(5, ([(0, none), (3, none)], [(0, none)])), (11, ([], [(0, none), (3, none)]))]⟩
def S_l4Token_cl (k : Nat) : Calls' D := ⟨[(137, S_l4Letter_en k)], [], [], [], []⟩
theorem S_l4Token_ck (k : Nat) : CallsOK X (S_l4Token_cl k) := .cons (S_l4Letter_eo k) (.nil cod)
def S_l4Token_b0_L (x : Int × Int × Unit) (o : Oc (Unit) (Bool)) (Q : Ex → VSt D → Prop) (R : VR D → Prop) : Prop := ocP o (fun v0 => Q .normal (mkSt ⟨[(0, .hole)], []⟩ [.int .u8 x.1])) (fun w0 => R (.p (.c (.bool w0))))
def S_l4Token_b0_cut (k : Nat) : Cut D := cutS ⟨[(0, .hole), (3, .hole)], []⟩ [.ki .u8, .ki .i64] (fun (x : Int × Int × Unit) => S_l4Token_b0 k k x.1 x.2.1) S_l4Token_b0_L
def S_l4Token_b0_cu (k : Nat) : Cuts D := ⟨[], []⟩
theorem S_l4Token_b0_ok (k : Nat) : CutFor X S_l4Token_pl k Go.Proofs.Tryz.f139.results.toList (S_l4Token_b0_cut k) (sub (bodyOf Go.Proofs.Tryz.f139) [1, 0, 1]) :=
  loopCut_s (X := X) (sg := [.ki .u8, .ki .i64]) (cu := S_l4Token_b0_cu k) (cl := S_l4Token_cl k) (tys := [[0]]) (id := 0) (c := sub (bodyOf Go.Proofs.Tryz.f139) [1, 0, 1, 0, 0]) (f := fun n => fun (x : Int × Int × Unit) => S_l4Token_b0 k n x.1 x.2.1) (S_l4Token_ck k) (cutOK_of (l := []) (by kernel_rfl) trivial) (fun _ => rfl) (fun n x Q R h => by
    simp only [S_l4Token_b0, optK_bind, optK_bif, optK_pure, optK_none, optK_oc, optK_guardT, optK_map] at h
    refine hold_of h ?_
    kernel_rfl) (by kernel_rfl)
def S_l4Token_cu (k : Nat) : Cuts D := ⟨[(0, some (S_l4Token_b0_cut k))], []⟩
def S_l4Token_ar : List Ar := [.c (.ki .u8)]
def S_l4Token_f (k : Nat) (x : TupA D S_l4Token_ar) : Option (Bool) := S_l4Token k x.1
def S_l4Token_vr (r : Bool) : VR D := .p (.c (.bool r))
theorem S_l4Token_ok (k : Nat) : Does P X 139 S_l4Token_ar (S_l4Token_f k) S_l4Token_vr :=
  does_of (body := bodyOf Go.Proofs.Tryz.f139) (pl := S_l4Token_pl) (k := k) (cu := S_l4Token_cu k) (tys := [[0]]) (S_l4Token_ck k) ctx mixed Go.Proofs.Tryz.func139 (by kernel_rfl) (by kernel_rfl) (cutOK_of (l := [(S_l4Token_b0_cut k, sub (bodyOf Go.Proofs.Tryz.f139) [1, 0, 1])]) (by kernel_rfl) ⟨S_l4Token_b0_ok k, trivial⟩) fun x R h => by
    simp only [S_l4Token_f, S_l4Token, optK_bind, optK_bif, optK_pure, optK_none, optK_oc, optK_guardT, optK_map] at h
    refine hold_of h ?_
    kernel_rfl
def S_l4Token_en (k : Nat) : Entry D := entS S_l4Token_ar (S_l4Token_f k) S_l4Token_vr
theorem S_l4Token_eo (k : Nat) : EntryOK X 139 (S_l4Token_en k) := (S_l4Token_ok k).en rfl
def S_IsToken_pl : Plan := ⟨[(0, [(0, none)]), (1, [(0, none), (3, none)]), (2, [(0, none), (3, none), (7, none)]), (3, [(0, none), (3, none)]), (4, [(0, none), (3, none), (14, none)]), (5, [(2, none)]), (6, [(2, none)])],
  [(0, [(0, none)]), (1, [(0, none), (3, none)])],
  [(7, ([(0, none), (3, none)], [(0, none)])), (14, ([], [(0, none), (3, none)]))]⟩
def S_IsToken_cl (k : Nat) : Calls' D := ⟨[(139, S_l4Token_en k), (78, S_l1In_en k)], [], [], [], []⟩
theorem S_IsToken_ck (k : Nat) : CallsOK X (S_IsToken_cl k) := .cons (S_l4Token_eo k) (.cons (S_l1In_eo k) (.nil cod))
def S_IsToken_b0_L (x : (List UInt8) × Int × Unit) (o : Oc (Unit) (Bool)) (Q : Ex → VSt D → Prop) (R : VR D → Prop) : Prop := ocP o (fun v0 => Q .normal (mkSt ⟨[(0, .hole)], []⟩ [.str x.1])) (fun w0 => R (.p (.c (.bool w0))))
def S_IsToken_b0_cut (k : Nat) : Cut D := cutS ⟨[(0, .hole), (3, .hole)], []⟩ [.ks, .ki .i64] (fun (x : (List UInt8) × Int × Unit) => S_IsToken_b0 k k x.1 x.2.1) S_IsToken_b0_L
def S_IsToken_b0_cu (k : Nat) : Cuts D := ⟨[], []⟩
theorem S_IsToken_b0_ok (k : Nat) : CutFor X S_IsToken_pl k Go.Proofs.Tryz.f79.results.toList (S_IsToken_b0_cut k) (sub (bodyOf Go.Proofs.Tryz.f79) [1, 0, 1]) :=
  loopCut_s (X := X) (sg := [.ks, .ki .i64]) (cu := S_IsToken_b0_cu k) (cl := S_IsToken_cl k) (tys := [[0]]) (id := 0) (c := sub (bodyOf Go.Proofs.Tryz.f79) [1, 0, 1, 0, 0]) (f := fun n => fun (x : (List UInt8) × Int × Unit) => S_IsToken_b0 k n x.1 x.2.1) (S_IsToken_ck k) (cutOK_of (l := []) (by kernel_rfl) trivial) (fun _ => rfl) (fun n x Q R h => by
    simp only [S_IsToken_b0, optK_bind, optK_bif, optK_pure, optK_none, optK_oc, optK_guardT, optK_map] at h
    refine hold_of h ?_
    kernel_rfl) (by kernel_rfl)
def S_IsToken_cu (k : Nat) : Cuts D := ⟨[(0, some (S_IsToken_b0_cut k))], []⟩
def S_IsToken_ar : List Ar := [.c (.ks)]
def S_IsToken_f (k : Nat) (x : TupA D S_IsToken_ar) : Option (Bool) := S_IsToken k x.1
def S_IsToken_vr (r : Bool) : VR D := .p (.c (.bool r))
theorem S_IsToken_ok (k : Nat) : Does P X 79 S_IsToken_ar (S_IsToken_f k) S_IsToken_vr :=
  does_of (body := bodyOf Go.Proofs.Tryz.f79) (pl := S_IsToken_pl) (k := k) (cu := S_IsToken_cu k) (tys := [[0]]) (S_IsToken_ck k) ctx mixed Go.Proofs.Tryz.func79 (by kernel_rfl) (by kernel_rfl) (cutOK_of (l := [(S_IsToken_b0_cut k, sub (bodyOf Go.Proofs.Tryz.f79) [1, 0, 1])]) (by kernel_rfl) ⟨S_IsToken_b0_ok k, trivial⟩) fun x R h => by
    simp only [S_IsToken_f, S_IsToken, optK_bind, optK_bif, optK_pure, optK_none, optK_oc, optK_guardT, optK_map] at h
    refine hold_of h ?_
    kernel_rfl
def S_IsToken_en (k : Nat) : Entry D := entS S_IsToken_ar (S_IsToken_f k) S_IsToken_vr
theorem S_IsToken_eo (k : Nat) : EntryOK X 79 (S_IsToken_en k) := (S_IsToken_ok k).en rfl
def S_LowerText_pl : Plan := ⟨[(0, [(0, none)]), (1, [(3, some 5)]), (2, [(3, some 5), (4, none)]), (3, [(3, some 5), (4, none), (10, none)]), (4, [(3, some 5), (4, none)]), (5, [(3, some 5), (4, none), (18, none)]), (6, [(3, some 5), (4, none)]), (7, [(2, none)])],
  [(0, [(3, some 5)]), (1, [(3, some 5), (4, none)])],
  [(10, ([(3, some 5), (4, none)], [(3, some 5)])), (18, ([(3, some 5), (4, none)], [(3, some 5), (4, none)]))]⟩
def S_LowerText_cl (k : Nat) : Calls' D := ⟨[(78, S_l1In_en k)], [], [], [], []⟩
theorem S_LowerText_ck (k : Nat) : CallsOK X (S_LowerText_cl k) := .cons (S_l1In_eo k) (.nil cod)
def S_LowerText_c18_L (x : Int × Bool × (List Int) × Unit) (o : (List Int)) (Q : Ex → VSt D → Prop) (R : VR D → Prop) : Prop := Q .normal (mkSt ⟨[(3, .ref 500003), (4, .hole)], [(500003, .row)]⟩ [.int .i64 x.1, .sl 5 o])
def S_LowerText_c18_cut (k : Nat) : Cut D := cutS ⟨[(3, .ref 500003), (4, .hole), (18, .hole)], [(500003, .row)]⟩ [.ki .i64, .kb, .kl 5] (fun (x : Int × Bool × (List Int) × Unit) => S_LowerText_c18 k x.1 x.2.1 x.2.2.1) S_LowerText_c18_L
def S_LowerText_c18_cu (k : Nat) : Cuts D := ⟨[], []⟩
theorem S_LowerText_c18_ok (k : Nat) : CutFor X S_LowerText_pl k Go.Proofs.Tryz.f158.results.toList (S_LowerText_c18_cut k) (sub (bodyOf Go.Proofs.Tryz.f158) [1, 1, 0, 1, 0, 0, 1, 0, 0, 1]) :=
  joinCut_s (X := X) (sg := [.ki .i64, .kb, .kl 5]) (cu := S_LowerText_c18_cu k) (cl := S_LowerText_cl k) (tys := [[0]]) (S_LowerText_ck k) (cutOK_of (l := []) (by kernel_rfl) trivial) fun x Q R h => by
    simp only [S_LowerText_c18, optK_bind, optK_bif, optK_pure, optK_none, optK_oc, optK_guardT, optK_map] at h
    refine hold_of h ?_
    kernel_rfl
def S_LowerText_b1_L (x : Int × (List Int) × Unit) (o : (List Int)) (Q : Ex → VSt D → Prop) (R : VR D → Prop) : Prop := Q .normal (mkSt ⟨[(3, .ref 500003), (4, .hole)], [(500003, .row)]⟩ [.int .i64 x.1, .sl 5 o])
def S_LowerText_b1_cut (k : Nat) : Cut D := cutS ⟨[(3, .ref 500003), (4, .hole)], [(500003, .row)]⟩ [.ki .i64, .kl 5] (fun (x : Int × (List Int) × Unit) => S_LowerText_b1 k x.1 x.2.1) S_LowerText_b1_L
def S_LowerText_b1_cu (k : Nat) : Cuts D := ⟨[], [(18, some (S_LowerText_c18_cut k))]⟩
theorem S_LowerText_b1_ok (k : Nat) : CutFor X S_LowerText_pl k Go.Proofs.Tryz.f158.results.toList (S_LowerText_b1_cut k) (sub (bodyOf Go.Proofs.Tryz.f158) [1, 1, 0, 1, 0, 0, 1, 0]) :=
  joinCut_s (X := X) (sg := [.ki .i64, .kl 5]) (cu := S_LowerText_b1_cu k) (cl := S_LowerText_cl k) (tys := [[0]]) (S_LowerText_ck k) (cutOK_of (l := [(S_LowerText_c18_cut k, sub (bodyOf Go.Proofs.Tryz.f158) [1, 1, 0, 1, 0, 0, 1, 0, 0, 1])]) (by kernel_rfl) ⟨S_LowerText_c18_ok k, trivial⟩) fun x Q R h => by
    simp only [S_LowerText_b1, optK_bind, optK_bif, optK_pure, optK_none, optK_oc, optK_guardT, optK_map] at h
    refine hold_of h ?_
    kernel_rfl
def S_LowerText_b0_L (x : Int × (List Int) × Unit) (o : (List Int)) (Q : Ex → VSt D → Prop) (R : VR D → Prop) : Prop := Q .normal (mkSt ⟨[(3, .ref 500003)], [(500003, .row)]⟩ [.sl 5 o])
def S_LowerText_b0_cut (k : Nat) : Cut D := cutS ⟨[(3, .ref 500003), (4, .hole)], [(500003, .row)]⟩ [.ki .i64, .kl 5] (fun (x : Int × (List Int) × Unit) => S_LowerText_b0 k k x.1 x.2.1) S_LowerText_b0_L
def S_LowerText_b0_cu (k : Nat) : Cuts D := ⟨[(1, some (S_LowerText_b1_cut k))], []⟩
theorem S_LowerText_b0_ok (k : Nat) : CutFor X S_LowerText_pl k Go.Proofs.Tryz.f158.results.toList (S_LowerText_b0_cut k) (sub (bodyOf Go.Proofs.Tryz.f158) [1, 1, 0, 1]) :=
  loopCut_s (X := X) (sg := [.ki .i64, .kl 5]) (cu := S_LowerText_b0_cu k) (cl := S_LowerText_cl k) (tys := [[0]]) (id := 0) (c := sub (bodyOf Go.Proofs.Tryz.f158) [1, 1, 0, 1, 0, 0]) (f := fun n => fun (x : Int × (List Int) × Unit) => S_LowerText_b0 k n x.1 x.2.1) (S_LowerText_ck k) (cutOK_of (l := [(S_LowerText_b1_cut k, sub (bodyOf Go.Proofs.Tryz.f158) [1, 1, 0, 1, 0, 0, 1, 0])]) (by kernel_rfl) ⟨S_LowerText_b1_ok k, trivial⟩) (fun _ => rfl) (fun n x Q R h => by
    simp only [S_LowerText_b0, optK_bind, optK_bif, optK_pure, optK_none, optK_oc, optK_guardT, optK_map] at h
    refine hold_of h ?_
    kernel_rfl) (by kernel_rfl)
def S_LowerText_cu (k : Nat) : Cuts D := ⟨[(0, some (S_LowerText_b0_cut k))], []⟩
def S_LowerText_ar : List Ar := [.c (.ks)]
def S_LowerText_f (k : Nat) (x : TupA D S_LowerText_ar) : Option ((List UInt8)) := S_LowerText k x.1
def S_LowerText_vr (r : (List UInt8)) : VR D := .p (.c (.str r))
theorem S_LowerText_ok (k : Nat) : Does P X 158 S_LowerText_ar (S_LowerText_f k) S_LowerText_vr :=
  does_of (body := bodyOf Go.Proofs.Tryz.f158) (pl := S_LowerText_pl) (k := k) (cu := S_LowerText_cu k) (tys := [[0]]) (S_LowerText_ck k) ctx mixed Go.Proofs.Tryz.func158 (by kernel_rfl) (by kernel_rfl) (cutOK_of (l := [(S_LowerText_b0_cut k, sub (bodyOf Go.Proofs.Tryz.f158) [1, 1, 0, 1])]) (by kernel_rfl) ⟨S_LowerText_b0_ok k, trivial⟩) fun x R h => by
    simp only [S_LowerText_f, S_LowerText, optK_bind, optK_bif, optK_pure, optK_none, optK_oc, optK_guardT, optK_map] at h
    refine hold_of h ?_
    kernel_rfl
def S_LowerText_en (k : Nat) : Entry D := entS S_LowerText_ar (S_LowerText_f k) S_LowerText_vr
theorem S_LowerText_eo (k : Nat) : EntryOK X 158 (S_LowerText_en k) := (S_LowerText_ok k).en rfl
def S_l5Name_pl : Plan := ⟨[(0, [(0, none)]), (1, [(2, none)])],
  [],
  []⟩
def S_l5Name_cl (k : Nat) : Calls' D := ⟨[(79, S_IsToken_en k), (158, S_LowerText_en k)], [], [], [], []⟩
theorem S_l5Name_ck (k : Nat) : CallsOK X (S_l5Name_cl k) := .cons (S_IsToken_eo k) (.cons (S_LowerText_eo k) (.nil cod))
def S_l5Name_cu (k : Nat) : Cuts D := ⟨[], []⟩
def S_l5Name_ar : List Ar := [.c (.ks)]
def S_l5Name_f (k : Nat) (x : TupA D S_l5Name_ar) : Option (Bool) := S_l5Name k x.1
def S_l5Name_vr (r : Bool) : VR D := .p (.c (.bool r))
theorem S_l5Name_ok (k : Nat) : Does P X 98 S_l5Name_ar (S_l5Name_f k) S_l5Name_vr :=
  does_of (body := bodyOf Go.Proofs.Tryz.f98) (pl := S_l5Name_pl) (k := k) (cu := S_l5Name_cu k) (tys := [[0]]) (S_l5Name_ck k) ctx mixed Go.Proofs.Tryz.func98 (by kernel_rfl) (by kernel_rfl) (cutOK_of (l := []) (by kernel_rfl) trivial) fun x R h => by
    simp only [S_l5Name_f, S_l5Name, optK_bind, optK_bif, optK_pure, optK_none, optK_oc, optK_guardT, optK_map] at h
    refine hold_of h ?_
    kernel_rfl
def S_l5Name_en (k : Nat) : Entry D := entS S_l5Name_ar (S_l5Name_f k) S_l5Name_vr
theorem S_l5Name_eo (k : Nat) : EntryOK X 98 (S_l5Name_en k) := (S_l5Name_ok k).en rfl
def S_l4Blank_pl : Plan := ⟨[(0, [(0, none)]), (1, [(2, none)])],
  [],
  []⟩
def S_l4Blank_cl (k : Nat) : Calls' D := ⟨[], [], [], [], []⟩
theorem S_l4Blank_ck (k : Nat) : CallsOK X (S_l4Blank_cl k) := .nil cod
def S_l4Blank_cu (k : Nat) : Cuts D := ⟨[], []⟩
def S_l4Blank_ar : List Ar := [.c (.ki .u8)]
def S_l4Blank_f (k : Nat) (x : TupA D S_l4Blank_ar) : Option (Bool) := S_l4Blank k x.1
def S_l4Blank_vr (r : Bool) : VR D := .p (.c (.bool r))
theorem S_l4Blank_ok (k : Nat) : Does P X 223 S_l4Blank_ar (S_l4Blank_f k) S_l4Blank_vr :=
  does_of (body := bodyOf Go.Proofs.Tryz.f223) (pl := S_l4Blank_pl) (k := k) (cu := S_l4Blank_cu k) (tys := [[0]]) (S_l4Blank_ck k) ctx mixed Go.Proofs.Tryz.func223 (by kernel_rfl) (by kernel_rfl) (cutOK_of (l := []) (by kernel_rfl) trivial) fun x R h => by
    simp only [S_l4Blank_f, S_l4Blank, optK_bind, optK_bif, optK_pure, optK_none, optK_oc, optK_guardT, optK_map] at h
    refine hold_of h ?_
    kernel_rfl
def S_l4Blank_en (k : Nat) : Entry D := entS S_l4Blank_ar (S_l4Blank_f k) S_l4Blank_vr
theorem S_l4Blank_eo (k : Nat) : EntryOK X 223 (S_l4Blank_en k) := (S_l4Blank_ok k).en rfl
def S_TrimText_pl : Plan := ⟨[(0, [(0, none)]), (1, [(0, none), (10, none)]), (2, [(0, none)]), (3, [(0, none), (23, none)]), (4, [(0, none)]), (5, [(2, none)])],
  [(0, [(0, none)]), (1, [(0, none)]), (2, [(0, none)]), (3, [(0, none)])],
  [(10, ([(0, none)], [(0, none)])), (23, ([(0, none)], [(0, none)]))]⟩
def S_TrimText_cl (k : Nat) : Calls' D := ⟨[(223, S_l4Blank_en k)], [], [], [], []⟩
theorem S_TrimText_ck (k : Nat) : CallsOK X (S_TrimText_cl k) := .cons (S_l4Blank_eo k) (.nil cod)
def S_TrimText_b0_L (x : (List UInt8) × Unit) (o : (List UInt8)) (Q : Ex → VSt D → Prop) (R : VR D → Prop) : Prop := Q .normal (mkSt ⟨[(0, .hole)], []⟩ [.str o])
def S_TrimText_b0_cut (k : Nat) : Cut D := cutS ⟨[(0, .hole)], []⟩ [.ks] (fun (x : (List UInt8) × Unit) => S_TrimText_b0 k k x.1) S_TrimText_b0_L
def S_TrimText_b0_cu (k : Nat) : Cuts D := ⟨[], []⟩
theorem S_TrimText_b0_ok (k : Nat) : CutFor X S_TrimText_pl k Go.Proofs.Tryz.f159.results.toList (S_TrimText_b0_cut k) (sub (bodyOf Go.Proofs.Tryz.f159) [1, 0]) :=
  loopCut_s (X := X) (sg := [.ks]) (cu := S_TrimText_b0_cu k) (cl := S_TrimText_cl k) (tys := [[0]]) (id := 0) (c := sub (bodyOf Go.Proofs.Tryz.f159) [1, 0, 0, 0]) (f := fun n => fun (x : (List UInt8) × Unit) => S_TrimText_b0 k n x.1) (S_TrimText_ck k) (cutOK_of (l := []) (by kernel_rfl) trivial) (fun _ => rfl) (fun n x Q R h => by
    simp only [S_TrimText_b0, optK_bind, optK_bif, optK_pure, optK_none, optK_oc, optK_guardT, optK_map] at h
    refine hold_of h ?_
    kernel_rfl) (by kernel_rfl)
def S_TrimText_b2_L (x : (List UInt8) × Unit) (o : (List UInt8)) (Q : Ex → VSt D → Prop) (R : VR D → Prop) : Prop := Q .normal (mkSt ⟨[(0, .hole)], []⟩ [.str o])
def S_TrimText_b2_cut (k : Nat) : Cut D := cutS ⟨[(0, .hole)], []⟩ [.ks] (fun (x : (List UInt8) × Unit) => S_TrimText_b2 k k x.1) S_TrimText_b2_L
def S_TrimText_b2_cu (k : Nat) : Cuts D := ⟨[], []⟩
theorem S_TrimText_b2_ok (k : Nat) : CutFor X S_TrimText_pl k Go.Proofs.Tryz.f159.results.toList (S_TrimText_b2_cut k) (sub (bodyOf Go.Proofs.Tryz.f159) [1, 1, 0]) :=
  loopCut_s (X := X) (sg := [.ks]) (cu := S_TrimText_b2_cu k) (cl := S_TrimText_cl k) (tys := [[0]]) (id := 2) (c := sub (bodyOf Go.Proofs.Tryz.f159) [1, 1, 0, 0, 0]) (f := fun n => fun (x : (List UInt8) × Unit) => S_TrimText_b2 k n x.1) (S_TrimText_ck k) (cutOK_of (l := []) (by kernel_rfl) trivial) (fun _ => rfl) (fun n x Q R h => by
    simp only [S_TrimText_b2, optK_bind, optK_bif, optK_pure, optK_none, optK_oc, optK_guardT, optK_map] at h
    refine hold_of h ?_
    kernel_rfl) (by kernel_rfl)
def S_TrimText_cu (k : Nat) : Cuts D := ⟨[(0, some (S_TrimText_b0_cut k)), (2, some (S_TrimText_b2_cut k))], []⟩
def S_TrimText_ar : List Ar := [.c (.ks)]
def S_TrimText_f (k : Nat) (x : TupA D S_TrimText_ar) : Option ((List UInt8)) := S_TrimText k x.1
def S_TrimText_vr (r : (List UInt8)) : VR D := .p (.c (.str r))
theorem S_TrimText_ok (k : Nat) : Does P X 159 S_TrimText_ar (S_TrimText_f k) S_TrimText_vr :=
  does_of (body := bodyOf Go.Proofs.Tryz.f159) (pl := S_TrimText_pl) (k := k) (cu := S_TrimText_cu k) (tys := [[0]]) (S_TrimText_ck k) ctx mixed Go.Proofs.Tryz.func159 (by kernel_rfl) (by kernel_rfl) (cutOK_of (l := [(S_TrimText_b0_cut k, sub (bodyOf Go.Proofs.Tryz.f159) [1, 0]), (S_TrimText_b2_cut k, sub (bodyOf Go.Proofs.Tryz.f159) [1, 1, 0])]) (by kernel_rfl) ⟨S_TrimText_b0_ok k, S_TrimText_b2_ok k, trivial⟩) fun x R h => by
    simp only [S_TrimText_f, S_TrimText, optK_bind, optK_bif, optK_pure, optK_none, optK_oc, optK_guardT, optK_map] at h
    refine hold_of h ?_
    kernel_rfl
def S_TrimText_en (k : Nat) : Entry D := entS S_TrimText_ar (S_TrimText_f k) S_TrimText_vr
theorem S_TrimText_eo (k : Nat) : EntryOK X 159 (S_TrimText_en k) := (S_TrimText_ok k).en rfl
def S_l5Value_pl : Plan := ⟨[(0, [(0, none)]), (1, [(0, none), (3, none)]), (2, [(0, none), (3, none), (7, none)]), (3, [(0, none), (3, none)]), (4, [(0, none), (3, none), (21, none)]), (5, [(2, none)]), (6, [(2, none)])],
  [(0, [(0, none)]), (1, [(0, none), (3, none)])],
  [(7, ([(0, none), (3, none)], [(0, none)])), (21, ([], [(0, none), (3, none)]))]⟩
def S_l5Value_cl (k : Nat) : Calls' D := ⟨[(78, S_l1In_en k), (159, S_TrimText_en k)], [], [], [], []⟩
theorem S_l5Value_ck (k : Nat) : CallsOK X (S_l5Value_cl k) := .cons (S_l1In_eo k) (.cons (S_TrimText_eo k) (.nil cod))
def S_l5Value_b0_L (x : (List UInt8) × Int × Unit) (o : Oc (Unit) (Bool)) (Q : Ex → VSt D → Prop) (R : VR D → Prop) : Prop := ocP o (fun v0 => Q .normal (mkSt ⟨[(0, .hole)], []⟩ [.str x.1])) (fun w0 => R (.p (.c (.bool w0))))
def S_l5Value_b0_cut (k : Nat) : Cut D := cutS ⟨[(0, .hole), (3, .hole)], []⟩ [.ks, .ki .i64] (fun (x : (List UInt8) × Int × Unit) => S_l5Value_b0 k k x.1 x.2.1) S_l5Value_b0_L
def S_l5Value_b0_cu (k : Nat) : Cuts D := ⟨[], []⟩
theorem S_l5Value_b0_ok (k : Nat) : CutFor X S_l5Value_pl k Go.Proofs.Tryz.f100.results.toList (S_l5Value_b0_cut k) (sub (bodyOf Go.Proofs.Tryz.f100) [1, 0, 1]) :=
  loopCut_s (X := X) (sg := [.ks, .ki .i64]) (cu := S_l5Value_b0_cu k) (cl := S_l5Value_cl k) (tys := [[0]]) (id := 0) (c := sub (bodyOf Go.Proofs.Tryz.f100) [1, 0, 1, 0, 0]) (f := fun n => fun (x : (List UInt8) × Int × Unit) => S_l5Value_b0 k n x.1 x.2.1) (S_l5Value_ck k) (cutOK_of (l := []) (by kernel_rfl) trivial) (fun _ => rfl) (fun n x Q R h => by
    simp only [S_l5Value_b0, optK_bind, optK_bif, optK_pure, optK_none, optK_oc, optK_guardT, optK_map] at h
    refine hold_of h ?_
    kernel_rfl) (by kernel_rfl)
def S_l5Value_cu (k : Nat) : Cuts D := ⟨[(0, some (S_l5Value_b0_cut k))], []⟩
def S_l5Value_ar : List Ar := [.c (.ks)]
def S_l5Value_f (k : Nat) (x : TupA D S_l5Value_ar) : Option (Bool) := S_l5Value k x.1
def S_l5Value_vr (r : Bool) : VR D := .p (.c (.bool r))
theorem S_l5Value_ok (k : Nat) : Does P X 100 S_l5Value_ar (S_l5Value_f k) S_l5Value_vr :=
  does_of (body := bodyOf Go.Proofs.Tryz.f100) (pl := S_l5Value_pl) (k := k) (cu := S_l5Value_cu k) (tys := [[0]]) (S_l5Value_ck k) ctx mixed Go.Proofs.Tryz.func100 (by kernel_rfl) (by kernel_rfl) (cutOK_of (l := [(S_l5Value_b0_cut k, sub (bodyOf Go.Proofs.Tryz.f100) [1, 0, 1])]) (by kernel_rfl) ⟨S_l5Value_b0_ok k, trivial⟩) fun x R h => by
    simp only [S_l5Value_f, S_l5Value, optK_bind, optK_bif, optK_pure, optK_none, optK_oc, optK_guardT, optK_map] at h
    refine hold_of h ?_
    kernel_rfl
def S_l5Value_en (k : Nat) : Entry D := entS S_l5Value_ar (S_l5Value_f k) S_l5Value_vr
theorem S_l5Value_eo (k : Nat) : EntryOK X 100 (S_l5Value_en k) := (S_l5Value_ok k).en rfl
def S_AreFields_pl : Plan := ⟨[(0, [(0, some 107)]), (1, [(0, some 107), (3, none)]), (2, [(0, some 107), (3, none), (7, none)]), (3, [(0, some 107), (3, none)]), (4, [(0, some 107), (3, none), (25, none)]), (5, [(2, none)]), (6, [(2, none)])],
  [(0, [(0, some 107)]), (1, [(0, some 107), (3, none)])],
  [(7, ([(0, some 107), (3, none)], [(0, some 107)])), (25, ([], [(0, some 107), (3, none)]))]⟩
def S_AreFields_cl (k : Nat) : Calls' D := ⟨[(98, S_l5Name_en k), (100, S_l5Value_en k)], [], [], [], []⟩
theorem S_AreFields_ck (k : Nat) : CallsOK X (S_AreFields_cl k) := .cons (S_l5Name_eo k) (.cons (S_l5Value_eo k) (.nil cod))
def S_AreFields_b0_L (x : (List IField) × Int × Unit) (o : Oc (Unit) (Bool)) (Q : Ex → VSt D → Prop) (R : VR D → Prop) : Prop := ocP o (fun v0 => Q .normal (mkSt ⟨[(0, .hole)], []⟩ [.sl 107 x.1])) (fun w0 => R (.p (.c (.bool w0))))
def S_AreFields_b0_cut (k : Nat) : Cut D := cutS ⟨[(0, .hole), (3, .hole)], []⟩ [.kl 107, .ki .i64] (fun (x : (List IField) × Int × Unit) => S_AreFields_b0 k k x.1 x.2.1) S_AreFields_b0_L
def S_AreFields_b0_cu (k : Nat) : Cuts D := ⟨[], []⟩
theorem S_AreFields_b0_ok (k : Nat) : CutFor X S_AreFields_pl k Go.Proofs.Tryz.f140.results.toList (S_AreFields_b0_cut k) (sub (bodyOf Go.Proofs.Tryz.f140) [1, 0, 1]) :=
  loopCut_s (X := X) (sg := [.kl 107, .ki .i64]) (cu := S_AreFields_b0_cu k) (cl := S_AreFields_cl k) (tys := [[0]]) (id := 0) (c := sub (bodyOf Go.Proofs.Tryz.f140) [1, 0, 1, 0, 0]) (f := fun n => fun (x : (List IField) × Int × Unit) => S_AreFields_b0 k n x.1 x.2.1) (S_AreFields_ck k) (cutOK_of (l := []) (by kernel_rfl) trivial) (fun _ => rfl) (fun n x Q R h => by
    simp only [S_AreFields_b0, optK_bind, optK_bif, optK_pure, optK_none, optK_oc, optK_guardT, optK_map] at h
    refine hold_of h ?_
    kernel_rfl) (by kernel_rfl)
def S_AreFields_cu (k : Nat) : Cuts D := ⟨[(0, some (S_AreFields_b0_cut k))], []⟩
def S_AreFields_ar : List Ar := [.c (.kl 107)]
def S_AreFields_f (k : Nat) (x : TupA D S_AreFields_ar) : Option (Bool) := S_AreFields k x.1
def S_AreFields_vr (r : Bool) : VR D := .p (.c (.bool r))
theorem S_AreFields_ok (k : Nat) : Does P X 140 S_AreFields_ar (S_AreFields_f k) S_AreFields_vr :=
  does_of (body := bodyOf Go.Proofs.Tryz.f140) (pl := S_AreFields_pl) (k := k) (cu := S_AreFields_cu k) (tys := [[0]]) (S_AreFields_ck k) ctx mixed Go.Proofs.Tryz.func140 (by kernel_rfl) (by kernel_rfl) (cutOK_of (l := [(S_AreFields_b0_cut k, sub (bodyOf Go.Proofs.Tryz.f140) [1, 0, 1])]) (by kernel_rfl) ⟨S_AreFields_b0_ok k, trivial⟩) fun x R h => by
    simp only [S_AreFields_f, S_AreFields, optK_bind, optK_bif, optK_pure, optK_none, optK_oc, optK_guardT, optK_map] at h
    refine hold_of h ?_
    kernel_rfl
def S_AreFields_en (k : Nat) : Entry D := entS S_AreFields_ar (S_AreFields_f k) S_AreFields_vr
theorem S_AreFields_eo (k : Nat) : EntryOK X 140 (S_AreFields_en k) := (S_AreFields_ok k).en rfl
def S_l11Fields_pl : Plan := ⟨[(0, [(0, some 107)]), (1, [(0, some 107), (4, none)]), (2, [(2, none)])],
  [],
  []⟩
def S_l11Fields_cl (k : Nat) : Calls' D := ⟨[(54, S_GetField_en k), (140, S_AreFields_en k)], [], [], [], []⟩
theorem S_l11Fields_ck (k : Nat) : CallsOK X (S_l11Fields_cl k) := .cons (S_GetField_eo k) (.cons (S_AreFields_eo k) (.nil cod))
def S_l11Fields_cu (k : Nat) : Cuts D := ⟨[], []⟩
def S_l11Fields_ar : List Ar := [.c (.kl 107)]
def S_l11Fields_f (k : Nat) (x : TupA D S_l11Fields_ar) : Option (Bool) := S_l11Fields k x.1
def S_l11Fields_vr (r : Bool) : VR D := .p (.c (.bool r))
theorem S_l11Fields_ok (k : Nat) : Does P X 80 S_l11Fields_ar (S_l11Fields_f k) S_l11Fields_vr :=
  does_of (body := bodyOf Go.Proofs.Tryz.f80) (pl := S_l11Fields_pl) (k := k) (cu := S_l11Fields_cu k) (tys := [[0]]) (S_l11Fields_ck k) ctx mixed Go.Proofs.Tryz.func80 (by kernel_rfl) (by kernel_rfl) (cutOK_of (l := []) (by kernel_rfl) trivial) fun x R h => by
    simp only [S_l11Fields_f, S_l11Fields, optK_bind, optK_bif, optK_pure, optK_none, optK_oc, optK_guardT, optK_map] at h
    refine hold_of h ?_
    kernel_rfl
def S_l11Fields_en (k : Nat) : Entry D := entS S_l11Fields_ar (S_l11Fields_f k) S_l11Fields_vr
theorem S_l11Fields_eo (k : Nat) : EntryOK X 80 (S_l11Fields_en k) := (S_l11Fields_ok k).en rfl
def S_IsRequest_pl : Plan := ⟨[(0, [(1, none)]), (1, [(1, none), (3, none)]), (2, [(1, none), (3, none), (13, none)]), (3, [(1, none), (3, none)]), (4, [(1, none), (3, none), (21, none)]), (5, [(2, none)]), (6, [(1, none), (4, none)]), (7, [(1, none), (4, none), (26, none)]), (8, [(1, none), (4, none)]), (9, [(1, none), (4, none), (5, none)]), (10, [(1, none), (4, none), (50, none)]), (11, [(2, none)]), (12, [(1, none), (6, none)]), (13, [(1, none), (6, none), (55, none)]), (14, [(1, none), (6, none)]), (15, [(1, none), (6, none), (64, none)]), (16, [(2, none)]), (17, [(1, none), (8, none)]), (18, [(2, none)])],
  [(0, [(1, none)]), (1, [(1, none), (3, none)]), (2, [(1, none)]), (3, [(1, none), (4, none)]), (4, [(1, none)]), (5, [(1, none), (6, none)])],
  [(13, ([(1, none), (3, none)], [(1, none)])), (21, ([], [(1, none), (3, none)])), (26, ([(1, none), (4, none)], [(1, none)])), (50, ([], [(1, none), (4, none)])), (55, ([(1, none), (6, none)], [(1, none)])), (64, ([], [(1, none), (6, none)]))]⟩
def S_IsRequest_cl (k : Nat) : Calls' D := ⟨[(78, S_l1In_en k), (54, S_GetField_en k), (79, S_IsToken_en k), (80, S_l11Fields_en k)], [], [], [], []⟩
theorem S_IsRequest_ck (k : Nat) : CallsOK X (S_IsRequest_cl k) := .cons (S_l1In_eo k) (.cons (S_GetField_eo k) (.cons (S_IsToken_eo k) (.cons (S_l11Fields_eo k) (.nil cod))))
def S_IsRequest_b0_L (x : Int × (List UInt8) × (List UInt8) × (List UInt8) × (List IField) × Unit) (o : Oc (Unit) (Bool)) (Q : Ex → VSt D → Prop) (R : VR D → Prop) : Prop := ocP o (fun v0 => Q .normal (mkSt ⟨[(1, .ptr 1 0)], [(1, .var [.hole, .hole, .hole, .hole])]⟩ [.str x.2.1, .str x.2.2.1, .str x.2.2.2.1, .sl 107 x.2.2.2.2.1])) (fun w0 => R (.p (.c (.bool w0))))
def S_IsRequest_b0_cut (k : Nat) : Cut D := cutS ⟨[(1, .ptr 1 0), (3, .hole)], [(1, .var [.hole, .hole, .hole, .hole])]⟩ [.ki .i64, .ks, .ks, .ks, .kl 107] (fun (x : Int × (List UInt8) × (List UInt8) × (List UInt8) × (List IField) × Unit) => S_IsRequest_b0 k k x.1 x.2.1 x.2.2.1 x.2.2.2.1 x.2.2.2.2.1) S_IsRequest_b0_L
def S_IsRequest_b0_cu (k : Nat) : Cuts D := ⟨[], []⟩
theorem S_IsRequest_b0_ok (k : Nat) : CutFor X S_IsRequest_pl k Go.Proofs.Tryz.f35.results.toList (S_IsRequest_b0_cut k) (sub (bodyOf Go.Proofs.Tryz.f35) [1, 0, 1]) :=
  loopCut_s (X := X) (sg := [.ki .i64, .ks, .ks, .ks, .kl 107]) (cu := S_IsRequest_b0_cu k) (cl := S_IsRequest_cl k) (tys := [[0]]) (id := 0) (c := sub (bodyOf Go.Proofs.Tryz.f35) [1, 0, 1, 0, 0]) (f := fun n => fun (x : Int × (List UInt8) × (List UInt8) × (List UInt8) × (List IField) × Unit) => S_IsRequest_b0 k n x.1 x.2.1 x.2.2.1 x.2.2.2.1 x.2.2.2.2.1) (S_IsRequest_ck k) (cutOK_of (l := []) (by kernel_rfl) trivial) (fun _ => rfl) (fun n x Q R h => by
    simp only [S_IsRequest_b0, optK_bind, optK_bif, optK_pure, optK_none, optK_oc, optK_guardT, optK_map] at h
    refine hold_of h ?_
    kernel_rfl) (by kernel_rfl)
def S_IsRequest_b2_L (x : Int × (List UInt8) × (List UInt8) × (List UInt8) × (List IField) × Unit) (o : Oc (Unit) (Bool)) (Q : Ex → VSt D → Prop) (R : VR D → Prop) : Prop := ocP o (fun v0 => Q .normal (mkSt ⟨[(1, .ptr 1 0)], [(1, .var [.hole, .hole, .hole, .hole])]⟩ [.str x.2.1, .str x.2.2.1, .str x.2.2.2.1, .sl 107 x.2.2.2.2.1])) (fun w0 => R (.p (.c (.bool w0))))
def S_IsRequest_b2_cut (k : Nat) : Cut D := cutS ⟨[(1, .ptr 1 0), (4, .hole)], [(1, .var [.hole, .hole, .hole, .hole])]⟩ [.ki .i64, .ks, .ks, .ks, .kl 107] (fun (x : Int × (List UInt8) × (List UInt8) × (List UInt8) × (List IField) × Unit) => S_IsRequest_b2 k k x.1 x.2.1 x.2.2.1 x.2.2.2.1 x.2.2.2.2.1) S_IsRequest_b2_L
def S_IsRequest_b2_cu (k : Nat) : Cuts D := ⟨[], []⟩
theorem S_IsRequest_b2_ok (k : Nat) : CutFor X S_IsRequest_pl k Go.Proofs.Tryz.f35.results.toList (S_IsRequest_b2_cut k) (sub (bodyOf Go.Proofs.Tryz.f35) [1, 1, 0, 1]) :=
  loopCut_s (X := X) (sg := [.ki .i64, .ks, .ks, .ks, .kl 107]) (cu := S_IsRequest_b2_cu k) (cl := S_IsRequest_cl k) (tys := [[0]]) (id := 2) (c := sub (bodyOf Go.Proofs.Tryz.f35) [1, 1, 0, 1, 0, 0]) (f := fun n => fun (x : Int × (List UInt8) × (List UInt8) × (List UInt8) × (List IField) × Unit) => S_IsRequest_b2 k n x.1 x.2.1 x.2.2.1 x.2.2.2.1 x.2.2.2.2.1) (S_IsRequest_ck k) (cutOK_of (l := []) (by kernel_rfl) trivial) (fun _ => rfl) (fun n x Q R h => by
    simp only [S_IsRequest_b2, optK_bind, optK_bif, optK_pure, optK_none, optK_oc, optK_guardT, optK_map] at h
    refine hold_of h ?_
    kernel_rfl) (by kernel_rfl)
def S_IsRequest_b4_L (x : Int × (List UInt8) × (List UInt8) × (List UInt8) × (List IField) × Unit) (o : Oc (Unit) (Bool)) (Q : Ex → VSt D → Prop) (R : VR D → Prop) : Prop := ocP o (fun v0 => Q .normal (mkSt ⟨[(1, .ptr 1 0)], [(1, .var [.hole, .hole, .hole, .hole])]⟩ [.str x.2.1, .str x.2.2.1, .str x.2.2.2.1, .sl 107 x.2.2.2.2.1])) (fun w0 => R (.p (.c (.bool w0))))
def S_IsRequest_b4_cut (k : Nat) : Cut D := cutS ⟨[(1, .ptr 1 0), (6, .hole)], [(1, .var [.hole, .hole, .hole, .hole])]⟩ [.ki .i64, .ks, .ks, .ks, .kl 107] (fun (x : Int × (List UInt8) × (List UInt8) × (List UInt8) × (List IField) × Unit) => S_IsRequest_b4 k k x.1 x.2.1 x.2.2.1 x.2.2.2.1 x.2.2.2.2.1) S_IsRequest_b4_L
def S_IsRequest_b4_cu (k : Nat) : Cuts D := ⟨[], []⟩
theorem S_IsRequest_b4_ok (k : Nat) : CutFor X S_IsRequest_pl k Go.Proofs.Tryz.f35.results.toList (S_IsRequest_b4_cut k) (sub (bodyOf Go.Proofs.Tryz.f35) [1, 1, 1, 0, 1]) :=
  loopCut_s (X := X) (sg := [.ki .i64, .ks, .ks, .ks, .kl 107]) (cu := S_IsRequest_b4_cu k) (cl := S_IsRequest_cl k) (tys := [[0]]) (id := 4) (c := sub (bodyOf Go.Proofs.Tryz.f35) [1, 1, 1, 0, 1, 0, 0]) (f := fun n => fun (x : Int × (List UInt8) × (List UInt8) × (List UInt8) × (List IField) × Unit) => S_IsRequest_b4 k n x.1 x.2.1 x.2.2.1 x.2.2.2.1 x.2.2.2.2.1) (S_IsRequest_ck k) (cutOK_of (l := []) (by kernel_rfl) trivial) (fun _ => rfl) (fun n x Q R h => by
    simp only [S_IsRequest_b4, optK_bind, optK_bif, optK_pure, optK_none, optK_oc, optK_guardT, optK_map] at h
    refine hold_of h ?_
    kernel_rfl) (by kernel_rfl)
def S_IsRequest_cu (k : Nat) : Cuts D := ⟨[(0, some (S_IsRequest_b0_cut k)), (2, some (S_IsRequest_b2_cut k)), (4, some (S_IsRequest_b4_cut k))], []⟩
def S_IsRequest_ar : List Ar := [.a [.ks, .ks, .ks, .kl 107]]
def S_IsRequest_f (k : Nat) (x : TupA D S_IsRequest_ar) : Option (Bool) := S_IsRequest k (⟨x.1.1, x.1.2.1, x.1.2.2.1, x.1.2.2.2.1⟩ : IRequest)
def S_IsRequest_vr (r : Bool) : VR D := .p (.c (.bool r))
theorem S_IsRequest_ok (k : Nat) : Does P X 35 S_IsRequest_ar (S_IsRequest_f k) S_IsRequest_vr :=
  does_of (body := bodyOf Go.Proofs.Tryz.f35) (pl := S_IsRequest_pl) (k := k) (cu := S_IsRequest_cu k) (tys := [[0]]) (S_IsRequest_ck k) ctx mixed Go.Proofs.Tryz.func35 (by kernel_rfl) (by kernel_rfl) (cutOK_of (l := [(S_IsRequest_b0_cut k, sub (bodyOf Go.Proofs.Tryz.f35) [1, 0, 1]), (S_IsRequest_b2_cut k, sub (bodyOf Go.Proofs.Tryz.f35) [1, 1, 0, 1]), (S_IsRequest_b4_cut k, sub (bodyOf Go.Proofs.Tryz.f35) [1, 1, 1, 0, 1])]) (by kernel_rfl) ⟨S_IsRequest_b0_ok k, S_IsRequest_b2_ok k, S_IsRequest_b4_ok k, trivial⟩) fun x R h => by
    simp only [S_IsRequest_f, S_IsRequest, optK_bind, optK_bif, optK_pure, optK_none, optK_oc, optK_guardT, optK_map] at h
    refine hold_of h ?_
    kernel_rfl
def S_IsRequest_en (k : Nat) : Entry D := entS S_IsRequest_ar (S_IsRequest_f k) S_IsRequest_vr
theorem S_IsRequest_eo (k : Nat) : EntryOK X 35 (S_IsRequest_en k) := (S_IsRequest_ok k).en rfl
def S_KeyOf_pl : Plan := ⟨[(0, [(1, none)]), (1, [(1, none), (4, none), (5, none)]), (2, [(1, none), (4, none), (18, none)]), (3, [(2, none), (3, none)]), (4, [(2, none), (3, none)])],
  [],
  [(18, ([], [(1, none), (4, none)]))]⟩
def S_KeyOf_cl (k : Nat) : Calls' D := ⟨[(34, S_NormalTarget_en k), (35, S_IsRequest_en k)], [], [], [], []⟩
theorem S_KeyOf_ck (k : Nat) : CallsOK X (S_KeyOf_cl k) := .cons (S_NormalTarget_eo k) (.cons (S_IsRequest_eo k) (.nil cod))
def S_KeyOf_cu (k : Nat) : Cuts D := ⟨[], []⟩
def S_KeyOf_ar : List Ar := [.a [.ks, .ks, .ks, .kl 107]]
def S_KeyOf_f (k : Nat) (x : TupA D S_KeyOf_ar) : Option ((List UInt8) × Bool) := S_KeyOf k (⟨x.1.1, x.1.2.1, x.1.2.2.1, x.1.2.2.2.1⟩ : IRequest)
def S_KeyOf_vr (r : (List UInt8) × Bool) : VR D := .tup [.c (.str r.1), .c (.bool r.2)]
theorem S_KeyOf_ok (k : Nat) : Does P X 11 S_KeyOf_ar (S_KeyOf_f k) S_KeyOf_vr :=
  does_of (body := bodyOf Go.Proofs.Tryz.f11) (pl := S_KeyOf_pl) (k := k) (cu := S_KeyOf_cu k) (tys := [[0], [0]]) (S_KeyOf_ck k) ctx mixed Go.Proofs.Tryz.func11 (by kernel_rfl) (by kernel_rfl) (cutOK_of (l := []) (by kernel_rfl) trivial) fun x R h => by
    simp only [S_KeyOf_f, S_KeyOf, optK_bind, optK_bif, optK_pure, optK_none, optK_oc, optK_guardT, optK_map] at h
    refine hold_of h ?_
    kernel_rfl
def S_KeyOf_en (k : Nat) : Entry D := entS S_KeyOf_ar (S_KeyOf_f k) S_KeyOf_vr
theorem S_KeyOf_eo (k : Nat) : EntryOK X 11 (S_KeyOf_en k) := (S_KeyOf_ok k).en rfl
def strings_Cut_ar : List Ar := [.c (.ks), .c (.ks)]
def strings_Cut_f (k : Nat) (x : TupA D strings_Cut_ar) : Option ((List UInt8) × (List UInt8) × Bool) := strings_Cut k x.1 x.2.1
def strings_Cut_vr (r : (List UInt8) × (List UInt8) × Bool) : VR D := .tup [.c (.str r.1), .c (.str r.2.1), .c (.bool r.2.2)]
theorem strings_Cut_ok (k : Nat) : Does P X 141 strings_Cut_ar (strings_Cut_f k) strings_Cut_vr := does_cut ⟨Go.Proofs.Tryz.f141, Go.Proofs.Tryz.func141, by kernel_rfl, by kernel_rfl⟩ (fun s sep w hg hs => let ⟨m, hm⟩ := hg; Go.Proofs.Tryz.strings_Cut s sep m w hs hm)
def strings_Cut_en (k : Nat) : Entry D := entS strings_Cut_ar (strings_Cut_f k) strings_Cut_vr
theorem strings_Cut_eo (k : Nat) : EntryOK X 141 (strings_Cut_en k) := (strings_Cut_ok k).en rfl
def I_SplitTarget_pl : Plan := ⟨[(0, [(0, none)]), (1, [(2, none), (3, none), (4, none)])],
  [],
  []⟩
def I_SplitTarget_cl (k : Nat) : Calls' D := ⟨[(141, strings_Cut_en k)], [], [], [], []⟩
theorem I_SplitTarget_ck (k : Nat) : CallsOK X (I_SplitTarget_cl k) := .cons (strings_Cut_eo k) (.nil cod)
def I_SplitTarget_cu (k : Nat) : Cuts D := ⟨[], []⟩
def I_SplitTarget_ar : List Ar := [.c (.ks)]
def I_SplitTarget_f (k : Nat) (x : TupA D I_SplitTarget_ar) : Option ((List UInt8) × (List UInt8) × Bool) := I_SplitTarget k x.1
def I_SplitTarget_vr (r : (List UInt8) × (List UInt8) × Bool) : VR D := .tup [.c (.str r.1), .c (.str r.2.1), .c (.bool r.2.2)]
theorem I_SplitTarget_ok (k : Nat) : Does P X 82 I_SplitTarget_ar (I_SplitTarget_f k) I_SplitTarget_vr :=
  does_of (body := bodyOf Go.Proofs.Tryz.f82) (pl := I_SplitTarget_pl) (k := k) (cu := I_SplitTarget_cu k) (tys := [[0], [0], [0]]) (I_SplitTarget_ck k) ctx mixed Go.Proofs.Tryz.func82 (by kernel_rfl) (by kernel_rfl) (cutOK_of (l := []) (by kernel_rfl) trivial) fun x R h => by
    simp only [I_SplitTarget_f, I_SplitTarget, optK_bind, optK_bif, optK_pure, optK_none, optK_oc, optK_guardT, optK_map] at h
    refine hold_of h ?_
    kernel_rfl
def I_SplitTarget_en (k : Nat) : Entry D := entS I_SplitTarget_ar (I_SplitTarget_f k) I_SplitTarget_vr
theorem I_SplitTarget_eo (k : Nat) : EntryOK X 82 (I_SplitTarget_en k) := (I_SplitTarget_ok k).en rfl
def strings_IndexByte_ar : List Ar := [.c (.ks), .c (.ki .u8)]
def strings_IndexByte_f (k : Nat) (x : TupA D strings_IndexByte_ar) : Option (Int) := strings_IndexByte k x.1 x.2.1
def strings_IndexByte_vr (r : Int) : VR D := .p (.c (.int .i64 r))
theorem strings_IndexByte_ok (k : Nat) : Does P X 143 strings_IndexByte_ar (strings_IndexByte_f k) strings_IndexByte_vr := does_indexByte ⟨Go.Proofs.Tryz.f143, Go.Proofs.Tryz.func143, by kernel_rfl, by kernel_rfl⟩ (fun s c w hg => Go.Proofs.Tryz.strings_IndexByte s c w)
def strings_IndexByte_en (k : Nat) : Entry D := entS strings_IndexByte_ar (strings_IndexByte_f k) strings_IndexByte_vr
theorem strings_IndexByte_eo (k : Nat) : EntryOK X 143 (strings_IndexByte_en k) := (strings_IndexByte_ok k).en rfl
def I_hexDigit_pl : Plan := ⟨[(0, [(0, none)]), (1, [(0, none), (8, none)]), (2, [(0, none)]), (3, [(2, none)])],
  [],
  [(8, ([(0, none)], [(0, none)]))]⟩
def I_hexDigit_cl (k : Nat) : Calls' D := ⟨[(143, strings_IndexByte_en k)], [], [], [], []⟩
theorem I_hexDigit_ck (k : Nat) : CallsOK X (I_hexDigit_cl k) := .cons (strings_IndexByte_eo k) (.nil cod)
def I_hexDigit_c8_L (x : Int × Bool × Unit) (o : Int) (Q : Ex → VSt D → Prop) (R : VR D → Prop) : Prop := Q .normal (mkSt ⟨[(0, .hole)], []⟩ [.int .u8 o])
def I_hexDigit_c8_cut (k : Nat) : Cut D := cutS ⟨[(0, .hole), (8, .hole)], []⟩ [.ki .u8, .kb] (fun (x : Int × Bool × Unit) => I_hexDigit_c8 k x.1 x.2.1) I_hexDigit_c8_L
def I_hexDigit_c8_cu (k : Nat) : Cuts D := ⟨[], []⟩
theorem I_hexDigit_c8_ok (k : Nat) : CutFor X I_hexDigit_pl k Go.Proofs.Tryz.f142.results.toList (I_hexDigit_c8_cut k) (sub (bodyOf Go.Proofs.Tryz.f142) [1, 0, 1]) :=
  joinCut_s (X := X) (sg := [.ki .u8, .kb]) (cu := I_hexDigit_c8_cu k) (cl := I_hexDigit_cl k) (tys := [[0]]) (I_hexDigit_ck k) (cutOK_of (l := []) (by kernel_rfl) trivial) fun x Q R h => by
    simp only [I_hexDigit_c8, optK_bind, optK_bif, optK_pure, optK_none, optK_oc, optK_guardT, optK_map] at h
    refine hold_of h ?_
    kernel_rfl
def I_hexDigit_cu (k : Nat) : Cuts D := ⟨[], [(8, some (I_hexDigit_c8_cut k))]⟩
def I_hexDigit_ar : List Ar := [.c (.ki .u8)]
def I_hexDigit_f (k : Nat) (x : TupA D I_hexDigit_ar) : Option (Int) := I_hexDigit k x.1
def I_hexDigit_vr (r : Int) : VR D := .p (.c (.int .i64 r))
theorem I_hexDigit_ok (k : Nat) : Does P X 142 I_hexDigit_ar (I_hexDigit_f k) I_hexDigit_vr :=
  does_of (body := bodyOf Go.Proofs.Tryz.f142) (pl := I_hexDigit_pl) (k := k) (cu := I_hexDigit_cu k) (tys := [[0]]) (I_hexDigit_ck k) ctx mixed Go.Proofs.Tryz.func142 (by kernel_rfl) (by kernel_rfl) (cutOK_of (l := [(I_hexDigit_c8_cut k, sub (bodyOf Go.Proofs.Tryz.f142) [1, 0, 1])]) (by kernel_rfl) ⟨I_hexDigit_c8_ok k, trivial⟩) fun x R h => by
    simp only [I_hexDigit_f, I_hexDigit, optK_bind, optK_bif, optK_pure, optK_none, optK_oc, optK_guardT, optK_map] at h
    refine hold_of h ?_
    kernel_rfl
def I_hexDigit_en (k : Nat) : Entry D := entS I_hexDigit_ar (I_hexDigit_f k) I_hexDigit_vr
theorem I_hexDigit_eo (k : Nat) : EntryOK X 142 (I_hexDigit_en k) := (I_hexDigit_ok k).en rfl
def I_decodedTarget_pl : Plan := ⟨[(0, [(0, none)]), (1, [(0, none), (4, some 5)]), (2, [(0, none), (4, some 5), (5, none)]), (3, [(0, none), (4, some 5), (5, none), (13, none)]), (4, [(0, none), (4, some 5), (5, none)]), (5, [(0, none), (4, some 5), (5, none), (19, none)]), (6, [(0, none), (4, some 5), (5, none)]), (7, [(0, none), (4, some 5), (5, none), (46, none)]), (8, [(2, none), (3, none)]), (9, [(0, none), (4, some 5), (5, none), (6, none), (7, none)]), (10, [(0, none), (4, some 5), (5, none), (6, none), (7, none), (8, none)]), (11, [(0, none), (4, some 5), (5, none), (6, none), (7, none), (8, none), (88, none)]), (12, [(0, none), (4, some 5), (5, none)]), (13, [(0, none), (4, some 5), (5, none)]), (14, [(0, none), (4, some 5), (5, none)]), (15, [(2, none), (3, none)])],
  [(0, [(4, some 5)]), (1, [(0, none), (4, some 5), (5, none)])],
  [(13, ([(0, none), (4, some 5), (5, none)], [(4, some 5)])), (19, ([(0, none), (4, some 5), (5, none)], [(0, none), (4, some 5), (5, none)])), (46, ([], [(0, none), (4, some 5), (5, none)])), (88, ([(0, none), (4, some 5), (5, none), (8, none)], [(0, none), (4, some 5), (5, none), (6, none), (7, none)]))]⟩
def I_decodedTarget_cl (k : Nat) : Calls' D := ⟨[(142, I_hexDigit_en k), (143, strings_IndexByte_en k)], [], [], [], []⟩
theorem I_decodedTarget_ck (k : Nat) : CallsOK X (I_decodedTarget_cl k) := .cons (I_hexDigit_eo k) (.cons (strings_IndexByte_eo k) (.nil cod))
def I_decodedTarget_c88_L (x : (List UInt8) × Int × Int × Int × Int × Bool × (List Int) × Unit) (o : (List Int)) (Q : Ex → VSt D → Prop) (R : VR D → Prop) : Prop := Q .normal (mkSt ⟨[(0, .hole), (4, .ref 500004), (5, .hole)], [(500004, .row)]⟩ [.str x.1, .int .i64 x.2.1, .sl 5 o])
def I_decodedTarget_c88_cut (k : Nat) : Cut D := cutS ⟨[(0, .hole), (4, .ref 500004), (5, .hole), (6, .hole), (7, .hole), (8, .hole), (88, .hole)], [(500004, .row)]⟩ [.ks, .ki .i64, .ki .i64, .ki .i64, .ki .u8, .kb, .kl 5] (fun (x : (List UInt8) × Int × Int × Int × Int × Bool × (List Int) × Unit) => I_decodedTarget_c88 k x.1 x.2.1 x.2.2.1 x.2.2.2.1 x.2.2.2.2.1 x.2.2.2.2.2.1 x.2.2.2.2.2.2.1) I_decodedTarget_c88_L
def I_decodedTarget_c88_cu (k : Nat) : Cuts D := ⟨[], []⟩
theorem I_decodedTarget_c88_ok (k : Nat) : CutFor X I_decodedTarget_pl k Go.Proofs.Tryz.f83.results.toList (I_decodedTarget_c88_cut k) (sub (bodyOf Go.Proofs.Tryz.f83) [1, 1, 0, 1, 0, 0, 1, 0, 0, 1, 1, 1, 1, 0, 1]) :=
  joinCut_s (X := X) (sg := [.ks, .ki .i64, .ki .i64, .ki .i64, .ki .u8, .kb, .kl 5]) (cu := I_decodedTarget_c88_cu k) (cl := I_decodedTarget_cl k) (tys := [[0], [0]]) (I_decodedTarget_ck k) (cutOK_of (l := []) (by kernel_rfl) trivial) fun x Q R h => by
    simp only [I_decodedTarget_c88, optK_bind, optK_bif, optK_pure, optK_none, optK_oc, optK_guardT, optK_map] at h
    refine hold_of h ?_
    kernel_rfl
def I_decodedTarget_b1_L (x : (List UInt8) × Int × (List Int) × Unit) (o : Oc (Int × (List Int)) ((List UInt8) × Bool)) (Q : Ex → VSt D → Prop) (R : VR D → Prop) : Prop := ocP o (fun v0 => Q .normal (mkSt ⟨[(0, .hole), (4, .ref 500004), (5, .hole)], [(500004, .row)]⟩ [.str x.1, .int .i64 v0.1, .sl 5 v0.2])) (fun w0 => R (.tup [.c (.str w0.1), .c (.bool w0.2)]))
def I_decodedTarget_b1_cut (k : Nat) : Cut D := cutS ⟨[(0, .hole), (4, .ref 500004), (5, .hole)], [(500004, .row)]⟩ [.ks, .ki .i64, .kl 5] (fun (x : (List UInt8) × Int × (List Int) × Unit) => I_decodedTarget_b1 k x.1 x.2.1 x.2.2.1) I_decodedTarget_b1_L
def I_decodedTarget_b1_cu (k : Nat) : Cuts D := ⟨[], [(88, some (I_decodedTarget_c88_cut k))]⟩
theorem I_decodedTarget_b1_ok (k : Nat) : CutFor X I_decodedTarget_pl k Go.Proofs.Tryz.f83.results.toList (I_decodedTarget_b1_cut k) (sub (bodyOf Go.Proofs.Tryz.f83) [1, 1, 0, 1, 0, 0, 1, 0]) :=
  joinCut_s (X := X) (sg := [.ks, .ki .i64, .kl 5]) (cu := I_decodedTarget_b1_cu k) (cl := I_decodedTarget_cl k) (tys := [[0], [0]]) (I_decodedTarget_ck k) (cutOK_of (l := [(I_decodedTarget_c88_cut k, sub (bodyOf Go.Proofs.Tryz.f83) [1, 1, 0, 1, 0, 0, 1, 0, 0, 1, 1, 1, 1, 0, 1])]) (by kernel_rfl) ⟨I_decodedTarget_c88_ok k, trivial⟩) fun x Q R h => by
    simp only [I_decodedTarget_b1, optK_bind, optK_bif, optK_pure, optK_none, optK_oc, optK_guardT, optK_map] at h
    refine hold_of h ?_
    kernel_rfl
def I_decodedTarget_b0_L (x : (List UInt8) × Int × (List Int) × Unit) (o : Oc ((List Int)) ((List UInt8) × Bool)) (Q : Ex → VSt D → Prop) (R : VR D → Prop) : Prop := ocP o (fun v0 => Q .normal (mkSt ⟨[(4, .ref 500004)], [(500004, .row)]⟩ [.sl 5 v0])) (fun w0 => R (.tup [.c (.str w0.1), .c (.bool w0.2)]))
def I_decodedTarget_b0_cut (k : Nat) : Cut D := cutS ⟨[(0, .hole), (4, .ref 500004), (5, .hole)], [(500004, .row)]⟩ [.ks, .ki .i64, .kl 5] (fun (x : (List UInt8) × Int × (List Int) × Unit) => I_decodedTarget_b0 k k x.1 x.2.1 x.2.2.1) I_decodedTarget_b0_L
def I_decodedTarget_b0_cu (k : Nat) : Cuts D := ⟨[(1, some (I_decodedTarget_b1_cut k))], []⟩
theorem I_decodedTarget_b0_ok (k : Nat) : CutFor X I_decodedTarget_pl k Go.Proofs.Tryz.f83.results.toList (I_decodedTarget_b0_cut k) (sub (bodyOf Go.Proofs.Tryz.f83) [1, 1, 0, 1]) :=
  loopCut_s (X := X) (sg := [.ks, .ki .i64, .kl 5]) (cu := I_decodedTarget_b0_cu k) (cl := I_decodedTarget_cl k) (tys := [[0], [0]]) (id := 0) (c := sub (bodyOf Go.Proofs.Tryz.f83) [1, 1, 0, 1, 0, 0]) (f := fun n => fun (x : (List UInt8) × Int × (List Int) × Unit) => I_decodedTarget_b0 k n x.1 x.2.1 x.2.2.1) (I_decodedTarget_ck k) (cutOK_of (l := [(I_decodedTarget_b1_cut k, sub (bodyOf Go.Proofs.Tryz.f83) [1, 1, 0, 1, 0, 0, 1, 0])]) (by kernel_rfl) ⟨I_decodedTarget_b1_ok k, trivial⟩) (fun _ => rfl) (fun n x Q R h => by
    simp only [I_decodedTarget_b0, optK_bind, optK_bif, optK_pure, optK_none, optK_oc, optK_guardT, optK_map] at h
    refine hold_of h ?_
    kernel_rfl) (by kernel_rfl)
def I_decodedTarget_cu (k : Nat) : Cuts D := ⟨[(0, some (I_decodedTarget_b0_cut k))], []⟩
def I_decodedTarget_ar : List Ar := [.c (.ks)]
def I_decodedTarget_f (k : Nat) (x : TupA D I_decodedTarget_ar) : Option ((List UInt8) × Bool) := I_decodedTarget k x.1
def I_decodedTarget_vr (r : (List UInt8) × Bool) : VR D := .tup [.c (.str r.1), .c (.bool r.2)]
theorem I_decodedTarget_ok (k : Nat) : Does P X 83 I_decodedTarget_ar (I_decodedTarget_f k) I_decodedTarget_vr :=
  does_of (body := bodyOf Go.Proofs.Tryz.f83) (pl := I_decodedTarget_pl) (k := k) (cu := I_decodedTarget_cu k) (tys := [[0], [0]]) (I_decodedTarget_ck k) ctx mixed Go.Proofs.Tryz.func83 (by kernel_rfl) (by kernel_rfl) (cutOK_of (l := [(I_decodedTarget_b0_cut k, sub (bodyOf Go.Proofs.Tryz.f83) [1, 1, 0, 1])]) (by kernel_rfl) ⟨I_decodedTarget_b0_ok k, trivial⟩) fun x R h => by
    simp only [I_decodedTarget_f, I_decodedTarget, optK_bind, optK_bif, optK_pure, optK_none, optK_oc, optK_guardT, optK_map] at h
    refine hold_of h ?_
    kernel_rfl
def I_decodedTarget_en (k : Nat) : Entry D := entS I_decodedTarget_ar (I_decodedTarget_f k) I_decodedTarget_vr
theorem I_decodedTarget_eo (k : Nat) : EntryOK X 83 (I_decodedTarget_en k) := (I_decodedTarget_ok k).en rfl
def internal_stringslite_HasPrefix_pl : Plan := ⟨[(0, [(0, none), (1, none)]), (1, [(4, none)])],
  [],
  []⟩
def internal_stringslite_HasPrefix_cl (k : Nat) : Calls' D := ⟨[], [], [], [], []⟩
theorem internal_stringslite_HasPrefix_ck (k : Nat) : CallsOK X (internal_stringslite_HasPrefix_cl k) := .nil cod
def internal_stringslite_HasPrefix_cu (k : Nat) : Cuts D := ⟨[], []⟩
def internal_stringslite_HasPrefix_ar : List Ar := [.c (.ks), .c (.ks)]
def internal_stringslite_HasPrefix_f (k : Nat) (x : TupA D internal_stringslite_HasPrefix_ar) : Option (Bool) := internal_stringslite_HasPrefix k x.1 x.2.1
def internal_stringslite_HasPrefix_vr (r : Bool) : VR D := .p (.c (.bool r))
theorem internal_stringslite_HasPrefix_ok (k : Nat) : Does P X 144 internal_stringslite_HasPrefix_ar (internal_stringslite_HasPrefix_f k) internal_stringslite_HasPrefix_vr :=
  does_of (body := bodyOf Go.Proofs.Tryz.f144) (pl := internal_stringslite_HasPrefix_pl) (k := k) (cu := internal_stringslite_HasPrefix_cu k) (tys := [[0]]) (internal_stringslite_HasPrefix_ck k) ctx mixed Go.Proofs.Tryz.func144 (by kernel_rfl) (by kernel_rfl) (cutOK_of (l := []) (by kernel_rfl) trivial) fun x R h => by
    simp only [internal_stringslite_HasPrefix_f, internal_stringslite_HasPrefix, optK_bind, optK_bif, optK_pure, optK_none, optK_oc, optK_guardT, optK_map] at h
    refine hold_of h ?_
    kernel_rfl
def internal_stringslite_HasPrefix_en (k : Nat) : Entry D := entS internal_stringslite_HasPrefix_ar (internal_stringslite_HasPrefix_f k) internal_stringslite_HasPrefix_vr
theorem internal_stringslite_HasPrefix_eo (k : Nat) : EntryOK X 144 (internal_stringslite_HasPrefix_en k) := (internal_stringslite_HasPrefix_ok k).en rfl
def strings_HasPrefix_pl : Plan := ⟨[(0, [(0, none), (1, none)]), (1, [(4, none)])],
  [],
  []⟩
def strings_HasPrefix_cl (k : Nat) : Calls' D := ⟨[(144, internal_stringslite_HasPrefix_en k)], [], [], [], []⟩
theorem strings_HasPrefix_ck (k : Nat) : CallsOK X (strings_HasPrefix_cl k) := .cons (internal_stringslite_HasPrefix_eo k) (.nil cod)
def strings_HasPrefix_cu (k : Nat) : Cuts D := ⟨[], []⟩
def strings_HasPrefix_ar : List Ar := [.c (.ks), .c (.ks)]
def strings_HasPrefix_f (k : Nat) (x : TupA D strings_HasPrefix_ar) : Option (Bool) := strings_HasPrefix k x.1 x.2.1
def strings_HasPrefix_vr (r : Bool) : VR D := .p (.c (.bool r))
theorem strings_HasPrefix_ok (k : Nat) : Does P X 84 strings_HasPrefix_ar (strings_HasPrefix_f k) strings_HasPrefix_vr :=
  does_of (body := bodyOf Go.Proofs.Tryz.f84) (pl := strings_HasPrefix_pl) (k := k) (cu := strings_HasPrefix_cu k) (tys := [[0]]) (strings_HasPrefix_ck k) ctx mixed Go.Proofs.Tryz.func84 (by kernel_rfl) (by kernel_rfl) (cutOK_of (l := []) (by kernel_rfl) trivial) fun x R h => by
    simp only [strings_HasPrefix_f, strings_HasPrefix, optK_bind, optK_bif, optK_pure, optK_none, optK_oc, optK_guardT, optK_map] at h
    refine hold_of h ?_
    kernel_rfl
def strings_HasPrefix_en (k : Nat) : Entry D := entS strings_HasPrefix_ar (strings_HasPrefix_f k) strings_HasPrefix_vr
theorem strings_HasPrefix_eo (k : Nat) : EntryOK X 84 (strings_HasPrefix_en k) := (strings_HasPrefix_ok k).en rfl
def strings_Split_ar : List Ar := [.c (.ks), .c (.ks)]
def strings_Split_f (k : Nat) (x : TupA D strings_Split_ar) : Option ((List (List UInt8))) := strings_Split k x.1 x.2.1
def strings_Split_vr (r : (List (List UInt8))) : VR D := .p (.c (.sl 9 r))
theorem strings_Split_ok (k : Nat) : Does P X 87 strings_Split_ar (strings_Split_f k) strings_Split_vr := does_split (P := P) (D := D) (X := X) (el := 9) ⟨Go.Proofs.Tryz.f87, Go.Proofs.Tryz.func87, by kernel_rfl, by kernel_rfl⟩ (fun (s : List UInt8) => s) (fun l s => splitO l s) (fun _ => rfl) (by kernel_rfl) (fun l s => (split_id l s).symm) (fun s sep w hg h1 h2 => let ⟨m, hm⟩ := hg; Go.Proofs.Tryz.strings_Split s sep m w h1 hm h2) (fun s sep h => Go.Lib.splitB_all sep h 0 _ s rfl)
def strings_Split_en (k : Nat) : Entry D := entS strings_Split_ar (strings_Split_f k) strings_Split_vr
theorem strings_Split_eo (k : Nat) : EntryOK X 87 (strings_Split_en k) := (strings_Split_ok k).en rfl
def I_cleanComponents_pl : Plan := ⟨[(0, [(0, some 9)]), (1, [(0, some 9), (3, some 9)]), (2, [(0, some 9), (3, some 9), (7, some 9), (8, none), (9, none)]), (3, [(0, some 9), (3, some 9), (7, some 9), (8, none), (9, none), (10, none)]), (4, [(0, some 9), (3, some 9), (4, none), (5, none), (7, some 9), (8, none), (9, none)]), (5, [(0, some 9), (3, some 9), (4, none), (5, none), (7, some 9), (8, none), (9, none), (20, none)]), (6, [(0, some 9), (3, some 9), (4, none), (5, none), (7, some 9), (8, none), (9, none)]), (7, [(0, some 9), (3, some 9), (4, none), (5, none), (7, some 9), (8, none), (9, none), (26, none)]), (8, [(0, some 9), (3, some 9), (7, some 9), (8, none), (9, none)]), (9, [(0, some 9), (3, some 9), (7, some 9), (8, none), (9, none), (37, none)]), (10, [(0, some 9), (3, some 9), (7, some 9), (8, none), (9, none)]), (11, [(0, some 9), (3, some 9), (7, some 9), (8, none), (9, none)]), (12, [(2, some 9)])],
  [(0, [(3, some 9)]), (1, [(0, some 9), (3, some 9), (7, some 9), (8, none), (9, none)]), (2, [(0, some 9), (3, some 9), (7, some 9), (8, none), (9, none)])],
  [(10, ([(0, some 9), (3, some 9), (7, some 9), (8, none), (9, none)], [(3, some 9)])), (20, ([(0, some 9), (3, some 9), (4, none), (5, none), (7, some 9), (8, none), (9, none)], [(0, some 9), (3, some 9), (4, none), (5, none), (7, some 9), (8, none), (9, none)])), (26, ([(0, some 9), (3, some 9), (5, none), (7, some 9), (8, none), (9, none)], [(0, some 9), (3, some 9), (4, none), (7, some 9), (8, none), (9, none)])), (37, ([(0, some 9), (3, some 9), (7, some 9), (8, none), (9, none)], [(0, some 9), (3, some 9), (7, some 9), (8, none), (9, none)]))]⟩
def I_cleanComponents_cl (k : Nat) : Calls' D := ⟨[], [], [], [], []⟩
theorem I_cleanComponents_ck (k : Nat) : CallsOK X (I_cleanComponents_cl k) := .nil cod
def I_cleanComponents_c20_L (x : (List (List UInt8)) × Int × (List UInt8) × (List (List UInt8)) × Int × Int × Bool × (List (List UInt8)) × Unit) (o : (List (List UInt8))) (Q : Ex → VSt D → Prop) (R : VR D → Prop) : Prop := Q .normal (mkSt ⟨[(0, .hole), (3, .ref 500003), (4, .hole), (5, .hole), (7, .hole), (8, .hole), (9, .hole)], [(500003, .row)]⟩ [.sl 9 x.1, .int .i64 x.2.1, .str x.2.2.1, .sl 9 x.2.2.2.1, .int .i64 x.2.2.2.2.1, .int .i64 x.2.2.2.2.2.1, .sl 9 o])
def I_cleanComponents_c20_cut (k : Nat) : Cut D := cutS ⟨[(0, .hole), (3, .ref 500003), (4, .hole), (5, .hole), (7, .hole), (8, .hole), (9, .hole), (20, .hole)], [(500003, .row)]⟩ [.kl 9, .ki .i64, .ks, .kl 9, .ki .i64, .ki .i64, .kb, .kl 9] (fun (x : (List (List UInt8)) × Int × (List UInt8) × (List (List UInt8)) × Int × Int × Bool × (List (List UInt8)) × Unit) => I_cleanComponents_c20 k x.1 x.2.1 x.2.2.1 x.2.2.2.1 x.2.2.2.2.1 x.2.2.2.2.2.1 x.2.2.2.2.2.2.1 x.2.2.2.2.2.2.2.1) I_cleanComponents_c20_L
def I_cleanComponents_c20_cu (k : Nat) : Cuts D := ⟨[], []⟩
theorem I_cleanComponents_c20_ok (k : Nat) : CutFor X I_cleanComponents_pl k Go.Proofs.Tryz.f86.results.toList (I_cleanComponents_c20_cut k) (sub (bodyOf Go.Proofs.Tryz.f86) [1, 1, 0, 1, 0, 0, 1, 1, 0, 0, 1, 0, 1]) :=
  joinCut_s (X := X) (sg := [.kl 9, .ki .i64, .ks, .kl 9, .ki .i64, .ki .i64, .kb, .kl 9]) (cu := I_cleanComponents_c20_cu k) (cl := I_cleanComponents_cl k) (tys := [[9]]) (I_cleanComponents_ck k) (cutOK_of (l := []) (by kernel_rfl) trivial) fun x Q R h => by
    simp only [I_cleanComponents_c20, optK_bind, optK_bif, optK_pure, optK_none, optK_oc, optK_guardT, optK_map] at h
    refine hold_of h ?_
    kernel_rfl
def I_cleanComponents_c37_L (x : (List (List UInt8)) × (List (List UInt8)) × Int × Int × Bool × (List (List UInt8)) × Unit) (o : (List (List UInt8))) (Q : Ex → VSt D → Prop) (R : VR D → Prop) : Prop := Q .normal (mkSt ⟨[(0, .hole), (3, .ref 500003), (7, .hole), (8, .hole), (9, .hole)], [(500003, .row)]⟩ [.sl 9 x.1, .sl 9 x.2.1, .int .i64 x.2.2.1, .int .i64 x.2.2.2.1, .sl 9 o])
def I_cleanComponents_c37_cut (k : Nat) : Cut D := cutS ⟨[(0, .hole), (3, .ref 500003), (7, .hole), (8, .hole), (9, .hole), (37, .hole)], [(500003, .row)]⟩ [.kl 9, .kl 9, .ki .i64, .ki .i64, .kb, .kl 9] (fun (x : (List (List UInt8)) × (List (List UInt8)) × Int × Int × Bool × (List (List UInt8)) × Unit) => I_cleanComponents_c37 k x.1 x.2.1 x.2.2.1 x.2.2.2.1 x.2.2.2.2.1 x.2.2.2.2.2.1) I_cleanComponents_c37_L
def I_cleanComponents_c37_cu (k : Nat) : Cuts D := ⟨[], []⟩
theorem I_cleanComponents_c37_ok (k : Nat) : CutFor X I_cleanComponents_pl k Go.Proofs.Tryz.f86.results.toList (I_cleanComponents_c37_cut k) (sub (bodyOf Go.Proofs.Tryz.f86) [1, 1, 0, 1, 0, 0, 1, 1, 0, 0, 1, 1, 0, 1, 1, 1]) :=
  joinCut_s (X := X) (sg := [.kl 9, .kl 9, .ki .i64, .ki .i64, .kb, .kl 9]) (cu := I_cleanComponents_c37_cu k) (cl := I_cleanComponents_cl k) (tys := [[9]]) (I_cleanComponents_ck k) (cutOK_of (l := []) (by kernel_rfl) trivial) fun x Q R h => by
    simp only [I_cleanComponents_c37, optK_bind, optK_bif, optK_pure, optK_none, optK_oc, optK_guardT, optK_map] at h
    refine hold_of h ?_
    kernel_rfl
def I_cleanComponents_c26_L (x : (List (List UInt8)) × Int × (List UInt8) × (List (List UInt8)) × Int × Int × Bool × (List (List UInt8)) × Unit) (o : (List (List UInt8))) (Q : Ex → VSt D → Prop) (R : VR D → Prop) : Prop := Q .normal (mkSt ⟨[(0, .hole), (3, .ref 500003), (7, .hole), (8, .hole), (9, .hole)], [(500003, .row)]⟩ [.sl 9 x.1, .sl 9 x.2.2.2.1, .int .i64 x.2.2.2.2.1, .int .i64 x.2.2.2.2.2.1, .sl 9 o])
def I_cleanComponents_c26_cut (k : Nat) : Cut D := cutS ⟨[(0, .hole), (3, .ref 500003), (4, .hole), (5, .hole), (7, .hole), (8, .hole), (9, .hole), (26, .hole)], [(500003, .row)]⟩ [.kl 9, .ki .i64, .ks, .kl 9, .ki .i64, .ki .i64, .kb, .kl 9] (fun (x : (List (List UInt8)) × Int × (List UInt8) × (List (List UInt8)) × Int × Int × Bool × (List (List UInt8)) × Unit) => I_cleanComponents_c26 k x.1 x.2.1 x.2.2.1 x.2.2.2.1 x.2.2.2.2.1 x.2.2.2.2.2.1 x.2.2.2.2.2.2.1 x.2.2.2.2.2.2.2.1) I_cleanComponents_c26_L
def I_cleanComponents_c26_cu (k : Nat) : Cuts D := ⟨[], [(37, some (I_cleanComponents_c37_cut k))]⟩
theorem I_cleanComponents_c26_ok (k : Nat) : CutFor X I_cleanComponents_pl k Go.Proofs.Tryz.f86.results.toList (I_cleanComponents_c26_cut k) (sub (bodyOf Go.Proofs.Tryz.f86) [1, 1, 0, 1, 0, 0, 1, 1, 0, 0, 1, 1, 0, 1]) :=
  joinCut_s (X := X) (sg := [.kl 9, .ki .i64, .ks, .kl 9, .ki .i64, .ki .i64, .kb, .kl 9]) (cu := I_cleanComponents_c26_cu k) (cl := I_cleanComponents_cl k) (tys := [[9]]) (I_cleanComponents_ck k) (cutOK_of (l := [(I_cleanComponents_c37_cut k, sub (bodyOf Go.Proofs.Tryz.f86) [1, 1, 0, 1, 0, 0, 1, 1, 0, 0, 1, 1, 0, 1, 1, 1])]) (by kernel_rfl) ⟨I_cleanComponents_c37_ok k, trivial⟩) fun x Q R h => by
    simp only [I_cleanComponents_c26, optK_bind, optK_bif, optK_pure, optK_none, optK_oc, optK_guardT, optK_map] at h
    refine hold_of h ?_
    kernel_rfl
def I_cleanComponents_b2_L (x : (List (List UInt8)) × Int × (List UInt8) × (List (List UInt8)) × Int × Int × (List (List UInt8)) × Unit) (o : (List (List UInt8))) (Q : Ex → VSt D → Prop) (R : VR D → Prop) : Prop := Q .normal (mkSt ⟨[(0, .hole), (3, .ref 500003), (7, .hole), (8, .hole), (9, .hole)], [(500003, .row)]⟩ [.sl 9 x.1, .sl 9 x.2.2.2.1, .int .i64 x.2.2.2.2.1, .int .i64 x.2.2.2.2.2.1, .sl 9 o])
def I_cleanComponents_b2_cut (k : Nat) : Cut D := cutS ⟨[(0, .hole), (3, .ref 500003), (4, .hole), (5, .hole), (7, .hole), (8, .hole), (9, .hole)], [(500003, .row)]⟩ [.kl 9, .ki .i64, .ks, .kl 9, .ki .i64, .ki .i64, .kl 9] (fun (x : (List (List UInt8)) × Int × (List UInt8) × (List (List UInt8)) × Int × Int × (List (List UInt8)) × Unit) => I_cleanComponents_b2 k x.1 x.2.1 x.2.2.1 x.2.2.2.1 x.2.2.2.2.1 x.2.2.2.2.2.1 x.2.2.2.2.2.2.1) I_cleanComponents_b2_L
def I_cleanComponents_b2_cu (k : Nat) : Cuts D := ⟨[], [(26, some (I_cleanComponents_c26_cut k))]⟩
theorem I_cleanComponents_b2_ok (k : Nat) : CutFor X I_cleanComponents_pl k Go.Proofs.Tryz.f86.results.toList (I_cleanComponents_b2_cut k) (sub (bodyOf Go.Proofs.Tryz.f86) [1, 1, 0, 1, 0, 0, 1, 1, 0, 0, 1, 1]) :=
  joinCut_s (X := X) (sg := [.kl 9, .ki .i64, .ks, .kl 9, .ki .i64, .ki .i64, .kl 9]) (cu := I_cleanComponents_b2_cu k) (cl := I_cleanComponents_cl k) (tys := [[9]]) (I_cleanComponents_ck k) (cutOK_of (l := [(I_cleanComponents_c26_cut k, sub (bodyOf Go.Proofs.Tryz.f86) [1, 1, 0, 1, 0, 0, 1, 1, 0, 0, 1, 1, 0, 1])]) (by kernel_rfl) ⟨I_cleanComponents_c26_ok k, trivial⟩) fun x Q R h => by
    simp only [I_cleanComponents_b2, optK_bind, optK_bif, optK_pure, optK_none, optK_oc, optK_guardT, optK_map] at h
    refine hold_of h ?_
    kernel_rfl
def I_cleanComponents_b1_L (x : (List (List UInt8)) × (List (List UInt8)) × Int × Int × (List (List UInt8)) × Unit) (o : (List (List UInt8))) (Q : Ex → VSt D → Prop) (R : VR D → Prop) : Prop := Q .normal (mkSt ⟨[(0, .hole), (3, .ref 500003), (7, .hole), (8, .hole), (9, .hole)], [(500003, .row)]⟩ [.sl 9 x.1, .sl 9 x.2.1, .int .i64 x.2.2.1, .int .i64 x.2.2.2.1, .sl 9 o])
def I_cleanComponents_b1_cut (k : Nat) : Cut D := cutS ⟨[(0, .hole), (3, .ref 500003), (7, .hole), (8, .hole), (9, .hole)], [(500003, .row)]⟩ [.kl 9, .kl 9, .ki .i64, .ki .i64, .kl 9] (fun (x : (List (List UInt8)) × (List (List UInt8)) × Int × Int × (List (List UInt8)) × Unit) => I_cleanComponents_b1 k x.1 x.2.1 x.2.2.1 x.2.2.2.1 x.2.2.2.2.1) I_cleanComponents_b1_L
def I_cleanComponents_b1_cu (k : Nat) : Cuts D := ⟨[(2, some (I_cleanComponents_b2_cut k))], [(20, some (I_cleanComponents_c20_cut k))]⟩
theorem I_cleanComponents_b1_ok (k : Nat) : CutFor X I_cleanComponents_pl k Go.Proofs.Tryz.f86.results.toList (I_cleanComponents_b1_cut k) (sub (bodyOf Go.Proofs.Tryz.f86) [1, 1, 0, 1, 0, 0, 1, 1, 0]) :=
  joinCut_s (X := X) (sg := [.kl 9, .kl 9, .ki .i64, .ki .i64, .kl 9]) (cu := I_cleanComponents_b1_cu k) (cl := I_cleanComponents_cl k) (tys := [[9]]) (I_cleanComponents_ck k) (cutOK_of (l := [(I_cleanComponents_c20_cut k, sub (bodyOf Go.Proofs.Tryz.f86) [1, 1, 0, 1, 0, 0, 1, 1, 0, 0, 1, 0, 1]), (I_cleanComponents_b2_cut k, sub (bodyOf Go.Proofs.Tryz.f86) [1, 1, 0, 1, 0, 0, 1, 1, 0, 0, 1, 1])]) (by kernel_rfl) ⟨I_cleanComponents_c20_ok k, I_cleanComponents_b2_ok k, trivial⟩) fun x Q R h => by
    simp only [I_cleanComponents_b1, optK_bind, optK_bif, optK_pure, optK_none, optK_oc, optK_guardT, optK_map] at h
    refine hold_of h ?_
    kernel_rfl
def I_cleanComponents_b0_L (x : (List (List UInt8)) × (List (List UInt8)) × Int × Int × (List (List UInt8)) × Unit) (o : (List (List UInt8))) (Q : Ex → VSt D → Prop) (R : VR D → Prop) : Prop := Q .normal (mkSt ⟨[(3, .ref 500003)], [(500003, .row)]⟩ [.sl 9 o])
def I_cleanComponents_b0_cut (k : Nat) : Cut D := cutS ⟨[(0, .hole), (3, .ref 500003), (7, .hole), (8, .hole), (9, .hole)], [(500003, .row)]⟩ [.kl 9, .kl 9, .ki .i64, .ki .i64, .kl 9] (fun (x : (List (List UInt8)) × (List (List UInt8)) × Int × Int × (List (List UInt8)) × Unit) => I_cleanComponents_b0 k k x.1 x.2.1 x.2.2.1 x.2.2.2.1 x.2.2.2.2.1) I_cleanComponents_b0_L
def I_cleanComponents_b0_cu (k : Nat) : Cuts D := ⟨[(1, some (I_cleanComponents_b1_cut k))], []⟩
theorem I_cleanComponents_b0_ok (k : Nat) : CutFor X I_cleanComponents_pl k Go.Proofs.Tryz.f86.results.toList (I_cleanComponents_b0_cut k) (sub (bodyOf Go.Proofs.Tryz.f86) [1, 1, 0, 1]) :=
  loopCut_s (X := X) (sg := [.kl 9, .kl 9, .ki .i64, .ki .i64, .kl 9]) (cu := I_cleanComponents_b0_cu k) (cl := I_cleanComponents_cl k) (tys := [[9]]) (id := 0) (c := sub (bodyOf Go.Proofs.Tryz.f86) [1, 1, 0, 1, 0, 0]) (f := fun n => fun (x : (List (List UInt8)) × (List (List UInt8)) × Int × Int × (List (List UInt8)) × Unit) => I_cleanComponents_b0 k n x.1 x.2.1 x.2.2.1 x.2.2.2.1 x.2.2.2.2.1) (I_cleanComponents_ck k) (cutOK_of (l := [(I_cleanComponents_b1_cut k, sub (bodyOf Go.Proofs.Tryz.f86) [1, 1, 0, 1, 0, 0, 1, 1, 0])]) (by kernel_rfl) ⟨I_cleanComponents_b1_ok k, trivial⟩) (fun _ => rfl) (fun n x Q R h => by
    simp only [I_cleanComponents_b0, optK_bind, optK_bif, optK_pure, optK_none, optK_oc, optK_guardT, optK_map] at h
    refine hold_of h ?_
    kernel_rfl) (by kernel_rfl)
def I_cleanComponents_cu (k : Nat) : Cuts D := ⟨[(0, some (I_cleanComponents_b0_cut k))], []⟩
def I_cleanComponents_ar : List Ar := [.c (.kl 9)]
def I_cleanComponents_f (k : Nat) (x : TupA D I_cleanComponents_ar) : Option ((List (List UInt8))) := I_cleanComponents k x.1
def I_cleanComponents_vr (r : (List (List UInt8))) : VR D := .p (.c (.sl 9 r))
theorem I_cleanComponents_ok (k : Nat) : Does P X 86 I_cleanComponents_ar (I_cleanComponents_f k) I_cleanComponents_vr :=
  does_of (body := bodyOf Go.Proofs.Tryz.f86) (pl := I_cleanComponents_pl) (k := k) (cu := I_cleanComponents_cu k) (tys := [[9]]) (I_cleanComponents_ck k) ctx mixed Go.Proofs.Tryz.func86 (by kernel_rfl) (by kernel_rfl) (cutOK_of (l := [(I_cleanComponents_b0_cut k, sub (bodyOf Go.Proofs.Tryz.f86) [1, 1, 0, 1])]) (by kernel_rfl) ⟨I_cleanComponents_b0_ok k, trivial⟩) fun x R h => by
    simp only [I_cleanComponents_f, I_cleanComponents, optK_bind, optK_bif, optK_pure, optK_none, optK_oc, optK_guardT, optK_map] at h
    refine hold_of h ?_
    kernel_rfl
def I_cleanComponents_en (k : Nat) : Entry D := entS I_cleanComponents_ar (I_cleanComponents_f k) I_cleanComponents_vr
theorem I_cleanComponents_eo (k : Nat) : EntryOK X 86 (I_cleanComponents_en k) := (I_cleanComponents_ok k).en rfl
def strings_Join_ar : List Ar := [.c (.kl 9), .c (.ks)]
def strings_Join_f (k : Nat) (x : TupA D strings_Join_ar) : Option ((List UInt8)) := strings_Join k x.1 x.2.1
def strings_Join_vr (r : (List UInt8)) : VR D := .p (.c (.str r))
theorem strings_Join_ok (k : Nat) : Does P X 85 strings_Join_ar (strings_Join_f k) strings_Join_vr := does_join (P := P) (D := D) (X := X) (el := 9) ⟨Go.Proofs.Tryz.f85, Go.Proofs.Tryz.func85, by kernel_rfl, by kernel_rfl⟩ (fun (s : List UInt8) => s) (fun (l : List (List UInt8)) s => joinO l s) (fun _ => rfl) (by kernel_rfl) (fun (l : List (List UInt8)) s => congrArg (fun t => joinO t s) (List.map_id' l).symm) (fun a c sep w => Go.Proofs.Tryz.strings_Join_none a c sep w) (fun bk o c xs sep w hg h1 h2 h3 h4 h5 => Go.Proofs.Tryz.strings_Join bk o c xs sep w h1 h2 h3 h4 h5)
def strings_Join_en (k : Nat) : Entry D := entS strings_Join_ar (strings_Join_f k) strings_Join_vr
theorem strings_Join_eo (k : Nat) : EntryOK X 85 (strings_Join_en k) := (strings_Join_ok k).en rfl
def I_NormalTarget_1_pl : Plan := ⟨[(0, [(0, none)]), (1, [(2, none)])],
  [],
  []⟩
def I_NormalTarget_1_cl (k : Nat) : Calls' D := ⟨[], [], [], [], []⟩
theorem I_NormalTarget_1_ck (k : Nat) : CallsOK X (I_NormalTarget_1_cl k) := .nil cod
def I_NormalTarget_1_cu (k : Nat) : Cuts D := ⟨[], []⟩
def I_NormalTarget_1_ar : List Ar := [.c (.ks)]
def I_NormalTarget_1_f (k : Nat) (x : TupA D I_NormalTarget_1_ar) : Option (Bool) := I_NormalTarget_1 k x.1
def I_NormalTarget_1_vr (r : Bool) : VR D := .p (.c (.bool r))
theorem I_NormalTarget_1_ok (k : Nat) : Does P X 89 I_NormalTarget_1_ar (I_NormalTarget_1_f k) I_NormalTarget_1_vr :=
  does_of (body := bodyOf Go.Proofs.Tryz.f89) (pl := I_NormalTarget_1_pl) (k := k) (cu := I_NormalTarget_1_cu k) (tys := [[0]]) (I_NormalTarget_1_ck k) ctx mixed Go.Proofs.Tryz.func89 (by kernel_rfl) (by kernel_rfl) (cutOK_of (l := []) (by kernel_rfl) trivial) fun x R h => by
    simp only [I_NormalTarget_1_f, I_NormalTarget_1, optK_bind, optK_bif, optK_pure, optK_none, optK_oc, optK_guardT, optK_map] at h
    refine hold_of h ?_
    kernel_rfl
def I_NormalTarget_1_en (k : Nat) : Entry D := entS I_NormalTarget_1_ar (I_NormalTarget_1_f k) I_NormalTarget_1_vr
theorem I_NormalTarget_1_eo (k : Nat) : EntryOK X 89 (I_NormalTarget_1_en k) := (I_NormalTarget_1_ok k).en rfl
def slices_IndexFunc_string_at_I_NormalTarget_1_pl : Plan := ⟨[(0, [(0, some 9), (1, none)]), (1, [(0, some 9), (1, none), (7, none), (8, none)]), (2, [(0, some 9), (1, none), (7, none), (8, none), (9, none)]), (3, [(0, some 9), (1, none), (5, none), (7, none), (8, none)]), (4, [(0, some 9), (1, none), (5, none), (7, none), (8, none), (16, none)]), (5, [(4, none)]), (6, [(0, some 9), (1, none), (7, none), (8, none)]), (7, [(4, none)])],
  [(0, []), (1, [(0, some 9), (1, none), (7, none), (8, none)])],
  [(9, ([(0, some 9), (1, none), (7, none), (8, none)], [])), (16, ([(5, none)], [(0, some 9), (1, none), (7, none), (8, none)]))]⟩
def slices_IndexFunc_string_at_I_NormalTarget_1_cl (k : Nat) : Calls' D := ⟨[(89, I_NormalTarget_1_en k)], [], [], [], []⟩
theorem slices_IndexFunc_string_at_I_NormalTarget_1_ck (k : Nat) : CallsOK X (slices_IndexFunc_string_at_I_NormalTarget_1_cl k) := .cons (I_NormalTarget_1_eo k) (.nil cod)
def slices_IndexFunc_string_at_I_NormalTarget_1_b0_L (x : (List (List UInt8)) × Int × Int × Unit) (o : Oc (Unit) (Int)) (Q : Ex → VSt D → Prop) (R : VR D → Prop) : Prop := ocP o (fun v0 => Q .normal (mkSt ⟨[], []⟩ [])) (fun w0 => R (.p (.c (.int .i64 w0))))
def slices_IndexFunc_string_at_I_NormalTarget_1_b0_cut (k : Nat) : Cut D := cutS ⟨[(0, .hole), (1, .clo 89 []), (7, .hole), (8, .hole)], []⟩ [.kl 9, .ki .i64, .ki .i64] (fun (x : (List (List UInt8)) × Int × Int × Unit) => slices_IndexFunc_string_at_I_NormalTarget_1_b0 k k x.1 x.2.1 x.2.2.1) slices_IndexFunc_string_at_I_NormalTarget_1_b0_L
def slices_IndexFunc_string_at_I_NormalTarget_1_b0_cu (k : Nat) : Cuts D := ⟨[], []⟩
theorem slices_IndexFunc_string_at_I_NormalTarget_1_b0_ok (k : Nat) : CutFor X slices_IndexFunc_string_at_I_NormalTarget_1_pl k Go.Proofs.Tryz.f149.results.toList (slices_IndexFunc_string_at_I_NormalTarget_1_b0_cut k) (sub (bodyOf Go.Proofs.Tryz.f149) [1, 0, 1]) :=
  loopCut_s (X := X) (sg := [.kl 9, .ki .i64, .ki .i64]) (cu := slices_IndexFunc_string_at_I_NormalTarget_1_b0_cu k) (cl := slices_IndexFunc_string_at_I_NormalTarget_1_cl k) (tys := [[0]]) (id := 0) (c := sub (bodyOf Go.Proofs.Tryz.f149) [1, 0, 1, 0, 0]) (f := fun n => fun (x : (List (List UInt8)) × Int × Int × Unit) => slices_IndexFunc_string_at_I_NormalTarget_1_b0 k n x.1 x.2.1 x.2.2.1) (slices_IndexFunc_string_at_I_NormalTarget_1_ck k) (cutOK_of (l := []) (by kernel_rfl) trivial) (fun _ => rfl) (fun n x Q R h => by
    simp only [slices_IndexFunc_string_at_I_NormalTarget_1_b0, optK_bind, optK_bif, optK_pure, optK_none, optK_oc, optK_guardT, optK_map] at h
    refine hold_of h ?_
    kernel_rfl) (by kernel_rfl)
def slices_IndexFunc_string_at_I_NormalTarget_1_cu (k : Nat) : Cuts D := ⟨[(0, some (slices_IndexFunc_string_at_I_NormalTarget_1_b0_cut k))], []⟩
def slices_IndexFunc_string_at_I_NormalTarget_1_ar : List Ar := [.c (.kl 9), .f 89 []]
def slices_IndexFunc_string_at_I_NormalTarget_1_f (k : Nat) (x : TupA D slices_IndexFunc_string_at_I_NormalTarget_1_ar) : Option (Int) := slices_IndexFunc_string_at_I_NormalTarget_1 k x.1
def slices_IndexFunc_string_at_I_NormalTarget_1_vr (r : Int) : VR D := .p (.c (.int .i64 r))
theorem slices_IndexFunc_string_at_I_NormalTarget_1_ok (k : Nat) : Does P X 149 slices_IndexFunc_string_at_I_NormalTarget_1_ar (slices_IndexFunc_string_at_I_NormalTarget_1_f k) slices_IndexFunc_string_at_I_NormalTarget_1_vr :=
  does_of (body := bodyOf Go.Proofs.Tryz.f149) (pl := slices_IndexFunc_string_at_I_NormalTarget_1_pl) (k := k) (cu := slices_IndexFunc_string_at_I_NormalTarget_1_cu k) (tys := [[0]]) (slices_IndexFunc_string_at_I_NormalTarget_1_ck k) ctx mixed Go.Proofs.Tryz.func149 (by kernel_rfl) (by kernel_rfl) (cutOK_of (l := [(slices_IndexFunc_string_at_I_NormalTarget_1_b0_cut k, sub (bodyOf Go.Proofs.Tryz.f149) [1, 0, 1])]) (by kernel_rfl) ⟨slices_IndexFunc_string_at_I_NormalTarget_1_b0_ok k, trivial⟩) fun x R h => by
    simp only [slices_IndexFunc_string_at_I_NormalTarget_1_f, slices_IndexFunc_string_at_I_NormalTarget_1, optK_bind, optK_bif, optK_pure, optK_none, optK_oc, optK_guardT, optK_map] at h
    refine hold_of h ?_
    kernel_rfl
def slices_IndexFunc_string_at_I_NormalTarget_1_en (k : Nat) : Entry D := entS slices_IndexFunc_string_at_I_NormalTarget_1_ar (slices_IndexFunc_string_at_I_NormalTarget_1_f k) slices_IndexFunc_string_at_I_NormalTarget_1_vr
theorem slices_IndexFunc_string_at_I_NormalTarget_1_eo (k : Nat) : EntryOK X 149 (slices_IndexFunc_string_at_I_NormalTarget_1_en k) := (slices_IndexFunc_string_at_I_NormalTarget_1_ok k).en rfl
def slices_DeleteFunc_string_at_I_NormalTarget_1_pl : Plan := ⟨[(0, [(0, some 9), (1, none)]), (1, [(0, some 9), (1, none), (5, none)]), (2, [(0, some 9), (1, none), (5, none), (12, none)]), (3, [(4, some 9)]), (4, [(0, some 9), (1, none), (5, none), (6, none)]), (5, [(0, some 9), (1, none), (5, none), (6, none), (19, none)]), (6, [(0, some 9), (1, none), (5, none), (6, none)]), (7, [(0, some 9), (1, none), (5, none), (6, none), (7, none)]), (8, [(0, some 9), (1, none), (5, none), (6, none), (7, none), (29, none)]), (9, [(0, some 9), (1, none), (5, none), (6, none)]), (10, [(0, some 9), (1, none), (5, none), (6, none)]), (11, [(0, some 9), (5, none)]), (12, [(4, some 9)])],
  [(0, [(0, some 9), (5, none)]), (1, [(0, some 9), (1, none), (5, none), (6, none)])],
  [(12, ([(0, some 9)], [(0, some 9), (1, none), (5, none)])), (19, ([(0, some 9), (1, none), (5, none), (6, none)], [(0, some 9), (5, none)])), (29, ([(0, some 9), (1, none), (5, none), (6, none), (7, none)], [(0, some 9), (1, none), (5, none), (6, none)]))]⟩
def slices_DeleteFunc_string_at_I_NormalTarget_1_cl (k : Nat) : Calls' D := ⟨[(149, slices_IndexFunc_string_at_I_NormalTarget_1_en k), (89, I_NormalTarget_1_en k)], [], [], [], []⟩
theorem slices_DeleteFunc_string_at_I_NormalTarget_1_ck (k : Nat) : CallsOK X (slices_DeleteFunc_string_at_I_NormalTarget_1_cl k) := .cons (slices_IndexFunc_string_at_I_NormalTarget_1_eo k) (.cons (I_NormalTarget_1_eo k) (.nil cod))
def slices_DeleteFunc_string_at_I_NormalTarget_1_c29_L (x : Int × Int × (List UInt8) × Bool × (List (List UInt8)) × Unit) (o : Int × (List (List UInt8))) (Q : Ex → VSt D → Prop) (R : VR D → Prop) : Prop := Q .normal (mkSt ⟨[(0, .ref 500000), (1, .clo 89 []), (5, .hole), (6, .hole)], [(500000, .row)]⟩ [.int .i64 o.1, .int .i64 x.2.1, .sl 9 o.2])
def slices_DeleteFunc_string_at_I_NormalTarget_1_c29_cut (k : Nat) : Cut D := cutS ⟨[(0, .ref 500000), (1, .clo 89 []), (5, .hole), (6, .hole), (7, .hole), (29, .hole)], [(500000, .row)]⟩ [.ki .i64, .ki .i64, .ks, .kb, .kl 9] (fun (x : Int × Int × (List UInt8) × Bool × (List (List UInt8)) × Unit) => slices_DeleteFunc_string_at_I_NormalTarget_1_c29 k x.1 x.2.1 x.2.2.1 x.2.2.2.1 x.2.2.2.2.1) slices_DeleteFunc_string_at_I_NormalTarget_1_c29_L
def slices_DeleteFunc_string_at_I_NormalTarget_1_c29_cu (k : Nat) : Cuts D := ⟨[], []⟩
theorem slices_DeleteFunc_string_at_I_NormalTarget_1_c29_ok (k : Nat) : CutFor X slices_DeleteFunc_string_at_I_NormalTarget_1_pl k Go.Proofs.Tryz.f88.results.toList (slices_DeleteFunc_string_at_I_NormalTarget_1_c29_cut k) (sub (bodyOf Go.Proofs.Tryz.f88) [1, 1, 1, 0, 1, 0, 0, 1, 0, 0, 1, 1]) :=
  joinCut_s (X := X) (sg := [.ki .i64, .ki .i64, .ks, .kb, .kl 9]) (cu := slices_DeleteFunc_string_at_I_NormalTarget_1_c29_cu k) (cl := slices_DeleteFunc_string_at_I_NormalTarget_1_cl k) (tys := [[9]]) (slices_DeleteFunc_string_at_I_NormalTarget_1_ck k) (cutOK_of (l := []) (by kernel_rfl) trivial) fun x Q R h => by
    simp only [slices_DeleteFunc_string_at_I_NormalTarget_1_c29, optK_bind, optK_bif, optK_pure, optK_none, optK_oc, optK_guardT, optK_map] at h
    refine hold_of h ?_
    kernel_rfl
def slices_DeleteFunc_string_at_I_NormalTarget_1_b1_L (x : Int × Int × (List (List UInt8)) × Unit) (o : Int × (List (List UInt8))) (Q : Ex → VSt D → Prop) (R : VR D → Prop) : Prop := Q .normal (mkSt ⟨[(0, .ref 500000), (1, .clo 89 []), (5, .hole), (6, .hole)], [(500000, .row)]⟩ [.int .i64 o.1, .int .i64 x.2.1, .sl 9 o.2])
def slices_DeleteFunc_string_at_I_NormalTarget_1_b1_cut (k : Nat) : Cut D := cutS ⟨[(0, .ref 500000), (1, .clo 89 []), (5, .hole), (6, .hole)], [(500000, .row)]⟩ [.ki .i64, .ki .i64, .kl 9] (fun (x : Int × Int × (List (List UInt8)) × Unit) => slices_DeleteFunc_string_at_I_NormalTarget_1_b1 k x.1 x.2.1 x.2.2.1) slices_DeleteFunc_string_at_I_NormalTarget_1_b1_L
def slices_DeleteFunc_string_at_I_NormalTarget_1_b1_cu (k : Nat) : Cuts D := ⟨[], [(29, some (slices_DeleteFunc_string_at_I_NormalTarget_1_c29_cut k))]⟩
theorem slices_DeleteFunc_string_at_I_NormalTarget_1_b1_ok (k : Nat) : CutFor X slices_DeleteFunc_string_at_I_NormalTarget_1_pl k Go.Proofs.Tryz.f88.results.toList (slices_DeleteFunc_string_at_I_NormalTarget_1_b1_cut k) (sub (bodyOf Go.Proofs.Tryz.f88) [1, 1, 1, 0, 1, 0, 0, 1, 0]) :=
  joinCut_s (X := X) (sg := [.ki .i64, .ki .i64, .kl 9]) (cu := slices_DeleteFunc_string_at_I_NormalTarget_1_b1_cu k) (cl := slices_DeleteFunc_string_at_I_NormalTarget_1_cl k) (tys := [[9]]) (slices_DeleteFunc_string_at_I_NormalTarget_1_ck k) (cutOK_of (l := [(slices_DeleteFunc_string_at_I_NormalTarget_1_c29_cut k, sub (bodyOf Go.Proofs.Tryz.f88) [1, 1, 1, 0, 1, 0, 0, 1, 0, 0, 1, 1])]) (by kernel_rfl) ⟨slices_DeleteFunc_string_at_I_NormalTarget_1_c29_ok k, trivial⟩) fun x Q R h => by
    simp only [slices_DeleteFunc_string_at_I_NormalTarget_1_b1, optK_bind, optK_bif, optK_pure, optK_none, optK_oc, optK_guardT, optK_map] at h
    refine hold_of h ?_
    kernel_rfl
def slices_DeleteFunc_string_at_I_NormalTarget_1_b0_L (x : Int × Int × (List (List UInt8)) × Unit) (o : Int × (List (List UInt8))) (Q : Ex → VSt D → Prop) (R : VR D → Prop) : Prop := Q .normal (mkSt ⟨[(0, .ref 500000), (5, .hole)], [(500000, .row)]⟩ [.int .i64 o.1, .sl 9 o.2])
def slices_DeleteFunc_string_at_I_NormalTarget_1_b0_cut (k : Nat) : Cut D := cutS ⟨[(0, .ref 500000), (1, .clo 89 []), (5, .hole), (6, .hole)], [(500000, .row)]⟩ [.ki .i64, .ki .i64, .kl 9] (fun (x : Int × Int × (List (List UInt8)) × Unit) => slices_DeleteFunc_string_at_I_NormalTarget_1_b0 k k x.1 x.2.1 x.2.2.1) slices_DeleteFunc_string_at_I_NormalTarget_1_b0_L
def slices_DeleteFunc_string_at_I_NormalTarget_1_b0_cu (k : Nat) : Cuts D := ⟨[(1, some (slices_DeleteFunc_string_at_I_NormalTarget_1_b1_cut k))], []⟩
theorem slices_DeleteFunc_string_at_I_NormalTarget_1_b0_ok (k : Nat) : CutFor X slices_DeleteFunc_string_at_I_NormalTarget_1_pl k Go.Proofs.Tryz.f88.results.toList (slices_DeleteFunc_string_at_I_NormalTarget_1_b0_cut k) (sub (bodyOf Go.Proofs.Tryz.f88) [1, 1, 1, 0, 1]) :=
  loopCut_s (X := X) (sg := [.ki .i64, .ki .i64, .kl 9]) (cu := slices_DeleteFunc_string_at_I_NormalTarget_1_b0_cu k) (cl := slices_DeleteFunc_string_at_I_NormalTarget_1_cl k) (tys := [[9]]) (id := 0) (c := sub (bodyOf Go.Proofs.Tryz.f88) [1, 1, 1, 0, 1, 0, 0]) (f := fun n => fun (x : Int × Int × (List (List UInt8)) × Unit) => slices_DeleteFunc_string_at_I_NormalTarget_1_b0 k n x.1 x.2.1 x.2.2.1) (slices_DeleteFunc_string_at_I_NormalTarget_1_ck k) (cutOK_of (l := [(slices_DeleteFunc_string_at_I_NormalTarget_1_b1_cut k, sub (bodyOf Go.Proofs.Tryz.f88) [1, 1, 1, 0, 1, 0, 0, 1, 0])]) (by kernel_rfl) ⟨slices_DeleteFunc_string_at_I_NormalTarget_1_b1_ok k, trivial⟩) (fun _ => rfl) (fun n x Q R h => by
    simp only [slices_DeleteFunc_string_at_I_NormalTarget_1_b0, optK_bind, optK_bif, optK_pure, optK_none, optK_oc, optK_guardT, optK_map] at h
    refine hold_of h ?_
    kernel_rfl) (by kernel_rfl)
def slices_DeleteFunc_string_at_I_NormalTarget_1_cu (k : Nat) : Cuts D := ⟨[(0, some (slices_DeleteFunc_string_at_I_NormalTarget_1_b0_cut k))], []⟩
def slices_DeleteFunc_string_at_I_NormalTarget_1_ar : List Ar := [.f 89 []]
def slices_DeleteFunc_string_at_I_NormalTarget_1_f (k : Nat) (l : List (D 9)) (x : TupA D slices_DeleteFunc_string_at_I_NormalTarget_1_ar) : Option ((List (List UInt8))) := slices_DeleteFunc_string_at_I_NormalTarget_1 k l
def slices_DeleteFunc_string_at_I_NormalTarget_1_vr (r : (List (List UInt8))) : VR D := .p (.c (.sl 9 r))
theorem slices_DeleteFunc_string_at_I_NormalTarget_1_ok (k : Nat) : DoesT P X 88 9 slices_DeleteFunc_string_at_I_NormalTarget_1_ar (slices_DeleteFunc_string_at_I_NormalTarget_1_f k) slices_DeleteFunc_string_at_I_NormalTarget_1_vr (fun _ => none) :=
  doesT_of (body := bodyOf Go.Proofs.Tryz.f88) (pl := slices_DeleteFunc_string_at_I_NormalTarget_1_pl) (k := k) (cu := slices_DeleteFunc_string_at_I_NormalTarget_1_cu k) (tys := [[9]]) (slices_DeleteFunc_string_at_I_NormalTarget_1_ck k) ctx mixed Go.Proofs.Tryz.func88 (by kernel_rfl) (by kernel_rfl) (cutOK_of (l := [(slices_DeleteFunc_string_at_I_NormalTarget_1_b0_cut k, sub (bodyOf Go.Proofs.Tryz.f88) [1, 1, 1, 0, 1])]) (by kernel_rfl) ⟨slices_DeleteFunc_string_at_I_NormalTarget_1_b0_ok k, trivial⟩) fun l x R h => by
    simp only [slices_DeleteFunc_string_at_I_NormalTarget_1_f, slices_DeleteFunc_string_at_I_NormalTarget_1, optK_bind, optK_bif, optK_pure, optK_none, optK_oc, optK_guardT, optK_map] at h
    refine hold_of h ?_
    kernel_rfl
def slices_DeleteFunc_string_at_I_NormalTarget_1_en (k : Nat) : EntryT D := entT 9 slices_DeleteFunc_string_at_I_NormalTarget_1_ar (slices_DeleteFunc_string_at_I_NormalTarget_1_f k) slices_DeleteFunc_string_at_I_NormalTarget_1_vr (fun _ => none)
theorem slices_DeleteFunc_string_at_I_NormalTarget_1_eo (k : Nat) : EntryTOK X 88 (slices_DeleteFunc_string_at_I_NormalTarget_1_en k) := (slices_DeleteFunc_string_at_I_NormalTarget_1_ok k).en rfl
def slices_Sort_string_f (k : Nat) (l : List (D 9)) (x : TupA D []) : Option (List (D 9)) := slices_Sort_string k l
def slices_Sort_string_vr (r : List (D 9)) : VR D := .tup []
def slices_Sort_string_ot (r : List (D 9)) : Option (List (D 9)) := some r
theorem slices_Sort_string_ok (k : Nat) : DoesT P X 90 9 [] (slices_Sort_string_f k) slices_Sort_string_vr slices_Sort_string_ot := does_sort (P := P) (D := D) (X := X) (el := 9) ⟨Go.Proofs.Tryz.f90, Go.Proofs.Tryz.func90, by kernel_rfl, by kernel_rfl⟩ (fun (s : List UInt8) => s) (fun (l : List (List UInt8)) => sortO l) (fun _ => rfl) (by kernel_rfl) sort_hf (fun p cap w => Go.Proofs.Tryz.slices_Sort_string_none p cap w) (fun blk off cap ss w h1 h2 h3 => Go.Proofs.Tryz.slices_Sort_string blk off cap ss w h1 h2 h3)
def slices_Sort_string_en (k : Nat) : EntryT D := entT 9 [] (slices_Sort_string_f k) slices_Sort_string_vr slices_Sort_string_ot
theorem slices_Sort_string_eo (k : Nat) : EntryTOK X 90 (slices_Sort_string_en k) := (slices_Sort_string_ok k).en rfl
def I_NormalTarget_pl : Plan := ⟨[(0, [(0, none)]), (1, [(4, none), (5, none)]), (2, [(4, none), (5, none), (7, none)]), (3, [(4, none), (5, none), (7, none), (8, none)]), (4, [(4, none), (5, none), (37, none)]), (5, [(2, none), (3, none)]), (6, [(5, none), (9, none)]), (7, [(9, none), (10, some 9)]), (8, [(9, none), (10, some 9)]), (9, [(9, none), (10, some 9), (51, none)]), (10, [(9, none)]), (11, [(2, none), (3, none)])],
  [],
  [(37, ([], [(4, none), (5, none)])), (51, ([(9, none), (10, some 9)], [(9, none)]))]⟩
def I_NormalTarget_cl (k : Nat) : Calls' D := ⟨[(82, I_SplitTarget_en k), (83, I_decodedTarget_en k), (84, strings_HasPrefix_en k), (87, strings_Split_en k), (86, I_cleanComponents_en k), (85, strings_Join_en k)], [], [], [], [(88, slices_DeleteFunc_string_at_I_NormalTarget_1_en k), (90, slices_Sort_string_en k)]⟩
theorem I_NormalTarget_ck (k : Nat) : CallsOK X (I_NormalTarget_cl k) := .cons (I_SplitTarget_eo k) (.cons (I_decodedTarget_eo k) (.cons (strings_HasPrefix_eo k) (.cons (strings_Split_eo k) (.cons (I_cleanComponents_eo k) (.cons (strings_Join_eo k) (.consT (slices_DeleteFunc_string_at_I_NormalTarget_1_eo k) (.consT (slices_Sort_string_eo k) (.nil cod))))))))
def I_NormalTarget_c51_L (x : (List UInt8) × Bool × (List (List UInt8)) × Unit) (o : (List UInt8)) (Q : Ex → VSt D → Prop) (R : VR D → Prop) : Prop := Q .normal (mkSt ⟨[(9, .hole)], []⟩ [.str o])
def I_NormalTarget_c51_cut (k : Nat) : Cut D := cutS ⟨[(9, .hole), (10, .ref 500010), (51, .hole)], [(500010, .row)]⟩ [.ks, .kb, .kl 9] (fun (x : (List UInt8) × Bool × (List (List UInt8)) × Unit) => I_NormalTarget_c51 k x.1 x.2.1 x.2.2.1) I_NormalTarget_c51_L
def I_NormalTarget_c51_cu (k : Nat) : Cuts D := ⟨[], []⟩
theorem I_NormalTarget_c51_ok (k : Nat) : CutFor X I_NormalTarget_pl k Go.Proofs.Tryz.f37.results.toList (I_NormalTarget_c51_cut k) (sub (bodyOf Go.Proofs.Tryz.f37) [1, 1, 1, 1, 1, 1, 1, 1, 0, 1]) :=
  joinCut_s (X := X) (sg := [.ks, .kb, .kl 9]) (cu := I_NormalTarget_c51_cu k) (cl := I_NormalTarget_cl k) (tys := [[0], [0]]) (I_NormalTarget_ck k) (cutOK_of (l := []) (by kernel_rfl) trivial) fun x Q R h => by
    simp only [I_NormalTarget_c51, optK_bind, optK_bif, optK_pure, optK_none, optK_oc, optK_guardT, optK_map] at h
    refine hold_of h ?_
    kernel_rfl
def I_NormalTarget_cu (k : Nat) : Cuts D := ⟨[], [(51, some (I_NormalTarget_c51_cut k))]⟩
def I_NormalTarget_ar : List Ar := [.c (.ks)]
def I_NormalTarget_f (k : Nat) (x : TupA D I_NormalTarget_ar) : Option ((List UInt8) × Bool) := I_NormalTarget k x.1
def I_NormalTarget_vr (r : (List UInt8) × Bool) : VR D := .tup [.c (.str r.1), .c (.bool r.2)]
theorem I_NormalTarget_ok (k : Nat) : Does P X 37 I_NormalTarget_ar (I_NormalTarget_f k) I_NormalTarget_vr :=
  does_of (body := bodyOf Go.Proofs.Tryz.f37) (pl := I_NormalTarget_pl) (k := k) (cu := I_NormalTarget_cu k) (tys := [[0], [0]]) (I_NormalTarget_ck k) ctx mixed Go.Proofs.Tryz.func37 (by kernel_rfl) (by kernel_rfl) (cutOK_of (l := [(I_NormalTarget_c51_cut k, sub (bodyOf Go.Proofs.Tryz.f37) [1, 1, 1, 1, 1, 1, 1, 1, 0, 1])]) (by kernel_rfl) ⟨I_NormalTarget_c51_ok k, trivial⟩) fun x R h => by
    simp only [I_NormalTarget_f, I_NormalTarget, optK_bind, optK_bif, optK_pure, optK_none, optK_oc, optK_guardT, optK_map] at h
    refine hold_of h ?_
    kernel_rfl
def I_NormalTarget_en (k : Nat) : Entry D := entS I_NormalTarget_ar (I_NormalTarget_f k) I_NormalTarget_vr
theorem I_NormalTarget_eo (k : Nat) : EntryOK X 37 (I_NormalTarget_en k) := (I_NormalTarget_ok k).en rfl
def I_isTokenByte_pl : Plan := ⟨[(0, [(0, none)]), (1, [(2, none)])],
  [],
  []⟩
def I_isTokenByte_cl (k : Nat) : Calls' D := ⟨[(143, strings_IndexByte_en k)], [], [], [], []⟩
theorem I_isTokenByte_ck (k : Nat) : CallsOK X (I_isTokenByte_cl k) := .cons (strings_IndexByte_eo k) (.nil cod)
def I_isTokenByte_cu (k : Nat) : Cuts D := ⟨[], []⟩
def I_isTokenByte_ar : List Ar := [.c (.ki .u8)]
def I_isTokenByte_f (k : Nat) (x : TupA D I_isTokenByte_ar) : Option (Bool) := I_isTokenByte k x.1
def I_isTokenByte_vr (r : Bool) : VR D := .p (.c (.bool r))
theorem I_isTokenByte_ok (k : Nat) : Does P X 152 I_isTokenByte_ar (I_isTokenByte_f k) I_isTokenByte_vr :=
  does_of (body := bodyOf Go.Proofs.Tryz.f152) (pl := I_isTokenByte_pl) (k := k) (cu := I_isTokenByte_cu k) (tys := [[0]]) (I_isTokenByte_ck k) ctx mixed Go.Proofs.Tryz.func152 (by kernel_rfl) (by kernel_rfl) (cutOK_of (l := []) (by kernel_rfl) trivial) fun x R h => by
    simp only [I_isTokenByte_f, I_isTokenByte, optK_bind, optK_bif, optK_pure, optK_none, optK_oc, optK_guardT, optK_map] at h
    refine hold_of h ?_
    kernel_rfl
def I_isTokenByte_en (k : Nat) : Entry D := entS I_isTokenByte_ar (I_isTokenByte_f k) I_isTokenByte_vr
theorem I_isTokenByte_eo (k : Nat) : EntryOK X 152 (I_isTokenByte_en k) := (I_isTokenByte_ok k).en rfl
def I_inRange_pl : Plan := ⟨[(0, [(0, none), (1, none), (2, none)]), (1, [(6, none)])],
  [],
  []⟩
def I_inRange_cl (k : Nat) : Calls' D := ⟨[], [], [], [], []⟩
theorem I_inRange_ck (k : Nat) : CallsOK X (I_inRange_cl k) := .nil cod
def I_inRange_cu (k : Nat) : Cuts D := ⟨[], []⟩
def I_inRange_ar : List Ar := [.c (.ki .i64), .c (.ki .i64), .c (.ki .i64)]
def I_inRange_f (k : Nat) (x : TupA D I_inRange_ar) : Option (Bool) := I_inRange k x.1 x.2.1 x.2.2.1
def I_inRange_vr (r : Bool) : VR D := .p (.c (.bool r))
theorem I_inRange_ok (k : Nat) : Does P X 94 I_inRange_ar (I_inRange_f k) I_inRange_vr :=
  does_of (body := bodyOf Go.Proofs.Tryz.f94) (pl := I_inRange_pl) (k := k) (cu := I_inRange_cu k) (tys := [[0]]) (I_inRange_ck k) ctx mixed Go.Proofs.Tryz.func94 (by kernel_rfl) (by kernel_rfl) (cutOK_of (l := []) (by kernel_rfl) trivial) fun x R h => by
    simp only [I_inRange_f, I_inRange, optK_bind, optK_bif, optK_pure, optK_none, optK_oc, optK_guardT, optK_map] at h
    refine hold_of h ?_
    kernel_rfl
def I_inRange_en (k : Nat) : Entry D := entS I_inRange_ar (I_inRange_f k) I_inRange_vr
theorem I_inRange_eo (k : Nat) : EntryOK X 94 (I_inRange_en k) := (I_inRange_ok k).en rfl
def I_IsToken_pl : Plan := ⟨[(0, [(0, none)]), (1, [(0, none), (5, none), (6, none)]), (2, [(0, none), (5, none), (6, none), (7, none)]), (3, [(0, none), (3, none), (5, none), (6, none)]), (4, [(0, none), (5, none), (6, none), (13, none)]), (5, [(2, none)]), (6, [(0, none), (5, none), (6, none)]), (7, [(2, none)])],
  [(0, [(0, none)]), (1, [(0, none), (5, none), (6, none)])],
  [(7, ([(0, none), (5, none), (6, none)], [(0, none)])), (13, ([], [(0, none), (5, none), (6, none)]))]⟩
def I_IsToken_cl (k : Nat) : Calls' D := ⟨[(152, I_isTokenByte_en k), (94, I_inRange_en k)], [], [], [], []⟩
theorem I_IsToken_ck (k : Nat) : CallsOK X (I_IsToken_cl k) := .cons (I_isTokenByte_eo k) (.cons (I_inRange_eo k) (.nil cod))
def I_IsToken_b0_L (x : (List UInt8) × Int × Int × Unit) (o : Oc (Unit) (Bool)) (Q : Ex → VSt D → Prop) (R : VR D → Prop) : Prop := ocP o (fun v0 => Q .normal (mkSt ⟨[(0, .hole)], []⟩ [.str x.1])) (fun w0 => R (.p (.c (.bool w0))))
def I_IsToken_b0_cut (k : Nat) : Cut D := cutS ⟨[(0, .hole), (5, .hole), (6, .hole)], []⟩ [.ks, .ki .i64, .ki .i64] (fun (x : (List UInt8) × Int × Int × Unit) => I_IsToken_b0 k k x.1 x.2.1 x.2.2.1) I_IsToken_b0_L
def I_IsToken_b0_cu (k : Nat) : Cuts D := ⟨[], []⟩
theorem I_IsToken_b0_ok (k : Nat) : CutFor X I_IsToken_pl k Go.Proofs.Tryz.f91.results.toList (I_IsToken_b0_cut k) (sub (bodyOf Go.Proofs.Tryz.f91) [1, 0, 1]) :=
  loopCut_s (X := X) (sg := [.ks, .ki .i64, .ki .i64]) (cu := I_IsToken_b0_cu k) (cl := I_IsToken_cl k) (tys := [[0]]) (id := 0) (c := sub (bodyOf Go.Proofs.Tryz.f91) [1, 0, 1, 0, 0]) (f := fun n => fun (x : (List UInt8) × Int × Int × Unit) => I_IsToken_b0 k n x.1 x.2.1 x.2.2.1) (I_IsToken_ck k) (cutOK_of (l := []) (by kernel_rfl) trivial) (fun _ => rfl) (fun n x Q R h => by
    simp only [I_IsToken_b0, optK_bind, optK_bif, optK_pure, optK_none, optK_oc, optK_guardT, optK_map] at h
    refine hold_of h ?_
    kernel_rfl) (by kernel_rfl)
def I_IsToken_cu (k : Nat) : Cuts D := ⟨[(0, some (I_IsToken_b0_cut k))], []⟩
def I_IsToken_ar : List Ar := [.c (.ks)]
def I_IsToken_f (k : Nat) (x : TupA D I_IsToken_ar) : Option (Bool) := I_IsToken k x.1
def I_IsToken_vr (r : Bool) : VR D := .p (.c (.bool r))
theorem I_IsToken_ok (k : Nat) : Does P X 91 I_IsToken_ar (I_IsToken_f k) I_IsToken_vr :=
  does_of (body := bodyOf Go.Proofs.Tryz.f91) (pl := I_IsToken_pl) (k := k) (cu := I_IsToken_cu k) (tys := [[0]]) (I_IsToken_ck k) ctx mixed Go.Proofs.Tryz.func91 (by kernel_rfl) (by kernel_rfl) (cutOK_of (l := [(I_IsToken_b0_cut k, sub (bodyOf Go.Proofs.Tryz.f91) [1, 0, 1])]) (by kernel_rfl) ⟨I_IsToken_b0_ok k, trivial⟩) fun x R h => by
    simp only [I_IsToken_f, I_IsToken, optK_bind, optK_bif, optK_pure, optK_none, optK_oc, optK_guardT, optK_map] at h
    refine hold_of h ?_
    kernel_rfl
def I_IsToken_en (k : Nat) : Entry D := entS I_IsToken_ar (I_IsToken_f k) I_IsToken_vr
theorem I_IsToken_eo (k : Nat) : EntryOK X 91 (I_IsToken_en k) := (I_IsToken_ok k).en rfl
def strings_ToUpper_ar : List Ar := [.c (.ks)]
def strings_ToUpper_f (k : Nat) (x : TupA D strings_ToUpper_ar) : Option ((List UInt8)) := strings_ToUpper k x.1
def strings_ToUpper_vr (r : (List UInt8)) : VR D := .p (.c (.str r))
theorem strings_ToUpper_ok (k : Nat) : Does P X 92 strings_ToUpper_ar (strings_ToUpper_f k) strings_ToUpper_vr := does_toUpper ⟨Go.Proofs.Tryz.f92, Go.Proofs.Tryz.func92, by kernel_rfl, by kernel_rfl⟩ (fun s w hg h1 h2 => Go.Proofs.Tryz.strings_ToUpper_ascii s w h1 h2)
def strings_ToUpper_en (k : Nat) : Entry D := entS strings_ToUpper_ar (strings_ToUpper_f k) strings_ToUpper_vr
theorem strings_ToUpper_eo (k : Nat) : EntryOK X 92 (strings_ToUpper_en k) := (strings_ToUpper_ok k).en rfl
def I_isHost_pl : Plan := ⟨[(0, [(0, none)]), (1, [(0, none), (6, none), (7, none)]), (2, [(0, none), (6, none), (7, none), (8, none)]), (3, [(0, none), (3, none), (6, none), (7, none)]), (4, [(0, none), (4, none), (6, none), (7, none)]), (5, [(0, none), (6, none), (7, none), (35, none)]), (6, [(2, none)]), (7, [(0, none), (6, none), (7, none)]), (8, [(2, none)])],
  [(0, [(0, none)]), (1, [(0, none), (6, none), (7, none)])],
  [(8, ([(0, none), (6, none), (7, none)], [(0, none)])), (35, ([], [(0, none), (6, none), (7, none)]))]⟩
def I_isHost_cl (k : Nat) : Calls' D := ⟨[(94, I_inRange_en k)], [], [], [], []⟩
theorem I_isHost_ck (k : Nat) : CallsOK X (I_isHost_cl k) := .cons (I_inRange_eo k) (.nil cod)
def I_isHost_b0_L (x : (List UInt8) × Int × Int × Unit) (o : Oc (Unit) (Bool)) (Q : Ex → VSt D → Prop) (R : VR D → Prop) : Prop := ocP o (fun v0 => Q .normal (mkSt ⟨[(0, .hole)], []⟩ [.str x.1])) (fun w0 => R (.p (.c (.bool w0))))
def I_isHost_b0_cut (k : Nat) : Cut D := cutS ⟨[(0, .hole), (6, .hole), (7, .hole)], []⟩ [.ks, .ki .i64, .ki .i64] (fun (x : (List UInt8) × Int × Int × Unit) => I_isHost_b0 k k x.1 x.2.1 x.2.2.1) I_isHost_b0_L
def I_isHost_b0_cu (k : Nat) : Cuts D := ⟨[], []⟩
theorem I_isHost_b0_ok (k : Nat) : CutFor X I_isHost_pl k Go.Proofs.Tryz.f93.results.toList (I_isHost_b0_cut k) (sub (bodyOf Go.Proofs.Tryz.f93) [1, 0, 1]) :=
  loopCut_s (X := X) (sg := [.ks, .ki .i64, .ki .i64]) (cu := I_isHost_b0_cu k) (cl := I_isHost_cl k) (tys := [[0]]) (id := 0) (c := sub (bodyOf Go.Proofs.Tryz.f93) [1, 0, 1, 0, 0]) (f := fun n => fun (x : (List UInt8) × Int × Int × Unit) => I_isHost_b0 k n x.1 x.2.1 x.2.2.1) (I_isHost_ck k) (cutOK_of (l := []) (by kernel_rfl) trivial) (fun _ => rfl) (fun n x Q R h => by
    simp only [I_isHost_b0, optK_bind, optK_bif, optK_pure, optK_none, optK_oc, optK_guardT, optK_map] at h
    refine hold_of h ?_
    kernel_rfl) (by kernel_rfl)
def I_isHost_cu (k : Nat) : Cuts D := ⟨[(0, some (I_isHost_b0_cut k))], []⟩
def I_isHost_ar : List Ar := [.c (.ks)]
def I_isHost_f (k : Nat) (x : TupA D I_isHost_ar) : Option (Bool) := I_isHost k x.1
def I_isHost_vr (r : Bool) : VR D := .p (.c (.bool r))
theorem I_isHost_ok (k : Nat) : Does P X 93 I_isHost_ar (I_isHost_f k) I_isHost_vr :=
  does_of (body := bodyOf Go.Proofs.Tryz.f93) (pl := I_isHost_pl) (k := k) (cu := I_isHost_cu k) (tys := [[0]]) (I_isHost_ck k) ctx mixed Go.Proofs.Tryz.func93 (by kernel_rfl) (by kernel_rfl) (cutOK_of (l := [(I_isHost_b0_cut k, sub (bodyOf Go.Proofs.Tryz.f93) [1, 0, 1])]) (by kernel_rfl) ⟨I_isHost_b0_ok k, trivial⟩) fun x R h => by
    simp only [I_isHost_f, I_isHost, optK_bind, optK_bif, optK_pure, optK_none, optK_oc, optK_guardT, optK_map] at h
    refine hold_of h ?_
    kernel_rfl
def I_isHost_en (k : Nat) : Entry D := entS I_isHost_ar (I_isHost_f k) I_isHost_vr
theorem I_isHost_eo (k : Nat) : EntryOK X 93 (I_isHost_en k) := (I_isHost_ok k).en rfl
def I_LowerText_pl : Plan := ⟨[(0, [(0, none)]), (1, [(3, some 5)]), (2, [(3, some 5), (8, some 5), (9, none), (10, none)]), (3, [(3, some 5), (8, some 5), (9, none), (10, none), (11, none)]), (4, [(3, some 5), (4, none), (5, none), (8, some 5), (9, none), (10, none)]), (5, [(3, some 5), (4, none), (5, none), (8, some 5), (9, none), (10, none), (20, none)]), (6, [(3, some 5), (8, some 5), (9, none), (10, none)]), (7, [(3, some 5), (8, some 5), (9, none), (10, none)]), (8, [(2, none)])],
  [(0, [(3, some 5)]), (1, [(3, some 5), (8, some 5), (9, none), (10, none)])],
  [(11, ([(3, some 5), (8, some 5), (9, none), (10, none)], [(3, some 5)])), (20, ([(3, some 5), (4, none), (5, none), (8, some 5), (9, none), (10, none)], [(3, some 5), (8, some 5), (9, none), (10, none)]))]⟩
def I_LowerText_cl (k : Nat) : Calls' D := ⟨[], [], [], [], []⟩
theorem I_LowerText_ck (k : Nat) : CallsOK X (I_LowerText_cl k) := .nil cod
def I_LowerText_c20_L (x : Int × Int × Int × Int × Bool × (List Int) × Unit) (o : (List Int)) (Q : Ex → VSt D → Prop) (R : VR D → Prop) : Prop := Q .normal (mkSt ⟨[(3, .ref 500008), (8, .ref 500008), (9, .hole), (10, .hole)], [(500008, .row)]⟩ [.int .i64 x.2.2.1, .int .i64 x.2.2.2.1, .sl 5 o])
def I_LowerText_c20_cut (k : Nat) : Cut D := cutS ⟨[(3, .ref 500008), (4, .hole), (5, .hole), (8, .ref 500008), (9, .hole), (10, .hole), (20, .hole)], [(500008, .row)]⟩ [.ki .i64, .ki .u8, .ki .i64, .ki .i64, .kb, .kl 5] (fun (x : Int × Int × Int × Int × Bool × (List Int) × Unit) => I_LowerText_c20 k x.1 x.2.1 x.2.2.1 x.2.2.2.1 x.2.2.2.2.1 x.2.2.2.2.2.1) I_LowerText_c20_L
def I_LowerText_c20_cu (k : Nat) : Cuts D := ⟨[], []⟩
theorem I_LowerText_c20_ok (k : Nat) : CutFor X I_LowerText_pl k Go.Proofs.Tryz.f108.results.toList (I_LowerText_c20_cut k) (sub (bodyOf Go.Proofs.Tryz.f108) [1, 1, 0, 1, 0, 0, 1, 1, 0, 0, 1, 1]) :=
  joinCut_s (X := X) (sg := [.ki .i64, .ki .u8, .ki .i64, .ki .i64, .kb, .kl 5]) (cu := I_LowerText_c20_cu k) (cl := I_LowerText_cl k) (tys := [[0]]) (I_LowerText_ck k) (cutOK_of (l := []) (by kernel_rfl) trivial) fun x Q R h => by
    simp only [I_LowerText_c20, optK_bind, optK_bif, optK_pure, optK_none, optK_oc, optK_guardT, optK_map] at h
    refine hold_of h ?_
    kernel_rfl
def I_LowerText_b1_L (x : Int × Int × (List Int) × Unit) (o : (List Int)) (Q : Ex → VSt D → Prop) (R : VR D → Prop) : Prop := Q .normal (mkSt ⟨[(3, .ref 500008), (8, .ref 500008), (9, .hole), (10, .hole)], [(500008, .row)]⟩ [.int .i64 x.1, .int .i64 x.2.1, .sl 5 o])
def I_LowerText_b1_cut (k : Nat) : Cut D := cutS ⟨[(3, .ref 500008), (8, .ref 500008), (9, .hole), (10, .hole)], [(500008, .row)]⟩ [.ki .i64, .ki .i64, .kl 5] (fun (x : Int × Int × (List Int) × Unit) => I_LowerText_b1 k x.1 x.2.1 x.2.2.1) I_LowerText_b1_L
def I_LowerText_b1_cu (k : Nat) : Cuts D := ⟨[], [(20, some (I_LowerText_c20_cut k))]⟩
theorem I_LowerText_b1_ok (k : Nat) : CutFor X I_LowerText_pl k Go.Proofs.Tryz.f108.results.toList (I_LowerText_b1_cut k) (sub (bodyOf Go.Proofs.Tryz.f108) [1, 1, 0, 1, 0, 0, 1, 1, 0]) :=
  joinCut_s (X := X) (sg := [.ki .i64, .ki .i64, .kl 5]) (cu := I_LowerText_b1_cu k) (cl := I_LowerText_cl k) (tys := [[0]]) (I_LowerText_ck k) (cutOK_of (l := [(I_LowerText_c20_cut k, sub (bodyOf Go.Proofs.Tryz.f108) [1, 1, 0, 1, 0, 0, 1, 1, 0, 0, 1, 1])]) (by kernel_rfl) ⟨I_LowerText_c20_ok k, trivial⟩) fun x Q R h => by
    simp only [I_LowerText_b1, optK_bind, optK_bif, optK_pure, optK_none, optK_oc, optK_guardT, optK_map] at h
    refine hold_of h ?_
    kernel_rfl
def I_LowerText_b0_L (x : Int × Int × (List Int) × Unit) (o : (List Int)) (Q : Ex → VSt D → Prop) (R : VR D → Prop) : Prop := Q .normal (mkSt ⟨[(3, .ref 500003)], [(500003, .row)]⟩ [.sl 5 o])
def I_LowerText_b0_cut (k : Nat) : Cut D := cutS ⟨[(3, .ref 500008), (8, .ref 500008), (9, .hole), (10, .hole)], [(500008, .row)]⟩ [.ki .i64, .ki .i64, .kl 5] (fun (x : Int × Int × (List Int) × Unit) => I_LowerText_b0 k k x.1 x.2.1 x.2.2.1) I_LowerText_b0_L
def I_LowerText_b0_cu (k : Nat) : Cuts D := ⟨[(1, some (I_LowerText_b1_cut k))], []⟩
theorem I_LowerText_b0_ok (k : Nat) : CutFor X I_LowerText_pl k Go.Proofs.Tryz.f108.results.toList (I_LowerText_b0_cut k) (sub (bodyOf Go.Proofs.Tryz.f108) [1, 1, 0, 1]) :=
  loopCut_s (X := X) (sg := [.ki .i64, .ki .i64, .kl 5]) (cu := I_LowerText_b0_cu k) (cl := I_LowerText_cl k) (tys := [[0]]) (id := 0) (c := sub (bodyOf Go.Proofs.Tryz.f108) [1, 1, 0, 1, 0, 0]) (f := fun n => fun (x : Int × Int × (List Int) × Unit) => I_LowerText_b0 k n x.1 x.2.1 x.2.2.1) (I_LowerText_ck k) (cutOK_of (l := [(I_LowerText_b1_cut k, sub (bodyOf Go.Proofs.Tryz.f108) [1, 1, 0, 1, 0, 0, 1, 1, 0])]) (by kernel_rfl) ⟨I_LowerText_b1_ok k, trivial⟩) (fun _ => rfl) (fun n x Q R h => by
    simp only [I_LowerText_b0, optK_bind, optK_bif, optK_pure, optK_none, optK_oc, optK_guardT, optK_map] at h
    refine hold_of h ?_
    kernel_rfl) (by kernel_rfl)
def I_LowerText_cu (k : Nat) : Cuts D := ⟨[(0, some (I_LowerText_b0_cut k))], []⟩
def I_LowerText_ar : List Ar := [.c (.ks)]
def I_LowerText_f (k : Nat) (x : TupA D I_LowerText_ar) : Option ((List UInt8)) := I_LowerText k x.1
def I_LowerText_vr (r : (List UInt8)) : VR D := .p (.c (.str r))
theorem I_LowerText_ok (k : Nat) : Does P X 108 I_LowerText_ar (I_LowerText_f k) I_LowerText_vr :=
  does_of (body := bodyOf Go.Proofs.Tryz.f108) (pl := I_LowerText_pl) (k := k) (cu := I_LowerText_cu k) (tys := [[0]]) (I_LowerText_ck k) ctx mixed Go.Proofs.Tryz.func108 (by kernel_rfl) (by kernel_rfl) (cutOK_of (l := [(I_LowerText_b0_cut k, sub (bodyOf Go.Proofs.Tryz.f108) [1, 1, 0, 1])]) (by kernel_rfl) ⟨I_LowerText_b0_ok k, trivial⟩) fun x R h => by
    simp only [I_LowerText_f, I_LowerText, optK_bind, optK_bif, optK_pure, optK_none, optK_oc, optK_guardT, optK_map] at h
    refine hold_of h ?_
    kernel_rfl
def I_LowerText_en (k : Nat) : Entry D := entS I_LowerText_ar (I_LowerText_f k) I_LowerText_vr
theorem I_LowerText_eo (k : Nat) : EntryOK X 108 (I_LowerText_en k) := (I_LowerText_ok k).en rfl
def strings_Trim_ar : List Ar := [.c (.ks), .c (.ks)]
def strings_Trim_f (k : Nat) (x : TupA D strings_Trim_ar) : Option ((List UInt8)) := strings_Trim k x.1 x.2.1
def strings_Trim_vr (r : (List UInt8)) : VR D := .p (.c (.str r))
theorem strings_Trim_ok (k : Nat) : Does P X 121 strings_Trim_ar (strings_Trim_f k) strings_Trim_vr := does_trim ⟨Go.Proofs.Tryz.f121, Go.Proofs.Tryz.func121, by kernel_rfl, by kernel_rfl⟩ (fun s cs w hg h1 h2 h3 => Go.Proofs.Any.strings_Trim_laid Go.Proofs.Tryz.lays160 (by kernel_rfl) s cs w h1 h2 h3)
def strings_Trim_en (k : Nat) : Entry D := entS strings_Trim_ar (strings_Trim_f k) strings_Trim_vr
theorem strings_Trim_eo (k : Nat) : EntryOK X 121 (strings_Trim_en k) := (strings_Trim_ok k).en rfl
def I_TrimText_pl : Plan := ⟨[(0, [(0, none)]), (1, [(2, none)])],
  [],
  []⟩
def I_TrimText_cl (k : Nat) : Calls' D := ⟨[(121, strings_Trim_en k)], [], [], [], []⟩
theorem I_TrimText_ck (k : Nat) : CallsOK X (I_TrimText_cl k) := .cons (strings_Trim_eo k) (.nil cod)
def I_TrimText_cu (k : Nat) : Cuts D := ⟨[], []⟩
def I_TrimText_ar : List Ar := [.c (.ks)]
def I_TrimText_f (k : Nat) (x : TupA D I_TrimText_ar) : Option ((List UInt8)) := I_TrimText k x.1
def I_TrimText_vr (r : (List UInt8)) : VR D := .p (.c (.str r))
theorem I_TrimText_ok (k : Nat) : Does P X 127 I_TrimText_ar (I_TrimText_f k) I_TrimText_vr :=
  does_of (body := bodyOf Go.Proofs.Tryz.f127) (pl := I_TrimText_pl) (k := k) (cu := I_TrimText_cu k) (tys := [[0]]) (I_TrimText_ck k) ctx mixed Go.Proofs.Tryz.func127 (by kernel_rfl) (by kernel_rfl) (cutOK_of (l := []) (by kernel_rfl) trivial) fun x R h => by
    simp only [I_TrimText_f, I_TrimText, optK_bind, optK_bif, optK_pure, optK_none, optK_oc, optK_guardT, optK_map] at h
    refine hold_of h ?_
    kernel_rfl
def I_TrimText_en (k : Nat) : Entry D := entS I_TrimText_ar (I_TrimText_f k) I_TrimText_vr
theorem I_TrimText_eo (k : Nat) : EntryOK X 127 (I_TrimText_en k) := (I_TrimText_ok k).en rfl
def I_isFieldValue_pl : Plan := ⟨[(0, [(0, none)]), (1, [(0, none), (5, none), (6, none)]), (2, [(0, none), (5, none), (6, none), (7, none)]), (3, [(0, none), (3, none), (5, none), (6, none)]), (4, [(0, none), (5, none), (6, none), (20, none)]), (5, [(2, none)]), (6, [(0, none), (5, none), (6, none)]), (7, [(2, none)])],
  [(0, [(0, none)]), (1, [(0, none), (5, none), (6, none)])],
  [(7, ([(0, none), (5, none), (6, none)], [(0, none)])), (20, ([], [(0, none), (5, none), (6, none)]))]⟩
def I_isFieldValue_cl (k : Nat) : Calls' D := ⟨[(94, I_inRange_en k), (127, I_TrimText_en k)], [], [], [], []⟩
theorem I_isFieldValue_ck (k : Nat) : CallsOK X (I_isFieldValue_cl k) := .cons (I_inRange_eo k) (.cons (I_TrimText_eo k) (.nil cod))
def I_isFieldValue_b0_L (x : (List UInt8) × Int × Int × Unit) (o : Oc (Unit) (Bool)) (Q : Ex → VSt D → Prop) (R : VR D → Prop) : Prop := ocP o (fun v0 => Q .normal (mkSt ⟨[(0, .hole)], []⟩ [.str x.1])) (fun w0 => R (.p (.c (.bool w0))))
def I_isFieldValue_b0_cut (k : Nat) : Cut D := cutS ⟨[(0, .hole), (5, .hole), (6, .hole)], []⟩ [.ks, .ki .i64, .ki .i64] (fun (x : (List UInt8) × Int × Int × Unit) => I_isFieldValue_b0 k k x.1 x.2.1 x.2.2.1) I_isFieldValue_b0_L
def I_isFieldValue_b0_cu (k : Nat) : Cuts D := ⟨[], []⟩
theorem I_isFieldValue_b0_ok (k : Nat) : CutFor X I_isFieldValue_pl k Go.Proofs.Tryz.f106.results.toList (I_isFieldValue_b0_cut k) (sub (bodyOf Go.Proofs.Tryz.f106) [1, 0, 1]) :=
  loopCut_s (X := X) (sg := [.ks, .ki .i64, .ki .i64]) (cu := I_isFieldValue_b0_cu k) (cl := I_isFieldValue_cl k) (tys := [[0]]) (id := 0) (c := sub (bodyOf Go.Proofs.Tryz.f106) [1, 0, 1, 0, 0]) (f := fun n => fun (x : (List UInt8) × Int × Int × Unit) => I_isFieldValue_b0 k n x.1 x.2.1 x.2.2.1) (I_isFieldValue_ck k) (cutOK_of (l := []) (by kernel_rfl) trivial) (fun _ => rfl) (fun n x Q R h => by
    simp only [I_isFieldValue_b0, optK_bind, optK_bif, optK_pure, optK_none, optK_oc, optK_guardT, optK_map] at h
    refine hold_of h ?_
    kernel_rfl) (by kernel_rfl)
def I_isFieldValue_cu (k : Nat) : Cuts D := ⟨[(0, some (I_isFieldValue_b0_cut k))], []⟩
def I_isFieldValue_ar : List Ar := [.c (.ks)]
def I_isFieldValue_f (k : Nat) (x : TupA D I_isFieldValue_ar) : Option (Bool) := I_isFieldValue k x.1
def I_isFieldValue_vr (r : Bool) : VR D := .p (.c (.bool r))
theorem I_isFieldValue_ok (k : Nat) : Does P X 106 I_isFieldValue_ar (I_isFieldValue_f k) I_isFieldValue_vr :=
  does_of (body := bodyOf Go.Proofs.Tryz.f106) (pl := I_isFieldValue_pl) (k := k) (cu := I_isFieldValue_cu k) (tys := [[0]]) (I_isFieldValue_ck k) ctx mixed Go.Proofs.Tryz.func106 (by kernel_rfl) (by kernel_rfl) (cutOK_of (l := [(I_isFieldValue_b0_cut k, sub (bodyOf Go.Proofs.Tryz.f106) [1, 0, 1])]) (by kernel_rfl) ⟨I_isFieldValue_b0_ok k, trivial⟩) fun x R h => by
    simp only [I_isFieldValue_f, I_isFieldValue, optK_bind, optK_bif, optK_pure, optK_none, optK_oc, optK_guardT, optK_map] at h
    refine hold_of h ?_
    kernel_rfl
def I_isFieldValue_en (k : Nat) : Entry D := entS I_isFieldValue_ar (I_isFieldValue_f k) I_isFieldValue_vr
theorem I_isFieldValue_eo (k : Nat) : EntryOK X 106 (I_isFieldValue_en k) := (I_isFieldValue_ok k).en rfl
def I_AreFields_pl : Plan := ⟨[(0, [(0, some 107)]), (1, [(0, some 107), (5, some 107), (6, none), (7, none)]), (2, [(0, some 107), (5, some 107), (6, none), (7, none), (8, none)]), (3, [(0, some 107), (4, none), (5, some 107), (6, none), (7, none)]), (4, [(0, some 107), (5, some 107), (6, none), (7, none), (28, none)]), (5, [(2, none)]), (6, [(0, some 107), (5, some 107), (6, none), (7, none)]), (7, [(2, none)])],
  [(0, [(0, some 107)]), (1, [(0, some 107), (5, some 107), (6, none), (7, none)])],
  [(8, ([(0, some 107), (5, some 107), (6, none), (7, none)], [(0, some 107)])), (28, ([], [(0, some 107), (5, some 107), (6, none), (7, none)]))]⟩
def I_AreFields_cl (k : Nat) : Calls' D := ⟨[(91, I_IsToken_en k), (108, I_LowerText_en k), (106, I_isFieldValue_en k)], [], [], [], []⟩
theorem I_AreFields_ck (k : Nat) : CallsOK X (I_AreFields_cl k) := .cons (I_IsToken_eo k) (.cons (I_LowerText_eo k) (.cons (I_isFieldValue_eo k) (.nil cod)))
def I_AreFields_b0_L (x : (List IField) × (List IField) × Int × Int × Unit) (o : Oc (Unit) (Bool)) (Q : Ex → VSt D → Prop) (R : VR D → Prop) : Prop := ocP o (fun v0 => Q .normal (mkSt ⟨[(0, .hole)], []⟩ [.sl 107 x.1])) (fun w0 => R (.p (.c (.bool w0))))
def I_AreFields_b0_cut (k : Nat) : Cut D := cutS ⟨[(0, .hole), (5, .hole), (6, .hole), (7, .hole)], []⟩ [.kl 107, .kl 107, .ki .i64, .ki .i64] (fun (x : (List IField) × (List IField) × Int × Int × Unit) => I_AreFields_b0 k k x.1 x.2.1 x.2.2.1 x.2.2.2.1) I_AreFields_b0_L
def I_AreFields_b0_cu (k : Nat) : Cuts D := ⟨[], []⟩
theorem I_AreFields_b0_ok (k : Nat) : CutFor X I_AreFields_pl k Go.Proofs.Tryz.f95.results.toList (I_AreFields_b0_cut k) (sub (bodyOf Go.Proofs.Tryz.f95) [1, 0, 1]) :=
  loopCut_s (X := X) (sg := [.kl 107, .kl 107, .ki .i64, .ki .i64]) (cu := I_AreFields_b0_cu k) (cl := I_AreFields_cl k) (tys := [[0]]) (id := 0) (c := sub (bodyOf Go.Proofs.Tryz.f95) [1, 0, 1, 0, 0]) (f := fun n => fun (x : (List IField) × (List IField) × Int × Int × Unit) => I_AreFields_b0 k n x.1 x.2.1 x.2.2.1 x.2.2.2.1) (I_AreFields_ck k) (cutOK_of (l := []) (by kernel_rfl) trivial) (fun _ => rfl) (fun n x Q R h => by
    simp only [I_AreFields_b0, optK_bind, optK_bif, optK_pure, optK_none, optK_oc, optK_guardT, optK_map] at h
    refine hold_of h ?_
    kernel_rfl) (by kernel_rfl)
def I_AreFields_cu (k : Nat) : Cuts D := ⟨[(0, some (I_AreFields_b0_cut k))], []⟩
def I_AreFields_ar : List Ar := [.c (.kl 107)]
def I_AreFields_f (k : Nat) (x : TupA D I_AreFields_ar) : Option (Bool) := I_AreFields k x.1
def I_AreFields_vr (r : Bool) : VR D := .p (.c (.bool r))
theorem I_AreFields_ok (k : Nat) : Does P X 95 I_AreFields_ar (I_AreFields_f k) I_AreFields_vr :=
  does_of (body := bodyOf Go.Proofs.Tryz.f95) (pl := I_AreFields_pl) (k := k) (cu := I_AreFields_cu k) (tys := [[0]]) (I_AreFields_ck k) ctx mixed Go.Proofs.Tryz.func95 (by kernel_rfl) (by kernel_rfl) (cutOK_of (l := [(I_AreFields_b0_cut k, sub (bodyOf Go.Proofs.Tryz.f95) [1, 0, 1])]) (by kernel_rfl) ⟨I_AreFields_b0_ok k, trivial⟩) fun x R h => by
    simp only [I_AreFields_f, I_AreFields, optK_bind, optK_bif, optK_pure, optK_none, optK_oc, optK_guardT, optK_map] at h
    refine hold_of h ?_
    kernel_rfl
def I_AreFields_en (k : Nat) : Entry D := entS I_AreFields_ar (I_AreFields_f k) I_AreFields_vr
theorem I_AreFields_eo (k : Nat) : EntryOK X 95 (I_AreFields_en k) := (I_AreFields_ok k).en rfl
def I_hasField_1_pl : Plan := ⟨[(0, [(1, none), (2, none)]), (1, [(3, none)])],
  [],
  []⟩
def I_hasField_1_cl (k : Nat) : Calls' D := ⟨[], [], [], [], []⟩
theorem I_hasField_1_ck (k : Nat) : CallsOK X (I_hasField_1_cl k) := .nil cod
def I_hasField_1_cu (k : Nat) : Cuts D := ⟨[], []⟩
def I_hasField_1_ar : List Ar := [.a [.ks, .ks], .x [.ks]]
def I_hasField_1_f (k : Nat) (x : TupA D I_hasField_1_ar) : Option (Bool) := I_hasField_1 k (⟨x.1.1, x.1.2.1⟩ : IField) x.2.1.1
def I_hasField_1_vr (r : Bool) : VR D := .p (.c (.bool r))
theorem I_hasField_1_ok (k : Nat) : Does P X 135 I_hasField_1_ar (I_hasField_1_f k) I_hasField_1_vr :=
  does_of (body := bodyOf Go.Proofs.Tryz.f135) (pl := I_hasField_1_pl) (k := k) (cu := I_hasField_1_cu k) (tys := [[0]]) (I_hasField_1_ck k) ctx mixed Go.Proofs.Tryz.func135 (by kernel_rfl) (by kernel_rfl) (cutOK_of (l := []) (by kernel_rfl) trivial) fun x R h => by
    simp only [I_hasField_1_f, I_hasField_1, optK_bind, optK_bif, optK_pure, optK_none, optK_oc, optK_guardT, optK_map] at h
    refine hold_of h ?_
    kernel_rfl
def I_hasField_1_en (k : Nat) : Entry D := entS I_hasField_1_ar (I_hasField_1_f k) I_hasField_1_vr
theorem I_hasField_1_eo (k : Nat) : EntryOK X 135 (I_hasField_1_en k) := (I_hasField_1_ok k).en rfl
def slices_IndexFunc_IField_at_I_hasField_1_pl : Plan := ⟨[(0, [(0, some 107), (1, none)]), (1, [(0, some 107), (1, none), (7, none), (8, none)]), (2, [(0, some 107), (1, none), (7, none), (8, none), (9, none)]), (3, [(0, some 107), (1, none), (5, none), (7, none), (8, none)]), (4, [(0, some 107), (1, none), (5, none), (7, none), (8, none), (16, none)]), (5, [(4, none)]), (6, [(0, some 107), (1, none), (7, none), (8, none)]), (7, [(4, none)])],
  [(0, []), (1, [(0, some 107), (1, none), (7, none), (8, none)])],
  [(9, ([(0, some 107), (1, none), (7, none), (8, none)], [])), (16, ([(5, none)], [(0, some 107), (1, none), (7, none), (8, none)]))]⟩
def slices_IndexFunc_IField_at_I_hasField_1_cl (k : Nat) : Calls' D := ⟨[(135, I_hasField_1_en k)], [], [], [], []⟩
theorem slices_IndexFunc_IField_at_I_hasField_1_ck (k : Nat) : CallsOK X (slices_IndexFunc_IField_at_I_hasField_1_cl k) := .cons (I_hasField_1_eo k) (.nil cod)
def slices_IndexFunc_IField_at_I_hasField_1_b0_L (x : (List IField) × (List UInt8) × Int × Int × Unit) (o : Oc (Unit) (Int)) (Q : Ex → VSt D → Prop) (R : VR D → Prop) : Prop := ocP o (fun v0 => Q .normal (mkSt ⟨[], []⟩ [])) (fun w0 => R (.p (.c (.int .i64 w0))))
def slices_IndexFunc_IField_at_I_hasField_1_b0_cut (k : Nat) : Cut D := cutS ⟨[(0, .hole), (1, .clo 135 [.rptr 1]), (7, .hole), (8, .hole)], []⟩ [.kl 107, .ks, .ki .i64, .ki .i64] (fun (x : (List IField) × (List UInt8) × Int × Int × Unit) => slices_IndexFunc_IField_at_I_hasField_1_b0 k k x.1 x.2.1 x.2.2.1 x.2.2.2.1) slices_IndexFunc_IField_at_I_hasField_1_b0_L
def slices_IndexFunc_IField_at_I_hasField_1_b0_cu (k : Nat) : Cuts D := ⟨[], []⟩
theorem slices_IndexFunc_IField_at_I_hasField_1_b0_ok (k : Nat) : CutFor X slices_IndexFunc_IField_at_I_hasField_1_pl k Go.Proofs.Tryz.f198.results.toList (slices_IndexFunc_IField_at_I_hasField_1_b0_cut k) (sub (bodyOf Go.Proofs.Tryz.f198) [1, 0, 1]) :=
  loopCut_s (X := X) (sg := [.kl 107, .ks, .ki .i64, .ki .i64]) (cu := slices_IndexFunc_IField_at_I_hasField_1_b0_cu k) (cl := slices_IndexFunc_IField_at_I_hasField_1_cl k) (tys := [[0]]) (id := 0) (c := sub (bodyOf Go.Proofs.Tryz.f198) [1, 0, 1, 0, 0]) (f := fun n => fun (x : (List IField) × (List UInt8) × Int × Int × Unit) => slices_IndexFunc_IField_at_I_hasField_1_b0 k n x.1 x.2.1 x.2.2.1 x.2.2.2.1) (slices_IndexFunc_IField_at_I_hasField_1_ck k) (cutOK_of (l := []) (by kernel_rfl) trivial) (fun _ => rfl) (fun n x Q R h => by
    simp only [slices_IndexFunc_IField_at_I_hasField_1_b0, optK_bind, optK_bif, optK_pure, optK_none, optK_oc, optK_guardT, optK_map] at h
    refine hold_of h ?_
    kernel_rfl) (by kernel_rfl)
def slices_IndexFunc_IField_at_I_hasField_1_cu (k : Nat) : Cuts D := ⟨[(0, some (slices_IndexFunc_IField_at_I_hasField_1_b0_cut k))], []⟩
def slices_IndexFunc_IField_at_I_hasField_1_ar : List Ar := [.c (.kl 107), .f 135 [[.ks]]]
def slices_IndexFunc_IField_at_I_hasField_1_f (k : Nat) (x : TupA D slices_IndexFunc_IField_at_I_hasField_1_ar) : Option (Int) := slices_IndexFunc_IField_at_I_hasField_1 k x.1 x.2.1.1.1
def slices_IndexFunc_IField_at_I_hasField_1_vr (r : Int) : VR D := .p (.c (.int .i64 r))
theorem slices_IndexFunc_IField_at_I_hasField_1_ok (k : Nat) : Does P X 198 slices_IndexFunc_IField_at_I_hasField_1_ar (slices_IndexFunc_IField_at_I_hasField_1_f k) slices_IndexFunc_IField_at_I_hasField_1_vr :=
  does_of (body := bodyOf Go.Proofs.Tryz.f198) (pl := slices_IndexFunc_IField_at_I_hasField_1_pl) (k := k) (cu := slices_IndexFunc_IField_at_I_hasField_1_cu k) (tys := [[0]]) (slices_IndexFunc_IField_at_I_hasField_1_ck k) ctx mixed Go.Proofs.Tryz.func198 (by kernel_rfl) (by kernel_rfl) (cutOK_of (l := [(slices_IndexFunc_IField_at_I_hasField_1_b0_cut k, sub (bodyOf Go.Proofs.Tryz.f198) [1, 0, 1])]) (by kernel_rfl) ⟨slices_IndexFunc_IField_at_I_hasField_1_b0_ok k, trivial⟩) fun x R h => by
    simp only [slices_IndexFunc_IField_at_I_hasField_1_f, slices_IndexFunc_IField_at_I_hasField_1, optK_bind, optK_bif, optK_pure, optK_none, optK_oc, optK_guardT, optK_map] at h
    refine hold_of h ?_
    kernel_rfl
def slices_IndexFunc_IField_at_I_hasField_1_en (k : Nat) : Entry D := entS slices_IndexFunc_IField_at_I_hasField_1_ar (slices_IndexFunc_IField_at_I_hasField_1_f k) slices_IndexFunc_IField_at_I_hasField_1_vr
theorem slices_IndexFunc_IField_at_I_hasField_1_eo (k : Nat) : EntryOK X 198 (slices_IndexFunc_IField_at_I_hasField_1_en k) := (slices_IndexFunc_IField_at_I_hasField_1_ok k).en rfl
def slices_ContainsFunc_IField_at_I_hasField_1_pl : Plan := ⟨[(0, [(0, some 107), (1, none)]), (1, [(4, none)])],
  [],
  []⟩
def slices_ContainsFunc_IField_at_I_hasField_1_cl (k : Nat) : Calls' D := ⟨[(198, slices_IndexFunc_IField_at_I_hasField_1_en k)], [], [], [], []⟩
theorem slices_ContainsFunc_IField_at_I_hasField_1_ck (k : Nat) : CallsOK X (slices_ContainsFunc_IField_at_I_hasField_1_cl k) := .cons (slices_IndexFunc_IField_at_I_hasField_1_eo k) (.nil cod)
def slices_ContainsFunc_IField_at_I_hasField_1_cu (k : Nat) : Cuts D := ⟨[], []⟩
def slices_ContainsFunc_IField_at_I_hasField_1_ar : List Ar := [.c (.kl 107), .f 135 [[.ks]]]
def slices_ContainsFunc_IField_at_I_hasField_1_f (k : Nat) (x : TupA D slices_ContainsFunc_IField_at_I_hasField_1_ar) : Option (Bool) := slices_ContainsFunc_IField_at_I_hasField_1 k x.1 x.2.1.1.1
def slices_ContainsFunc_IField_at_I_hasField_1_vr (r : Bool) : VR D := .p (.c (.bool r))
theorem slices_ContainsFunc_IField_at_I_hasField_1_ok (k : Nat) : Does P X 134 slices_ContainsFunc_IField_at_I_hasField_1_ar (slices_ContainsFunc_IField_at_I_hasField_1_f k) slices_ContainsFunc_IField_at_I_hasField_1_vr :=
  does_of (body := bodyOf Go.Proofs.Tryz.f134) (pl := slices_ContainsFunc_IField_at_I_hasField_1_pl) (k := k) (cu := slices_ContainsFunc_IField_at_I_hasField_1_cu k) (tys := [[0]]) (slices_ContainsFunc_IField_at_I_hasField_1_ck k) ctx mixed Go.Proofs.Tryz.func134 (by kernel_rfl) (by kernel_rfl) (cutOK_of (l := []) (by kernel_rfl) trivial) fun x R h => by
    simp only [slices_ContainsFunc_IField_at_I_hasField_1_f, slices_ContainsFunc_IField_at_I_hasField_1, optK_bind, optK_bif, optK_pure, optK_none, optK_oc, optK_guardT, optK_map] at h
    refine hold_of h ?_
    kernel_rfl
def slices_ContainsFunc_IField_at_I_hasField_1_en (k : Nat) : Entry D := entS slices_ContainsFunc_IField_at_I_hasField_1_ar (slices_ContainsFunc_IField_at_I_hasField_1_f k) slices_ContainsFunc_IField_at_I_hasField_1_vr
theorem slices_ContainsFunc_IField_at_I_hasField_1_eo (k : Nat) : EntryOK X 134 (slices_ContainsFunc_IField_at_I_hasField_1_en k) := (slices_ContainsFunc_IField_at_I_hasField_1_ok k).en rfl
def I_hasField_pl : Plan := ⟨[(0, [(0, some 107), (3, none)]), (1, [(4, none)])],
  [],
  []⟩
def I_hasField_cl (k : Nat) : Calls' D := ⟨[(134, slices_ContainsFunc_IField_at_I_hasField_1_en k)], [], [], [], []⟩
theorem I_hasField_ck (k : Nat) : CallsOK X (I_hasField_cl k) := .cons (slices_ContainsFunc_IField_at_I_hasField_1_eo k) (.nil cod)
def I_hasField_cu (k : Nat) : Cuts D := ⟨[], []⟩
def I_hasField_ar : List Ar := [.c (.kl 107), .c (.ks)]
def I_hasField_f (k : Nat) (x : TupA D I_hasField_ar) : Option (Bool) := I_hasField k x.1 x.2.1
def I_hasField_vr (r : Bool) : VR D := .p (.c (.bool r))
theorem I_hasField_ok (k : Nat) : Does P X 72 I_hasField_ar (I_hasField_f k) I_hasField_vr :=
  does_of (body := bodyOf Go.Proofs.Tryz.f72) (pl := I_hasField_pl) (k := k) (cu := I_hasField_cu k) (tys := [[0]]) (I_hasField_ck k) ctx mixed Go.Proofs.Tryz.func72 (by kernel_rfl) (by kernel_rfl) (cutOK_of (l := []) (by kernel_rfl) trivial) fun x R h => by
    simp only [I_hasField_f, I_hasField, optK_bind, optK_bif, optK_pure, optK_none, optK_oc, optK_guardT, optK_map] at h
    refine hold_of h ?_
    kernel_rfl
def I_hasField_en (k : Nat) : Entry D := entS I_hasField_ar (I_hasField_f k) I_hasField_vr
theorem I_hasField_eo (k : Nat) : EntryOK X 72 (I_hasField_en k) := (I_hasField_ok k).en rfl
def I_IsRequest_pl : Plan := ⟨[(0, [(1, none)]), (1, [(1, none), (34, none)]), (2, [(2, none)]), (3, [(1, none), (37, none), (38, none)]), (4, [(1, none), (37, none), (38, none), (39, none)]), (5, [(1, none), (3, none), (37, none), (38, none)]), (6, [(1, none), (37, none), (38, none), (47, none)]), (7, [(2, none)]), (8, [(1, none), (37, none), (38, none)]), (9, [(2, none)])],
  [(0, [(1, none)]), (1, [(1, none), (37, none), (38, none)])],
  [(34, ([], [(1, none)])), (39, ([(1, none), (37, none), (38, none)], [(1, none)])), (47, ([], [(1, none), (37, none), (38, none)]))]⟩
def I_IsRequest_cl (k : Nat) : Calls' D := ⟨[(91, I_IsToken_en k), (92, strings_ToUpper_en k), (93, I_isHost_en k), (94, I_inRange_en k), (95, I_AreFields_en k), (72, I_hasField_en k)], [], [], [], []⟩
theorem I_IsRequest_ck (k : Nat) : CallsOK X (I_IsRequest_cl k) := .cons (I_IsToken_eo k) (.cons (strings_ToUpper_eo k) (.cons (I_isHost_eo k) (.cons (I_inRange_eo k) (.cons (I_AreFields_eo k) (.cons (I_hasField_eo k) (.nil cod))))))
def I_IsRequest_b0_L (x : Int × Int × (List UInt8) × (List UInt8) × (List UInt8) × (List IField) × Unit) (o : Oc (Unit) (Bool)) (Q : Ex → VSt D → Prop) (R : VR D → Prop) : Prop := ocP o (fun v0 => Q .normal (mkSt ⟨[(1, .ptr 1 0)], [(1, .var [.hole, .hole, .hole, .hole])]⟩ [.str x.2.2.1, .str x.2.2.2.1, .str x.2.2.2.2.1, .sl 107 x.2.2.2.2.2.1])) (fun w0 => R (.p (.c (.bool w0))))
def I_IsRequest_b0_cut (k : Nat) : Cut D := cutS ⟨[(1, .ptr 1 0), (37, .hole), (38, .hole)], [(1, .var [.hole, .hole, .hole, .hole])]⟩ [.ki .i64, .ki .i64, .ks, .ks, .ks, .kl 107] (fun (x : Int × Int × (List UInt8) × (List UInt8) × (List UInt8) × (List IField) × Unit) => I_IsRequest_b0 k k x.1 x.2.1 x.2.2.1 x.2.2.2.1 x.2.2.2.2.1 x.2.2.2.2.2.1) I_IsRequest_b0_L
def I_IsRequest_b0_cu (k : Nat) : Cuts D := ⟨[], []⟩
theorem I_IsRequest_b0_ok (k : Nat) : CutFor X I_IsRequest_pl k Go.Proofs.Tryz.f38.results.toList (I_IsRequest_b0_cut k) (sub (bodyOf Go.Proofs.Tryz.f38) [1, 1, 0, 1]) :=
  loopCut_s (X := X) (sg := [.ki .i64, .ki .i64, .ks, .ks, .ks, .kl 107]) (cu := I_IsRequest_b0_cu k) (cl := I_IsRequest_cl k) (tys := [[0]]) (id := 0) (c := sub (bodyOf Go.Proofs.Tryz.f38) [1, 1, 0, 1, 0, 0]) (f := fun n => fun (x : Int × Int × (List UInt8) × (List UInt8) × (List UInt8) × (List IField) × Unit) => I_IsRequest_b0 k n x.1 x.2.1 x.2.2.1 x.2.2.2.1 x.2.2.2.2.1 x.2.2.2.2.2.1) (I_IsRequest_ck k) (cutOK_of (l := []) (by kernel_rfl) trivial) (fun _ => rfl) (fun n x Q R h => by
    simp only [I_IsRequest_b0, optK_bind, optK_bif, optK_pure, optK_none, optK_oc, optK_guardT, optK_map] at h
    refine hold_of h ?_
    kernel_rfl) (by kernel_rfl)
def I_IsRequest_cu (k : Nat) : Cuts D := ⟨[(0, some (I_IsRequest_b0_cut k))], []⟩
def I_IsRequest_ar : List Ar := [.a [.ks, .ks, .ks, .kl 107]]
def I_IsRequest_f (k : Nat) (x : TupA D I_IsRequest_ar) : Option (Bool) := I_IsRequest k (⟨x.1.1, x.1.2.1, x.1.2.2.1, x.1.2.2.2.1⟩ : IRequest)
def I_IsRequest_vr (r : Bool) : VR D := .p (.c (.bool r))
theorem I_IsRequest_ok (k : Nat) : Does P X 38 I_IsRequest_ar (I_IsRequest_f k) I_IsRequest_vr :=
  does_of (body := bodyOf Go.Proofs.Tryz.f38) (pl := I_IsRequest_pl) (k := k) (cu := I_IsRequest_cu k) (tys := [[0]]) (I_IsRequest_ck k) ctx mixed Go.Proofs.Tryz.func38 (by kernel_rfl) (by kernel_rfl) (cutOK_of (l := [(I_IsRequest_b0_cut k, sub (bodyOf Go.Proofs.Tryz.f38) [1, 1, 0, 1])]) (by kernel_rfl) ⟨I_IsRequest_b0_ok k, trivial⟩) fun x R h => by
    simp only [I_IsRequest_f, I_IsRequest, optK_bind, optK_bif, optK_pure, optK_none, optK_oc, optK_guardT, optK_map] at h
    refine hold_of h ?_
    kernel_rfl
def I_IsRequest_en (k : Nat) : Entry D := entS I_IsRequest_ar (I_IsRequest_f k) I_IsRequest_vr
theorem I_IsRequest_eo (k : Nat) : EntryOK X 38 (I_IsRequest_en k) := (I_IsRequest_ok k).en rfl
def I_KeyOf_pl : Plan := ⟨[(0, [(1, none)]), (1, [(1, none), (4, none), (5, none)]), (2, [(1, none), (4, none), (18, none)]), (3, [(2, none), (3, none)]), (4, [(2, none), (3, none)])],
  [],
  [(18, ([], [(1, none), (4, none)]))]⟩
def I_KeyOf_cl (k : Nat) : Calls' D := ⟨[(37, I_NormalTarget_en k), (38, I_IsRequest_en k)], [], [], [], []⟩
theorem I_KeyOf_ck (k : Nat) : CallsOK X (I_KeyOf_cl k) := .cons (I_NormalTarget_eo k) (.cons (I_IsRequest_eo k) (.nil cod))
def I_KeyOf_cu (k : Nat) : Cuts D := ⟨[], []⟩
def I_KeyOf_ar : List Ar := [.a [.ks, .ks, .ks, .kl 107]]
def I_KeyOf_f (k : Nat) (x : TupA D I_KeyOf_ar) : Option ((List UInt8) × Bool) := I_KeyOf k (⟨x.1.1, x.1.2.1, x.1.2.2.1, x.1.2.2.2.1⟩ : IRequest)
def I_KeyOf_vr (r : (List UInt8) × Bool) : VR D := .tup [.c (.str r.1), .c (.bool r.2)]
theorem I_KeyOf_ok (k : Nat) : Does P X 13 I_KeyOf_ar (I_KeyOf_f k) I_KeyOf_vr :=
  does_of (body := bodyOf Go.Proofs.Tryz.f13) (pl := I_KeyOf_pl) (k := k) (cu := I_KeyOf_cu k) (tys := [[0], [0]]) (I_KeyOf_ck k) ctx mixed Go.Proofs.Tryz.func13 (by kernel_rfl) (by kernel_rfl) (cutOK_of (l := []) (by kernel_rfl) trivial) fun x R h => by
    simp only [I_KeyOf_f, I_KeyOf, optK_bind, optK_bif, optK_pure, optK_none, optK_oc, optK_guardT, optK_map] at h
    refine hold_of h ?_
    kernel_rfl
def I_KeyOf_en (k : Nat) : Entry D := entS I_KeyOf_ar (I_KeyOf_f k) I_KeyOf_vr
theorem I_KeyOf_eo (k : Nat) : EntryOK X 13 (I_KeyOf_en k) := (I_KeyOf_ok k).en rfl
def L_eqField_pl : Plan := ⟨[(0, [(2, none), (3, none)]), (1, [(2, none), (3, none), (9, none)]), (2, [(4, none)]), (3, [(14, none)]), (4, [(4, none)]), (5, [(4, none)])],
  [],
  [(9, ([], [(2, none), (3, none)])), (14, ([], []))]⟩
def L_eqField_cl (k : Nat) : Calls' D := ⟨[], [], [], [], []⟩
theorem L_eqField_ck (k : Nat) : CallsOK X (L_eqField_cl k) := .nil cod
def L_eqField_cu (k : Nat) : Cuts D := ⟨[], []⟩
def L_eqField_ar : List Ar := [.a [.ks, .ks], .a [.ks, .ks]]
def L_eqField_f (k : Nat) (x : TupA D L_eqField_ar) : Option (Bool) := L_eqField k (⟨x.1.1, x.1.2.1⟩ : IField) (⟨x.2.1.1, x.2.1.2.1⟩ : IField)
def L_eqField_vr (r : Bool) : VR D := .p (.c (.bool r))
theorem L_eqField_ok (k : Nat) : Does P X 96 L_eqField_ar (L_eqField_f k) L_eqField_vr :=
  does_of (body := bodyOf Go.Proofs.Tryz.f96) (pl := L_eqField_pl) (k := k) (cu := L_eqField_cu k) (tys := [[0]]) (L_eqField_ck k) ctx mixed Go.Proofs.Tryz.func96 (by kernel_rfl) (by kernel_rfl) (cutOK_of (l := []) (by kernel_rfl) trivial) fun x R h => by
    simp only [L_eqField_f, L_eqField, optK_bind, optK_bif, optK_pure, optK_none, optK_oc, optK_guardT, optK_map] at h
    refine hold_of h ?_
    kernel_rfl
def L_eqField_en (k : Nat) : Entry D := entS L_eqField_ar (L_eqField_f k) L_eqField_vr
theorem L_eqField_eo (k : Nat) : EntryOK X 96 (L_eqField_en k) := (L_eqField_ok k).en rfl
def L_eqFieldS_pl : Plan := ⟨[(0, [(0, some 107), (1, some 107)]), (1, [(0, some 107), (1, some 107), (10, none)]), (2, [(4, none)]), (3, [(0, some 107), (1, some 107), (5, none)]), (4, [(0, some 107), (1, some 107), (5, none), (14, none)]), (5, [(0, some 107), (1, some 107), (5, none)]), (6, [(0, some 107), (1, some 107), (5, none), (26, none)]), (7, [(4, none)]), (8, [(4, none)])],
  [(0, []), (1, [(0, some 107), (1, some 107), (5, none)])],
  [(10, ([], [(0, some 107), (1, some 107)])), (14, ([(0, some 107), (1, some 107), (5, none)], [])), (26, ([], [(0, some 107), (1, some 107), (5, none)]))]⟩
def L_eqFieldS_cl (k : Nat) : Calls' D := ⟨[(96, L_eqField_en k)], [], [], [], []⟩
theorem L_eqFieldS_ck (k : Nat) : CallsOK X (L_eqFieldS_cl k) := .cons (L_eqField_eo k) (.nil cod)
def L_eqFieldS_b0_L (x : (List IField) × (List IField) × Int × Unit) (o : Oc (Unit) (Bool)) (Q : Ex → VSt D → Prop) (R : VR D → Prop) : Prop := ocP o (fun v0 => Q .normal (mkSt ⟨[], []⟩ [])) (fun w0 => R (.p (.c (.bool w0))))
def L_eqFieldS_b0_cut (k : Nat) : Cut D := cutS ⟨[(0, .hole), (1, .hole), (5, .hole)], []⟩ [.kl 107, .kl 107, .ki .i64] (fun (x : (List IField) × (List IField) × Int × Unit) => L_eqFieldS_b0 k k x.1 x.2.1 x.2.2.1) L_eqFieldS_b0_L
def L_eqFieldS_b0_cu (k : Nat) : Cuts D := ⟨[], []⟩
theorem L_eqFieldS_b0_ok (k : Nat) : CutFor X L_eqFieldS_pl k Go.Proofs.Tryz.f39.results.toList (L_eqFieldS_b0_cut k) (sub (bodyOf Go.Proofs.Tryz.f39) [1, 1, 0, 1]) :=
  loopCut_s (X := X) (sg := [.kl 107, .kl 107, .ki .i64]) (cu := L_eqFieldS_b0_cu k) (cl := L_eqFieldS_cl k) (tys := [[0]]) (id := 0) (c := sub (bodyOf Go.Proofs.Tryz.f39) [1, 1, 0, 1, 0, 0]) (f := fun n => fun (x : (List IField) × (List IField) × Int × Unit) => L_eqFieldS_b0 k n x.1 x.2.1 x.2.2.1) (L_eqFieldS_ck k) (cutOK_of (l := []) (by kernel_rfl) trivial) (fun _ => rfl) (fun n x Q R h => by
    simp only [L_eqFieldS_b0, optK_bind, optK_bif, optK_pure, optK_none, optK_oc, optK_guardT, optK_map] at h
    refine hold_of h ?_
    kernel_rfl) (by kernel_rfl)
def L_eqFieldS_cu (k : Nat) : Cuts D := ⟨[(0, some (L_eqFieldS_b0_cut k))], []⟩
def L_eqFieldS_ar : List Ar := [.c (.kl 107), .c (.kl 107)]
def L_eqFieldS_f (k : Nat) (x : TupA D L_eqFieldS_ar) : Option (Bool) := L_eqFieldS k x.1 x.2.1
def L_eqFieldS_vr (r : Bool) : VR D := .p (.c (.bool r))
theorem L_eqFieldS_ok (k : Nat) : Does P X 39 L_eqFieldS_ar (L_eqFieldS_f k) L_eqFieldS_vr :=
  does_of (body := bodyOf Go.Proofs.Tryz.f39) (pl := L_eqFieldS_pl) (k := k) (cu := L_eqFieldS_cu k) (tys := [[0]]) (L_eqFieldS_ck k) ctx mixed Go.Proofs.Tryz.func39 (by kernel_rfl) (by kernel_rfl) (cutOK_of (l := [(L_eqFieldS_b0_cut k, sub (bodyOf Go.Proofs.Tryz.f39) [1, 1, 0, 1])]) (by kernel_rfl) ⟨L_eqFieldS_b0_ok k, trivial⟩) fun x R h => by
    simp only [L_eqFieldS_f, L_eqFieldS, optK_bind, optK_bif, optK_pure, optK_none, optK_oc, optK_guardT, optK_map] at h
    refine hold_of h ?_
    kernel_rfl
def L_eqFieldS_en (k : Nat) : Entry D := entS L_eqFieldS_ar (L_eqFieldS_f k) L_eqFieldS_vr
theorem L_eqFieldS_eo (k : Nat) : EntryOK X 39 (L_eqFieldS_en k) := (L_eqFieldS_ok k).en rfl
def L_eqRequest_pl : Plan := ⟨[(0, [(2, none), (3, none)]), (1, [(2, none), (3, none), (9, none)]), (2, [(4, none)]), (3, [(2, none), (3, none), (14, none)]), (4, [(4, none)]), (5, [(2, none), (3, none), (19, none)]), (6, [(4, none)]), (7, [(25, none)]), (8, [(4, none)]), (9, [(4, none)])],
  [],
  [(9, ([], [(2, none), (3, none)])), (14, ([], [(2, none), (3, none)])), (19, ([], [(2, none), (3, none)])), (25, ([], []))]⟩
def L_eqRequest_cl (k : Nat) : Calls' D := ⟨[(39, L_eqFieldS_en k)], [], [], [], []⟩
theorem L_eqRequest_ck (k : Nat) : CallsOK X (L_eqRequest_cl k) := .cons (L_eqFieldS_eo k) (.nil cod)
def L_eqRequest_cu (k : Nat) : Cuts D := ⟨[], []⟩
def L_eqRequest_ar : List Ar := [.a [.ks, .ks, .ks, .kl 107], .a [.ks, .ks, .ks, .kl 107]]
def L_eqRequest_f (k : Nat) (x : TupA D L_eqRequest_ar) : Option (Bool) := L_eqRequest k (⟨x.1.1, x.1.2.1, x.1.2.2.1, x.1.2.2.2.1⟩ : IRequest) (⟨x.2.1.1, x.2.1.2.1, x.2.1.2.2.1, x.2.1.2.2.2.1⟩ : IRequest)
def L_eqRequest_vr (r : Bool) : VR D := .p (.c (.bool r))
theorem L_eqRequest_ok (k : Nat) : Does P X 14 L_eqRequest_ar (L_eqRequest_f k) L_eqRequest_vr :=
  does_of (body := bodyOf Go.Proofs.Tryz.f14) (pl := L_eqRequest_pl) (k := k) (cu := L_eqRequest_cu k) (tys := [[0]]) (L_eqRequest_ck k) ctx mixed Go.Proofs.Tryz.func14 (by kernel_rfl) (by kernel_rfl) (cutOK_of (l := []) (by kernel_rfl) trivial) fun x R h => by
    simp only [L_eqRequest_f, L_eqRequest, optK_bind, optK_bif, optK_pure, optK_none, optK_oc, optK_guardT, optK_map] at h
    refine hold_of h ?_
    kernel_rfl
def L_eqRequest_en (k : Nat) : Entry D := entS L_eqRequest_ar (L_eqRequest_f k) L_eqRequest_vr
theorem L_eqRequest_eo (k : Nat) : EntryOK X 14 (L_eqRequest_en k) := (L_eqRequest_ok k).en rfl
def L_FnExactKeyOf_pl : Plan := ⟨[(0, [(1, none)]), (1, [(1, none), (3, none)]), (2, [(1, none), (3, none)]), (3, [(1, none), (13, none)]), (4, [(2, none)]), (5, [(1, none), (4, none), (5, none)]), (6, [(1, none), (4, none), (5, none), (6, none)]), (7, [(1, none), (4, none), (5, none), (6, none), (7, none), (8, none)]), (8, [(1, none), (6, none), (34, none)]), (9, [(2, none)]), (10, [(39, none)]), (11, [(2, none)]), (12, [(2, none)])],
  [],
  [(13, ([], [(1, none)])), (34, ([], [(1, none), (6, none)])), (39, ([], []))]⟩
def L_FnExactKeyOf_cl (k : Nat) : Calls' D := ⟨[(10, L_szRequest_en k), (12, L_toRequest_en k), (11, S_KeyOf_en k), (13, I_KeyOf_en k), (14, L_eqRequest_en k)], [], [], [], []⟩
theorem L_FnExactKeyOf_ck (k : Nat) : CallsOK X (L_FnExactKeyOf_cl k) := .cons (L_szRequest_eo k) (.cons (L_toRequest_eo k) (.cons (S_KeyOf_eo k) (.cons (I_KeyOf_eo k) (.cons (L_eqRequest_eo k) (.nil cod)))))
def L_FnExactKeyOf_cu (k : Nat) : Cuts D := ⟨[], []⟩
def L_FnExactKeyOf_ar : List Ar := [.a [.ks, .ks, .ks, .kl 100]]
def L_FnExactKeyOf_f (k : Nat) (x : TupA D L_FnExactKeyOf_ar) : Option (Bool) := L_FnExactKeyOf k (⟨x.1.1, x.1.2.1, x.1.2.2.1, x.1.2.2.2.1⟩ : LRequest)
def L_FnExactKeyOf_vr (r : Bool) : VR D := .p (.c (.bool r))
theorem L_FnExactKeyOf_ok (k : Nat) : Does P X 3 L_FnExactKeyOf_ar (L_FnExactKeyOf_f k) L_FnExactKeyOf_vr :=
  does_of (body := bodyOf Go.Proofs.Tryz.f3) (pl := L_FnExactKeyOf_pl) (k := k) (cu := L_FnExactKeyOf_cu k) (tys := [[0]]) (L_FnExactKeyOf_ck k) ctx mixed Go.Proofs.Tryz.func3 (by kernel_rfl) (by kernel_rfl) (cutOK_of (l := []) (by kernel_rfl) trivial) fun x R h => by
    simp only [L_FnExactKeyOf_f, L_FnExactKeyOf, optK_bind, optK_bif, optK_pure, optK_none, optK_oc, optK_guardT, optK_map] at h
    refine hold_of h ?_
    kernel_rfl
def L_FnExactKeyOf_en (k : Nat) : Entry D := entS L_FnExactKeyOf_ar (L_FnExactKeyOf_f k) L_FnExactKeyOf_vr
theorem L_FnExactKeyOf_eo (k : Nat) : EntryOK X 3 (L_FnExactKeyOf_en k) := (L_FnExactKeyOf_ok k).en rfl

end
end Go.YtjpfnppiocloeaaGreatDoor
