/- The machine computes the functions. Nothing is claimed here. -/
import Derived.Test.YtgdjicnefdnofaaDoorKf
import Derived.Test.YtgdjicnefdnofaaDoorShelf
import Derived.Shelf.Strings.SlTrimAscii
set_option linter.unusedVariables false
set_option linter.unusedSimpArgs false
set_option maxRecDepth 100000
namespace Go.YtgdjicnefdnofaaDoor
open Go Go.RowKit Go.Pv
noncomputable section

def L_szField_pl : Plan := ⟨[(0, [(1, none), (2, none)]), (1, [(1, none), (2, none)]), (2, [(1, none), (2, none), (11, none)]), (3, [(4, none)]), (4, [(1, none)]), (5, [(1, none), (18, none)]), (6, [(4, none)]), (7, [(4, none)])],
  [],
  [(11, ([], [(1, none), (2, none)])), (18, ([], [(1, none)]))]⟩
def L_szField_cl (k : Nat) : Calls' D := ⟨[], []⟩
theorem L_szField_ck (k : Nat) : CallsOK X (L_szField_cl k) := .nil cod
def L_szField_cu (k : Nat) : Cuts D := ⟨[], []⟩
def L_szField_ar : List Ar := [.a [.ks, .ks], .c (.ki .i64)]
def L_szField_f (k : Nat) (x : TupA D L_szField_ar) : Option (Int) := L_szField k (⟨x.1.1, x.1.2.1⟩ : LField) x.2.1
def L_szField_vr (r : Int) : VR D := .p (.c (.int .i64 r))
theorem L_szField_ok (k : Nat) : Does P X 67 L_szField_ar (L_szField_f k) L_szField_vr :=
  does_of (body := bodyOf Go.Proofs.Tryd.f67) (pl := L_szField_pl) (k := k) (cu := L_szField_cu k) (tys := [[0]]) (L_szField_ck k) ctx mixed Go.Proofs.Tryd.func67 (by kernel_rfl) (by kernel_rfl) (cutOK_of (l := []) (by kernel_rfl) trivial) fun x R h => by
    simp only [L_szField_f, L_szField, optK_bind, optK_bif, optK_pure, optK_none, optK_oc, optK_guardT, optK_map] at h
    refine hold_of h ?_
    kernel_rfl
def L_szField_en (k : Nat) : Entry D := entS L_szField_ar (L_szField_f k) L_szField_vr
theorem L_szField_eo (k : Nat) : EntryOK X 67 (L_szField_en k) := (L_szField_ok k).en rfl
def L_szFieldS_pl : Plan := ⟨[(0, [(0, some 85), (1, none)]), (1, [(0, some 85), (1, none)]), (2, [(0, some 85), (1, none), (11, none)]), (3, [(4, none)]), (4, [(0, some 85), (1, none), (5, none)]), (5, [(0, some 85), (1, none), (5, none), (15, none)]), (6, [(0, some 85), (1, none), (5, none)]), (7, [(0, some 85), (1, none), (5, none)]), (8, [(0, some 85), (1, none), (5, none), (25, none)]), (9, [(4, none)]), (10, [(4, none)])],
  [(0, [(1, none)]), (1, [(0, some 85), (1, none), (5, none)])],
  [(11, ([], [(0, some 85), (1, none)])), (15, ([(0, some 85), (1, none), (5, none)], [(1, none)])), (25, ([], [(0, some 85), (1, none), (5, none)]))]⟩
def L_szFieldS_cl (k : Nat) : Calls' D := ⟨[(67, L_szField_en k)], []⟩
theorem L_szFieldS_ck (k : Nat) : CallsOK X (L_szFieldS_cl k) := .cons (L_szField_eo k) (.nil cod)
def L_szFieldS_b0_L (x : (List LField) × Int × Int × Unit) (o : Oc (Int) (Int)) (Q : Ex → VSt D → Prop) (R : VR D → Prop) : Prop := ocP o (fun v0 => Q .normal (mkSt ⟨[(1, .hole)], []⟩ [.int .i64 v0])) (fun w0 => R (.p (.c (.int .i64 w0))))
def L_szFieldS_b0_cut (k : Nat) : Cut D := cutS ⟨[(0, .hole), (1, .hole), (5, .hole)], []⟩ [.kl 85, .ki .i64, .ki .i64] (fun (x : (List LField) × Int × Int × Unit) => L_szFieldS_b0 k k x.1 x.2.1 x.2.2.1) L_szFieldS_b0_L
def L_szFieldS_b0_cu (k : Nat) : Cuts D := ⟨[], []⟩
theorem L_szFieldS_b0_ok (k : Nat) : CutFor X L_szFieldS_pl k Go.Proofs.Tryd.f21.results.toList (L_szFieldS_b0_cut k) (sub (bodyOf Go.Proofs.Tryd.f21) [1, 1, 1, 0, 1]) :=
  loopCut_s (X := X) (sg := [.kl 85, .ki .i64, .ki .i64]) (cu := L_szFieldS_b0_cu k) (cl := L_szFieldS_cl k) (tys := [[0]]) (id := 0) (c := sub (bodyOf Go.Proofs.Tryd.f21) [1, 1, 1, 0, 1, 0, 0]) (f := fun n => fun (x : (List LField) × Int × Int × Unit) => L_szFieldS_b0 k n x.1 x.2.1 x.2.2.1) (L_szFieldS_ck k) (cutOK_of (l := []) (by kernel_rfl) trivial) (fun _ => rfl) (fun n x Q R h => by
    simp only [L_szFieldS_b0, optK_bind, optK_bif, optK_pure, optK_none, optK_oc, optK_guardT, optK_map] at h
    refine hold_of h ?_
    kernel_rfl) (by kernel_rfl)
def L_szFieldS_cu (k : Nat) : Cuts D := ⟨[(0, some (L_szFieldS_b0_cut k))], []⟩
def L_szFieldS_ar : List Ar := [.c (.kl 85), .c (.ki .i64)]
def L_szFieldS_f (k : Nat) (x : TupA D L_szFieldS_ar) : Option (Int) := L_szFieldS k x.1 x.2.1
def L_szFieldS_vr (r : Int) : VR D := .p (.c (.int .i64 r))
theorem L_szFieldS_ok (k : Nat) : Does P X 21 L_szFieldS_ar (L_szFieldS_f k) L_szFieldS_vr :=
  does_of (body := bodyOf Go.Proofs.Tryd.f21) (pl := L_szFieldS_pl) (k := k) (cu := L_szFieldS_cu k) (tys := [[0]]) (L_szFieldS_ck k) ctx mixed Go.Proofs.Tryd.func21 (by kernel_rfl) (by kernel_rfl) (cutOK_of (l := [(L_szFieldS_b0_cut k, sub (bodyOf Go.Proofs.Tryd.f21) [1, 1, 1, 0, 1])]) (by kernel_rfl) ⟨L_szFieldS_b0_ok k, trivial⟩) fun x R h => by
    simp only [L_szFieldS_f, L_szFieldS, optK_bind, optK_bif, optK_pure, optK_none, optK_oc, optK_guardT, optK_map] at h
    refine hold_of h ?_
    kernel_rfl
def L_szFieldS_en (k : Nat) : Entry D := entS L_szFieldS_ar (L_szFieldS_f k) L_szFieldS_vr
theorem L_szFieldS_eo (k : Nat) : EntryOK X 21 (L_szFieldS_en k) := (L_szFieldS_ok k).en rfl
def L_szRequest_pl : Plan := ⟨[(0, [(1, none), (2, none)]), (1, [(1, none), (2, none)]), (2, [(1, none), (2, none), (11, none)]), (3, [(4, none)]), (4, [(1, none), (2, none)]), (5, [(1, none), (2, none), (18, none)]), (6, [(4, none)]), (7, [(1, none), (2, none)]), (8, [(1, none), (2, none), (25, none)]), (9, [(4, none)]), (10, [(1, none)]), (11, [(1, none), (31, none)]), (12, [(4, none)]), (13, [(4, none)])],
  [],
  [(11, ([], [(1, none), (2, none)])), (18, ([], [(1, none), (2, none)])), (25, ([], [(1, none), (2, none)])), (31, ([], [(1, none)]))]⟩
def L_szRequest_cl (k : Nat) : Calls' D := ⟨[(21, L_szFieldS_en k)], []⟩
theorem L_szRequest_ck (k : Nat) : CallsOK X (L_szRequest_cl k) := .cons (L_szFieldS_eo k) (.nil cod)
def L_szRequest_cu (k : Nat) : Cuts D := ⟨[], []⟩
def L_szRequest_ar : List Ar := [.a [.ks, .ks, .ks, .kl 85], .c (.ki .i64)]
def L_szRequest_f (k : Nat) (x : TupA D L_szRequest_ar) : Option (Int) := L_szRequest k (⟨x.1.1, x.1.2.1, x.1.2.2.1, x.1.2.2.2.1⟩ : LRequest) x.2.1
def L_szRequest_vr (r : Int) : VR D := .p (.c (.int .i64 r))
theorem L_szRequest_ok (k : Nat) : Does P X 20 L_szRequest_ar (L_szRequest_f k) L_szRequest_vr :=
  does_of (body := bodyOf Go.Proofs.Tryd.f20) (pl := L_szRequest_pl) (k := k) (cu := L_szRequest_cu k) (tys := [[0]]) (L_szRequest_ck k) ctx mixed Go.Proofs.Tryd.func20 (by kernel_rfl) (by kernel_rfl) (cutOK_of (l := []) (by kernel_rfl) trivial) fun x R h => by
    simp only [L_szRequest_f, L_szRequest, optK_bind, optK_bif, optK_pure, optK_none, optK_oc, optK_guardT, optK_map] at h
    refine hold_of h ?_
    kernel_rfl
def L_szRequest_en (k : Nat) : Entry D := entS L_szRequest_ar (L_szRequest_f k) L_szRequest_vr
theorem L_szRequest_eo (k : Nat) : EntryOK X 20 (L_szRequest_en k) := (L_szRequest_ok k).en rfl
def L_toField_pl : Plan := ⟨[(0, [(1, none), (2, none)]), (1, [(1, none), (2, none), (3, none)]), (2, [(1, none), (2, none), (3, none)]), (3, [(2, none), (3, none)]), (4, [(2, none)])],
  [],
  []⟩
def L_toField_cl (k : Nat) : Calls' D := ⟨[], []⟩
theorem L_toField_ck (k : Nat) : CallsOK X (L_toField_cl k) := .nil cod
def L_toField_cu (k : Nat) : Cuts D := ⟨[], []⟩
def L_toField_ar : List Ar := [.a [.ks, .ks]]
def L_toField_f (k : Nat) (x : TupA D L_toField_ar) : Option (IField) := L_toField k (⟨x.1.1, x.1.2.1⟩ : LField)
def L_toField_vr (r : IField) : VR D := .p (.agg [.str r.Name, .str r.Value])
theorem L_toField_ok (k : Nat) : Does P X 71 L_toField_ar (L_toField_f k) L_toField_vr :=
  does_of (body := bodyOf Go.Proofs.Tryd.f71) (pl := L_toField_pl) (k := k) (cu := L_toField_cu k) (tys := [[0, 0]]) (L_toField_ck k) ctx mixed Go.Proofs.Tryd.func71 (by kernel_rfl) (by kernel_rfl) (cutOK_of (l := []) (by kernel_rfl) trivial) fun x R h => by
    simp only [L_toField_f, L_toField, optK_bind, optK_bif, optK_pure, optK_none, optK_oc, optK_guardT, optK_map] at h
    refine hold_of h ?_
    kernel_rfl
def L_toField_en (k : Nat) : Entry D := entS L_toField_ar (L_toField_f k) L_toField_vr
theorem L_toField_eo (k : Nat) : EntryOK X 71 (L_toField_en k) := (L_toField_ok k).en rfl
def L_toFieldS_pl : Plan := ⟨[(0, [(0, some 85)]), (1, [(0, some 85), (3, some 79)]), (2, [(0, some 85), (3, some 79), (4, none)]), (3, [(0, some 85), (3, some 79), (4, none), (11, none)]), (4, [(0, some 85), (3, some 79), (4, none)]), (5, [(0, some 85), (3, some 79), (4, none)]), (6, [(2, some 79)])],
  [(0, [(3, some 79)]), (1, [(0, some 85), (3, some 79), (4, none)])],
  [(11, ([(0, some 85), (3, some 79), (4, none)], [(3, some 79)]))]⟩
def L_toFieldS_cl (k : Nat) : Calls' D := ⟨[(71, L_toField_en k)], []⟩
theorem L_toFieldS_ck (k : Nat) : CallsOK X (L_toFieldS_cl k) := .cons (L_toField_eo k) (.nil cod)
def L_toFieldS_b0_L (x : (List LField) × Int × (List IField) × Unit) (o : (List IField)) (Q : Ex → VSt D → Prop) (R : VR D → Prop) : Prop := Q .normal (mkSt ⟨[(3, .ref 500003)], [(500003, .row)]⟩ [.sl 79 o])
def L_toFieldS_b0_cut (k : Nat) : Cut D := cutS ⟨[(0, .hole), (3, .ref 500003), (4, .hole)], [(500003, .row)]⟩ [.kl 85, .ki .i64, .kl 79] (fun (x : (List LField) × Int × (List IField) × Unit) => L_toFieldS_b0 k k x.1 x.2.1 x.2.2.1) L_toFieldS_b0_L
def L_toFieldS_b0_cu (k : Nat) : Cuts D := ⟨[], []⟩
theorem L_toFieldS_b0_ok (k : Nat) : CutFor X L_toFieldS_pl k Go.Proofs.Tryd.f24.results.toList (L_toFieldS_b0_cut k) (sub (bodyOf Go.Proofs.Tryd.f24) [1, 1, 0, 1]) :=
  loopCut_s (X := X) (sg := [.kl 85, .ki .i64, .kl 79]) (cu := L_toFieldS_b0_cu k) (cl := L_toFieldS_cl k) (tys := [[79]]) (id := 0) (c := sub (bodyOf Go.Proofs.Tryd.f24) [1, 1, 0, 1, 0, 0]) (f := fun n => fun (x : (List LField) × Int × (List IField) × Unit) => L_toFieldS_b0 k n x.1 x.2.1 x.2.2.1) (L_toFieldS_ck k) (cutOK_of (l := []) (by kernel_rfl) trivial) (fun _ => rfl) (fun n x Q R h => by
    simp only [L_toFieldS_b0, optK_bind, optK_bif, optK_pure, optK_none, optK_oc, optK_guardT, optK_map] at h
    refine hold_of h ?_
    kernel_rfl) (by kernel_rfl)
def L_toFieldS_cu (k : Nat) : Cuts D := ⟨[(0, some (L_toFieldS_b0_cut k))], []⟩
def L_toFieldS_ar : List Ar := [.c (.kl 85)]
def L_toFieldS_f (k : Nat) (x : TupA D L_toFieldS_ar) : Option ((List IField)) := L_toFieldS k x.1
def L_toFieldS_vr (r : (List IField)) : VR D := .p (.c (.sl 79 r))
theorem L_toFieldS_ok (k : Nat) : Does P X 24 L_toFieldS_ar (L_toFieldS_f k) L_toFieldS_vr :=
  does_of (body := bodyOf Go.Proofs.Tryd.f24) (pl := L_toFieldS_pl) (k := k) (cu := L_toFieldS_cu k) (tys := [[79]]) (L_toFieldS_ck k) ctx mixed Go.Proofs.Tryd.func24 (by kernel_rfl) (by kernel_rfl) (cutOK_of (l := [(L_toFieldS_b0_cut k, sub (bodyOf Go.Proofs.Tryd.f24) [1, 1, 0, 1])]) (by kernel_rfl) ⟨L_toFieldS_b0_ok k, trivial⟩) fun x R h => by
    simp only [L_toFieldS_f, L_toFieldS, optK_bind, optK_bif, optK_pure, optK_none, optK_oc, optK_guardT, optK_map] at h
    refine hold_of h ?_
    kernel_rfl
def L_toFieldS_en (k : Nat) : Entry D := entS L_toFieldS_ar (L_toFieldS_f k) L_toFieldS_vr
theorem L_toFieldS_eo (k : Nat) : EntryOK X 24 (L_toFieldS_en k) := (L_toFieldS_ok k).en rfl
def L_toRequest_pl : Plan := ⟨[(0, [(1, none), (2, none)]), (1, [(1, none), (2, none), (3, none)]), (2, [(1, none), (2, none), (3, none)]), (3, [(1, none), (2, none), (3, none)]), (4, [(1, none), (2, none), (3, none)]), (5, [(2, none), (3, none)]), (6, [(2, none)])],
  [],
  []⟩
def L_toRequest_cl (k : Nat) : Calls' D := ⟨[(24, L_toFieldS_en k)], []⟩
theorem L_toRequest_ck (k : Nat) : CallsOK X (L_toRequest_cl k) := .cons (L_toFieldS_eo k) (.nil cod)
def L_toRequest_cu (k : Nat) : Cuts D := ⟨[], []⟩
def L_toRequest_ar : List Ar := [.a [.ks, .ks, .ks, .kl 85]]
def L_toRequest_f (k : Nat) (x : TupA D L_toRequest_ar) : Option (IRequest) := L_toRequest k (⟨x.1.1, x.1.2.1, x.1.2.2.1, x.1.2.2.2.1⟩ : LRequest)
def L_toRequest_vr (r : IRequest) : VR D := .p (.agg [.str r.Method, .str r.Host, .str r.Target, .sl 79 r.Fields])
theorem L_toRequest_ok (k : Nat) : Does P X 23 L_toRequest_ar (L_toRequest_f k) L_toRequest_vr :=
  does_of (body := bodyOf Go.Proofs.Tryd.f23) (pl := L_toRequest_pl) (k := k) (cu := L_toRequest_cu k) (tys := [[0, 0, 0, 79]]) (L_toRequest_ck k) ctx mixed Go.Proofs.Tryd.func23 (by kernel_rfl) (by kernel_rfl) (cutOK_of (l := []) (by kernel_rfl) trivial) fun x R h => by
    simp only [L_toRequest_f, L_toRequest, optK_bind, optK_bif, optK_pure, optK_none, optK_oc, optK_guardT, optK_map] at h
    refine hold_of h ?_
    kernel_rfl
def L_toRequest_en (k : Nat) : Entry D := entS L_toRequest_ar (L_toRequest_f k) L_toRequest_vr
theorem L_toRequest_eo (k : Nat) : EntryOK X 23 (L_toRequest_en k) := (L_toRequest_ok k).en rfl
def S_l1In_pl : Plan := ⟨[(0, [(0, none), (1, none), (2, none)]), (1, [(6, none)])],
  [],
  []⟩
def S_l1In_cl (k : Nat) : Calls' D := ⟨[], []⟩
theorem S_l1In_ck (k : Nat) : CallsOK X (S_l1In_cl k) := .nil cod
def S_l1In_cu (k : Nat) : Cuts D := ⟨[], []⟩
def S_l1In_ar : List Ar := [.c (.ki .i64), .c (.ki .i64), .c (.ki .i64)]
def S_l1In_f (k : Nat) (x : TupA D S_l1In_ar) : Option (Bool) := S_l1In k x.1 x.2.1 x.2.2.1
def S_l1In_vr (r : Bool) : VR D := .p (.c (.bool r))
theorem S_l1In_ok (k : Nat) : Does P X 62 S_l1In_ar (S_l1In_f k) S_l1In_vr :=
  does_of (body := bodyOf Go.Proofs.Tryd.f62) (pl := S_l1In_pl) (k := k) (cu := S_l1In_cu k) (tys := [[0]]) (S_l1In_ck k) ctx mixed Go.Proofs.Tryd.func62 (by kernel_rfl) (by kernel_rfl) (cutOK_of (l := []) (by kernel_rfl) trivial) fun x R h => by
    simp only [S_l1In_f, S_l1In, optK_bind, optK_bif, optK_pure, optK_none, optK_oc, optK_guardT, optK_map] at h
    refine hold_of h ?_
    kernel_rfl
def S_l1In_en (k : Nat) : Entry D := entS S_l1In_ar (S_l1In_f k) S_l1In_vr
theorem S_l1In_eo (k : Nat) : EntryOK X 62 (S_l1In_en k) := (S_l1In_ok k).en rfl
def S_JoinList_pl : Plan := ⟨[(0, [(0, some 9)]), (1, [(0, some 9), (3, none)]), (2, [(0, some 9), (3, none), (4, none)]), (3, [(0, some 9), (3, none), (4, none), (8, none)]), (4, [(0, some 9), (3, none), (4, none)]), (5, [(0, some 9), (3, none), (4, none), (12, none)]), (6, [(0, some 9), (3, none), (4, none)]), (7, [(0, some 9), (3, none), (4, none)]), (8, [(2, none)])],
  [(0, [(3, none)]), (1, [(0, some 9), (3, none), (4, none)])],
  [(8, ([(0, some 9), (3, none), (4, none)], [(3, none)])), (12, ([(0, some 9), (3, none), (4, none)], [(0, some 9), (3, none), (4, none)]))]⟩
def S_JoinList_cl (k : Nat) : Calls' D := ⟨[], []⟩
theorem S_JoinList_ck (k : Nat) : CallsOK X (S_JoinList_cl k) := .nil cod
def S_JoinList_c12_L (x : (List (List UInt8)) × (List UInt8) × Int × Bool × Unit) (o : (List UInt8)) (Q : Ex → VSt D → Prop) (R : VR D → Prop) : Prop := Q .normal (mkSt ⟨[(0, .hole), (3, .hole), (4, .hole)], []⟩ [.sl 9 x.1, .str o, .int .i64 x.2.2.1])
def S_JoinList_c12_cut (k : Nat) : Cut D := cutS ⟨[(0, .hole), (3, .hole), (4, .hole), (12, .hole)], []⟩ [.kl 9, .ks, .ki .i64, .kb] (fun (x : (List (List UInt8)) × (List UInt8) × Int × Bool × Unit) => S_JoinList_c12 k x.1 x.2.1 x.2.2.1 x.2.2.2.1) S_JoinList_c12_L
def S_JoinList_c12_cu (k : Nat) : Cuts D := ⟨[], []⟩
theorem S_JoinList_c12_ok (k : Nat) : CutFor X S_JoinList_pl k Go.Proofs.Tryd.f68.results.toList (S_JoinList_c12_cut k) (sub (bodyOf Go.Proofs.Tryd.f68) [1, 1, 0, 1, 0, 0, 1, 0, 0, 0, 1]) :=
  joinCut_s (X := X) (sg := [.kl 9, .ks, .ki .i64, .kb]) (cu := S_JoinList_c12_cu k) (cl := S_JoinList_cl k) (tys := [[0]]) (S_JoinList_ck k) (cutOK_of (l := []) (by kernel_rfl) trivial) fun x Q R h => by
    simp only [S_JoinList_c12, optK_bind, optK_bif, optK_pure, optK_none, optK_oc, optK_guardT, optK_map] at h
    refine hold_of h ?_
    kernel_rfl
def S_JoinList_b1_L (x : (List (List UInt8)) × (List UInt8) × Int × Unit) (o : (List UInt8)) (Q : Ex → VSt D → Prop) (R : VR D → Prop) : Prop := Q .normal (mkSt ⟨[(0, .hole), (3, .hole), (4, .hole)], []⟩ [.sl 9 x.1, .str o, .int .i64 x.2.2.1])
def S_JoinList_b1_cut (k : Nat) : Cut D := cutS ⟨[(0, .hole), (3, .hole), (4, .hole)], []⟩ [.kl 9, .ks, .ki .i64] (fun (x : (List (List UInt8)) × (List UInt8) × Int × Unit) => S_JoinList_b1 k x.1 x.2.1 x.2.2.1) S_JoinList_b1_L
def S_JoinList_b1_cu (k : Nat) : Cuts D := ⟨[], [(12, some (S_JoinList_c12_cut k))]⟩
theorem S_JoinList_b1_ok (k : Nat) : CutFor X S_JoinList_pl k Go.Proofs.Tryd.f68.results.toList (S_JoinList_b1_cut k) (sub (bodyOf Go.Proofs.Tryd.f68) [1, 1, 0, 1, 0, 0, 1, 0]) :=
  joinCut_s (X := X) (sg := [.kl 9, .ks, .ki .i64]) (cu := S_JoinList_b1_cu k) (cl := S_JoinList_cl k) (tys := [[0]]) (S_JoinList_ck k) (cutOK_of (l := [(S_JoinList_c12_cut k, sub (bodyOf Go.Proofs.Tryd.f68) [1, 1, 0, 1, 0, 0, 1, 0, 0, 0, 1])]) (by kernel_rfl) ⟨S_JoinList_c12_ok k, trivial⟩) fun x Q R h => by
    simp only [S_JoinList_b1, optK_bind, optK_bif, optK_pure, optK_none, optK_oc, optK_guardT, optK_map] at h
    refine hold_of h ?_
    kernel_rfl
def S_JoinList_b0_L (x : (List (List UInt8)) × (List UInt8) × Int × Unit) (o : (List UInt8)) (Q : Ex → VSt D → Prop) (R : VR D → Prop) : Prop := Q .normal (mkSt ⟨[(3, .hole)], []⟩ [.str o])
def S_JoinList_b0_cut (k : Nat) : Cut D := cutS ⟨[(0, .hole), (3, .hole), (4, .hole)], []⟩ [.kl 9, .ks, .ki .i64] (fun (x : (List (List UInt8)) × (List UInt8) × Int × Unit) => S_JoinList_b0 k k x.1 x.2.1 x.2.2.1) S_JoinList_b0_L
def S_JoinList_b0_cu (k : Nat) : Cuts D := ⟨[(1, some (S_JoinList_b1_cut k))], []⟩
theorem S_JoinList_b0_ok (k : Nat) : CutFor X S_JoinList_pl k Go.Proofs.Tryd.f68.results.toList (S_JoinList_b0_cut k) (sub (bodyOf Go.Proofs.Tryd.f68) [1, 1, 0, 1]) :=
  loopCut_s (X := X) (sg := [.kl 9, .ks, .ki .i64]) (cu := S_JoinList_b0_cu k) (cl := S_JoinList_cl k) (tys := [[0]]) (id := 0) (c := sub (bodyOf Go.Proofs.Tryd.f68) [1, 1, 0, 1, 0, 0]) (f := fun n => fun (x : (List (List UInt8)) × (List UInt8) × Int × Unit) => S_JoinList_b0 k n x.1 x.2.1 x.2.2.1) (S_JoinList_ck k) (cutOK_of (l := [(S_JoinList_b1_cut k, sub (bodyOf Go.Proofs.Tryd.f68) [1, 1, 0, 1, 0, 0, 1, 0])]) (by kernel_rfl) ⟨S_JoinList_b1_ok k, trivial⟩) (fun _ => rfl) (fun n x Q R h => by
    simp only [S_JoinList_b0, optK_bind, optK_bif, optK_pure, optK_none, optK_oc, optK_guardT, optK_map] at h
    refine hold_of h ?_
    kernel_rfl) (by kernel_rfl)
def S_JoinList_cu (k : Nat) : Cuts D := ⟨[(0, some (S_JoinList_b0_cut k))], []⟩
def S_JoinList_ar : List Ar := [.c (.kl 9)]
def S_JoinList_f (k : Nat) (x : TupA D S_JoinList_ar) : Option ((List UInt8)) := S_JoinList k x.1
def S_JoinList_vr (r : (List UInt8)) : VR D := .p (.c (.str r))
theorem S_JoinList_ok (k : Nat) : Does P X 68 S_JoinList_ar (S_JoinList_f k) S_JoinList_vr :=
  does_of (body := bodyOf Go.Proofs.Tryd.f68) (pl := S_JoinList_pl) (k := k) (cu := S_JoinList_cu k) (tys := [[0]]) (S_JoinList_ck k) ctx mixed Go.Proofs.Tryd.func68 (by kernel_rfl) (by kernel_rfl) (cutOK_of (l := [(S_JoinList_b0_cut k, sub (bodyOf Go.Proofs.Tryd.f68) [1, 1, 0, 1])]) (by kernel_rfl) ⟨S_JoinList_b0_ok k, trivial⟩) fun x R h => by
    simp only [S_JoinList_f, S_JoinList, optK_bind, optK_bif, optK_pure, optK_none, optK_oc, optK_guardT, optK_map] at h
    refine hold_of h ?_
    kernel_rfl
def S_JoinList_en (k : Nat) : Entry D := entS S_JoinList_ar (S_JoinList_f k) S_JoinList_vr
theorem S_JoinList_eo (k : Nat) : EntryOK X 68 (S_JoinList_en k) := (S_JoinList_ok k).en rfl
def S_GetField_pl : Plan := ⟨[(0, [(0, some 79), (1, none)]), (1, [(0, some 79), (1, none), (6, some 9)]), (2, [(0, some 79), (1, none), (6, some 9), (7, none)]), (3, [(0, some 79), (1, none), (6, some 9), (7, none), (12, none)]), (4, [(0, some 79), (1, none), (6, some 9), (7, none)]), (5, [(0, some 79), (1, none), (6, some 9), (7, none), (21, none)]), (6, [(0, some 79), (1, none), (6, some 9), (7, none)]), (7, [(4, none), (5, none)])],
  [(0, [(6, some 9)]), (1, [(0, some 79), (1, none), (6, some 9), (7, none)])],
  [(12, ([(0, some 79), (1, none), (6, some 9), (7, none)], [(6, some 9)])), (21, ([(0, some 79), (1, none), (6, some 9), (7, none)], [(0, some 79), (1, none), (6, some 9), (7, none)]))]⟩
def S_GetField_cl (k : Nat) : Calls' D := ⟨[(68, S_JoinList_en k)], []⟩
theorem S_GetField_ck (k : Nat) : CallsOK X (S_GetField_cl k) := .cons (S_JoinList_eo k) (.nil cod)
def S_GetField_c21_L (x : (List IField) × (List UInt8) × Int × Bool × (List (List UInt8)) × Unit) (o : (List (List UInt8))) (Q : Ex → VSt D → Prop) (R : VR D → Prop) : Prop := Q .normal (mkSt ⟨[(0, .hole), (1, .hole), (6, .ref 500006), (7, .hole)], [(500006, .row)]⟩ [.sl 79 x.1, .str x.2.1, .int .i64 x.2.2.1, .sl 9 o])
def S_GetField_c21_cut (k : Nat) : Cut D := cutS ⟨[(0, .hole), (1, .hole), (6, .ref 500006), (7, .hole), (21, .hole)], [(500006, .row)]⟩ [.kl 79, .ks, .ki .i64, .kb, .kl 9] (fun (x : (List IField) × (List UInt8) × Int × Bool × (List (List UInt8)) × Unit) => S_GetField_c21 k x.1 x.2.1 x.2.2.1 x.2.2.2.1 x.2.2.2.2.1) S_GetField_c21_L
def S_GetField_c21_cu (k : Nat) : Cuts D := ⟨[], []⟩
theorem S_GetField_c21_ok (k : Nat) : CutFor X S_GetField_pl k Go.Proofs.Tryd.f104.results.toList (S_GetField_c21_cut k) (sub (bodyOf Go.Proofs.Tryd.f104) [1, 1, 0, 1, 0, 0, 1, 0, 0, 1]) :=
  joinCut_s (X := X) (sg := [.kl 79, .ks, .ki .i64, .kb, .kl 9]) (cu := S_GetField_c21_cu k) (cl := S_GetField_cl k) (tys := [[0], [0]]) (S_GetField_ck k) (cutOK_of (l := []) (by kernel_rfl) trivial) fun x Q R h => by
    simp only [S_GetField_c21, optK_bind, optK_bif, optK_pure, optK_none, optK_oc, optK_guardT, optK_map] at h
    refine hold_of h ?_
    kernel_rfl
def S_GetField_b1_L (x : (List IField) × (List UInt8) × Int × (List (List UInt8)) × Unit) (o : (List (List UInt8))) (Q : Ex → VSt D → Prop) (R : VR D → Prop) : Prop := Q .normal (mkSt ⟨[(0, .hole), (1, .hole), (6, .ref 500006), (7, .hole)], [(500006, .row)]⟩ [.sl 79 x.1, .str x.2.1, .int .i64 x.2.2.1, .sl 9 o])
def S_GetField_b1_cut (k : Nat) : Cut D := cutS ⟨[(0, .hole), (1, .hole), (6, .ref 500006), (7, .hole)], [(500006, .row)]⟩ [.kl 79, .ks, .ki .i64, .kl 9] (fun (x : (List IField) × (List UInt8) × Int × (List (List UInt8)) × Unit) => S_GetField_b1 k x.1 x.2.1 x.2.2.1 x.2.2.2.1) S_GetField_b1_L
def S_GetField_b1_cu (k : Nat) : Cuts D := ⟨[], [(21, some (S_GetField_c21_cut k))]⟩
theorem S_GetField_b1_ok (k : Nat) : CutFor X S_GetField_pl k Go.Proofs.Tryd.f104.results.toList (S_GetField_b1_cut k) (sub (bodyOf Go.Proofs.Tryd.f104) [1, 1, 0, 1, 0, 0, 1, 0]) :=
  joinCut_s (X := X) (sg := [.kl 79, .ks, .ki .i64, .kl 9]) (cu := S_GetField_b1_cu k) (cl := S_GetField_cl k) (tys := [[0], [0]]) (S_GetField_ck k) (cutOK_of (l := [(S_GetField_c21_cut k, sub (bodyOf Go.Proofs.Tryd.f104) [1, 1, 0, 1, 0, 0, 1, 0, 0, 1])]) (by kernel_rfl) ⟨S_GetField_c21_ok k, trivial⟩) fun x Q R h => by
    simp only [S_GetField_b1, optK_bind, optK_bif, optK_pure, optK_none, optK_oc, optK_guardT, optK_map] at h
    refine hold_of h ?_
    kernel_rfl
def S_GetField_b0_L (x : (List IField) × (List UInt8) × Int × (List (List UInt8)) × Unit) (o : (List (List UInt8))) (Q : Ex → VSt D → Prop) (R : VR D → Prop) : Prop := Q .normal (mkSt ⟨[(6, .ref 500006)], [(500006, .row)]⟩ [.sl 9 o])
def S_GetField_b0_cut (k : Nat) : Cut D := cutS ⟨[(0, .hole), (1, .hole), (6, .ref 500006), (7, .hole)], [(500006, .row)]⟩ [.kl 79, .ks, .ki .i64, .kl 9] (fun (x : (List IField) × (List UInt8) × Int × (List (List UInt8)) × Unit) => S_GetField_b0 k k x.1 x.2.1 x.2.2.1 x.2.2.2.1) S_GetField_b0_L
def S_GetField_b0_cu (k : Nat) : Cuts D := ⟨[(1, some (S_GetField_b1_cut k))], []⟩
theorem S_GetField_b0_ok (k : Nat) : CutFor X S_GetField_pl k Go.Proofs.Tryd.f104.results.toList (S_GetField_b0_cut k) (sub (bodyOf Go.Proofs.Tryd.f104) [1, 1, 0, 1]) :=
  loopCut_s (X := X) (sg := [.kl 79, .ks, .ki .i64, .kl 9]) (cu := S_GetField_b0_cu k) (cl := S_GetField_cl k) (tys := [[0], [0]]) (id := 0) (c := sub (bodyOf Go.Proofs.Tryd.f104) [1, 1, 0, 1, 0, 0]) (f := fun n => fun (x : (List IField) × (List UInt8) × Int × (List (List UInt8)) × Unit) => S_GetField_b0 k n x.1 x.2.1 x.2.2.1 x.2.2.2.1) (S_GetField_ck k) (cutOK_of (l := [(S_GetField_b1_cut k, sub (bodyOf Go.Proofs.Tryd.f104) [1, 1, 0, 1, 0, 0, 1, 0])]) (by kernel_rfl) ⟨S_GetField_b1_ok k, trivial⟩) (fun _ => rfl) (fun n x Q R h => by
    simp only [S_GetField_b0, optK_bind, optK_bif, optK_pure, optK_none, optK_oc, optK_guardT, optK_map] at h
    refine hold_of h ?_
    kernel_rfl) (by kernel_rfl)
def S_GetField_cu (k : Nat) : Cuts D := ⟨[(0, some (S_GetField_b0_cut k))], []⟩
def S_GetField_ar : List Ar := [.c (.kl 79), .c (.ks)]
def S_GetField_f (k : Nat) (x : TupA D S_GetField_ar) : Option ((List UInt8) × Bool) := S_GetField k x.1 x.2.1
def S_GetField_vr (r : (List UInt8) × Bool) : VR D := .tup [.c (.str r.1), .c (.bool r.2)]
theorem S_GetField_ok (k : Nat) : Does P X 104 S_GetField_ar (S_GetField_f k) S_GetField_vr :=
  does_of (body := bodyOf Go.Proofs.Tryd.f104) (pl := S_GetField_pl) (k := k) (cu := S_GetField_cu k) (tys := [[0], [0]]) (S_GetField_ck k) ctx mixed Go.Proofs.Tryd.func104 (by kernel_rfl) (by kernel_rfl) (cutOK_of (l := [(S_GetField_b0_cut k, sub (bodyOf Go.Proofs.Tryd.f104) [1, 1, 0, 1])]) (by kernel_rfl) ⟨S_GetField_b0_ok k, trivial⟩) fun x R h => by
    simp only [S_GetField_f, S_GetField, optK_bind, optK_bif, optK_pure, optK_none, optK_oc, optK_guardT, optK_map] at h
    refine hold_of h ?_
    kernel_rfl
def S_GetField_en (k : Nat) : Entry D := entS S_GetField_ar (S_GetField_f k) S_GetField_vr
theorem S_GetField_eo (k : Nat) : EntryOK X 104 (S_GetField_en k) := (S_GetField_ok k).en rfl
def S_l4Letter_pl : Plan := ⟨[(0, [(0, none)]), (1, [(2, none)])],
  [],
  []⟩
def S_l4Letter_cl (k : Nat) : Calls' D := ⟨[(62, S_l1In_en k)], []⟩
theorem S_l4Letter_ck (k : Nat) : CallsOK X (S_l4Letter_cl k) := .cons (S_l1In_eo k) (.nil cod)
def S_l4Letter_cu (k : Nat) : Cuts D := ⟨[], []⟩
def S_l4Letter_ar : List Ar := [.c (.ki .u8)]
def S_l4Letter_f (k : Nat) (x : TupA D S_l4Letter_ar) : Option (Bool) := S_l4Letter k x.1
def S_l4Letter_vr (r : Bool) : VR D := .p (.c (.bool r))
theorem S_l4Letter_ok (k : Nat) : Does P X 149 S_l4Letter_ar (S_l4Letter_f k) S_l4Letter_vr :=
  does_of (body := bodyOf Go.Proofs.Tryd.f149) (pl := S_l4Letter_pl) (k := k) (cu := S_l4Letter_cu k) (tys := [[0]]) (S_l4Letter_ck k) ctx mixed Go.Proofs.Tryd.func149 (by kernel_rfl) (by kernel_rfl) (cutOK_of (l := []) (by kernel_rfl) trivial) fun x R h => by
    simp only [S_l4Letter_f, S_l4Letter, optK_bind, optK_bif, optK_pure, optK_none, optK_oc, optK_guardT, optK_map] at h
    refine hold_of h ?_
    kernel_rfl
def S_l4Letter_en (k : Nat) : Entry D := entS S_l4Letter_ar (S_l4Letter_f k) S_l4Letter_vr
theorem S_l4Letter_eo (k : Nat) : EntryOK X 149 (S_l4Letter_en k) := (S_l4Letter_ok k).en rfl
def S_l4Token_pl : Plan := ⟨[(0, [(0, none)]), (1, [(0, none), (3, none)]), (2, [(0, none), (3, none), (5, none)]), (3, [(0, none), (3, none)]), (4, [(0, none), (3, none), (11, none)]), (5, [(2, none)]), (6, [(2, none)])],
  [(0, [(0, none)]), (1, [(0, none), (3, none)])],
  [(5, ([(0, none), (3, none)], [(0, none)])), (11, ([], [(0, none), (3, none)]))]⟩
def S_l4Token_cl (k : Nat) : Calls' D := ⟨[(149, S_l4Letter_en k)], []⟩
theorem S_l4Token_ck (k : Nat) : CallsOK X (S_l4Token_cl k) := .cons (S_l4Letter_eo k) (.nil cod)
def S_l4Token_b0_L (x : Int × Int × Unit) (o : Oc (Unit) (Bool)) (Q : Ex → VSt D → Prop) (R : VR D → Prop) : Prop := ocP o (fun v0 => Q .normal (mkSt ⟨[(0, .hole)], []⟩ [.int .u8 x.1])) (fun w0 => R (.p (.c (.bool w0))))
def S_l4Token_b0_cut (k : Nat) : Cut D := cutS ⟨[(0, .hole), (3, .hole)], []⟩ [.ki .u8, .ki .i64] (fun (x : Int × Int × Unit) => S_l4Token_b0 k k x.1 x.2.1) S_l4Token_b0_L
def S_l4Token_b0_cu (k : Nat) : Cuts D := ⟨[], []⟩
theorem S_l4Token_b0_ok (k : Nat) : CutFor X S_l4Token_pl k Go.Proofs.Tryd.f118.results.toList (S_l4Token_b0_cut k) (sub (bodyOf Go.Proofs.Tryd.f118) [1, 0, 1]) :=
  loopCut_s (X := X) (sg := [.ki .u8, .ki .i64]) (cu := S_l4Token_b0_cu k) (cl := S_l4Token_cl k) (tys := [[0]]) (id := 0) (c := sub (bodyOf Go.Proofs.Tryd.f118) [1, 0, 1, 0, 0]) (f := fun n => fun (x : Int × Int × Unit) => S_l4Token_b0 k n x.1 x.2.1) (S_l4Token_ck k) (cutOK_of (l := []) (by kernel_rfl) trivial) (fun _ => rfl) (fun n x Q R h => by
    simp only [S_l4Token_b0, optK_bind, optK_bif, optK_pure, optK_none, optK_oc, optK_guardT, optK_map] at h
    refine hold_of h ?_
    kernel_rfl) (by kernel_rfl)
def S_l4Token_cu (k : Nat) : Cuts D := ⟨[(0, some (S_l4Token_b0_cut k))], []⟩
def S_l4Token_ar : List Ar := [.c (.ki .u8)]
def S_l4Token_f (k : Nat) (x : TupA D S_l4Token_ar) : Option (Bool) := S_l4Token k x.1
def S_l4Token_vr (r : Bool) : VR D := .p (.c (.bool r))
theorem S_l4Token_ok (k : Nat) : Does P X 118 S_l4Token_ar (S_l4Token_f k) S_l4Token_vr :=
  does_of (body := bodyOf Go.Proofs.Tryd.f118) (pl := S_l4Token_pl) (k := k) (cu := S_l4Token_cu k) (tys := [[0]]) (S_l4Token_ck k) ctx mixed Go.Proofs.Tryd.func118 (by kernel_rfl) (by kernel_rfl) (cutOK_of (l := [(S_l4Token_b0_cut k, sub (bodyOf Go.Proofs.Tryd.f118) [1, 0, 1])]) (by kernel_rfl) ⟨S_l4Token_b0_ok k, trivial⟩) fun x R h => by
    simp only [S_l4Token_f, S_l4Token, optK_bind, optK_bif, optK_pure, optK_none, optK_oc, optK_guardT, optK_map] at h
    refine hold_of h ?_
    kernel_rfl
def S_l4Token_en (k : Nat) : Entry D := entS S_l4Token_ar (S_l4Token_f k) S_l4Token_vr
theorem S_l4Token_eo (k : Nat) : EntryOK X 118 (S_l4Token_en k) := (S_l4Token_ok k).en rfl
def S_IsToken_pl : Plan := ⟨[(0, [(0, none)]), (1, [(0, none), (3, none)]), (2, [(0, none), (3, none), (7, none)]), (3, [(0, none), (3, none)]), (4, [(0, none), (3, none), (14, none)]), (5, [(2, none)]), (6, [(2, none)])],
  [(0, [(0, none)]), (1, [(0, none), (3, none)])],
  [(7, ([(0, none), (3, none)], [(0, none)])), (14, ([], [(0, none), (3, none)]))]⟩
def S_IsToken_cl (k : Nat) : Calls' D := ⟨[(118, S_l4Token_en k), (62, S_l1In_en k)], []⟩
theorem S_IsToken_ck (k : Nat) : CallsOK X (S_IsToken_cl k) := .cons (S_l4Token_eo k) (.cons (S_l1In_eo k) (.nil cod))
def S_IsToken_b0_L (x : (List UInt8) × Int × Unit) (o : Oc (Unit) (Bool)) (Q : Ex → VSt D → Prop) (R : VR D → Prop) : Prop := ocP o (fun v0 => Q .normal (mkSt ⟨[(0, .hole)], []⟩ [.str x.1])) (fun w0 => R (.p (.c (.bool w0))))
def S_IsToken_b0_cut (k : Nat) : Cut D := cutS ⟨[(0, .hole), (3, .hole)], []⟩ [.ks, .ki .i64] (fun (x : (List UInt8) × Int × Unit) => S_IsToken_b0 k k x.1 x.2.1) S_IsToken_b0_L
def S_IsToken_b0_cu (k : Nat) : Cuts D := ⟨[], []⟩
theorem S_IsToken_b0_ok (k : Nat) : CutFor X S_IsToken_pl k Go.Proofs.Tryd.f84.results.toList (S_IsToken_b0_cut k) (sub (bodyOf Go.Proofs.Tryd.f84) [1, 0, 1]) :=
  loopCut_s (X := X) (sg := [.ks, .ki .i64]) (cu := S_IsToken_b0_cu k) (cl := S_IsToken_cl k) (tys := [[0]]) (id := 0) (c := sub (bodyOf Go.Proofs.Tryd.f84) [1, 0, 1, 0, 0]) (f := fun n => fun (x : (List UInt8) × Int × Unit) => S_IsToken_b0 k n x.1 x.2.1) (S_IsToken_ck k) (cutOK_of (l := []) (by kernel_rfl) trivial) (fun _ => rfl) (fun n x Q R h => by
    simp only [S_IsToken_b0, optK_bind, optK_bif, optK_pure, optK_none, optK_oc, optK_guardT, optK_map] at h
    refine hold_of h ?_
    kernel_rfl) (by kernel_rfl)
def S_IsToken_cu (k : Nat) : Cuts D := ⟨[(0, some (S_IsToken_b0_cut k))], []⟩
def S_IsToken_ar : List Ar := [.c (.ks)]
def S_IsToken_f (k : Nat) (x : TupA D S_IsToken_ar) : Option (Bool) := S_IsToken k x.1
def S_IsToken_vr (r : Bool) : VR D := .p (.c (.bool r))
theorem S_IsToken_ok (k : Nat) : Does P X 84 S_IsToken_ar (S_IsToken_f k) S_IsToken_vr :=
  does_of (body := bodyOf Go.Proofs.Tryd.f84) (pl := S_IsToken_pl) (k := k) (cu := S_IsToken_cu k) (tys := [[0]]) (S_IsToken_ck k) ctx mixed Go.Proofs.Tryd.func84 (by kernel_rfl) (by kernel_rfl) (cutOK_of (l := [(S_IsToken_b0_cut k, sub (bodyOf Go.Proofs.Tryd.f84) [1, 0, 1])]) (by kernel_rfl) ⟨S_IsToken_b0_ok k, trivial⟩) fun x R h => by
    simp only [S_IsToken_f, S_IsToken, optK_bind, optK_bif, optK_pure, optK_none, optK_oc, optK_guardT, optK_map] at h
    refine hold_of h ?_
    kernel_rfl
def S_IsToken_en (k : Nat) : Entry D := entS S_IsToken_ar (S_IsToken_f k) S_IsToken_vr
theorem S_IsToken_eo (k : Nat) : EntryOK X 84 (S_IsToken_en k) := (S_IsToken_ok k).en rfl
def S_LowerText_pl : Plan := ⟨[(0, [(0, none)]), (1, [(3, some 5)]), (2, [(3, some 5), (4, none)]), (3, [(3, some 5), (4, none), (10, none)]), (4, [(3, some 5), (4, none)]), (5, [(3, some 5), (4, none), (18, none)]), (6, [(3, some 5), (4, none)]), (7, [(2, none)])],
  [(0, [(3, some 5)]), (1, [(3, some 5), (4, none)])],
  [(10, ([(3, some 5), (4, none)], [(3, some 5)])), (18, ([(3, some 5), (4, none)], [(3, some 5), (4, none)]))]⟩
def S_LowerText_cl (k : Nat) : Calls' D := ⟨[(62, S_l1In_en k)], []⟩
theorem S_LowerText_ck (k : Nat) : CallsOK X (S_LowerText_cl k) := .cons (S_l1In_eo k) (.nil cod)
def S_LowerText_c18_L (x : Int × Bool × (List Int) × Unit) (o : (List Int)) (Q : Ex → VSt D → Prop) (R : VR D → Prop) : Prop := Q .normal (mkSt ⟨[(3, .ref 500003), (4, .hole)], [(500003, .row)]⟩ [.int .i64 x.1, .sl 5 o])
def S_LowerText_c18_cut (k : Nat) : Cut D := cutS ⟨[(3, .ref 500003), (4, .hole), (18, .hole)], [(500003, .row)]⟩ [.ki .i64, .kb, .kl 5] (fun (x : Int × Bool × (List Int) × Unit) => S_LowerText_c18 k x.1 x.2.1 x.2.2.1) S_LowerText_c18_L
def S_LowerText_c18_cu (k : Nat) : Cuts D := ⟨[], []⟩
theorem S_LowerText_c18_ok (k : Nat) : CutFor X S_LowerText_pl k Go.Proofs.Tryd.f85.results.toList (S_LowerText_c18_cut k) (sub (bodyOf Go.Proofs.Tryd.f85) [1, 1, 0, 1, 0, 0, 1, 0, 0, 1]) :=
  joinCut_s (X := X) (sg := [.ki .i64, .kb, .kl 5]) (cu := S_LowerText_c18_cu k) (cl := S_LowerText_cl k) (tys := [[0]]) (S_LowerText_ck k) (cutOK_of (l := []) (by kernel_rfl) trivial) fun x Q R h => by
    simp only [S_LowerText_c18, optK_bind, optK_bif, optK_pure, optK_none, optK_oc, optK_guardT, optK_map] at h
    refine hold_of h ?_
    kernel_rfl
def S_LowerText_b1_L (x : Int × (List Int) × Unit) (o : (List Int)) (Q : Ex → VSt D → Prop) (R : VR D → Prop) : Prop := Q .normal (mkSt ⟨[(3, .ref 500003), (4, .hole)], [(500003, .row)]⟩ [.int .i64 x.1, .sl 5 o])
def S_LowerText_b1_cut (k : Nat) : Cut D := cutS ⟨[(3, .ref 500003), (4, .hole)], [(500003, .row)]⟩ [.ki .i64, .kl 5] (fun (x : Int × (List Int) × Unit) => S_LowerText_b1 k x.1 x.2.1) S_LowerText_b1_L
def S_LowerText_b1_cu (k : Nat) : Cuts D := ⟨[], [(18, some (S_LowerText_c18_cut k))]⟩
theorem S_LowerText_b1_ok (k : Nat) : CutFor X S_LowerText_pl k Go.Proofs.Tryd.f85.results.toList (S_LowerText_b1_cut k) (sub (bodyOf Go.Proofs.Tryd.f85) [1, 1, 0, 1, 0, 0, 1, 0]) :=
  joinCut_s (X := X) (sg := [.ki .i64, .kl 5]) (cu := S_LowerText_b1_cu k) (cl := S_LowerText_cl k) (tys := [[0]]) (S_LowerText_ck k) (cutOK_of (l := [(S_LowerText_c18_cut k, sub (bodyOf Go.Proofs.Tryd.f85) [1, 1, 0, 1, 0, 0, 1, 0, 0, 1])]) (by kernel_rfl) ⟨S_LowerText_c18_ok k, trivial⟩) fun x Q R h => by
    simp only [S_LowerText_b1, optK_bind, optK_bif, optK_pure, optK_none, optK_oc, optK_guardT, optK_map] at h
    refine hold_of h ?_
    kernel_rfl
def S_LowerText_b0_L (x : Int × (List Int) × Unit) (o : (List Int)) (Q : Ex → VSt D → Prop) (R : VR D → Prop) : Prop := Q .normal (mkSt ⟨[(3, .ref 500003)], [(500003, .row)]⟩ [.sl 5 o])
def S_LowerText_b0_cut (k : Nat) : Cut D := cutS ⟨[(3, .ref 500003), (4, .hole)], [(500003, .row)]⟩ [.ki .i64, .kl 5] (fun (x : Int × (List Int) × Unit) => S_LowerText_b0 k k x.1 x.2.1) S_LowerText_b0_L
def S_LowerText_b0_cu (k : Nat) : Cuts D := ⟨[(1, some (S_LowerText_b1_cut k))], []⟩
theorem S_LowerText_b0_ok (k : Nat) : CutFor X S_LowerText_pl k Go.Proofs.Tryd.f85.results.toList (S_LowerText_b0_cut k) (sub (bodyOf Go.Proofs.Tryd.f85) [1, 1, 0, 1]) :=
  loopCut_s (X := X) (sg := [.ki .i64, .kl 5]) (cu := S_LowerText_b0_cu k) (cl := S_LowerText_cl k) (tys := [[0]]) (id := 0) (c := sub (bodyOf Go.Proofs.Tryd.f85) [1, 1, 0, 1, 0, 0]) (f := fun n => fun (x : Int × (List Int) × Unit) => S_LowerText_b0 k n x.1 x.2.1) (S_LowerText_ck k) (cutOK_of (l := [(S_LowerText_b1_cut k, sub (bodyOf Go.Proofs.Tryd.f85) [1, 1, 0, 1, 0, 0, 1, 0])]) (by kernel_rfl) ⟨S_LowerText_b1_ok k, trivial⟩) (fun _ => rfl) (fun n x Q R h => by
    simp only [S_LowerText_b0, optK_bind, optK_bif, optK_pure, optK_none, optK_oc, optK_guardT, optK_map] at h
    refine hold_of h ?_
    kernel_rfl) (by kernel_rfl)
def S_LowerText_cu (k : Nat) : Cuts D := ⟨[(0, some (S_LowerText_b0_cut k))], []⟩
def S_LowerText_ar : List Ar := [.c (.ks)]
def S_LowerText_f (k : Nat) (x : TupA D S_LowerText_ar) : Option ((List UInt8)) := S_LowerText k x.1
def S_LowerText_vr (r : (List UInt8)) : VR D := .p (.c (.str r))
theorem S_LowerText_ok (k : Nat) : Does P X 85 S_LowerText_ar (S_LowerText_f k) S_LowerText_vr :=
  does_of (body := bodyOf Go.Proofs.Tryd.f85) (pl := S_LowerText_pl) (k := k) (cu := S_LowerText_cu k) (tys := [[0]]) (S_LowerText_ck k) ctx mixed Go.Proofs.Tryd.func85 (by kernel_rfl) (by kernel_rfl) (cutOK_of (l := [(S_LowerText_b0_cut k, sub (bodyOf Go.Proofs.Tryd.f85) [1, 1, 0, 1])]) (by kernel_rfl) ⟨S_LowerText_b0_ok k, trivial⟩) fun x R h => by
    simp only [S_LowerText_f, S_LowerText, optK_bind, optK_bif, optK_pure, optK_none, optK_oc, optK_guardT, optK_map] at h
    refine hold_of h ?_
    kernel_rfl
def S_LowerText_en (k : Nat) : Entry D := entS S_LowerText_ar (S_LowerText_f k) S_LowerText_vr
theorem S_LowerText_eo (k : Nat) : EntryOK X 85 (S_LowerText_en k) := (S_LowerText_ok k).en rfl
def S_l5Name_pl : Plan := ⟨[(0, [(0, none)]), (1, [(2, none)])],
  [],
  []⟩
def S_l5Name_cl (k : Nat) : Calls' D := ⟨[(84, S_IsToken_en k), (85, S_LowerText_en k)], []⟩
theorem S_l5Name_ck (k : Nat) : CallsOK X (S_l5Name_cl k) := .cons (S_IsToken_eo k) (.cons (S_LowerText_eo k) (.nil cod))
def S_l5Name_cu (k : Nat) : Cuts D := ⟨[], []⟩
def S_l5Name_ar : List Ar := [.c (.ks)]
def S_l5Name_f (k : Nat) (x : TupA D S_l5Name_ar) : Option (Bool) := S_l5Name k x.1
def S_l5Name_vr (r : Bool) : VR D := .p (.c (.bool r))
theorem S_l5Name_ok (k : Nat) : Does P X 134 S_l5Name_ar (S_l5Name_f k) S_l5Name_vr :=
  does_of (body := bodyOf Go.Proofs.Tryd.f134) (pl := S_l5Name_pl) (k := k) (cu := S_l5Name_cu k) (tys := [[0]]) (S_l5Name_ck k) ctx mixed Go.Proofs.Tryd.func134 (by kernel_rfl) (by kernel_rfl) (cutOK_of (l := []) (by kernel_rfl) trivial) fun x R h => by
    simp only [S_l5Name_f, S_l5Name, optK_bind, optK_bif, optK_pure, optK_none, optK_oc, optK_guardT, optK_map] at h
    refine hold_of h ?_
    kernel_rfl
def S_l5Name_en (k : Nat) : Entry D := entS S_l5Name_ar (S_l5Name_f k) S_l5Name_vr
theorem S_l5Name_eo (k : Nat) : EntryOK X 134 (S_l5Name_en k) := (S_l5Name_ok k).en rfl
def S_l4Blank_pl : Plan := ⟨[(0, [(0, none)]), (1, [(2, none)])],
  [],
  []⟩
def S_l4Blank_cl (k : Nat) : Calls' D := ⟨[], []⟩
theorem S_l4Blank_ck (k : Nat) : CallsOK X (S_l4Blank_cl k) := .nil cod
def S_l4Blank_cu (k : Nat) : Cuts D := ⟨[], []⟩
def S_l4Blank_ar : List Ar := [.c (.ki .u8)]
def S_l4Blank_f (k : Nat) (x : TupA D S_l4Blank_ar) : Option (Bool) := S_l4Blank k x.1
def S_l4Blank_vr (r : Bool) : VR D := .p (.c (.bool r))
theorem S_l4Blank_ok (k : Nat) : Does P X 120 S_l4Blank_ar (S_l4Blank_f k) S_l4Blank_vr :=
  does_of (body := bodyOf Go.Proofs.Tryd.f120) (pl := S_l4Blank_pl) (k := k) (cu := S_l4Blank_cu k) (tys := [[0]]) (S_l4Blank_ck k) ctx mixed Go.Proofs.Tryd.func120 (by kernel_rfl) (by kernel_rfl) (cutOK_of (l := []) (by kernel_rfl) trivial) fun x R h => by
    simp only [S_l4Blank_f, S_l4Blank, optK_bind, optK_bif, optK_pure, optK_none, optK_oc, optK_guardT, optK_map] at h
    refine hold_of h ?_
    kernel_rfl
def S_l4Blank_en (k : Nat) : Entry D := entS S_l4Blank_ar (S_l4Blank_f k) S_l4Blank_vr
theorem S_l4Blank_eo (k : Nat) : EntryOK X 120 (S_l4Blank_en k) := (S_l4Blank_ok k).en rfl
def S_TrimText_pl : Plan := ⟨[(0, [(0, none)]), (1, [(0, none), (10, none)]), (2, [(0, none)]), (3, [(0, none), (23, none)]), (4, [(0, none)]), (5, [(2, none)])],
  [(0, [(0, none)]), (1, [(0, none)]), (2, [(0, none)]), (3, [(0, none)])],
  [(10, ([(0, none)], [(0, none)])), (23, ([(0, none)], [(0, none)]))]⟩
def S_TrimText_cl (k : Nat) : Calls' D := ⟨[(120, S_l4Blank_en k)], []⟩
theorem S_TrimText_ck (k : Nat) : CallsOK X (S_TrimText_cl k) := .cons (S_l4Blank_eo k) (.nil cod)
def S_TrimText_b0_L (x : (List UInt8) × Unit) (o : (List UInt8)) (Q : Ex → VSt D → Prop) (R : VR D → Prop) : Prop := Q .normal (mkSt ⟨[(0, .hole)], []⟩ [.str o])
def S_TrimText_b0_cut (k : Nat) : Cut D := cutS ⟨[(0, .hole)], []⟩ [.ks] (fun (x : (List UInt8) × Unit) => S_TrimText_b0 k k x.1) S_TrimText_b0_L
def S_TrimText_b0_cu (k : Nat) : Cuts D := ⟨[], []⟩
theorem S_TrimText_b0_ok (k : Nat) : CutFor X S_TrimText_pl k Go.Proofs.Tryd.f89.results.toList (S_TrimText_b0_cut k) (sub (bodyOf Go.Proofs.Tryd.f89) [1, 0]) :=
  loopCut_s (X := X) (sg := [.ks]) (cu := S_TrimText_b0_cu k) (cl := S_TrimText_cl k) (tys := [[0]]) (id := 0) (c := sub (bodyOf Go.Proofs.Tryd.f89) [1, 0, 0, 0]) (f := fun n => fun (x : (List UInt8) × Unit) => S_TrimText_b0 k n x.1) (S_TrimText_ck k) (cutOK_of (l := []) (by kernel_rfl) trivial) (fun _ => rfl) (fun n x Q R h => by
    simp only [S_TrimText_b0, optK_bind, optK_bif, optK_pure, optK_none, optK_oc, optK_guardT, optK_map] at h
    refine hold_of h ?_
    kernel_rfl) (by kernel_rfl)
def S_TrimText_b2_L (x : (List UInt8) × Unit) (o : (List UInt8)) (Q : Ex → VSt D → Prop) (R : VR D → Prop) : Prop := Q .normal (mkSt ⟨[(0, .hole)], []⟩ [.str o])
def S_TrimText_b2_cut (k : Nat) : Cut D := cutS ⟨[(0, .hole)], []⟩ [.ks] (fun (x : (List UInt8) × Unit) => S_TrimText_b2 k k x.1) S_TrimText_b2_L
def S_TrimText_b2_cu (k : Nat) : Cuts D := ⟨[], []⟩
theorem S_TrimText_b2_ok (k : Nat) : CutFor X S_TrimText_pl k Go.Proofs.Tryd.f89.results.toList (S_TrimText_b2_cut k) (sub (bodyOf Go.Proofs.Tryd.f89) [1, 1, 0]) :=
  loopCut_s (X := X) (sg := [.ks]) (cu := S_TrimText_b2_cu k) (cl := S_TrimText_cl k) (tys := [[0]]) (id := 2) (c := sub (bodyOf Go.Proofs.Tryd.f89) [1, 1, 0, 0, 0]) (f := fun n => fun (x : (List UInt8) × Unit) => S_TrimText_b2 k n x.1) (S_TrimText_ck k) (cutOK_of (l := []) (by kernel_rfl) trivial) (fun _ => rfl) (fun n x Q R h => by
    simp only [S_TrimText_b2, optK_bind, optK_bif, optK_pure, optK_none, optK_oc, optK_guardT, optK_map] at h
    refine hold_of h ?_
    kernel_rfl) (by kernel_rfl)
def S_TrimText_cu (k : Nat) : Cuts D := ⟨[(0, some (S_TrimText_b0_cut k)), (2, some (S_TrimText_b2_cut k))], []⟩
def S_TrimText_ar : List Ar := [.c (.ks)]
def S_TrimText_f (k : Nat) (x : TupA D S_TrimText_ar) : Option ((List UInt8)) := S_TrimText k x.1
def S_TrimText_vr (r : (List UInt8)) : VR D := .p (.c (.str r))
theorem S_TrimText_ok (k : Nat) : Does P X 89 S_TrimText_ar (S_TrimText_f k) S_TrimText_vr :=
  does_of (body := bodyOf Go.Proofs.Tryd.f89) (pl := S_TrimText_pl) (k := k) (cu := S_TrimText_cu k) (tys := [[0]]) (S_TrimText_ck k) ctx mixed Go.Proofs.Tryd.func89 (by kernel_rfl) (by kernel_rfl) (cutOK_of (l := [(S_TrimText_b0_cut k, sub (bodyOf Go.Proofs.Tryd.f89) [1, 0]), (S_TrimText_b2_cut k, sub (bodyOf Go.Proofs.Tryd.f89) [1, 1, 0])]) (by kernel_rfl) ⟨S_TrimText_b0_ok k, S_TrimText_b2_ok k, trivial⟩) fun x R h => by
    simp only [S_TrimText_f, S_TrimText, optK_bind, optK_bif, optK_pure, optK_none, optK_oc, optK_guardT, optK_map] at h
    refine hold_of h ?_
    kernel_rfl
def S_TrimText_en (k : Nat) : Entry D := entS S_TrimText_ar (S_TrimText_f k) S_TrimText_vr
theorem S_TrimText_eo (k : Nat) : EntryOK X 89 (S_TrimText_en k) := (S_TrimText_ok k).en rfl
def S_l5Value_pl : Plan := ⟨[(0, [(0, none)]), (1, [(0, none), (3, none)]), (2, [(0, none), (3, none), (7, none)]), (3, [(0, none), (3, none)]), (4, [(0, none), (3, none), (21, none)]), (5, [(2, none)]), (6, [(2, none)])],
  [(0, [(0, none)]), (1, [(0, none), (3, none)])],
  [(7, ([(0, none), (3, none)], [(0, none)])), (21, ([], [(0, none), (3, none)]))]⟩
def S_l5Value_cl (k : Nat) : Calls' D := ⟨[(62, S_l1In_en k), (89, S_TrimText_en k)], []⟩
theorem S_l5Value_ck (k : Nat) : CallsOK X (S_l5Value_cl k) := .cons (S_l1In_eo k) (.cons (S_TrimText_eo k) (.nil cod))
def S_l5Value_b0_L (x : (List UInt8) × Int × Unit) (o : Oc (Unit) (Bool)) (Q : Ex → VSt D → Prop) (R : VR D → Prop) : Prop := ocP o (fun v0 => Q .normal (mkSt ⟨[(0, .hole)], []⟩ [.str x.1])) (fun w0 => R (.p (.c (.bool w0))))
def S_l5Value_b0_cut (k : Nat) : Cut D := cutS ⟨[(0, .hole), (3, .hole)], []⟩ [.ks, .ki .i64] (fun (x : (List UInt8) × Int × Unit) => S_l5Value_b0 k k x.1 x.2.1) S_l5Value_b0_L
def S_l5Value_b0_cu (k : Nat) : Cuts D := ⟨[], []⟩
theorem S_l5Value_b0_ok (k : Nat) : CutFor X S_l5Value_pl k Go.Proofs.Tryd.f135.results.toList (S_l5Value_b0_cut k) (sub (bodyOf Go.Proofs.Tryd.f135) [1, 0, 1]) :=
  loopCut_s (X := X) (sg := [.ks, .ki .i64]) (cu := S_l5Value_b0_cu k) (cl := S_l5Value_cl k) (tys := [[0]]) (id := 0) (c := sub (bodyOf Go.Proofs.Tryd.f135) [1, 0, 1, 0, 0]) (f := fun n => fun (x : (List UInt8) × Int × Unit) => S_l5Value_b0 k n x.1 x.2.1) (S_l5Value_ck k) (cutOK_of (l := []) (by kernel_rfl) trivial) (fun _ => rfl) (fun n x Q R h => by
    simp only [S_l5Value_b0, optK_bind, optK_bif, optK_pure, optK_none, optK_oc, optK_guardT, optK_map] at h
    refine hold_of h ?_
    kernel_rfl) (by kernel_rfl)
def S_l5Value_cu (k : Nat) : Cuts D := ⟨[(0, some (S_l5Value_b0_cut k))], []⟩
def S_l5Value_ar : List Ar := [.c (.ks)]
def S_l5Value_f (k : Nat) (x : TupA D S_l5Value_ar) : Option (Bool) := S_l5Value k x.1
def S_l5Value_vr (r : Bool) : VR D := .p (.c (.bool r))
theorem S_l5Value_ok (k : Nat) : Does P X 135 S_l5Value_ar (S_l5Value_f k) S_l5Value_vr :=
  does_of (body := bodyOf Go.Proofs.Tryd.f135) (pl := S_l5Value_pl) (k := k) (cu := S_l5Value_cu k) (tys := [[0]]) (S_l5Value_ck k) ctx mixed Go.Proofs.Tryd.func135 (by kernel_rfl) (by kernel_rfl) (cutOK_of (l := [(S_l5Value_b0_cut k, sub (bodyOf Go.Proofs.Tryd.f135) [1, 0, 1])]) (by kernel_rfl) ⟨S_l5Value_b0_ok k, trivial⟩) fun x R h => by
    simp only [S_l5Value_f, S_l5Value, optK_bind, optK_bif, optK_pure, optK_none, optK_oc, optK_guardT, optK_map] at h
    refine hold_of h ?_
    kernel_rfl
def S_l5Value_en (k : Nat) : Entry D := entS S_l5Value_ar (S_l5Value_f k) S_l5Value_vr
theorem S_l5Value_eo (k : Nat) : EntryOK X 135 (S_l5Value_en k) := (S_l5Value_ok k).en rfl
def S_AreFields_pl : Plan := ⟨[(0, [(0, some 79)]), (1, [(0, some 79), (3, none)]), (2, [(0, some 79), (3, none), (7, none)]), (3, [(0, some 79), (3, none)]), (4, [(0, some 79), (3, none), (25, none)]), (5, [(2, none)]), (6, [(2, none)])],
  [(0, [(0, some 79)]), (1, [(0, some 79), (3, none)])],
  [(7, ([(0, some 79), (3, none)], [(0, some 79)])), (25, ([], [(0, some 79), (3, none)]))]⟩
def S_AreFields_cl (k : Nat) : Calls' D := ⟨[(134, S_l5Name_en k), (135, S_l5Value_en k)], []⟩
theorem S_AreFields_ck (k : Nat) : CallsOK X (S_AreFields_cl k) := .cons (S_l5Name_eo k) (.cons (S_l5Value_eo k) (.nil cod))
def S_AreFields_b0_L (x : (List IField) × Int × Unit) (o : Oc (Unit) (Bool)) (Q : Ex → VSt D → Prop) (R : VR D → Prop) : Prop := ocP o (fun v0 => Q .normal (mkSt ⟨[(0, .hole)], []⟩ [.sl 79 x.1])) (fun w0 => R (.p (.c (.bool w0))))
def S_AreFields_b0_cut (k : Nat) : Cut D := cutS ⟨[(0, .hole), (3, .hole)], []⟩ [.kl 79, .ki .i64] (fun (x : (List IField) × Int × Unit) => S_AreFields_b0 k k x.1 x.2.1) S_AreFields_b0_L
def S_AreFields_b0_cu (k : Nat) : Cuts D := ⟨[], []⟩
theorem S_AreFields_b0_ok (k : Nat) : CutFor X S_AreFields_pl k Go.Proofs.Tryd.f108.results.toList (S_AreFields_b0_cut k) (sub (bodyOf Go.Proofs.Tryd.f108) [1, 0, 1]) :=
  loopCut_s (X := X) (sg := [.kl 79, .ki .i64]) (cu := S_AreFields_b0_cu k) (cl := S_AreFields_cl k) (tys := [[0]]) (id := 0) (c := sub (bodyOf Go.Proofs.Tryd.f108) [1, 0, 1, 0, 0]) (f := fun n => fun (x : (List IField) × Int × Unit) => S_AreFields_b0 k n x.1 x.2.1) (S_AreFields_ck k) (cutOK_of (l := []) (by kernel_rfl) trivial) (fun _ => rfl) (fun n x Q R h => by
    simp only [S_AreFields_b0, optK_bind, optK_bif, optK_pure, optK_none, optK_oc, optK_guardT, optK_map] at h
    refine hold_of h ?_
    kernel_rfl) (by kernel_rfl)
def S_AreFields_cu (k : Nat) : Cuts D := ⟨[(0, some (S_AreFields_b0_cut k))], []⟩
def S_AreFields_ar : List Ar := [.c (.kl 79)]
def S_AreFields_f (k : Nat) (x : TupA D S_AreFields_ar) : Option (Bool) := S_AreFields k x.1
def S_AreFields_vr (r : Bool) : VR D := .p (.c (.bool r))
theorem S_AreFields_ok (k : Nat) : Does P X 108 S_AreFields_ar (S_AreFields_f k) S_AreFields_vr :=
  does_of (body := bodyOf Go.Proofs.Tryd.f108) (pl := S_AreFields_pl) (k := k) (cu := S_AreFields_cu k) (tys := [[0]]) (S_AreFields_ck k) ctx mixed Go.Proofs.Tryd.func108 (by kernel_rfl) (by kernel_rfl) (cutOK_of (l := [(S_AreFields_b0_cut k, sub (bodyOf Go.Proofs.Tryd.f108) [1, 0, 1])]) (by kernel_rfl) ⟨S_AreFields_b0_ok k, trivial⟩) fun x R h => by
    simp only [S_AreFields_f, S_AreFields, optK_bind, optK_bif, optK_pure, optK_none, optK_oc, optK_guardT, optK_map] at h
    refine hold_of h ?_
    kernel_rfl
def S_AreFields_en (k : Nat) : Entry D := entS S_AreFields_ar (S_AreFields_f k) S_AreFields_vr
theorem S_AreFields_eo (k : Nat) : EntryOK X 108 (S_AreFields_en k) := (S_AreFields_ok k).en rfl
def S_l11Fields_pl : Plan := ⟨[(0, [(0, some 79)]), (1, [(0, some 79), (4, none)]), (2, [(2, none)])],
  [],
  []⟩
def S_l11Fields_cl (k : Nat) : Calls' D := ⟨[(104, S_GetField_en k), (108, S_AreFields_en k)], []⟩
theorem S_l11Fields_ck (k : Nat) : CallsOK X (S_l11Fields_cl k) := .cons (S_GetField_eo k) (.cons (S_AreFields_eo k) (.nil cod))
def S_l11Fields_cu (k : Nat) : Cuts D := ⟨[], []⟩
def S_l11Fields_ar : List Ar := [.c (.kl 79)]
def S_l11Fields_f (k : Nat) (x : TupA D S_l11Fields_ar) : Option (Bool) := S_l11Fields k x.1
def S_l11Fields_vr (r : Bool) : VR D := .p (.c (.bool r))
theorem S_l11Fields_ok (k : Nat) : Does P X 63 S_l11Fields_ar (S_l11Fields_f k) S_l11Fields_vr :=
  does_of (body := bodyOf Go.Proofs.Tryd.f63) (pl := S_l11Fields_pl) (k := k) (cu := S_l11Fields_cu k) (tys := [[0]]) (S_l11Fields_ck k) ctx mixed Go.Proofs.Tryd.func63 (by kernel_rfl) (by kernel_rfl) (cutOK_of (l := []) (by kernel_rfl) trivial) fun x R h => by
    simp only [S_l11Fields_f, S_l11Fields, optK_bind, optK_bif, optK_pure, optK_none, optK_oc, optK_guardT, optK_map] at h
    refine hold_of h ?_
    kernel_rfl
def S_l11Fields_en (k : Nat) : Entry D := entS S_l11Fields_ar (S_l11Fields_f k) S_l11Fields_vr
theorem S_l11Fields_eo (k : Nat) : EntryOK X 63 (S_l11Fields_en k) := (S_l11Fields_ok k).en rfl
def S_IsRequest_pl : Plan := ⟨[(0, [(1, none)]), (1, [(1, none), (3, none)]), (2, [(1, none), (3, none), (13, none)]), (3, [(1, none), (3, none)]), (4, [(1, none), (3, none), (21, none)]), (5, [(2, none)]), (6, [(1, none), (4, none)]), (7, [(1, none), (4, none), (26, none)]), (8, [(1, none), (4, none)]), (9, [(1, none), (4, none), (5, none)]), (10, [(1, none), (4, none), (50, none)]), (11, [(2, none)]), (12, [(1, none), (6, none)]), (13, [(1, none), (6, none), (55, none)]), (14, [(1, none), (6, none)]), (15, [(1, none), (6, none), (64, none)]), (16, [(2, none)]), (17, [(1, none), (8, none)]), (18, [(2, none)])],
  [(0, [(1, none)]), (1, [(1, none), (3, none)]), (2, [(1, none)]), (3, [(1, none), (4, none)]), (4, [(1, none)]), (5, [(1, none), (6, none)])],
  [(13, ([(1, none), (3, none)], [(1, none)])), (21, ([], [(1, none), (3, none)])), (26, ([(1, none), (4, none)], [(1, none)])), (50, ([], [(1, none), (4, none)])), (55, ([(1, none), (6, none)], [(1, none)])), (64, ([], [(1, none), (6, none)]))]⟩
def S_IsRequest_cl (k : Nat) : Calls' D := ⟨[(62, S_l1In_en k), (104, S_GetField_en k), (84, S_IsToken_en k), (63, S_l11Fields_en k)], []⟩
theorem S_IsRequest_ck (k : Nat) : CallsOK X (S_IsRequest_cl k) := .cons (S_l1In_eo k) (.cons (S_GetField_eo k) (.cons (S_IsToken_eo k) (.cons (S_l11Fields_eo k) (.nil cod))))
def S_IsRequest_b0_L (x : Int × (List UInt8) × (List UInt8) × (List UInt8) × (List IField) × Unit) (o : Oc (Unit) (Bool)) (Q : Ex → VSt D → Prop) (R : VR D → Prop) : Prop := ocP o (fun v0 => Q .normal (mkSt ⟨[(1, .ptr 1 0)], [(1, .var [.hole, .hole, .hole, .hole])]⟩ [.str x.2.1, .str x.2.2.1, .str x.2.2.2.1, .sl 79 x.2.2.2.2.1])) (fun w0 => R (.p (.c (.bool w0))))
def S_IsRequest_b0_cut (k : Nat) : Cut D := cutS ⟨[(1, .ptr 1 0), (3, .hole)], [(1, .var [.hole, .hole, .hole, .hole])]⟩ [.ki .i64, .ks, .ks, .ks, .kl 79] (fun (x : Int × (List UInt8) × (List UInt8) × (List UInt8) × (List IField) × Unit) => S_IsRequest_b0 k k x.1 x.2.1 x.2.2.1 x.2.2.2.1 x.2.2.2.2.1) S_IsRequest_b0_L
def S_IsRequest_b0_cu (k : Nat) : Cuts D := ⟨[], []⟩
theorem S_IsRequest_b0_ok (k : Nat) : CutFor X S_IsRequest_pl k Go.Proofs.Tryd.f58.results.toList (S_IsRequest_b0_cut k) (sub (bodyOf Go.Proofs.Tryd.f58) [1, 0, 1]) :=
  loopCut_s (X := X) (sg := [.ki .i64, .ks, .ks, .ks, .kl 79]) (cu := S_IsRequest_b0_cu k) (cl := S_IsRequest_cl k) (tys := [[0]]) (id := 0) (c := sub (bodyOf Go.Proofs.Tryd.f58) [1, 0, 1, 0, 0]) (f := fun n => fun (x : Int × (List UInt8) × (List UInt8) × (List UInt8) × (List IField) × Unit) => S_IsRequest_b0 k n x.1 x.2.1 x.2.2.1 x.2.2.2.1 x.2.2.2.2.1) (S_IsRequest_ck k) (cutOK_of (l := []) (by kernel_rfl) trivial) (fun _ => rfl) (fun n x Q R h => by
    simp only [S_IsRequest_b0, optK_bind, optK_bif, optK_pure, optK_none, optK_oc, optK_guardT, optK_map] at h
    refine hold_of h ?_
    kernel_rfl) (by kernel_rfl)
def S_IsRequest_b2_L (x : Int × (List UInt8) × (List UInt8) × (List UInt8) × (List IField) × Unit) (o : Oc (Unit) (Bool)) (Q : Ex → VSt D → Prop) (R : VR D → Prop) : Prop := ocP o (fun v0 => Q .normal (mkSt ⟨[(1, .ptr 1 0)], [(1, .var [.hole, .hole, .hole, .hole])]⟩ [.str x.2.1, .str x.2.2.1, .str x.2.2.2.1, .sl 79 x.2.2.2.2.1])) (fun w0 => R (.p (.c (.bool w0))))
def S_IsRequest_b2_cut (k : Nat) : Cut D := cutS ⟨[(1, .ptr 1 0), (4, .hole)], [(1, .var [.hole, .hole, .hole, .hole])]⟩ [.ki .i64, .ks, .ks, .ks, .kl 79] (fun (x : Int × (List UInt8) × (List UInt8) × (List UInt8) × (List IField) × Unit) => S_IsRequest_b2 k k x.1 x.2.1 x.2.2.1 x.2.2.2.1 x.2.2.2.2.1) S_IsRequest_b2_L
def S_IsRequest_b2_cu (k : Nat) : Cuts D := ⟨[], []⟩
theorem S_IsRequest_b2_ok (k : Nat) : CutFor X S_IsRequest_pl k Go.Proofs.Tryd.f58.results.toList (S_IsRequest_b2_cut k) (sub (bodyOf Go.Proofs.Tryd.f58) [1, 1, 0, 1]) :=
  loopCut_s (X := X) (sg := [.ki .i64, .ks, .ks, .ks, .kl 79]) (cu := S_IsRequest_b2_cu k) (cl := S_IsRequest_cl k) (tys := [[0]]) (id := 2) (c := sub (bodyOf Go.Proofs.Tryd.f58) [1, 1, 0, 1, 0, 0]) (f := fun n => fun (x : Int × (List UInt8) × (List UInt8) × (List UInt8) × (List IField) × Unit) => S_IsRequest_b2 k n x.1 x.2.1 x.2.2.1 x.2.2.2.1 x.2.2.2.2.1) (S_IsRequest_ck k) (cutOK_of (l := []) (by kernel_rfl) trivial) (fun _ => rfl) (fun n x Q R h => by
    simp only [S_IsRequest_b2, optK_bind, optK_bif, optK_pure, optK_none, optK_oc, optK_guardT, optK_map] at h
    refine hold_of h ?_
    kernel_rfl) (by kernel_rfl)
def S_IsRequest_b4_L (x : Int × (List UInt8) × (List UInt8) × (List UInt8) × (List IField) × Unit) (o : Oc (Unit) (Bool)) (Q : Ex → VSt D → Prop) (R : VR D → Prop) : Prop := ocP o (fun v0 => Q .normal (mkSt ⟨[(1, .ptr 1 0)], [(1, .var [.hole, .hole, .hole, .hole])]⟩ [.str x.2.1, .str x.2.2.1, .str x.2.2.2.1, .sl 79 x.2.2.2.2.1])) (fun w0 => R (.p (.c (.bool w0))))
def S_IsRequest_b4_cut (k : Nat) : Cut D := cutS ⟨[(1, .ptr 1 0), (6, .hole)], [(1, .var [.hole, .hole, .hole, .hole])]⟩ [.ki .i64, .ks, .ks, .ks, .kl 79] (fun (x : Int × (List UInt8) × (List UInt8) × (List UInt8) × (List IField) × Unit) => S_IsRequest_b4 k k x.1 x.2.1 x.2.2.1 x.2.2.2.1 x.2.2.2.2.1) S_IsRequest_b4_L
def S_IsRequest_b4_cu (k : Nat) : Cuts D := ⟨[], []⟩
theorem S_IsRequest_b4_ok (k : Nat) : CutFor X S_IsRequest_pl k Go.Proofs.Tryd.f58.results.toList (S_IsRequest_b4_cut k) (sub (bodyOf Go.Proofs.Tryd.f58) [1, 1, 1, 0, 1]) :=
  loopCut_s (X := X) (sg := [.ki .i64, .ks, .ks, .ks, .kl 79]) (cu := S_IsRequest_b4_cu k) (cl := S_IsRequest_cl k) (tys := [[0]]) (id := 4) (c := sub (bodyOf Go.Proofs.Tryd.f58) [1, 1, 1, 0, 1, 0, 0]) (f := fun n => fun (x : Int × (List UInt8) × (List UInt8) × (List UInt8) × (List IField) × Unit) => S_IsRequest_b4 k n x.1 x.2.1 x.2.2.1 x.2.2.2.1 x.2.2.2.2.1) (S_IsRequest_ck k) (cutOK_of (l := []) (by kernel_rfl) trivial) (fun _ => rfl) (fun n x Q R h => by
    simp only [S_IsRequest_b4, optK_bind, optK_bif, optK_pure, optK_none, optK_oc, optK_guardT, optK_map] at h
    refine hold_of h ?_
    kernel_rfl) (by kernel_rfl)
def S_IsRequest_cu (k : Nat) : Cuts D := ⟨[(0, some (S_IsRequest_b0_cut k)), (2, some (S_IsRequest_b2_cut k)), (4, some (S_IsRequest_b4_cut k))], []⟩
def S_IsRequest_ar : List Ar := [.a [.ks, .ks, .ks, .kl 79]]
def S_IsRequest_f (k : Nat) (x : TupA D S_IsRequest_ar) : Option (Bool) := S_IsRequest k (⟨x.1.1, x.1.2.1, x.1.2.2.1, x.1.2.2.2.1⟩ : IRequest)
def S_IsRequest_vr (r : Bool) : VR D := .p (.c (.bool r))
theorem S_IsRequest_ok (k : Nat) : Does P X 58 S_IsRequest_ar (S_IsRequest_f k) S_IsRequest_vr :=
  does_of (body := bodyOf Go.Proofs.Tryd.f58) (pl := S_IsRequest_pl) (k := k) (cu := S_IsRequest_cu k) (tys := [[0]]) (S_IsRequest_ck k) ctx mixed Go.Proofs.Tryd.func58 (by kernel_rfl) (by kernel_rfl) (cutOK_of (l := [(S_IsRequest_b0_cut k, sub (bodyOf Go.Proofs.Tryd.f58) [1, 0, 1]), (S_IsRequest_b2_cut k, sub (bodyOf Go.Proofs.Tryd.f58) [1, 1, 0, 1]), (S_IsRequest_b4_cut k, sub (bodyOf Go.Proofs.Tryd.f58) [1, 1, 1, 0, 1])]) (by kernel_rfl) ⟨S_IsRequest_b0_ok k, S_IsRequest_b2_ok k, S_IsRequest_b4_ok k, trivial⟩) fun x R h => by
    simp only [S_IsRequest_f, S_IsRequest, optK_bind, optK_bif, optK_pure, optK_none, optK_oc, optK_guardT, optK_map] at h
    refine hold_of h ?_
    kernel_rfl
def S_IsRequest_en (k : Nat) : Entry D := entS S_IsRequest_ar (S_IsRequest_f k) S_IsRequest_vr
theorem S_IsRequest_eo (k : Nat) : EntryOK X 58 (S_IsRequest_en k) := (S_IsRequest_ok k).en rfl
def strings_IndexByte_ar : List Ar := [.c (.ks), .c (.ki .u8)]
def strings_IndexByte_f (k : Nat) (x : TupA D strings_IndexByte_ar) : Option (Int) := strings_IndexByte k x.1 x.2.1
def strings_IndexByte_vr (r : Int) : VR D := .p (.c (.int .i64 r))
theorem strings_IndexByte_ok (k : Nat) : Does P X 116 strings_IndexByte_ar (strings_IndexByte_f k) strings_IndexByte_vr := does_indexByte ⟨Go.Proofs.Tryd.f116, Go.Proofs.Tryd.func116, by kernel_rfl, by kernel_rfl⟩ (fun s c w hg => Go.Proofs.Tryd.strings_IndexByte s c w)
def strings_IndexByte_en (k : Nat) : Entry D := entS strings_IndexByte_ar (strings_IndexByte_f k) strings_IndexByte_vr
theorem strings_IndexByte_eo (k : Nat) : EntryOK X 116 (strings_IndexByte_en k) := (strings_IndexByte_ok k).en rfl
def I_isTokenByte_pl : Plan := ⟨[(0, [(0, none)]), (1, [(2, none)])],
  [],
  []⟩
def I_isTokenByte_cl (k : Nat) : Calls' D := ⟨[(116, strings_IndexByte_en k)], []⟩
theorem I_isTokenByte_ck (k : Nat) : CallsOK X (I_isTokenByte_cl k) := .cons (strings_IndexByte_eo k) (.nil cod)
def I_isTokenByte_cu (k : Nat) : Cuts D := ⟨[], []⟩
def I_isTokenByte_ar : List Ar := [.c (.ki .u8)]
def I_isTokenByte_f (k : Nat) (x : TupA D I_isTokenByte_ar) : Option (Bool) := I_isTokenByte k x.1
def I_isTokenByte_vr (r : Bool) : VR D := .p (.c (.bool r))
theorem I_isTokenByte_ok (k : Nat) : Does P X 81 I_isTokenByte_ar (I_isTokenByte_f k) I_isTokenByte_vr :=
  does_of (body := bodyOf Go.Proofs.Tryd.f81) (pl := I_isTokenByte_pl) (k := k) (cu := I_isTokenByte_cu k) (tys := [[0]]) (I_isTokenByte_ck k) ctx mixed Go.Proofs.Tryd.func81 (by kernel_rfl) (by kernel_rfl) (cutOK_of (l := []) (by kernel_rfl) trivial) fun x R h => by
    simp only [I_isTokenByte_f, I_isTokenByte, optK_bind, optK_bif, optK_pure, optK_none, optK_oc, optK_guardT, optK_map] at h
    refine hold_of h ?_
    kernel_rfl
def I_isTokenByte_en (k : Nat) : Entry D := entS I_isTokenByte_ar (I_isTokenByte_f k) I_isTokenByte_vr
theorem I_isTokenByte_eo (k : Nat) : EntryOK X 81 (I_isTokenByte_en k) := (I_isTokenByte_ok k).en rfl
def I_inRange_pl : Plan := ⟨[(0, [(0, none), (1, none), (2, none)]), (1, [(6, none)])],
  [],
  []⟩
def I_inRange_cl (k : Nat) : Calls' D := ⟨[], []⟩
theorem I_inRange_ck (k : Nat) : CallsOK X (I_inRange_cl k) := .nil cod
def I_inRange_cu (k : Nat) : Cuts D := ⟨[], []⟩
def I_inRange_ar : List Ar := [.c (.ki .i64), .c (.ki .i64), .c (.ki .i64)]
def I_inRange_f (k : Nat) (x : TupA D I_inRange_ar) : Option (Bool) := I_inRange k x.1 x.2.1 x.2.2.1
def I_inRange_vr (r : Bool) : VR D := .p (.c (.bool r))
theorem I_inRange_ok (k : Nat) : Does P X 64 I_inRange_ar (I_inRange_f k) I_inRange_vr :=
  does_of (body := bodyOf Go.Proofs.Tryd.f64) (pl := I_inRange_pl) (k := k) (cu := I_inRange_cu k) (tys := [[0]]) (I_inRange_ck k) ctx mixed Go.Proofs.Tryd.func64 (by kernel_rfl) (by kernel_rfl) (cutOK_of (l := []) (by kernel_rfl) trivial) fun x R h => by
    simp only [I_inRange_f, I_inRange, optK_bind, optK_bif, optK_pure, optK_none, optK_oc, optK_guardT, optK_map] at h
    refine hold_of h ?_
    kernel_rfl
def I_inRange_en (k : Nat) : Entry D := entS I_inRange_ar (I_inRange_f k) I_inRange_vr
theorem I_inRange_eo (k : Nat) : EntryOK X 64 (I_inRange_en k) := (I_inRange_ok k).en rfl
def I_IsToken_pl : Plan := ⟨[(0, [(0, none)]), (1, [(0, none), (5, none), (6, none)]), (2, [(0, none), (5, none), (6, none), (7, none)]), (3, [(0, none), (3, none), (5, none), (6, none)]), (4, [(0, none), (5, none), (6, none), (13, none)]), (5, [(2, none)]), (6, [(0, none), (5, none), (6, none)]), (7, [(2, none)])],
  [(0, [(0, none)]), (1, [(0, none), (5, none), (6, none)])],
  [(7, ([(0, none), (5, none), (6, none)], [(0, none)])), (13, ([], [(0, none), (5, none), (6, none)]))]⟩
def I_IsToken_cl (k : Nat) : Calls' D := ⟨[(81, I_isTokenByte_en k), (64, I_inRange_en k)], []⟩
theorem I_IsToken_ck (k : Nat) : CallsOK X (I_IsToken_cl k) := .cons (I_isTokenByte_eo k) (.cons (I_inRange_eo k) (.nil cod))
def I_IsToken_b0_L (x : (List UInt8) × Int × Int × Unit) (o : Oc (Unit) (Bool)) (Q : Ex → VSt D → Prop) (R : VR D → Prop) : Prop := ocP o (fun v0 => Q .normal (mkSt ⟨[(0, .hole)], []⟩ [.str x.1])) (fun w0 => R (.p (.c (.bool w0))))
def I_IsToken_b0_cut (k : Nat) : Cut D := cutS ⟨[(0, .hole), (5, .hole), (6, .hole)], []⟩ [.ks, .ki .i64, .ki .i64] (fun (x : (List UInt8) × Int × Int × Unit) => I_IsToken_b0 k k x.1 x.2.1 x.2.2.1) I_IsToken_b0_L
def I_IsToken_b0_cu (k : Nat) : Cuts D := ⟨[], []⟩
theorem I_IsToken_b0_ok (k : Nat) : CutFor X I_IsToken_pl k Go.Proofs.Tryd.f31.results.toList (I_IsToken_b0_cut k) (sub (bodyOf Go.Proofs.Tryd.f31) [1, 0, 1]) :=
  loopCut_s (X := X) (sg := [.ks, .ki .i64, .ki .i64]) (cu := I_IsToken_b0_cu k) (cl := I_IsToken_cl k) (tys := [[0]]) (id := 0) (c := sub (bodyOf Go.Proofs.Tryd.f31) [1, 0, 1, 0, 0]) (f := fun n => fun (x : (List UInt8) × Int × Int × Unit) => I_IsToken_b0 k n x.1 x.2.1 x.2.2.1) (I_IsToken_ck k) (cutOK_of (l := []) (by kernel_rfl) trivial) (fun _ => rfl) (fun n x Q R h => by
    simp only [I_IsToken_b0, optK_bind, optK_bif, optK_pure, optK_none, optK_oc, optK_guardT, optK_map] at h
    refine hold_of h ?_
    kernel_rfl) (by kernel_rfl)
def I_IsToken_cu (k : Nat) : Cuts D := ⟨[(0, some (I_IsToken_b0_cut k))], []⟩
def I_IsToken_ar : List Ar := [.c (.ks)]
def I_IsToken_f (k : Nat) (x : TupA D I_IsToken_ar) : Option (Bool) := I_IsToken k x.1
def I_IsToken_vr (r : Bool) : VR D := .p (.c (.bool r))
theorem I_IsToken_ok (k : Nat) : Does P X 31 I_IsToken_ar (I_IsToken_f k) I_IsToken_vr :=
  does_of (body := bodyOf Go.Proofs.Tryd.f31) (pl := I_IsToken_pl) (k := k) (cu := I_IsToken_cu k) (tys := [[0]]) (I_IsToken_ck k) ctx mixed Go.Proofs.Tryd.func31 (by kernel_rfl) (by kernel_rfl) (cutOK_of (l := [(I_IsToken_b0_cut k, sub (bodyOf Go.Proofs.Tryd.f31) [1, 0, 1])]) (by kernel_rfl) ⟨I_IsToken_b0_ok k, trivial⟩) fun x R h => by
    simp only [I_IsToken_f, I_IsToken, optK_bind, optK_bif, optK_pure, optK_none, optK_oc, optK_guardT, optK_map] at h
    refine hold_of h ?_
    kernel_rfl
def I_IsToken_en (k : Nat) : Entry D := entS I_IsToken_ar (I_IsToken_f k) I_IsToken_vr
theorem I_IsToken_eo (k : Nat) : EntryOK X 31 (I_IsToken_en k) := (I_IsToken_ok k).en rfl
def strings_ToUpper_ar : List Ar := [.c (.ks)]
def strings_ToUpper_f (k : Nat) (x : TupA D strings_ToUpper_ar) : Option ((List UInt8)) := strings_ToUpper k x.1
def strings_ToUpper_vr (r : (List UInt8)) : VR D := .p (.c (.str r))
theorem strings_ToUpper_ok (k : Nat) : Does P X 105 strings_ToUpper_ar (strings_ToUpper_f k) strings_ToUpper_vr := does_toUpper ⟨Go.Proofs.Tryd.f105, Go.Proofs.Tryd.func105, by kernel_rfl, by kernel_rfl⟩ (fun s w hg h1 h2 => Go.Proofs.Tryd.strings_ToUpper_ascii s w h1 h2)
def strings_ToUpper_en (k : Nat) : Entry D := entS strings_ToUpper_ar (strings_ToUpper_f k) strings_ToUpper_vr
theorem strings_ToUpper_eo (k : Nat) : EntryOK X 105 (strings_ToUpper_en k) := (strings_ToUpper_ok k).en rfl
def I_isHost_pl : Plan := ⟨[(0, [(0, none)]), (1, [(0, none), (6, none), (7, none)]), (2, [(0, none), (6, none), (7, none), (8, none)]), (3, [(0, none), (3, none), (6, none), (7, none)]), (4, [(0, none), (4, none), (6, none), (7, none)]), (5, [(0, none), (6, none), (7, none), (35, none)]), (6, [(2, none)]), (7, [(0, none), (6, none), (7, none)]), (8, [(2, none)])],
  [(0, [(0, none)]), (1, [(0, none), (6, none), (7, none)])],
  [(8, ([(0, none), (6, none), (7, none)], [(0, none)])), (35, ([], [(0, none), (6, none), (7, none)]))]⟩
def I_isHost_cl (k : Nat) : Calls' D := ⟨[(64, I_inRange_en k)], []⟩
theorem I_isHost_ck (k : Nat) : CallsOK X (I_isHost_cl k) := .cons (I_inRange_eo k) (.nil cod)
def I_isHost_b0_L (x : (List UInt8) × Int × Int × Unit) (o : Oc (Unit) (Bool)) (Q : Ex → VSt D → Prop) (R : VR D → Prop) : Prop := ocP o (fun v0 => Q .normal (mkSt ⟨[(0, .hole)], []⟩ [.str x.1])) (fun w0 => R (.p (.c (.bool w0))))
def I_isHost_b0_cut (k : Nat) : Cut D := cutS ⟨[(0, .hole), (6, .hole), (7, .hole)], []⟩ [.ks, .ki .i64, .ki .i64] (fun (x : (List UInt8) × Int × Int × Unit) => I_isHost_b0 k k x.1 x.2.1 x.2.2.1) I_isHost_b0_L
def I_isHost_b0_cu (k : Nat) : Cuts D := ⟨[], []⟩
theorem I_isHost_b0_ok (k : Nat) : CutFor X I_isHost_pl k Go.Proofs.Tryd.f106.results.toList (I_isHost_b0_cut k) (sub (bodyOf Go.Proofs.Tryd.f106) [1, 0, 1]) :=
  loopCut_s (X := X) (sg := [.ks, .ki .i64, .ki .i64]) (cu := I_isHost_b0_cu k) (cl := I_isHost_cl k) (tys := [[0]]) (id := 0) (c := sub (bodyOf Go.Proofs.Tryd.f106) [1, 0, 1, 0, 0]) (f := fun n => fun (x : (List UInt8) × Int × Int × Unit) => I_isHost_b0 k n x.1 x.2.1 x.2.2.1) (I_isHost_ck k) (cutOK_of (l := []) (by kernel_rfl) trivial) (fun _ => rfl) (fun n x Q R h => by
    simp only [I_isHost_b0, optK_bind, optK_bif, optK_pure, optK_none, optK_oc, optK_guardT, optK_map] at h
    refine hold_of h ?_
    kernel_rfl) (by kernel_rfl)
def I_isHost_cu (k : Nat) : Cuts D := ⟨[(0, some (I_isHost_b0_cut k))], []⟩
def I_isHost_ar : List Ar := [.c (.ks)]
def I_isHost_f (k : Nat) (x : TupA D I_isHost_ar) : Option (Bool) := I_isHost k x.1
def I_isHost_vr (r : Bool) : VR D := .p (.c (.bool r))
theorem I_isHost_ok (k : Nat) : Does P X 106 I_isHost_ar (I_isHost_f k) I_isHost_vr :=
  does_of (body := bodyOf Go.Proofs.Tryd.f106) (pl := I_isHost_pl) (k := k) (cu := I_isHost_cu k) (tys := [[0]]) (I_isHost_ck k) ctx mixed Go.Proofs.Tryd.func106 (by kernel_rfl) (by kernel_rfl) (cutOK_of (l := [(I_isHost_b0_cut k, sub (bodyOf Go.Proofs.Tryd.f106) [1, 0, 1])]) (by kernel_rfl) ⟨I_isHost_b0_ok k, trivial⟩) fun x R h => by
    simp only [I_isHost_f, I_isHost, optK_bind, optK_bif, optK_pure, optK_none, optK_oc, optK_guardT, optK_map] at h
    refine hold_of h ?_
    kernel_rfl
def I_isHost_en (k : Nat) : Entry D := entS I_isHost_ar (I_isHost_f k) I_isHost_vr
theorem I_isHost_eo (k : Nat) : EntryOK X 106 (I_isHost_en k) := (I_isHost_ok k).en rfl
def I_LowerText_pl : Plan := ⟨[(0, [(0, none)]), (1, [(3, some 5)]), (2, [(3, some 5), (8, some 5), (9, none), (10, none)]), (3, [(3, some 5), (8, some 5), (9, none), (10, none), (11, none)]), (4, [(3, some 5), (4, none), (5, none), (8, some 5), (9, none), (10, none)]), (5, [(3, some 5), (4, none), (5, none), (8, some 5), (9, none), (10, none), (20, none)]), (6, [(3, some 5), (8, some 5), (9, none), (10, none)]), (7, [(3, some 5), (8, some 5), (9, none), (10, none)]), (8, [(2, none)])],
  [(0, [(3, some 5)]), (1, [(3, some 5), (8, some 5), (9, none), (10, none)])],
  [(11, ([(3, some 5), (8, some 5), (9, none), (10, none)], [(3, some 5)])), (20, ([(3, some 5), (4, none), (5, none), (8, some 5), (9, none), (10, none)], [(3, some 5), (8, some 5), (9, none), (10, none)]))]⟩
def I_LowerText_cl (k : Nat) : Calls' D := ⟨[], []⟩
theorem I_LowerText_ck (k : Nat) : CallsOK X (I_LowerText_cl k) := .nil cod
def I_LowerText_c20_L (x : Int × Int × Int × Int × Bool × (List Int) × Unit) (o : (List Int)) (Q : Ex → VSt D → Prop) (R : VR D → Prop) : Prop := Q .normal (mkSt ⟨[(3, .ref 500008), (8, .ref 500008), (9, .hole), (10, .hole)], [(500008, .row)]⟩ [.int .i64 x.2.2.1, .int .i64 x.2.2.2.1, .sl 5 o])
def I_LowerText_c20_cut (k : Nat) : Cut D := cutS ⟨[(3, .ref 500008), (4, .hole), (5, .hole), (8, .ref 500008), (9, .hole), (10, .hole), (20, .hole)], [(500008, .row)]⟩ [.ki .i64, .ki .u8, .ki .i64, .ki .i64, .kb, .kl 5] (fun (x : Int × Int × Int × Int × Bool × (List Int) × Unit) => I_LowerText_c20 k x.1 x.2.1 x.2.2.1 x.2.2.2.1 x.2.2.2.2.1 x.2.2.2.2.2.1) I_LowerText_c20_L
def I_LowerText_c20_cu (k : Nat) : Cuts D := ⟨[], []⟩
theorem I_LowerText_c20_ok (k : Nat) : CutFor X I_LowerText_pl k Go.Proofs.Tryd.f75.results.toList (I_LowerText_c20_cut k) (sub (bodyOf Go.Proofs.Tryd.f75) [1, 1, 0, 1, 0, 0, 1, 1, 0, 0, 1, 1]) :=
  joinCut_s (X := X) (sg := [.ki .i64, .ki .u8, .ki .i64, .ki .i64, .kb, .kl 5]) (cu := I_LowerText_c20_cu k) (cl := I_LowerText_cl k) (tys := [[0]]) (I_LowerText_ck k) (cutOK_of (l := []) (by kernel_rfl) trivial) fun x Q R h => by
    simp only [I_LowerText_c20, optK_bind, optK_bif, optK_pure, optK_none, optK_oc, optK_guardT, optK_map] at h
    refine hold_of h ?_
    kernel_rfl
def I_LowerText_b1_L (x : Int × Int × (List Int) × Unit) (o : (List Int)) (Q : Ex → VSt D → Prop) (R : VR D → Prop) : Prop := Q .normal (mkSt ⟨[(3, .ref 500008), (8, .ref 500008), (9, .hole), (10, .hole)], [(500008, .row)]⟩ [.int .i64 x.1, .int .i64 x.2.1, .sl 5 o])
def I_LowerText_b1_cut (k : Nat) : Cut D := cutS ⟨[(3, .ref 500008), (8, .ref 500008), (9, .hole), (10, .hole)], [(500008, .row)]⟩ [.ki .i64, .ki .i64, .kl 5] (fun (x : Int × Int × (List Int) × Unit) => I_LowerText_b1 k x.1 x.2.1 x.2.2.1) I_LowerText_b1_L
def I_LowerText_b1_cu (k : Nat) : Cuts D := ⟨[], [(20, some (I_LowerText_c20_cut k))]⟩
theorem I_LowerText_b1_ok (k : Nat) : CutFor X I_LowerText_pl k Go.Proofs.Tryd.f75.results.toList (I_LowerText_b1_cut k) (sub (bodyOf Go.Proofs.Tryd.f75) [1, 1, 0, 1, 0, 0, 1, 1, 0]) :=
  joinCut_s (X := X) (sg := [.ki .i64, .ki .i64, .kl 5]) (cu := I_LowerText_b1_cu k) (cl := I_LowerText_cl k) (tys := [[0]]) (I_LowerText_ck k) (cutOK_of (l := [(I_LowerText_c20_cut k, sub (bodyOf Go.Proofs.Tryd.f75) [1, 1, 0, 1, 0, 0, 1, 1, 0, 0, 1, 1])]) (by kernel_rfl) ⟨I_LowerText_c20_ok k, trivial⟩) fun x Q R h => by
    simp only [I_LowerText_b1, optK_bind, optK_bif, optK_pure, optK_none, optK_oc, optK_guardT, optK_map] at h
    refine hold_of h ?_
    kernel_rfl
def I_LowerText_b0_L (x : Int × Int × (List Int) × Unit) (o : (List Int)) (Q : Ex → VSt D → Prop) (R : VR D → Prop) : Prop := Q .normal (mkSt ⟨[(3, .ref 500003)], [(500003, .row)]⟩ [.sl 5 o])
def I_LowerText_b0_cut (k : Nat) : Cut D := cutS ⟨[(3, .ref 500008), (8, .ref 500008), (9, .hole), (10, .hole)], [(500008, .row)]⟩ [.ki .i64, .ki .i64, .kl 5] (fun (x : Int × Int × (List Int) × Unit) => I_LowerText_b0 k k x.1 x.2.1 x.2.2.1) I_LowerText_b0_L
def I_LowerText_b0_cu (k : Nat) : Cuts D := ⟨[(1, some (I_LowerText_b1_cut k))], []⟩
theorem I_LowerText_b0_ok (k : Nat) : CutFor X I_LowerText_pl k Go.Proofs.Tryd.f75.results.toList (I_LowerText_b0_cut k) (sub (bodyOf Go.Proofs.Tryd.f75) [1, 1, 0, 1]) :=
  loopCut_s (X := X) (sg := [.ki .i64, .ki .i64, .kl 5]) (cu := I_LowerText_b0_cu k) (cl := I_LowerText_cl k) (tys := [[0]]) (id := 0) (c := sub (bodyOf Go.Proofs.Tryd.f75) [1, 1, 0, 1, 0, 0]) (f := fun n => fun (x : Int × Int × (List Int) × Unit) => I_LowerText_b0 k n x.1 x.2.1 x.2.2.1) (I_LowerText_ck k) (cutOK_of (l := [(I_LowerText_b1_cut k, sub (bodyOf Go.Proofs.Tryd.f75) [1, 1, 0, 1, 0, 0, 1, 1, 0])]) (by kernel_rfl) ⟨I_LowerText_b1_ok k, trivial⟩) (fun _ => rfl) (fun n x Q R h => by
    simp only [I_LowerText_b0, optK_bind, optK_bif, optK_pure, optK_none, optK_oc, optK_guardT, optK_map] at h
    refine hold_of h ?_
    kernel_rfl) (by kernel_rfl)
def I_LowerText_cu (k : Nat) : Cuts D := ⟨[(0, some (I_LowerText_b0_cut k))], []⟩
def I_LowerText_ar : List Ar := [.c (.ks)]
def I_LowerText_f (k : Nat) (x : TupA D I_LowerText_ar) : Option ((List UInt8)) := I_LowerText k x.1
def I_LowerText_vr (r : (List UInt8)) : VR D := .p (.c (.str r))
theorem I_LowerText_ok (k : Nat) : Does P X 75 I_LowerText_ar (I_LowerText_f k) I_LowerText_vr :=
  does_of (body := bodyOf Go.Proofs.Tryd.f75) (pl := I_LowerText_pl) (k := k) (cu := I_LowerText_cu k) (tys := [[0]]) (I_LowerText_ck k) ctx mixed Go.Proofs.Tryd.func75 (by kernel_rfl) (by kernel_rfl) (cutOK_of (l := [(I_LowerText_b0_cut k, sub (bodyOf Go.Proofs.Tryd.f75) [1, 1, 0, 1])]) (by kernel_rfl) ⟨I_LowerText_b0_ok k, trivial⟩) fun x R h => by
    simp only [I_LowerText_f, I_LowerText, optK_bind, optK_bif, optK_pure, optK_none, optK_oc, optK_guardT, optK_map] at h
    refine hold_of h ?_
    kernel_rfl
def I_LowerText_en (k : Nat) : Entry D := entS I_LowerText_ar (I_LowerText_f k) I_LowerText_vr
theorem I_LowerText_eo (k : Nat) : EntryOK X 75 (I_LowerText_en k) := (I_LowerText_ok k).en rfl
def strings_Trim_ar : List Ar := [.c (.ks), .c (.ks)]
def strings_Trim_f (k : Nat) (x : TupA D strings_Trim_ar) : Option ((List UInt8)) := strings_Trim k x.1 x.2.1
def strings_Trim_vr (r : (List UInt8)) : VR D := .p (.c (.str r))
theorem strings_Trim_ok (k : Nat) : Does P X 114 strings_Trim_ar (strings_Trim_f k) strings_Trim_vr := does_trim ⟨Go.Proofs.Tryd.f114, Go.Proofs.Tryd.func114, by kernel_rfl, by kernel_rfl⟩ (fun s cs w hg h1 h2 h3 => Go.Proofs.Any.strings_Trim_laid Go.Proofs.Tryd.lays160 (by kernel_rfl) s cs w h1 h2 h3)
def strings_Trim_en (k : Nat) : Entry D := entS strings_Trim_ar (strings_Trim_f k) strings_Trim_vr
theorem strings_Trim_eo (k : Nat) : EntryOK X 114 (strings_Trim_en k) := (strings_Trim_ok k).en rfl
def I_TrimText_pl : Plan := ⟨[(0, [(0, none)]), (1, [(2, none)])],
  [],
  []⟩
def I_TrimText_cl (k : Nat) : Calls' D := ⟨[(114, strings_Trim_en k)], []⟩
theorem I_TrimText_ck (k : Nat) : CallsOK X (I_TrimText_cl k) := .cons (strings_Trim_eo k) (.nil cod)
def I_TrimText_cu (k : Nat) : Cuts D := ⟨[], []⟩
def I_TrimText_ar : List Ar := [.c (.ks)]
def I_TrimText_f (k : Nat) (x : TupA D I_TrimText_ar) : Option ((List UInt8)) := I_TrimText k x.1
def I_TrimText_vr (r : (List UInt8)) : VR D := .p (.c (.str r))
theorem I_TrimText_ok (k : Nat) : Does P X 76 I_TrimText_ar (I_TrimText_f k) I_TrimText_vr :=
  does_of (body := bodyOf Go.Proofs.Tryd.f76) (pl := I_TrimText_pl) (k := k) (cu := I_TrimText_cu k) (tys := [[0]]) (I_TrimText_ck k) ctx mixed Go.Proofs.Tryd.func76 (by kernel_rfl) (by kernel_rfl) (cutOK_of (l := []) (by kernel_rfl) trivial) fun x R h => by
    simp only [I_TrimText_f, I_TrimText, optK_bind, optK_bif, optK_pure, optK_none, optK_oc, optK_guardT, optK_map] at h
    refine hold_of h ?_
    kernel_rfl
def I_TrimText_en (k : Nat) : Entry D := entS I_TrimText_ar (I_TrimText_f k) I_TrimText_vr
theorem I_TrimText_eo (k : Nat) : EntryOK X 76 (I_TrimText_en k) := (I_TrimText_ok k).en rfl
def I_isFieldValue_pl : Plan := ⟨[(0, [(0, none)]), (1, [(0, none), (5, none), (6, none)]), (2, [(0, none), (5, none), (6, none), (7, none)]), (3, [(0, none), (3, none), (5, none), (6, none)]), (4, [(0, none), (5, none), (6, none), (20, none)]), (5, [(2, none)]), (6, [(0, none), (5, none), (6, none)]), (7, [(2, none)])],
  [(0, [(0, none)]), (1, [(0, none), (5, none), (6, none)])],
  [(7, ([(0, none), (5, none), (6, none)], [(0, none)])), (20, ([], [(0, none), (5, none), (6, none)]))]⟩
def I_isFieldValue_cl (k : Nat) : Calls' D := ⟨[(64, I_inRange_en k), (76, I_TrimText_en k)], []⟩
theorem I_isFieldValue_ck (k : Nat) : CallsOK X (I_isFieldValue_cl k) := .cons (I_inRange_eo k) (.cons (I_TrimText_eo k) (.nil cod))
def I_isFieldValue_b0_L (x : (List UInt8) × Int × Int × Unit) (o : Oc (Unit) (Bool)) (Q : Ex → VSt D → Prop) (R : VR D → Prop) : Prop := ocP o (fun v0 => Q .normal (mkSt ⟨[(0, .hole)], []⟩ [.str x.1])) (fun w0 => R (.p (.c (.bool w0))))
def I_isFieldValue_b0_cut (k : Nat) : Cut D := cutS ⟨[(0, .hole), (5, .hole), (6, .hole)], []⟩ [.ks, .ki .i64, .ki .i64] (fun (x : (List UInt8) × Int × Int × Unit) => I_isFieldValue_b0 k k x.1 x.2.1 x.2.2.1) I_isFieldValue_b0_L
def I_isFieldValue_b0_cu (k : Nat) : Cuts D := ⟨[], []⟩
theorem I_isFieldValue_b0_ok (k : Nat) : CutFor X I_isFieldValue_pl k Go.Proofs.Tryd.f109.results.toList (I_isFieldValue_b0_cut k) (sub (bodyOf Go.Proofs.Tryd.f109) [1, 0, 1]) :=
  loopCut_s (X := X) (sg := [.ks, .ki .i64, .ki .i64]) (cu := I_isFieldValue_b0_cu k) (cl := I_isFieldValue_cl k) (tys := [[0]]) (id := 0) (c := sub (bodyOf Go.Proofs.Tryd.f109) [1, 0, 1, 0, 0]) (f := fun n => fun (x : (List UInt8) × Int × Int × Unit) => I_isFieldValue_b0 k n x.1 x.2.1 x.2.2.1) (I_isFieldValue_ck k) (cutOK_of (l := []) (by kernel_rfl) trivial) (fun _ => rfl) (fun n x Q R h => by
    simp only [I_isFieldValue_b0, optK_bind, optK_bif, optK_pure, optK_none, optK_oc, optK_guardT, optK_map] at h
    refine hold_of h ?_
    kernel_rfl) (by kernel_rfl)
def I_isFieldValue_cu (k : Nat) : Cuts D := ⟨[(0, some (I_isFieldValue_b0_cut k))], []⟩
def I_isFieldValue_ar : List Ar := [.c (.ks)]
def I_isFieldValue_f (k : Nat) (x : TupA D I_isFieldValue_ar) : Option (Bool) := I_isFieldValue k x.1
def I_isFieldValue_vr (r : Bool) : VR D := .p (.c (.bool r))
theorem I_isFieldValue_ok (k : Nat) : Does P X 109 I_isFieldValue_ar (I_isFieldValue_f k) I_isFieldValue_vr :=
  does_of (body := bodyOf Go.Proofs.Tryd.f109) (pl := I_isFieldValue_pl) (k := k) (cu := I_isFieldValue_cu k) (tys := [[0]]) (I_isFieldValue_ck k) ctx mixed Go.Proofs.Tryd.func109 (by kernel_rfl) (by kernel_rfl) (cutOK_of (l := [(I_isFieldValue_b0_cut k, sub (bodyOf Go.Proofs.Tryd.f109) [1, 0, 1])]) (by kernel_rfl) ⟨I_isFieldValue_b0_ok k, trivial⟩) fun x R h => by
    simp only [I_isFieldValue_f, I_isFieldValue, optK_bind, optK_bif, optK_pure, optK_none, optK_oc, optK_guardT, optK_map] at h
    refine hold_of h ?_
    kernel_rfl
def I_isFieldValue_en (k : Nat) : Entry D := entS I_isFieldValue_ar (I_isFieldValue_f k) I_isFieldValue_vr
theorem I_isFieldValue_eo (k : Nat) : EntryOK X 109 (I_isFieldValue_en k) := (I_isFieldValue_ok k).en rfl
def I_AreFields_pl : Plan := ⟨[(0, [(0, some 79)]), (1, [(0, some 79), (5, some 79), (6, none), (7, none)]), (2, [(0, some 79), (5, some 79), (6, none), (7, none), (8, none)]), (3, [(0, some 79), (4, none), (5, some 79), (6, none), (7, none)]), (4, [(0, some 79), (5, some 79), (6, none), (7, none), (28, none)]), (5, [(2, none)]), (6, [(0, some 79), (5, some 79), (6, none), (7, none)]), (7, [(2, none)])],
  [(0, [(0, some 79)]), (1, [(0, some 79), (5, some 79), (6, none), (7, none)])],
  [(8, ([(0, some 79), (5, some 79), (6, none), (7, none)], [(0, some 79)])), (28, ([], [(0, some 79), (5, some 79), (6, none), (7, none)]))]⟩
def I_AreFields_cl (k : Nat) : Calls' D := ⟨[(31, I_IsToken_en k), (75, I_LowerText_en k), (109, I_isFieldValue_en k)], []⟩
theorem I_AreFields_ck (k : Nat) : CallsOK X (I_AreFields_cl k) := .cons (I_IsToken_eo k) (.cons (I_LowerText_eo k) (.cons (I_isFieldValue_eo k) (.nil cod)))
def I_AreFields_b0_L (x : (List IField) × (List IField) × Int × Int × Unit) (o : Oc (Unit) (Bool)) (Q : Ex → VSt D → Prop) (R : VR D → Prop) : Prop := ocP o (fun v0 => Q .normal (mkSt ⟨[(0, .hole)], []⟩ [.sl 79 x.1])) (fun w0 => R (.p (.c (.bool w0))))
def I_AreFields_b0_cut (k : Nat) : Cut D := cutS ⟨[(0, .hole), (5, .hole), (6, .hole), (7, .hole)], []⟩ [.kl 79, .kl 79, .ki .i64, .ki .i64] (fun (x : (List IField) × (List IField) × Int × Int × Unit) => I_AreFields_b0 k k x.1 x.2.1 x.2.2.1 x.2.2.2.1) I_AreFields_b0_L
def I_AreFields_b0_cu (k : Nat) : Cuts D := ⟨[], []⟩
theorem I_AreFields_b0_ok (k : Nat) : CutFor X I_AreFields_pl k Go.Proofs.Tryd.f65.results.toList (I_AreFields_b0_cut k) (sub (bodyOf Go.Proofs.Tryd.f65) [1, 0, 1]) :=
  loopCut_s (X := X) (sg := [.kl 79, .kl 79, .ki .i64, .ki .i64]) (cu := I_AreFields_b0_cu k) (cl := I_AreFields_cl k) (tys := [[0]]) (id := 0) (c := sub (bodyOf Go.Proofs.Tryd.f65) [1, 0, 1, 0, 0]) (f := fun n => fun (x : (List IField) × (List IField) × Int × Int × Unit) => I_AreFields_b0 k n x.1 x.2.1 x.2.2.1 x.2.2.2.1) (I_AreFields_ck k) (cutOK_of (l := []) (by kernel_rfl) trivial) (fun _ => rfl) (fun n x Q R h => by
    simp only [I_AreFields_b0, optK_bind, optK_bif, optK_pure, optK_none, optK_oc, optK_guardT, optK_map] at h
    refine hold_of h ?_
    kernel_rfl) (by kernel_rfl)
def I_AreFields_cu (k : Nat) : Cuts D := ⟨[(0, some (I_AreFields_b0_cut k))], []⟩
def I_AreFields_ar : List Ar := [.c (.kl 79)]
def I_AreFields_f (k : Nat) (x : TupA D I_AreFields_ar) : Option (Bool) := I_AreFields k x.1
def I_AreFields_vr (r : Bool) : VR D := .p (.c (.bool r))
theorem I_AreFields_ok (k : Nat) : Does P X 65 I_AreFields_ar (I_AreFields_f k) I_AreFields_vr :=
  does_of (body := bodyOf Go.Proofs.Tryd.f65) (pl := I_AreFields_pl) (k := k) (cu := I_AreFields_cu k) (tys := [[0]]) (I_AreFields_ck k) ctx mixed Go.Proofs.Tryd.func65 (by kernel_rfl) (by kernel_rfl) (cutOK_of (l := [(I_AreFields_b0_cut k, sub (bodyOf Go.Proofs.Tryd.f65) [1, 0, 1])]) (by kernel_rfl) ⟨I_AreFields_b0_ok k, trivial⟩) fun x R h => by
    simp only [I_AreFields_f, I_AreFields, optK_bind, optK_bif, optK_pure, optK_none, optK_oc, optK_guardT, optK_map] at h
    refine hold_of h ?_
    kernel_rfl
def I_AreFields_en (k : Nat) : Entry D := entS I_AreFields_ar (I_AreFields_f k) I_AreFields_vr
theorem I_AreFields_eo (k : Nat) : EntryOK X 65 (I_AreFields_en k) := (I_AreFields_ok k).en rfl
def I_hasField_1_pl : Plan := ⟨[(0, [(1, none), (2, none)]), (1, [(3, none)])],
  [],
  []⟩
def I_hasField_1_cl (k : Nat) : Calls' D := ⟨[], []⟩
theorem I_hasField_1_ck (k : Nat) : CallsOK X (I_hasField_1_cl k) := .nil cod
def I_hasField_1_cu (k : Nat) : Cuts D := ⟨[], []⟩
def I_hasField_1_ar : List Ar := [.a [.ks, .ks], .x [.ks]]
def I_hasField_1_f (k : Nat) (x : TupA D I_hasField_1_ar) : Option (Bool) := I_hasField_1 k (⟨x.1.1, x.1.2.1⟩ : IField) x.2.1.1
def I_hasField_1_vr (r : Bool) : VR D := .p (.c (.bool r))
theorem I_hasField_1_ok (k : Nat) : Does P X 111 I_hasField_1_ar (I_hasField_1_f k) I_hasField_1_vr :=
  does_of (body := bodyOf Go.Proofs.Tryd.f111) (pl := I_hasField_1_pl) (k := k) (cu := I_hasField_1_cu k) (tys := [[0]]) (I_hasField_1_ck k) ctx mixed Go.Proofs.Tryd.func111 (by kernel_rfl) (by kernel_rfl) (cutOK_of (l := []) (by kernel_rfl) trivial) fun x R h => by
    simp only [I_hasField_1_f, I_hasField_1, optK_bind, optK_bif, optK_pure, optK_none, optK_oc, optK_guardT, optK_map] at h
    refine hold_of h ?_
    kernel_rfl
def I_hasField_1_en (k : Nat) : Entry D := entS I_hasField_1_ar (I_hasField_1_f k) I_hasField_1_vr
theorem I_hasField_1_eo (k : Nat) : EntryOK X 111 (I_hasField_1_en k) := (I_hasField_1_ok k).en rfl
def slices_IndexFunc_IField_at_I_hasField_1_pl : Plan := ⟨[(0, [(0, some 79), (1, none)]), (1, [(0, some 79), (1, none), (7, none), (8, none)]), (2, [(0, some 79), (1, none), (7, none), (8, none), (9, none)]), (3, [(0, some 79), (1, none), (5, none), (7, none), (8, none)]), (4, [(0, some 79), (1, none), (5, none), (7, none), (8, none), (16, none)]), (5, [(4, none)]), (6, [(0, some 79), (1, none), (7, none), (8, none)]), (7, [(4, none)])],
  [(0, []), (1, [(0, some 79), (1, none), (7, none), (8, none)])],
  [(9, ([(0, some 79), (1, none), (7, none), (8, none)], [])), (16, ([(5, none)], [(0, some 79), (1, none), (7, none), (8, none)]))]⟩
def slices_IndexFunc_IField_at_I_hasField_1_cl (k : Nat) : Calls' D := ⟨[(111, I_hasField_1_en k)], []⟩
theorem slices_IndexFunc_IField_at_I_hasField_1_ck (k : Nat) : CallsOK X (slices_IndexFunc_IField_at_I_hasField_1_cl k) := .cons (I_hasField_1_eo k) (.nil cod)
def slices_IndexFunc_IField_at_I_hasField_1_b0_L (x : (List IField) × (List UInt8) × Int × Int × Unit) (o : Oc (Unit) (Int)) (Q : Ex → VSt D → Prop) (R : VR D → Prop) : Prop := ocP o (fun v0 => Q .normal (mkSt ⟨[], []⟩ [])) (fun w0 => R (.p (.c (.int .i64 w0))))
def slices_IndexFunc_IField_at_I_hasField_1_b0_cut (k : Nat) : Cut D := cutS ⟨[(0, .hole), (1, .clo 111 [.rptr 1]), (7, .hole), (8, .hole)], []⟩ [.kl 79, .ks, .ki .i64, .ki .i64] (fun (x : (List IField) × (List UInt8) × Int × Int × Unit) => slices_IndexFunc_IField_at_I_hasField_1_b0 k k x.1 x.2.1 x.2.2.1 x.2.2.2.1) slices_IndexFunc_IField_at_I_hasField_1_b0_L
def slices_IndexFunc_IField_at_I_hasField_1_b0_cu (k : Nat) : Cuts D := ⟨[], []⟩
theorem slices_IndexFunc_IField_at_I_hasField_1_b0_ok (k : Nat) : CutFor X slices_IndexFunc_IField_at_I_hasField_1_pl k Go.Proofs.Tryd.f136.results.toList (slices_IndexFunc_IField_at_I_hasField_1_b0_cut k) (sub (bodyOf Go.Proofs.Tryd.f136) [1, 0, 1]) :=
  loopCut_s (X := X) (sg := [.kl 79, .ks, .ki .i64, .ki .i64]) (cu := slices_IndexFunc_IField_at_I_hasField_1_b0_cu k) (cl := slices_IndexFunc_IField_at_I_hasField_1_cl k) (tys := [[0]]) (id := 0) (c := sub (bodyOf Go.Proofs.Tryd.f136) [1, 0, 1, 0, 0]) (f := fun n => fun (x : (List IField) × (List UInt8) × Int × Int × Unit) => slices_IndexFunc_IField_at_I_hasField_1_b0 k n x.1 x.2.1 x.2.2.1 x.2.2.2.1) (slices_IndexFunc_IField_at_I_hasField_1_ck k) (cutOK_of (l := []) (by kernel_rfl) trivial) (fun _ => rfl) (fun n x Q R h => by
    simp only [slices_IndexFunc_IField_at_I_hasField_1_b0, optK_bind, optK_bif, optK_pure, optK_none, optK_oc, optK_guardT, optK_map] at h
    refine hold_of h ?_
    kernel_rfl) (by kernel_rfl)
def slices_IndexFunc_IField_at_I_hasField_1_cu (k : Nat) : Cuts D := ⟨[(0, some (slices_IndexFunc_IField_at_I_hasField_1_b0_cut k))], []⟩
def slices_IndexFunc_IField_at_I_hasField_1_ar : List Ar := [.c (.kl 79), .f 111 [[.ks]]]
def slices_IndexFunc_IField_at_I_hasField_1_f (k : Nat) (x : TupA D slices_IndexFunc_IField_at_I_hasField_1_ar) : Option (Int) := slices_IndexFunc_IField_at_I_hasField_1 k x.1 x.2.1.1.1
def slices_IndexFunc_IField_at_I_hasField_1_vr (r : Int) : VR D := .p (.c (.int .i64 r))
theorem slices_IndexFunc_IField_at_I_hasField_1_ok (k : Nat) : Does P X 136 slices_IndexFunc_IField_at_I_hasField_1_ar (slices_IndexFunc_IField_at_I_hasField_1_f k) slices_IndexFunc_IField_at_I_hasField_1_vr :=
  does_of (body := bodyOf Go.Proofs.Tryd.f136) (pl := slices_IndexFunc_IField_at_I_hasField_1_pl) (k := k) (cu := slices_IndexFunc_IField_at_I_hasField_1_cu k) (tys := [[0]]) (slices_IndexFunc_IField_at_I_hasField_1_ck k) ctx mixed Go.Proofs.Tryd.func136 (by kernel_rfl) (by kernel_rfl) (cutOK_of (l := [(slices_IndexFunc_IField_at_I_hasField_1_b0_cut k, sub (bodyOf Go.Proofs.Tryd.f136) [1, 0, 1])]) (by kernel_rfl) ⟨slices_IndexFunc_IField_at_I_hasField_1_b0_ok k, trivial⟩) fun x R h => by
    simp only [slices_IndexFunc_IField_at_I_hasField_1_f, slices_IndexFunc_IField_at_I_hasField_1, optK_bind, optK_bif, optK_pure, optK_none, optK_oc, optK_guardT, optK_map] at h
    refine hold_of h ?_
    kernel_rfl
def slices_IndexFunc_IField_at_I_hasField_1_en (k : Nat) : Entry D := entS slices_IndexFunc_IField_at_I_hasField_1_ar (slices_IndexFunc_IField_at_I_hasField_1_f k) slices_IndexFunc_IField_at_I_hasField_1_vr
theorem slices_IndexFunc_IField_at_I_hasField_1_eo (k : Nat) : EntryOK X 136 (slices_IndexFunc_IField_at_I_hasField_1_en k) := (slices_IndexFunc_IField_at_I_hasField_1_ok k).en rfl
def slices_ContainsFunc_IField_at_I_hasField_1_pl : Plan := ⟨[(0, [(0, some 79), (1, none)]), (1, [(4, none)])],
  [],
  []⟩
def slices_ContainsFunc_IField_at_I_hasField_1_cl (k : Nat) : Calls' D := ⟨[(136, slices_IndexFunc_IField_at_I_hasField_1_en k)], []⟩
theorem slices_ContainsFunc_IField_at_I_hasField_1_ck (k : Nat) : CallsOK X (slices_ContainsFunc_IField_at_I_hasField_1_cl k) := .cons (slices_IndexFunc_IField_at_I_hasField_1_eo k) (.nil cod)
def slices_ContainsFunc_IField_at_I_hasField_1_cu (k : Nat) : Cuts D := ⟨[], []⟩
def slices_ContainsFunc_IField_at_I_hasField_1_ar : List Ar := [.c (.kl 79), .f 111 [[.ks]]]
def slices_ContainsFunc_IField_at_I_hasField_1_f (k : Nat) (x : TupA D slices_ContainsFunc_IField_at_I_hasField_1_ar) : Option (Bool) := slices_ContainsFunc_IField_at_I_hasField_1 k x.1 x.2.1.1.1
def slices_ContainsFunc_IField_at_I_hasField_1_vr (r : Bool) : VR D := .p (.c (.bool r))
theorem slices_ContainsFunc_IField_at_I_hasField_1_ok (k : Nat) : Does P X 110 slices_ContainsFunc_IField_at_I_hasField_1_ar (slices_ContainsFunc_IField_at_I_hasField_1_f k) slices_ContainsFunc_IField_at_I_hasField_1_vr :=
  does_of (body := bodyOf Go.Proofs.Tryd.f110) (pl := slices_ContainsFunc_IField_at_I_hasField_1_pl) (k := k) (cu := slices_ContainsFunc_IField_at_I_hasField_1_cu k) (tys := [[0]]) (slices_ContainsFunc_IField_at_I_hasField_1_ck k) ctx mixed Go.Proofs.Tryd.func110 (by kernel_rfl) (by kernel_rfl) (cutOK_of (l := []) (by kernel_rfl) trivial) fun x R h => by
    simp only [slices_ContainsFunc_IField_at_I_hasField_1_f, slices_ContainsFunc_IField_at_I_hasField_1, optK_bind, optK_bif, optK_pure, optK_none, optK_oc, optK_guardT, optK_map] at h
    refine hold_of h ?_
    kernel_rfl
def slices_ContainsFunc_IField_at_I_hasField_1_en (k : Nat) : Entry D := entS slices_ContainsFunc_IField_at_I_hasField_1_ar (slices_ContainsFunc_IField_at_I_hasField_1_f k) slices_ContainsFunc_IField_at_I_hasField_1_vr
theorem slices_ContainsFunc_IField_at_I_hasField_1_eo (k : Nat) : EntryOK X 110 (slices_ContainsFunc_IField_at_I_hasField_1_en k) := (slices_ContainsFunc_IField_at_I_hasField_1_ok k).en rfl
def I_hasField_pl : Plan := ⟨[(0, [(0, some 79), (3, none)]), (1, [(4, none)])],
  [],
  []⟩
def I_hasField_cl (k : Nat) : Calls' D := ⟨[(110, slices_ContainsFunc_IField_at_I_hasField_1_en k)], []⟩
theorem I_hasField_ck (k : Nat) : CallsOK X (I_hasField_cl k) := .cons (slices_ContainsFunc_IField_at_I_hasField_1_eo k) (.nil cod)
def I_hasField_cu (k : Nat) : Cuts D := ⟨[], []⟩
def I_hasField_ar : List Ar := [.c (.kl 79), .c (.ks)]
def I_hasField_f (k : Nat) (x : TupA D I_hasField_ar) : Option (Bool) := I_hasField k x.1 x.2.1
def I_hasField_vr (r : Bool) : VR D := .p (.c (.bool r))
theorem I_hasField_ok (k : Nat) : Does P X 66 I_hasField_ar (I_hasField_f k) I_hasField_vr :=
  does_of (body := bodyOf Go.Proofs.Tryd.f66) (pl := I_hasField_pl) (k := k) (cu := I_hasField_cu k) (tys := [[0]]) (I_hasField_ck k) ctx mixed Go.Proofs.Tryd.func66 (by kernel_rfl) (by kernel_rfl) (cutOK_of (l := []) (by kernel_rfl) trivial) fun x R h => by
    simp only [I_hasField_f, I_hasField, optK_bind, optK_bif, optK_pure, optK_none, optK_oc, optK_guardT, optK_map] at h
    refine hold_of h ?_
    kernel_rfl
def I_hasField_en (k : Nat) : Entry D := entS I_hasField_ar (I_hasField_f k) I_hasField_vr
theorem I_hasField_eo (k : Nat) : EntryOK X 66 (I_hasField_en k) := (I_hasField_ok k).en rfl
def I_IsRequest_pl : Plan := ⟨[(0, [(1, none)]), (1, [(1, none), (34, none)]), (2, [(2, none)]), (3, [(1, none), (37, none), (38, none)]), (4, [(1, none), (37, none), (38, none), (39, none)]), (5, [(1, none), (3, none), (37, none), (38, none)]), (6, [(1, none), (37, none), (38, none), (47, none)]), (7, [(2, none)]), (8, [(1, none), (37, none), (38, none)]), (9, [(2, none)])],
  [(0, [(1, none)]), (1, [(1, none), (37, none), (38, none)])],
  [(34, ([], [(1, none)])), (39, ([(1, none), (37, none), (38, none)], [(1, none)])), (47, ([], [(1, none), (37, none), (38, none)]))]⟩
def I_IsRequest_cl (k : Nat) : Calls' D := ⟨[(31, I_IsToken_en k), (105, strings_ToUpper_en k), (106, I_isHost_en k), (64, I_inRange_en k), (65, I_AreFields_en k), (66, I_hasField_en k)], []⟩
theorem I_IsRequest_ck (k : Nat) : CallsOK X (I_IsRequest_cl k) := .cons (I_IsToken_eo k) (.cons (strings_ToUpper_eo k) (.cons (I_isHost_eo k) (.cons (I_inRange_eo k) (.cons (I_AreFields_eo k) (.cons (I_hasField_eo k) (.nil cod))))))
def I_IsRequest_b0_L (x : Int × Int × (List UInt8) × (List UInt8) × (List UInt8) × (List IField) × Unit) (o : Oc (Unit) (Bool)) (Q : Ex → VSt D → Prop) (R : VR D → Prop) : Prop := ocP o (fun v0 => Q .normal (mkSt ⟨[(1, .ptr 1 0)], [(1, .var [.hole, .hole, .hole, .hole])]⟩ [.str x.2.2.1, .str x.2.2.2.1, .str x.2.2.2.2.1, .sl 79 x.2.2.2.2.2.1])) (fun w0 => R (.p (.c (.bool w0))))
def I_IsRequest_b0_cut (k : Nat) : Cut D := cutS ⟨[(1, .ptr 1 0), (37, .hole), (38, .hole)], [(1, .var [.hole, .hole, .hole, .hole])]⟩ [.ki .i64, .ki .i64, .ks, .ks, .ks, .kl 79] (fun (x : Int × Int × (List UInt8) × (List UInt8) × (List UInt8) × (List IField) × Unit) => I_IsRequest_b0 k k x.1 x.2.1 x.2.2.1 x.2.2.2.1 x.2.2.2.2.1 x.2.2.2.2.2.1) I_IsRequest_b0_L
def I_IsRequest_b0_cu (k : Nat) : Cuts D := ⟨[], []⟩
theorem I_IsRequest_b0_ok (k : Nat) : CutFor X I_IsRequest_pl k Go.Proofs.Tryd.f59.results.toList (I_IsRequest_b0_cut k) (sub (bodyOf Go.Proofs.Tryd.f59) [1, 1, 0, 1]) :=
  loopCut_s (X := X) (sg := [.ki .i64, .ki .i64, .ks, .ks, .ks, .kl 79]) (cu := I_IsRequest_b0_cu k) (cl := I_IsRequest_cl k) (tys := [[0]]) (id := 0) (c := sub (bodyOf Go.Proofs.Tryd.f59) [1, 1, 0, 1, 0, 0]) (f := fun n => fun (x : Int × Int × (List UInt8) × (List UInt8) × (List UInt8) × (List IField) × Unit) => I_IsRequest_b0 k n x.1 x.2.1 x.2.2.1 x.2.2.2.1 x.2.2.2.2.1 x.2.2.2.2.2.1) (I_IsRequest_ck k) (cutOK_of (l := []) (by kernel_rfl) trivial) (fun _ => rfl) (fun n x Q R h => by
    simp only [I_IsRequest_b0, optK_bind, optK_bif, optK_pure, optK_none, optK_oc, optK_guardT, optK_map] at h
    refine hold_of h ?_
    kernel_rfl) (by kernel_rfl)
def I_IsRequest_cu (k : Nat) : Cuts D := ⟨[(0, some (I_IsRequest_b0_cut k))], []⟩
def I_IsRequest_ar : List Ar := [.a [.ks, .ks, .ks, .kl 79]]
def I_IsRequest_f (k : Nat) (x : TupA D I_IsRequest_ar) : Option (Bool) := I_IsRequest k (⟨x.1.1, x.1.2.1, x.1.2.2.1, x.1.2.2.2.1⟩ : IRequest)
def I_IsRequest_vr (r : Bool) : VR D := .p (.c (.bool r))
theorem I_IsRequest_ok (k : Nat) : Does P X 59 I_IsRequest_ar (I_IsRequest_f k) I_IsRequest_vr :=
  does_of (body := bodyOf Go.Proofs.Tryd.f59) (pl := I_IsRequest_pl) (k := k) (cu := I_IsRequest_cu k) (tys := [[0]]) (I_IsRequest_ck k) ctx mixed Go.Proofs.Tryd.func59 (by kernel_rfl) (by kernel_rfl) (cutOK_of (l := [(I_IsRequest_b0_cut k, sub (bodyOf Go.Proofs.Tryd.f59) [1, 1, 0, 1])]) (by kernel_rfl) ⟨I_IsRequest_b0_ok k, trivial⟩) fun x R h => by
    simp only [I_IsRequest_f, I_IsRequest, optK_bind, optK_bif, optK_pure, optK_none, optK_oc, optK_guardT, optK_map] at h
    refine hold_of h ?_
    kernel_rfl
def I_IsRequest_en (k : Nat) : Entry D := entS I_IsRequest_ar (I_IsRequest_f k) I_IsRequest_vr
theorem I_IsRequest_eo (k : Nat) : EntryOK X 59 (I_IsRequest_en k) := (I_IsRequest_ok k).en rfl
def L_eqField_pl : Plan := ⟨[(0, [(2, none), (3, none)]), (1, [(2, none), (3, none), (9, none)]), (2, [(4, none)]), (3, [(14, none)]), (4, [(4, none)]), (5, [(4, none)])],
  [],
  [(9, ([], [(2, none), (3, none)])), (14, ([], []))]⟩
def L_eqField_cl (k : Nat) : Calls' D := ⟨[], []⟩
theorem L_eqField_ck (k : Nat) : CallsOK X (L_eqField_cl k) := .nil cod
def L_eqField_cu (k : Nat) : Cuts D := ⟨[], []⟩
def L_eqField_ar : List Ar := [.a [.ks, .ks], .a [.ks, .ks]]
def L_eqField_f (k : Nat) (x : TupA D L_eqField_ar) : Option (Bool) := L_eqField k (⟨x.1.1, x.1.2.1⟩ : IField) (⟨x.2.1.1, x.2.1.2.1⟩ : IField)
def L_eqField_vr (r : Bool) : VR D := .p (.c (.bool r))
theorem L_eqField_ok (k : Nat) : Does P X 72 L_eqField_ar (L_eqField_f k) L_eqField_vr :=
  does_of (body := bodyOf Go.Proofs.Tryd.f72) (pl := L_eqField_pl) (k := k) (cu := L_eqField_cu k) (tys := [[0]]) (L_eqField_ck k) ctx mixed Go.Proofs.Tryd.func72 (by kernel_rfl) (by kernel_rfl) (cutOK_of (l := []) (by kernel_rfl) trivial) fun x R h => by
    simp only [L_eqField_f, L_eqField, optK_bind, optK_bif, optK_pure, optK_none, optK_oc, optK_guardT, optK_map] at h
    refine hold_of h ?_
    kernel_rfl
def L_eqField_en (k : Nat) : Entry D := entS L_eqField_ar (L_eqField_f k) L_eqField_vr
theorem L_eqField_eo (k : Nat) : EntryOK X 72 (L_eqField_en k) := (L_eqField_ok k).en rfl
def L_eqFieldS_pl : Plan := ⟨[(0, [(0, some 79), (1, some 79)]), (1, [(0, some 79), (1, some 79), (10, none)]), (2, [(4, none)]), (3, [(0, some 79), (1, some 79), (5, none)]), (4, [(0, some 79), (1, some 79), (5, none), (14, none)]), (5, [(0, some 79), (1, some 79), (5, none)]), (6, [(0, some 79), (1, some 79), (5, none), (26, none)]), (7, [(4, none)]), (8, [(4, none)])],
  [(0, []), (1, [(0, some 79), (1, some 79), (5, none)])],
  [(10, ([], [(0, some 79), (1, some 79)])), (14, ([(0, some 79), (1, some 79), (5, none)], [])), (26, ([], [(0, some 79), (1, some 79), (5, none)]))]⟩
def L_eqFieldS_cl (k : Nat) : Calls' D := ⟨[(72, L_eqField_en k)], []⟩
theorem L_eqFieldS_ck (k : Nat) : CallsOK X (L_eqFieldS_cl k) := .cons (L_eqField_eo k) (.nil cod)
def L_eqFieldS_b0_L (x : (List IField) × (List IField) × Int × Unit) (o : Oc (Unit) (Bool)) (Q : Ex → VSt D → Prop) (R : VR D → Prop) : Prop := ocP o (fun v0 => Q .normal (mkSt ⟨[], []⟩ [])) (fun w0 => R (.p (.c (.bool w0))))
def L_eqFieldS_b0_cut (k : Nat) : Cut D := cutS ⟨[(0, .hole), (1, .hole), (5, .hole)], []⟩ [.kl 79, .kl 79, .ki .i64] (fun (x : (List IField) × (List IField) × Int × Unit) => L_eqFieldS_b0 k k x.1 x.2.1 x.2.2.1) L_eqFieldS_b0_L
def L_eqFieldS_b0_cu (k : Nat) : Cuts D := ⟨[], []⟩
theorem L_eqFieldS_b0_ok (k : Nat) : CutFor X L_eqFieldS_pl k Go.Proofs.Tryd.f27.results.toList (L_eqFieldS_b0_cut k) (sub (bodyOf Go.Proofs.Tryd.f27) [1, 1, 0, 1]) :=
  loopCut_s (X := X) (sg := [.kl 79, .kl 79, .ki .i64]) (cu := L_eqFieldS_b0_cu k) (cl := L_eqFieldS_cl k) (tys := [[0]]) (id := 0) (c := sub (bodyOf Go.Proofs.Tryd.f27) [1, 1, 0, 1, 0, 0]) (f := fun n => fun (x : (List IField) × (List IField) × Int × Unit) => L_eqFieldS_b0 k n x.1 x.2.1 x.2.2.1) (L_eqFieldS_ck k) (cutOK_of (l := []) (by kernel_rfl) trivial) (fun _ => rfl) (fun n x Q R h => by
    simp only [L_eqFieldS_b0, optK_bind, optK_bif, optK_pure, optK_none, optK_oc, optK_guardT, optK_map] at h
    refine hold_of h ?_
    kernel_rfl) (by kernel_rfl)
def L_eqFieldS_cu (k : Nat) : Cuts D := ⟨[(0, some (L_eqFieldS_b0_cut k))], []⟩
def L_eqFieldS_ar : List Ar := [.c (.kl 79), .c (.kl 79)]
def L_eqFieldS_f (k : Nat) (x : TupA D L_eqFieldS_ar) : Option (Bool) := L_eqFieldS k x.1 x.2.1
def L_eqFieldS_vr (r : Bool) : VR D := .p (.c (.bool r))
theorem L_eqFieldS_ok (k : Nat) : Does P X 27 L_eqFieldS_ar (L_eqFieldS_f k) L_eqFieldS_vr :=
  does_of (body := bodyOf Go.Proofs.Tryd.f27) (pl := L_eqFieldS_pl) (k := k) (cu := L_eqFieldS_cu k) (tys := [[0]]) (L_eqFieldS_ck k) ctx mixed Go.Proofs.Tryd.func27 (by kernel_rfl) (by kernel_rfl) (cutOK_of (l := [(L_eqFieldS_b0_cut k, sub (bodyOf Go.Proofs.Tryd.f27) [1, 1, 0, 1])]) (by kernel_rfl) ⟨L_eqFieldS_b0_ok k, trivial⟩) fun x R h => by
    simp only [L_eqFieldS_f, L_eqFieldS, optK_bind, optK_bif, optK_pure, optK_none, optK_oc, optK_guardT, optK_map] at h
    refine hold_of h ?_
    kernel_rfl
def L_eqFieldS_en (k : Nat) : Entry D := entS L_eqFieldS_ar (L_eqFieldS_f k) L_eqFieldS_vr
theorem L_eqFieldS_eo (k : Nat) : EntryOK X 27 (L_eqFieldS_en k) := (L_eqFieldS_ok k).en rfl
def L_eqRequest_pl : Plan := ⟨[(0, [(2, none), (3, none)]), (1, [(2, none), (3, none), (9, none)]), (2, [(4, none)]), (3, [(2, none), (3, none), (14, none)]), (4, [(4, none)]), (5, [(2, none), (3, none), (19, none)]), (6, [(4, none)]), (7, [(25, none)]), (8, [(4, none)]), (9, [(4, none)])],
  [],
  [(9, ([], [(2, none), (3, none)])), (14, ([], [(2, none), (3, none)])), (19, ([], [(2, none), (3, none)])), (25, ([], []))]⟩
def L_eqRequest_cl (k : Nat) : Calls' D := ⟨[(27, L_eqFieldS_en k)], []⟩
theorem L_eqRequest_ck (k : Nat) : CallsOK X (L_eqRequest_cl k) := .cons (L_eqFieldS_eo k) (.nil cod)
def L_eqRequest_cu (k : Nat) : Cuts D := ⟨[], []⟩
def L_eqRequest_ar : List Ar := [.a [.ks, .ks, .ks, .kl 79], .a [.ks, .ks, .ks, .kl 79]]
def L_eqRequest_f (k : Nat) (x : TupA D L_eqRequest_ar) : Option (Bool) := L_eqRequest k (⟨x.1.1, x.1.2.1, x.1.2.2.1, x.1.2.2.2.1⟩ : IRequest) (⟨x.2.1.1, x.2.1.2.1, x.2.1.2.2.1, x.2.1.2.2.2.1⟩ : IRequest)
def L_eqRequest_vr (r : Bool) : VR D := .p (.c (.bool r))
theorem L_eqRequest_ok (k : Nat) : Does P X 26 L_eqRequest_ar (L_eqRequest_f k) L_eqRequest_vr :=
  does_of (body := bodyOf Go.Proofs.Tryd.f26) (pl := L_eqRequest_pl) (k := k) (cu := L_eqRequest_cu k) (tys := [[0]]) (L_eqRequest_ck k) ctx mixed Go.Proofs.Tryd.func26 (by kernel_rfl) (by kernel_rfl) (cutOK_of (l := []) (by kernel_rfl) trivial) fun x R h => by
    simp only [L_eqRequest_f, L_eqRequest, optK_bind, optK_bif, optK_pure, optK_none, optK_oc, optK_guardT, optK_map] at h
    refine hold_of h ?_
    kernel_rfl
def L_eqRequest_en (k : Nat) : Entry D := entS L_eqRequest_ar (L_eqRequest_f k) L_eqRequest_vr
theorem L_eqRequest_eo (k : Nat) : EntryOK X 26 (L_eqRequest_en k) := (L_eqRequest_ok k).en rfl
def L_FnExactIsRequest_pl : Plan := ⟨[(0, [(1, none)]), (1, [(1, none), (3, none)]), (2, [(1, none), (3, none)]), (3, [(1, none), (11, none)]), (4, [(2, none)]), (5, [(1, none), (4, none)]), (6, [(1, none), (4, none), (5, none)]), (7, [(1, none), (4, none), (5, none), (6, none)]), (8, [(1, none), (5, none), (21, none)]), (9, [(2, none)]), (10, [(26, none)]), (11, [(2, none)]), (12, [(2, none)])],
  [],
  [(11, ([], [(1, none)])), (21, ([], [(1, none), (5, none)])), (26, ([], []))]⟩
def L_FnExactIsRequest_cl (k : Nat) : Calls' D := ⟨[(20, L_szRequest_en k), (23, L_toRequest_en k), (58, S_IsRequest_en k), (59, I_IsRequest_en k), (26, L_eqRequest_en k)], []⟩
theorem L_FnExactIsRequest_ck (k : Nat) : CallsOK X (L_FnExactIsRequest_cl k) := .cons (L_szRequest_eo k) (.cons (L_toRequest_eo k) (.cons (S_IsRequest_eo k) (.cons (I_IsRequest_eo k) (.cons (L_eqRequest_eo k) (.nil cod)))))
def L_FnExactIsRequest_cu (k : Nat) : Cuts D := ⟨[], []⟩
def L_FnExactIsRequest_ar : List Ar := [.a [.ks, .ks, .ks, .kl 85]]
def L_FnExactIsRequest_f (k : Nat) (x : TupA D L_FnExactIsRequest_ar) : Option (Bool) := L_FnExactIsRequest k (⟨x.1.1, x.1.2.1, x.1.2.2.1, x.1.2.2.2.1⟩ : LRequest)
def L_FnExactIsRequest_vr (r : Bool) : VR D := .p (.c (.bool r))
theorem L_FnExactIsRequest_ok (k : Nat) : Does P X 13 L_FnExactIsRequest_ar (L_FnExactIsRequest_f k) L_FnExactIsRequest_vr :=
  does_of (body := bodyOf Go.Proofs.Tryd.f13) (pl := L_FnExactIsRequest_pl) (k := k) (cu := L_FnExactIsRequest_cu k) (tys := [[0]]) (L_FnExactIsRequest_ck k) ctx mixed Go.Proofs.Tryd.func13 (by kernel_rfl) (by kernel_rfl) (cutOK_of (l := []) (by kernel_rfl) trivial) fun x R h => by
    simp only [L_FnExactIsRequest_f, L_FnExactIsRequest, optK_bind, optK_bif, optK_pure, optK_none, optK_oc, optK_guardT, optK_map] at h
    refine hold_of h ?_
    kernel_rfl
def L_FnExactIsRequest_en (k : Nat) : Entry D := entS L_FnExactIsRequest_ar (L_FnExactIsRequest_f k) L_FnExactIsRequest_vr
theorem L_FnExactIsRequest_eo (k : Nat) : EntryOK X 13 (L_FnExactIsRequest_en k) := (L_FnExactIsRequest_ok k).en rfl

end
end Go.YtgdjicnefdnofaaDoor
