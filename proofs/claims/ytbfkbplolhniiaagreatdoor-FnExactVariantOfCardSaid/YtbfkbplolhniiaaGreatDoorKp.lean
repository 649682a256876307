/- The machine computes the functions. Nothing is claimed here. -/
import Derived.Test.YtbfkbplolhniiaaGreatDoorKf
import Derived.Test.YtbfkbplolhniiaaGreatDoorShelf
import Derived.Shelf.Strings.SlTrimAscii
set_option linter.unusedVariables false
set_option linter.unusedSimpArgs false
set_option maxRecDepth 100000
namespace Go.YtbfkbplolhniiaaGreatDoor
open Go Go.RowKit Go.Pv
noncomputable section

def L_szStringS_pl : Plan := ⟨[(0, [(0, some 9), (1, none)]), (1, [(0, some 9), (1, none)]), (2, [(0, some 9), (1, none), (11, none)]), (3, [(4, none)]), (4, [(0, some 9), (1, none), (5, none)]), (5, [(0, some 9), (1, none), (5, none), (15, none)]), (6, [(0, some 9), (1, none), (5, none)]), (7, [(0, some 9), (1, none), (5, none)]), (8, [(0, some 9), (1, none), (5, none), (26, none)]), (9, [(4, none)]), (10, [(4, none)])],
  [(0, [(1, none)]), (1, [(0, some 9), (1, none), (5, none)])],
  [(11, ([], [(0, some 9), (1, none)])), (15, ([(0, some 9), (1, none), (5, none)], [(1, none)])), (26, ([], [(0, some 9), (1, none), (5, none)]))]⟩
def L_szStringS_cl (k : Nat) : Calls' D := ⟨[], [], [], [], []⟩
theorem L_szStringS_ck (k : Nat) : CallsOK X (L_szStringS_cl k) := .nil cod
def L_szStringS_b0_L (x : (List (List UInt8)) × Int × Int × Unit) (o : Oc (Int) (Int)) (Q : Ex → VSt D → Prop) (R : VR D → Prop) : Prop := ocP o (fun v0 => Q .normal (mkSt ⟨[(1, .hole)], []⟩ [.int .i64 v0])) (fun w0 => R (.p (.c (.int .i64 w0))))
def L_szStringS_b0_cut (k : Nat) : Cut D := cutS ⟨[(0, .hole), (1, .hole), (5, .hole)], []⟩ [.kl 9, .ki .i64, .ki .i64] (fun (x : (List (List UInt8)) × Int × Int × Unit) => L_szStringS_b0 k k x.1 x.2.1 x.2.2.1) L_szStringS_b0_L
def L_szStringS_b0_cu (k : Nat) : Cuts D := ⟨[], []⟩
theorem L_szStringS_b0_ok (k : Nat) : CutFor X L_szStringS_pl k Go.Proofs.Tryz.f39.results.toList (L_szStringS_b0_cut k) (sub (bodyOf Go.Proofs.Tryz.f39) [1, 1, 1, 0, 1]) :=
  loopCut_s (X := X) (sg := [.kl 9, .ki .i64, .ki .i64]) (cu := L_szStringS_b0_cu k) (cl := L_szStringS_cl k) (tys := [[0]]) (id := 0) (c := sub (bodyOf Go.Proofs.Tryz.f39) [1, 1, 1, 0, 1, 0, 0]) (f := fun n => fun (x : (List (List UInt8)) × Int × Int × Unit) => L_szStringS_b0 k n x.1 x.2.1 x.2.2.1) (L_szStringS_ck k) (cutOK_of (l := []) (by kernel_rfl) trivial) (fun _ => rfl) (fun n x Q R h => by
    simp only [L_szStringS_b0, optK_bind, optK_bif, optK_pure, optK_none, optK_oc, optK_guardT, optK_map] at h
    refine hold_of h ?_
    kernel_rfl) (by kernel_rfl)
def L_szStringS_cu (k : Nat) : Cuts D := ⟨[(0, some (L_szStringS_b0_cut k))], []⟩
def L_szStringS_ar : List Ar := [.c (.kl 9), .c (.ki .i64)]
def L_szStringS_f (k : Nat) (x : TupA D L_szStringS_ar) : Option (Int) := L_szStringS k x.1 x.2.1
def L_szStringS_vr (r : Int) : VR D := .p (.c (.int .i64 r))
theorem L_szStringS_ok (k : Nat) : Does P X 39 L_szStringS_ar (L_szStringS_f k) L_szStringS_vr :=
  does_of (body := bodyOf Go.Proofs.Tryz.f39) (pl := L_szStringS_pl) (k := k) (cu := L_szStringS_cu k) (tys := [[0]]) (L_szStringS_ck k) ctx mixed Go.Proofs.Tryz.func39 (by kernel_rfl) (by kernel_rfl) (cutOK_of (l := [(L_szStringS_b0_cut k, sub (bodyOf Go.Proofs.Tryz.f39) [1, 1, 1, 0, 1])]) (by kernel_rfl) ⟨L_szStringS_b0_ok k, trivial⟩) fun x R h => by
    simp only [L_szStringS_f, L_szStringS, optK_bind, optK_bif, optK_pure, optK_none, optK_oc, optK_guardT, optK_map] at h
    refine hold_of h ?_
    kernel_rfl
def L_szStringS_en (k : Nat) : Entry D := entS L_szStringS_ar (L_szStringS_f k) L_szStringS_vr
theorem L_szStringS_eo (k : Nat) : EntryOK X 39 (L_szStringS_en k) := (L_szStringS_ok k).en rfl
def L_szVersion_pl : Plan := ⟨[(0, [(1, none), (2, none)]), (1, [(1, none)]), (2, [(1, none), (11, none)]), (3, [(4, none)]), (4, [(4, none)])],
  [],
  [(11, ([], [(1, none)]))]⟩
def L_szVersion_cl (k : Nat) : Calls' D := ⟨[], [], [], [], []⟩
theorem L_szVersion_ck (k : Nat) : CallsOK X (L_szVersion_cl k) := .nil cod
def L_szVersion_cu (k : Nat) : Cuts D := ⟨[], []⟩
def L_szVersion_ar : List Ar := [.a [.ki .i64, .ks, .kb], .c (.ki .i64)]
def L_szVersion_f (k : Nat) (x : TupA D L_szVersion_ar) : Option (Int) := L_szVersion k (⟨x.1.1, x.1.2.1, x.1.2.2.1⟩ : LVersion) x.2.1
def L_szVersion_vr (r : Int) : VR D := .p (.c (.int .i64 r))
theorem L_szVersion_ok (k : Nat) : Does P X 89 L_szVersion_ar (L_szVersion_f k) L_szVersion_vr :=
  does_of (body := bodyOf Go.Proofs.Tryz.f89) (pl := L_szVersion_pl) (k := k) (cu := L_szVersion_cu k) (tys := [[0]]) (L_szVersion_ck k) ctx mixed Go.Proofs.Tryz.func89 (by kernel_rfl) (by kernel_rfl) (cutOK_of (l := []) (by kernel_rfl) trivial) fun x R h => by
    simp only [L_szVersion_f, L_szVersion, optK_bind, optK_bif, optK_pure, optK_none, optK_oc, optK_guardT, optK_map] at h
    refine hold_of h ?_
    kernel_rfl
def L_szVersion_en (k : Nat) : Entry D := entS L_szVersion_ar (L_szVersion_f k) L_szVersion_vr
theorem L_szVersion_eo (k : Nat) : EntryOK X 89 (L_szVersion_en k) := (L_szVersion_ok k).en rfl
def L_szVersionS_pl : Plan := ⟨[(0, [(0, some 117), (1, none)]), (1, [(0, some 117), (1, none)]), (2, [(0, some 117), (1, none), (11, none)]), (3, [(4, none)]), (4, [(0, some 117), (1, none), (5, none)]), (5, [(0, some 117), (1, none), (5, none), (15, none)]), (6, [(0, some 117), (1, none), (5, none)]), (7, [(0, some 117), (1, none), (5, none)]), (8, [(0, some 117), (1, none), (5, none), (25, none)]), (9, [(4, none)]), (10, [(4, none)])],
  [(0, [(1, none)]), (1, [(0, some 117), (1, none), (5, none)])],
  [(11, ([], [(0, some 117), (1, none)])), (15, ([(0, some 117), (1, none), (5, none)], [(1, none)])), (25, ([], [(0, some 117), (1, none), (5, none)]))]⟩
def L_szVersionS_cl (k : Nat) : Calls' D := ⟨[(89, L_szVersion_en k)], [], [], [], []⟩
theorem L_szVersionS_ck (k : Nat) : CallsOK X (L_szVersionS_cl k) := .cons (L_szVersion_eo k) (.nil cod)
def L_szVersionS_b0_L (x : (List LVersion) × Int × Int × Unit) (o : Oc (Int) (Int)) (Q : Ex → VSt D → Prop) (R : VR D → Prop) : Prop := ocP o (fun v0 => Q .normal (mkSt ⟨[(1, .hole)], []⟩ [.int .i64 v0])) (fun w0 => R (.p (.c (.int .i64 w0))))
def L_szVersionS_b0_cut (k : Nat) : Cut D := cutS ⟨[(0, .hole), (1, .hole), (5, .hole)], []⟩ [.kl 117, .ki .i64, .ki .i64] (fun (x : (List LVersion) × Int × Int × Unit) => L_szVersionS_b0 k k x.1 x.2.1 x.2.2.1) L_szVersionS_b0_L
def L_szVersionS_b0_cu (k : Nat) : Cuts D := ⟨[], []⟩
theorem L_szVersionS_b0_ok (k : Nat) : CutFor X L_szVersionS_pl k Go.Proofs.Tryz.f40.results.toList (L_szVersionS_b0_cut k) (sub (bodyOf Go.Proofs.Tryz.f40) [1, 1, 1, 0, 1]) :=
  loopCut_s (X := X) (sg := [.kl 117, .ki .i64, .ki .i64]) (cu := L_szVersionS_b0_cu k) (cl := L_szVersionS_cl k) (tys := [[0]]) (id := 0) (c := sub (bodyOf Go.Proofs.Tryz.f40) [1, 1, 1, 0, 1, 0, 0]) (f := fun n => fun (x : (List LVersion) × Int × Int × Unit) => L_szVersionS_b0 k n x.1 x.2.1 x.2.2.1) (L_szVersionS_ck k) (cutOK_of (l := []) (by kernel_rfl) trivial) (fun _ => rfl) (fun n x Q R h => by
    simp only [L_szVersionS_b0, optK_bind, optK_bif, optK_pure, optK_none, optK_oc, optK_guardT, optK_map] at h
    refine hold_of h ?_
    kernel_rfl) (by kernel_rfl)
def L_szVersionS_cu (k : Nat) : Cuts D := ⟨[(0, some (L_szVersionS_b0_cut k))], []⟩
def L_szVersionS_ar : List Ar := [.c (.kl 117), .c (.ki .i64)]
def L_szVersionS_f (k : Nat) (x : TupA D L_szVersionS_ar) : Option (Int) := L_szVersionS k x.1 x.2.1
def L_szVersionS_vr (r : Int) : VR D := .p (.c (.int .i64 r))
theorem L_szVersionS_ok (k : Nat) : Does P X 40 L_szVersionS_ar (L_szVersionS_f k) L_szVersionS_vr :=
  does_of (body := bodyOf Go.Proofs.Tryz.f40) (pl := L_szVersionS_pl) (k := k) (cu := L_szVersionS_cu k) (tys := [[0]]) (L_szVersionS_ck k) ctx mixed Go.Proofs.Tryz.func40 (by kernel_rfl) (by kernel_rfl) (cutOK_of (l := [(L_szVersionS_b0_cut k, sub (bodyOf Go.Proofs.Tryz.f40) [1, 1, 1, 0, 1])]) (by kernel_rfl) ⟨L_szVersionS_b0_ok k, trivial⟩) fun x R h => by
    simp only [L_szVersionS_f, L_szVersionS, optK_bind, optK_bif, optK_pure, optK_none, optK_oc, optK_guardT, optK_map] at h
    refine hold_of h ?_
    kernel_rfl
def L_szVersionS_en (k : Nat) : Entry D := entS L_szVersionS_ar (L_szVersionS_f k) L_szVersionS_vr
theorem L_szVersionS_eo (k : Nat) : EntryOK X 40 (L_szVersionS_en k) := (L_szVersionS_ok k).en rfl
def L_szResource_pl : Plan := ⟨[(0, [(1, none), (2, none)]), (1, [(1, none), (2, none)]), (2, [(1, none), (2, none), (11, none)]), (3, [(4, none)]), (4, [(1, none), (2, none)]), (5, [(1, none), (2, none), (18, none)]), (6, [(4, none)]), (7, [(1, none), (2, none)]), (8, [(1, none), (2, none), (25, none)]), (9, [(4, none)]), (10, [(1, none), (2, none)]), (11, [(1, none), (2, none), (31, none)]), (12, [(4, none)]), (13, [(1, none)]), (14, [(1, none), (37, none)]), (15, [(4, none)]), (16, [(4, none)])],
  [],
  [(11, ([], [(1, none), (2, none)])), (18, ([], [(1, none), (2, none)])), (25, ([], [(1, none), (2, none)])), (31, ([], [(1, none), (2, none)])), (37, ([], [(1, none)]))]⟩
def L_szResource_cl (k : Nat) : Calls' D := ⟨[(39, L_szStringS_en k), (40, L_szVersionS_en k)], [], [], [], []⟩
theorem L_szResource_ck (k : Nat) : CallsOK X (L_szResource_cl k) := .cons (L_szStringS_eo k) (.cons (L_szVersionS_eo k) (.nil cod))
def L_szResource_cu (k : Nat) : Cuts D := ⟨[], []⟩
def L_szResource_ar : List Ar := [.a [.ks, .ks, .ks, .kb, .kl 9, .kl 117], .c (.ki .i64)]
def L_szResource_f (k : Nat) (x : TupA D L_szResource_ar) : Option (Int) := L_szResource k (⟨x.1.1, x.1.2.1, x.1.2.2.1, x.1.2.2.2.1, x.1.2.2.2.2.1, x.1.2.2.2.2.2.1⟩ : LResource) x.2.1
def L_szResource_vr (r : Int) : VR D := .p (.c (.int .i64 r))
theorem L_szResource_ok (k : Nat) : Does P X 11 L_szResource_ar (L_szResource_f k) L_szResource_vr :=
  does_of (body := bodyOf Go.Proofs.Tryz.f11) (pl := L_szResource_pl) (k := k) (cu := L_szResource_cu k) (tys := [[0]]) (L_szResource_ck k) ctx mixed Go.Proofs.Tryz.func11 (by kernel_rfl) (by kernel_rfl) (cutOK_of (l := []) (by kernel_rfl) trivial) fun x R h => by
    simp only [L_szResource_f, L_szResource, optK_bind, optK_bif, optK_pure, optK_none, optK_oc, optK_guardT, optK_map] at h
    refine hold_of h ?_
    kernel_rfl
def L_szResource_en (k : Nat) : Entry D := entS L_szResource_ar (L_szResource_f k) L_szResource_vr
theorem L_szResource_eo (k : Nat) : EntryOK X 11 (L_szResource_en k) := (L_szResource_ok k).en rfl
def L_szField_pl : Plan := ⟨[(0, [(1, none), (2, none)]), (1, [(1, none), (2, none)]), (2, [(1, none), (2, none), (11, none)]), (3, [(4, none)]), (4, [(1, none)]), (5, [(1, none), (18, none)]), (6, [(4, none)]), (7, [(4, none)])],
  [],
  [(11, ([], [(1, none), (2, none)])), (18, ([], [(1, none)]))]⟩
def L_szField_cl (k : Nat) : Calls' D := ⟨[], [], [], [], []⟩
theorem L_szField_ck (k : Nat) : CallsOK X (L_szField_cl k) := .nil cod
def L_szField_cu (k : Nat) : Cuts D := ⟨[], []⟩
def L_szField_ar : List Ar := [.a [.ks, .ks], .c (.ki .i64)]
def L_szField_f (k : Nat) (x : TupA D L_szField_ar) : Option (Int) := L_szField k (⟨x.1.1, x.1.2.1⟩ : LField) x.2.1
def L_szField_vr (r : Int) : VR D := .p (.c (.int .i64 r))
theorem L_szField_ok (k : Nat) : Does P X 90 L_szField_ar (L_szField_f k) L_szField_vr :=
  does_of (body := bodyOf Go.Proofs.Tryz.f90) (pl := L_szField_pl) (k := k) (cu := L_szField_cu k) (tys := [[0]]) (L_szField_ck k) ctx mixed Go.Proofs.Tryz.func90 (by kernel_rfl) (by kernel_rfl) (cutOK_of (l := []) (by kernel_rfl) trivial) fun x R h => by
    simp only [L_szField_f, L_szField, optK_bind, optK_bif, optK_pure, optK_none, optK_oc, optK_guardT, optK_map] at h
    refine hold_of h ?_
    kernel_rfl
def L_szField_en (k : Nat) : Entry D := entS L_szField_ar (L_szField_f k) L_szField_vr
theorem L_szField_eo (k : Nat) : EntryOK X 90 (L_szField_en k) := (L_szField_ok k).en rfl
def L_szFieldS_pl : Plan := ⟨[(0, [(0, some 120), (1, none)]), (1, [(0, some 120), (1, none)]), (2, [(0, some 120), (1, none), (11, none)]), (3, [(4, none)]), (4, [(0, some 120), (1, none), (5, none)]), (5, [(0, some 120), (1, none), (5, none), (15, none)]), (6, [(0, some 120), (1, none), (5, none)]), (7, [(0, some 120), (1, none), (5, none)]), (8, [(0, some 120), (1, none), (5, none), (25, none)]), (9, [(4, none)]), (10, [(4, none)])],
  [(0, [(1, none)]), (1, [(0, some 120), (1, none), (5, none)])],
  [(11, ([], [(0, some 120), (1, none)])), (15, ([(0, some 120), (1, none), (5, none)], [(1, none)])), (25, ([], [(0, some 120), (1, none), (5, none)]))]⟩
def L_szFieldS_cl (k : Nat) : Calls' D := ⟨[(90, L_szField_en k)], [], [], [], []⟩
theorem L_szFieldS_ck (k : Nat) : CallsOK X (L_szFieldS_cl k) := .cons (L_szField_eo k) (.nil cod)
def L_szFieldS_b0_L (x : (List LField) × Int × Int × Unit) (o : Oc (Int) (Int)) (Q : Ex → VSt D → Prop) (R : VR D → Prop) : Prop := ocP o (fun v0 => Q .normal (mkSt ⟨[(1, .hole)], []⟩ [.int .i64 v0])) (fun w0 => R (.p (.c (.int .i64 w0))))
def L_szFieldS_b0_cut (k : Nat) : Cut D := cutS ⟨[(0, .hole), (1, .hole), (5, .hole)], []⟩ [.kl 120, .ki .i64, .ki .i64] (fun (x : (List LField) × Int × Int × Unit) => L_szFieldS_b0 k k x.1 x.2.1 x.2.2.1) L_szFieldS_b0_L
def L_szFieldS_b0_cu (k : Nat) : Cuts D := ⟨[], []⟩
theorem L_szFieldS_b0_ok (k : Nat) : CutFor X L_szFieldS_pl k Go.Proofs.Tryz.f41.results.toList (L_szFieldS_b0_cut k) (sub (bodyOf Go.Proofs.Tryz.f41) [1, 1, 1, 0, 1]) :=
  loopCut_s (X := X) (sg := [.kl 120, .ki .i64, .ki .i64]) (cu := L_szFieldS_b0_cu k) (cl := L_szFieldS_cl k) (tys := [[0]]) (id := 0) (c := sub (bodyOf Go.Proofs.Tryz.f41) [1, 1, 1, 0, 1, 0, 0]) (f := fun n => fun (x : (List LField) × Int × Int × Unit) => L_szFieldS_b0 k n x.1 x.2.1 x.2.2.1) (L_szFieldS_ck k) (cutOK_of (l := []) (by kernel_rfl) trivial) (fun _ => rfl) (fun n x Q R h => by
    simp only [L_szFieldS_b0, optK_bind, optK_bif, optK_pure, optK_none, optK_oc, optK_guardT, optK_map] at h
    refine hold_of h ?_
    kernel_rfl) (by kernel_rfl)
def L_szFieldS_cu (k : Nat) : Cuts D := ⟨[(0, some (L_szFieldS_b0_cut k))], []⟩
def L_szFieldS_ar : List Ar := [.c (.kl 120), .c (.ki .i64)]
def L_szFieldS_f (k : Nat) (x : TupA D L_szFieldS_ar) : Option (Int) := L_szFieldS k x.1 x.2.1
def L_szFieldS_vr (r : Int) : VR D := .p (.c (.int .i64 r))
theorem L_szFieldS_ok (k : Nat) : Does P X 41 L_szFieldS_ar (L_szFieldS_f k) L_szFieldS_vr :=
  does_of (body := bodyOf Go.Proofs.Tryz.f41) (pl := L_szFieldS_pl) (k := k) (cu := L_szFieldS_cu k) (tys := [[0]]) (L_szFieldS_ck k) ctx mixed Go.Proofs.Tryz.func41 (by kernel_rfl) (by kernel_rfl) (cutOK_of (l := [(L_szFieldS_b0_cut k, sub (bodyOf Go.Proofs.Tryz.f41) [1, 1, 1, 0, 1])]) (by kernel_rfl) ⟨L_szFieldS_b0_ok k, trivial⟩) fun x R h => by
    simp only [L_szFieldS_f, L_szFieldS, optK_bind, optK_bif, optK_pure, optK_none, optK_oc, optK_guardT, optK_map] at h
    refine hold_of h ?_
    kernel_rfl
def L_szFieldS_en (k : Nat) : Entry D := entS L_szFieldS_ar (L_szFieldS_f k) L_szFieldS_vr
theorem L_szFieldS_eo (k : Nat) : EntryOK X 41 (L_szFieldS_en k) := (L_szFieldS_ok k).en rfl
def L_szRequest_pl : Plan := ⟨[(0, [(1, none), (2, none)]), (1, [(1, none), (2, none)]), (2, [(1, none), (2, none), (11, none)]), (3, [(4, none)]), (4, [(1, none), (2, none)]), (5, [(1, none), (2, none), (18, none)]), (6, [(4, none)]), (7, [(1, none), (2, none)]), (8, [(1, none), (2, none), (25, none)]), (9, [(4, none)]), (10, [(1, none)]), (11, [(1, none), (31, none)]), (12, [(4, none)]), (13, [(4, none)])],
  [],
  [(11, ([], [(1, none), (2, none)])), (18, ([], [(1, none), (2, none)])), (25, ([], [(1, none), (2, none)])), (31, ([], [(1, none)]))]⟩
def L_szRequest_cl (k : Nat) : Calls' D := ⟨[(41, L_szFieldS_en k)], [], [], [], []⟩
theorem L_szRequest_ck (k : Nat) : CallsOK X (L_szRequest_cl k) := .cons (L_szFieldS_eo k) (.nil cod)
def L_szRequest_cu (k : Nat) : Cuts D := ⟨[], []⟩
def L_szRequest_ar : List Ar := [.a [.ks, .ks, .ks, .kl 120], .c (.ki .i64)]
def L_szRequest_f (k : Nat) (x : TupA D L_szRequest_ar) : Option (Int) := L_szRequest k (⟨x.1.1, x.1.2.1, x.1.2.2.1, x.1.2.2.2.1⟩ : LRequest) x.2.1
def L_szRequest_vr (r : Int) : VR D := .p (.c (.int .i64 r))
theorem L_szRequest_ok (k : Nat) : Does P X 12 L_szRequest_ar (L_szRequest_f k) L_szRequest_vr :=
  does_of (body := bodyOf Go.Proofs.Tryz.f12) (pl := L_szRequest_pl) (k := k) (cu := L_szRequest_cu k) (tys := [[0]]) (L_szRequest_ck k) ctx mixed Go.Proofs.Tryz.func12 (by kernel_rfl) (by kernel_rfl) (cutOK_of (l := []) (by kernel_rfl) trivial) fun x R h => by
    simp only [L_szRequest_f, L_szRequest, optK_bind, optK_bif, optK_pure, optK_none, optK_oc, optK_guardT, optK_map] at h
    refine hold_of h ?_
    kernel_rfl
def L_szRequest_en (k : Nat) : Entry D := entS L_szRequest_ar (L_szRequest_f k) L_szRequest_vr
theorem L_szRequest_eo (k : Nat) : EntryOK X 12 (L_szRequest_en k) := (L_szRequest_ok k).en rfl
def L_toStringS_pl : Plan := ⟨[(0, [(0, some 9)]), (1, [(0, some 9), (3, some 9)]), (2, [(0, some 9), (3, some 9), (4, none)]), (3, [(0, some 9), (3, some 9), (4, none), (11, none)]), (4, [(0, some 9), (3, some 9), (4, none)]), (5, [(0, some 9), (3, some 9), (4, none)]), (6, [(2, some 9)])],
  [(0, [(3, some 9)]), (1, [(0, some 9), (3, some 9), (4, none)])],
  [(11, ([(0, some 9), (3, some 9), (4, none)], [(3, some 9)]))]⟩
def L_toStringS_cl (k : Nat) : Calls' D := ⟨[], [], [], [], []⟩
theorem L_toStringS_ck (k : Nat) : CallsOK X (L_toStringS_cl k) := .nil cod
def L_toStringS_b0_L (x : (List (List UInt8)) × Int × (List (List UInt8)) × Unit) (o : (List (List UInt8))) (Q : Ex → VSt D → Prop) (R : VR D → Prop) : Prop := Q .normal (mkSt ⟨[(3, .ref 500003)], [(500003, .row)]⟩ [.sl 9 o])
def L_toStringS_b0_cut (k : Nat) : Cut D := cutS ⟨[(0, .hole), (3, .ref 500003), (4, .hole)], [(500003, .row)]⟩ [.kl 9, .ki .i64, .kl 9] (fun (x : (List (List UInt8)) × Int × (List (List UInt8)) × Unit) => L_toStringS_b0 k k x.1 x.2.1 x.2.2.1) L_toStringS_b0_L
def L_toStringS_b0_cu (k : Nat) : Cuts D := ⟨[], []⟩
theorem L_toStringS_b0_ok (k : Nat) : CutFor X L_toStringS_pl k Go.Proofs.Tryz.f45.results.toList (L_toStringS_b0_cut k) (sub (bodyOf Go.Proofs.Tryz.f45) [1, 1, 0, 1]) :=
  loopCut_s (X := X) (sg := [.kl 9, .ki .i64, .kl 9]) (cu := L_toStringS_b0_cu k) (cl := L_toStringS_cl k) (tys := [[9]]) (id := 0) (c := sub (bodyOf Go.Proofs.Tryz.f45) [1, 1, 0, 1, 0, 0]) (f := fun n => fun (x : (List (List UInt8)) × Int × (List (List UInt8)) × Unit) => L_toStringS_b0 k n x.1 x.2.1 x.2.2.1) (L_toStringS_ck k) (cutOK_of (l := []) (by kernel_rfl) trivial) (fun _ => rfl) (fun n x Q R h => by
    simp only [L_toStringS_b0, optK_bind, optK_bif, optK_pure, optK_none, optK_oc, optK_guardT, optK_map] at h
    refine hold_of h ?_
    kernel_rfl) (by kernel_rfl)
def L_toStringS_cu (k : Nat) : Cuts D := ⟨[(0, some (L_toStringS_b0_cut k))], []⟩
def L_toStringS_ar : List Ar := [.c (.kl 9)]
def L_toStringS_f (k : Nat) (x : TupA D L_toStringS_ar) : Option ((List (List UInt8))) := L_toStringS k x.1
def L_toStringS_vr (r : (List (List UInt8))) : VR D := .p (.c (.sl 9 r))
theorem L_toStringS_ok (k : Nat) : Does P X 45 L_toStringS_ar (L_toStringS_f k) L_toStringS_vr :=
  does_of (body := bodyOf Go.Proofs.Tryz.f45) (pl := L_toStringS_pl) (k := k) (cu := L_toStringS_cu k) (tys := [[9]]) (L_toStringS_ck k) ctx mixed Go.Proofs.Tryz.func45 (by kernel_rfl) (by kernel_rfl) (cutOK_of (l := [(L_toStringS_b0_cut k, sub (bodyOf Go.Proofs.Tryz.f45) [1, 1, 0, 1])]) (by kernel_rfl) ⟨L_toStringS_b0_ok k, trivial⟩) fun x R h => by
    simp only [L_toStringS_f, L_toStringS, optK_bind, optK_bif, optK_pure, optK_none, optK_oc, optK_guardT, optK_map] at h
    refine hold_of h ?_
    kernel_rfl
def L_toStringS_en (k : Nat) : Entry D := entS L_toStringS_ar (L_toStringS_f k) L_toStringS_vr
theorem L_toStringS_eo (k : Nat) : EntryOK X 45 (L_toStringS_en k) := (L_toStringS_ok k).en rfl
def L_toVersion_pl : Plan := ⟨[(0, [(1, none), (2, none)]), (1, [(1, none), (2, none), (3, none)]), (2, [(1, none), (2, none), (3, none)]), (3, [(1, none), (2, none), (3, none)]), (4, [(2, none), (3, none)]), (5, [(2, none)])],
  [],
  []⟩
def L_toVersion_cl (k : Nat) : Calls' D := ⟨[], [], [], [], []⟩
theorem L_toVersion_ck (k : Nat) : CallsOK X (L_toVersion_cl k) := .nil cod
def L_toVersion_cu (k : Nat) : Cuts D := ⟨[], []⟩
def L_toVersion_ar : List Ar := [.a [.ki .i64, .ks, .kb]]
def L_toVersion_f (k : Nat) (x : TupA D L_toVersion_ar) : Option (IVersion) := L_toVersion k (⟨x.1.1, x.1.2.1, x.1.2.2.1⟩ : LVersion)
def L_toVersion_vr (r : IVersion) : VR D := .p (.agg [.int .i64 r.At, .str r.Text, .bool r.Gone])
theorem L_toVersion_ok (k : Nat) : Does P X 97 L_toVersion_ar (L_toVersion_f k) L_toVersion_vr :=
  does_of (body := bodyOf Go.Proofs.Tryz.f97) (pl := L_toVersion_pl) (k := k) (cu := L_toVersion_cu k) (tys := [[0, 0, 0]]) (L_toVersion_ck k) ctx mixed Go.Proofs.Tryz.func97 (by kernel_rfl) (by kernel_rfl) (cutOK_of (l := []) (by kernel_rfl) trivial) fun x R h => by
    simp only [L_toVersion_f, L_toVersion, optK_bind, optK_bif, optK_pure, optK_none, optK_oc, optK_guardT, optK_map] at h
    refine hold_of h ?_
    kernel_rfl
def L_toVersion_en (k : Nat) : Entry D := entS L_toVersion_ar (L_toVersion_f k) L_toVersion_vr
theorem L_toVersion_eo (k : Nat) : EntryOK X 97 (L_toVersion_en k) := (L_toVersion_ok k).en rfl
def L_toVersionS_pl : Plan := ⟨[(0, [(0, some 117)]), (1, [(0, some 117), (3, some 128)]), (2, [(0, some 117), (3, some 128), (4, none)]), (3, [(0, some 117), (3, some 128), (4, none), (11, none)]), (4, [(0, some 117), (3, some 128), (4, none)]), (5, [(0, some 117), (3, some 128), (4, none)]), (6, [(2, some 128)])],
  [(0, [(3, some 128)]), (1, [(0, some 117), (3, some 128), (4, none)])],
  [(11, ([(0, some 117), (3, some 128), (4, none)], [(3, some 128)]))]⟩
def L_toVersionS_cl (k : Nat) : Calls' D := ⟨[(97, L_toVersion_en k)], [], [], [], []⟩
theorem L_toVersionS_ck (k : Nat) : CallsOK X (L_toVersionS_cl k) := .cons (L_toVersion_eo k) (.nil cod)
def L_toVersionS_b0_L (x : (List LVersion) × Int × (List IVersion) × Unit) (o : (List IVersion)) (Q : Ex → VSt D → Prop) (R : VR D → Prop) : Prop := Q .normal (mkSt ⟨[(3, .ref 500003)], [(500003, .row)]⟩ [.sl 128 o])
def L_toVersionS_b0_cut (k : Nat) : Cut D := cutS ⟨[(0, .hole), (3, .ref 500003), (4, .hole)], [(500003, .row)]⟩ [.kl 117, .ki .i64, .kl 128] (fun (x : (List LVersion) × Int × (List IVersion) × Unit) => L_toVersionS_b0 k k x.1 x.2.1 x.2.2.1) L_toVersionS_b0_L
def L_toVersionS_b0_cu (k : Nat) : Cuts D := ⟨[], []⟩
theorem L_toVersionS_b0_ok (k : Nat) : CutFor X L_toVersionS_pl k Go.Proofs.Tryz.f46.results.toList (L_toVersionS_b0_cut k) (sub (bodyOf Go.Proofs.Tryz.f46) [1, 1, 0, 1]) :=
  loopCut_s (X := X) (sg := [.kl 117, .ki .i64, .kl 128]) (cu := L_toVersionS_b0_cu k) (cl := L_toVersionS_cl k) (tys := [[128]]) (id := 0) (c := sub (bodyOf Go.Proofs.Tryz.f46) [1, 1, 0, 1, 0, 0]) (f := fun n => fun (x : (List LVersion) × Int × (List IVersion) × Unit) => L_toVersionS_b0 k n x.1 x.2.1 x.2.2.1) (L_toVersionS_ck k) (cutOK_of (l := []) (by kernel_rfl) trivial) (fun _ => rfl) (fun n x Q R h => by
    simp only [L_toVersionS_b0, optK_bind, optK_bif, optK_pure, optK_none, optK_oc, optK_guardT, optK_map] at h
    refine hold_of h ?_
    kernel_rfl) (by kernel_rfl)
def L_toVersionS_cu (k : Nat) : Cuts D := ⟨[(0, some (L_toVersionS_b0_cut k))], []⟩
def L_toVersionS_ar : List Ar := [.c (.kl 117)]
def L_toVersionS_f (k : Nat) (x : TupA D L_toVersionS_ar) : Option ((List IVersion)) := L_toVersionS k x.1
def L_toVersionS_vr (r : (List IVersion)) : VR D := .p (.c (.sl 128 r))
theorem L_toVersionS_ok (k : Nat) : Does P X 46 L_toVersionS_ar (L_toVersionS_f k) L_toVersionS_vr :=
  does_of (body := bodyOf Go.Proofs.Tryz.f46) (pl := L_toVersionS_pl) (k := k) (cu := L_toVersionS_cu k) (tys := [[128]]) (L_toVersionS_ck k) ctx mixed Go.Proofs.Tryz.func46 (by kernel_rfl) (by kernel_rfl) (cutOK_of (l := [(L_toVersionS_b0_cut k, sub (bodyOf Go.Proofs.Tryz.f46) [1, 1, 0, 1])]) (by kernel_rfl) ⟨L_toVersionS_b0_ok k, trivial⟩) fun x R h => by
    simp only [L_toVersionS_f, L_toVersionS, optK_bind, optK_bif, optK_pure, optK_none, optK_oc, optK_guardT, optK_map] at h
    refine hold_of h ?_
    kernel_rfl
def L_toVersionS_en (k : Nat) : Entry D := entS L_toVersionS_ar (L_toVersionS_f k) L_toVersionS_vr
theorem L_toVersionS_eo (k : Nat) : EntryOK X 46 (L_toVersionS_en k) := (L_toVersionS_ok k).en rfl
def L_toResource_pl : Plan := ⟨[(0, [(1, none), (2, none)]), (1, [(1, none), (2, none), (3, none)]), (2, [(1, none), (2, none), (3, none)]), (3, [(1, none), (2, none), (3, none)]), (4, [(1, none), (2, none), (3, none)]), (5, [(1, none), (2, none), (3, none)]), (6, [(1, none), (2, none), (3, none)]), (7, [(2, none), (3, none)]), (8, [(2, none)])],
  [],
  []⟩
def L_toResource_cl (k : Nat) : Calls' D := ⟨[(45, L_toStringS_en k), (46, L_toVersionS_en k)], [], [], [], []⟩
theorem L_toResource_ck (k : Nat) : CallsOK X (L_toResource_cl k) := .cons (L_toStringS_eo k) (.cons (L_toVersionS_eo k) (.nil cod))
def L_toResource_cu (k : Nat) : Cuts D := ⟨[], []⟩
def L_toResource_ar : List Ar := [.a [.ks, .ks, .ks, .kb, .kl 9, .kl 117]]
def L_toResource_f (k : Nat) (x : TupA D L_toResource_ar) : Option (IResource) := L_toResource k (⟨x.1.1, x.1.2.1, x.1.2.2.1, x.1.2.2.2.1, x.1.2.2.2.2.1, x.1.2.2.2.2.2.1⟩ : LResource)
def L_toResource_vr (r : IResource) : VR D := .p (.agg [.str r.Target, .str r.Control, .str r.Keys, .bool r.Private, .sl 9 r.Langs, .sl 128 r.Versions])
theorem L_toResource_ok (k : Nat) : Does P X 14 L_toResource_ar (L_toResource_f k) L_toResource_vr :=
  does_of (body := bodyOf Go.Proofs.Tryz.f14) (pl := L_toResource_pl) (k := k) (cu := L_toResource_cu k) (tys := [[0, 0, 0, 0, 9, 128]]) (L_toResource_ck k) ctx mixed Go.Proofs.Tryz.func14 (by kernel_rfl) (by kernel_rfl) (cutOK_of (l := []) (by kernel_rfl) trivial) fun x R h => by
    simp only [L_toResource_f, L_toResource, optK_bind, optK_bif, optK_pure, optK_none, optK_oc, optK_guardT, optK_map] at h
    refine hold_of h ?_
    kernel_rfl
def L_toResource_en (k : Nat) : Entry D := entS L_toResource_ar (L_toResource_f k) L_toResource_vr
theorem L_toResource_eo (k : Nat) : EntryOK X 14 (L_toResource_en k) := (L_toResource_ok k).en rfl
def L_toField_pl : Plan := ⟨[(0, [(1, none), (2, none)]), (1, [(1, none), (2, none), (3, none)]), (2, [(1, none), (2, none), (3, none)]), (3, [(2, none), (3, none)]), (4, [(2, none)])],
  [],
  []⟩
def L_toField_cl (k : Nat) : Calls' D := ⟨[], [], [], [], []⟩
theorem L_toField_ck (k : Nat) : CallsOK X (L_toField_cl k) := .nil cod
def L_toField_cu (k : Nat) : Cuts D := ⟨[], []⟩
def L_toField_ar : List Ar := [.a [.ks, .ks]]
def L_toField_f (k : Nat) (x : TupA D L_toField_ar) : Option (IField) := L_toField k (⟨x.1.1, x.1.2.1⟩ : LField)
def L_toField_vr (r : IField) : VR D := .p (.agg [.str r.Name, .str r.Value])
theorem L_toField_ok (k : Nat) : Does P X 98 L_toField_ar (L_toField_f k) L_toField_vr :=
  does_of (body := bodyOf Go.Proofs.Tryz.f98) (pl := L_toField_pl) (k := k) (cu := L_toField_cu k) (tys := [[0, 0]]) (L_toField_ck k) ctx mixed Go.Proofs.Tryz.func98 (by kernel_rfl) (by kernel_rfl) (cutOK_of (l := []) (by kernel_rfl) trivial) fun x R h => by
    simp only [L_toField_f, L_toField, optK_bind, optK_bif, optK_pure, optK_none, optK_oc, optK_guardT, optK_map] at h
    refine hold_of h ?_
    kernel_rfl
def L_toField_en (k : Nat) : Entry D := entS L_toField_ar (L_toField_f k) L_toField_vr
theorem L_toField_eo (k : Nat) : EntryOK X 98 (L_toField_en k) := (L_toField_ok k).en rfl
def L_toFieldS_pl : Plan := ⟨[(0, [(0, some 120)]), (1, [(0, some 120), (3, some 130)]), (2, [(0, some 120), (3, some 130), (4, none)]), (3, [(0, some 120), (3, some 130), (4, none), (11, none)]), (4, [(0, some 120), (3, some 130), (4, none)]), (5, [(0, some 120), (3, some 130), (4, none)]), (6, [(2, some 130)])],
  [(0, [(3, some 130)]), (1, [(0, some 120), (3, some 130), (4, none)])],
  [(11, ([(0, some 120), (3, some 130), (4, none)], [(3, some 130)]))]⟩
def L_toFieldS_cl (k : Nat) : Calls' D := ⟨[(98, L_toField_en k)], [], [], [], []⟩
theorem L_toFieldS_ck (k : Nat) : CallsOK X (L_toFieldS_cl k) := .cons (L_toField_eo k) (.nil cod)
def L_toFieldS_b0_L (x : (List LField) × Int × (List IField) × Unit) (o : (List IField)) (Q : Ex → VSt D → Prop) (R : VR D → Prop) : Prop := Q .normal (mkSt ⟨[(3, .ref 500003)], [(500003, .row)]⟩ [.sl 130 o])
def L_toFieldS_b0_cut (k : Nat) : Cut D := cutS ⟨[(0, .hole), (3, .ref 500003), (4, .hole)], [(500003, .row)]⟩ [.kl 120, .ki .i64, .kl 130] (fun (x : (List LField) × Int × (List IField) × Unit) => L_toFieldS_b0 k k x.1 x.2.1 x.2.2.1) L_toFieldS_b0_L
def L_toFieldS_b0_cu (k : Nat) : Cuts D := ⟨[], []⟩
theorem L_toFieldS_b0_ok (k : Nat) : CutFor X L_toFieldS_pl k Go.Proofs.Tryz.f47.results.toList (L_toFieldS_b0_cut k) (sub (bodyOf Go.Proofs.Tryz.f47) [1, 1, 0, 1]) :=
  loopCut_s (X := X) (sg := [.kl 120, .ki .i64, .kl 130]) (cu := L_toFieldS_b0_cu k) (cl := L_toFieldS_cl k) (tys := [[130]]) (id := 0) (c := sub (bodyOf Go.Proofs.Tryz.f47) [1, 1, 0, 1, 0, 0]) (f := fun n => fun (x : (List LField) × Int × (List IField) × Unit) => L_toFieldS_b0 k n x.1 x.2.1 x.2.2.1) (L_toFieldS_ck k) (cutOK_of (l := []) (by kernel_rfl) trivial) (fun _ => rfl) (fun n x Q R h => by
    simp only [L_toFieldS_b0, optK_bind, optK_bif, optK_pure, optK_none, optK_oc, optK_guardT, optK_map] at h
    refine hold_of h ?_
    kernel_rfl) (by kernel_rfl)
def L_toFieldS_cu (k : Nat) : Cuts D := ⟨[(0, some (L_toFieldS_b0_cut k))], []⟩
def L_toFieldS_ar : List Ar := [.c (.kl 120)]
def L_toFieldS_f (k : Nat) (x : TupA D L_toFieldS_ar) : Option ((List IField)) := L_toFieldS k x.1
def L_toFieldS_vr (r : (List IField)) : VR D := .p (.c (.sl 130 r))
theorem L_toFieldS_ok (k : Nat) : Does P X 47 L_toFieldS_ar (L_toFieldS_f k) L_toFieldS_vr :=
  does_of (body := bodyOf Go.Proofs.Tryz.f47) (pl := L_toFieldS_pl) (k := k) (cu := L_toFieldS_cu k) (tys := [[130]]) (L_toFieldS_ck k) ctx mixed Go.Proofs.Tryz.func47 (by kernel_rfl) (by kernel_rfl) (cutOK_of (l := [(L_toFieldS_b0_cut k, sub (bodyOf Go.Proofs.Tryz.f47) [1, 1, 0, 1])]) (by kernel_rfl) ⟨L_toFieldS_b0_ok k, trivial⟩) fun x R h => by
    simp only [L_toFieldS_f, L_toFieldS, optK_bind, optK_bif, optK_pure, optK_none, optK_oc, optK_guardT, optK_map] at h
    refine hold_of h ?_
    kernel_rfl
def L_toFieldS_en (k : Nat) : Entry D := entS L_toFieldS_ar (L_toFieldS_f k) L_toFieldS_vr
theorem L_toFieldS_eo (k : Nat) : EntryOK X 47 (L_toFieldS_en k) := (L_toFieldS_ok k).en rfl
def L_toRequest_pl : Plan := ⟨[(0, [(1, none), (2, none)]), (1, [(1, none), (2, none), (3, none)]), (2, [(1, none), (2, none), (3, none)]), (3, [(1, none), (2, none), (3, none)]), (4, [(1, none), (2, none), (3, none)]), (5, [(2, none), (3, none)]), (6, [(2, none)])],
  [],
  []⟩
def L_toRequest_cl (k : Nat) : Calls' D := ⟨[(47, L_toFieldS_en k)], [], [], [], []⟩
theorem L_toRequest_ck (k : Nat) : CallsOK X (L_toRequest_cl k) := .cons (L_toFieldS_eo k) (.nil cod)
def L_toRequest_cu (k : Nat) : Cuts D := ⟨[], []⟩
def L_toRequest_ar : List Ar := [.a [.ks, .ks, .ks, .kl 120]]
def L_toRequest_f (k : Nat) (x : TupA D L_toRequest_ar) : Option (IRequest) := L_toRequest k (⟨x.1.1, x.1.2.1, x.1.2.2.1, x.1.2.2.2.1⟩ : LRequest)
def L_toRequest_vr (r : IRequest) : VR D := .p (.agg [.str r.Method, .str r.Host, .str r.Target, .sl 130 r.Fields])
theorem L_toRequest_ok (k : Nat) : Does P X 15 L_toRequest_ar (L_toRequest_f k) L_toRequest_vr :=
  does_of (body := bodyOf Go.Proofs.Tryz.f15) (pl := L_toRequest_pl) (k := k) (cu := L_toRequest_cu k) (tys := [[0, 0, 0, 130]]) (L_toRequest_ck k) ctx mixed Go.Proofs.Tryz.func15 (by kernel_rfl) (by kernel_rfl) (cutOK_of (l := []) (by kernel_rfl) trivial) fun x R h => by
    simp only [L_toRequest_f, L_toRequest, optK_bind, optK_bif, optK_pure, optK_none, optK_oc, optK_guardT, optK_map] at h
    refine hold_of h ?_
    kernel_rfl
def L_toRequest_en (k : Nat) : Entry D := entS L_toRequest_ar (L_toRequest_f k) L_toRequest_vr
theorem L_toRequest_eo (k : Nat) : EntryOK X 15 (L_toRequest_en k) := (L_toRequest_ok k).en rfl
def S_JoinList_pl : Plan := ⟨[(0, [(0, some 9)]), (1, [(0, some 9), (3, none)]), (2, [(0, some 9), (3, none), (4, none)]), (3, [(0, some 9), (3, none), (4, none), (8, none)]), (4, [(0, some 9), (3, none), (4, none)]), (5, [(0, some 9), (3, none), (4, none), (12, none)]), (6, [(0, some 9), (3, none), (4, none)]), (7, [(0, some 9), (3, none), (4, none)]), (8, [(2, none)])],
  [(0, [(3, none)]), (1, [(0, some 9), (3, none), (4, none)])],
  [(8, ([(0, some 9), (3, none), (4, none)], [(3, none)])), (12, ([(0, some 9), (3, none), (4, none)], [(0, some 9), (3, none), (4, none)]))]⟩
def S_JoinList_cl (k : Nat) : Calls' D := ⟨[], [], [], [], []⟩
theorem S_JoinList_ck (k : Nat) : CallsOK X (S_JoinList_cl k) := .nil cod
def S_JoinList_c12_L (x : (List (List UInt8)) × (List UInt8) × Int × Bool × Unit) (o : (List UInt8)) (Q : Ex → VSt D → Prop) (R : VR D → Prop) : Prop := Q .normal (mkSt ⟨[(0, .hole), (3, .hole), (4, .hole)], []⟩ [.sl 9 x.1, .str o, .int .i64 x.2.2.1])
def S_JoinList_c12_cut (k : Nat) : Cut D := cutS ⟨[(0, .hole), (3, .hole), (4, .hole), (12, .hole)], []⟩ [.kl 9, .ks, .ki .i64, .kb] (fun (x : (List (List UInt8)) × (List UInt8) × Int × Bool × Unit) => S_JoinList_c12 k x.1 x.2.1 x.2.2.1 x.2.2.2.1) S_JoinList_c12_L
def S_JoinList_c12_cu (k : Nat) : Cuts D := ⟨[], []⟩
theorem S_JoinList_c12_ok (k : Nat) : CutFor X S_JoinList_pl k Go.Proofs.Tryz.f94.results.toList (S_JoinList_c12_cut k) (sub (bodyOf Go.Proofs.Tryz.f94) [1, 1, 0, 1, 0, 0, 1, 0, 0, 0, 1]) :=
  joinCut_s (X := X) (sg := [.kl 9, .ks, .ki .i64, .kb]) (cu := S_JoinList_c12_cu k) (cl := S_JoinList_cl k) (tys := [[0]]) (S_JoinList_ck k) (cutOK_of (l := []) (by kernel_rfl) trivial) fun x Q R h => by
    simp only [S_JoinList_c12, optK_bind, optK_bif, optK_pure, optK_none, optK_oc, optK_guardT, optK_map] at h
    refine hold_of h ?_
    kernel_rfl
def S_JoinList_b1_L (x : (List (List UInt8)) × (List UInt8) × Int × Unit) (o : (List UInt8)) (Q : Ex → VSt D → Prop) (R : VR D → Prop) : Prop := Q .normal (mkSt ⟨[(0, .hole), (3, .hole), (4, .hole)], []⟩ [.sl 9 x.1, .str o, .int .i64 x.2.2.1])
def S_JoinList_b1_cut (k : Nat) : Cut D := cutS ⟨[(0, .hole), (3, .hole), (4, .hole)], []⟩ [.kl 9, .ks, .ki .i64] (fun (x : (List (List UInt8)) × (List UInt8) × Int × Unit) => S_JoinList_b1 k x.1 x.2.1 x.2.2.1) S_JoinList_b1_L
def S_JoinList_b1_cu (k : Nat) : Cuts D := ⟨[], [(12, some (S_JoinList_c12_cut k))]⟩
theorem S_JoinList_b1_ok (k : Nat) : CutFor X S_JoinList_pl k Go.Proofs.Tryz.f94.results.toList (S_JoinList_b1_cut k) (sub (bodyOf Go.Proofs.Tryz.f94) [1, 1, 0, 1, 0, 0, 1, 0]) :=
  joinCut_s (X := X) (sg := [.kl 9, .ks, .ki .i64]) (cu := S_JoinList_b1_cu k) (cl := S_JoinList_cl k) (tys := [[0]]) (S_JoinList_ck k) (cutOK_of (l := [(S_JoinList_c12_cut k, sub (bodyOf Go.Proofs.Tryz.f94) [1, 1, 0, 1, 0, 0, 1, 0, 0, 0, 1])]) (by kernel_rfl) ⟨S_JoinList_c12_ok k, trivial⟩) fun x Q R h => by
    simp only [S_JoinList_b1, optK_bind, optK_bif, optK_pure, optK_none, optK_oc, optK_guardT, optK_map] at h
    refine hold_of h ?_
    kernel_rfl
def S_JoinList_b0_L (x : (List (List UInt8)) × (List UInt8) × Int × Unit) (o : (List UInt8)) (Q : Ex → VSt D → Prop) (R : VR D → Prop) : Prop := Q .normal (mkSt ⟨[(3, .hole)], []⟩ [.str o])
def S_JoinList_b0_cut (k : Nat) : Cut D := cutS ⟨[(0, .hole), (3, .hole), (4, .hole)], []⟩ [.kl 9, .ks, .ki .i64] (fun (x : (List (List UInt8)) × (List UInt8) × Int × Unit) => S_JoinList_b0 k k x.1 x.2.1 x.2.2.1) S_JoinList_b0_L
def S_JoinList_b0_cu (k : Nat) : Cuts D := ⟨[(1, some (S_JoinList_b1_cut k))], []⟩
theorem S_JoinList_b0_ok (k : Nat) : CutFor X S_JoinList_pl k Go.Proofs.Tryz.f94.results.toList (S_JoinList_b0_cut k) (sub (bodyOf Go.Proofs.Tryz.f94) [1, 1, 0, 1]) :=
  loopCut_s (X := X) (sg := [.kl 9, .ks, .ki .i64]) (cu := S_JoinList_b0_cu k) (cl := S_JoinList_cl k) (tys := [[0]]) (id := 0) (c := sub (bodyOf Go.Proofs.Tryz.f94) [1, 1, 0, 1, 0, 0]) (f := fun n => fun (x : (List (List UInt8)) × (List UInt8) × Int × Unit) => S_JoinList_b0 k n x.1 x.2.1 x.2.2.1) (S_JoinList_ck k) (cutOK_of (l := [(S_JoinList_b1_cut k, sub (bodyOf Go.Proofs.Tryz.f94) [1, 1, 0, 1, 0, 0, 1, 0])]) (by kernel_rfl) ⟨S_JoinList_b1_ok k, trivial⟩) (fun _ => rfl) (fun n x Q R h => by
    simp only [S_JoinList_b0, optK_bind, optK_bif, optK_pure, optK_none, optK_oc, optK_guardT, optK_map] at h
    refine hold_of h ?_
    kernel_rfl) (by kernel_rfl)
def S_JoinList_cu (k : Nat) : Cuts D := ⟨[(0, some (S_JoinList_b0_cut k))], []⟩
def S_JoinList_ar : List Ar := [.c (.kl 9)]
def S_JoinList_f (k : Nat) (x : TupA D S_JoinList_ar) : Option ((List UInt8)) := S_JoinList k x.1
def S_JoinList_vr (r : (List UInt8)) : VR D := .p (.c (.str r))
theorem S_JoinList_ok (k : Nat) : Does P X 94 S_JoinList_ar (S_JoinList_f k) S_JoinList_vr :=
  does_of (body := bodyOf Go.Proofs.Tryz.f94) (pl := S_JoinList_pl) (k := k) (cu := S_JoinList_cu k) (tys := [[0]]) (S_JoinList_ck k) ctx mixed Go.Proofs.Tryz.func94 (by kernel_rfl) (by kernel_rfl) (cutOK_of (l := [(S_JoinList_b0_cut k, sub (bodyOf Go.Proofs.Tryz.f94) [1, 1, 0, 1])]) (by kernel_rfl) ⟨S_JoinList_b0_ok k, trivial⟩) fun x R h => by
    simp only [S_JoinList_f, S_JoinList, optK_bind, optK_bif, optK_pure, optK_none, optK_oc, optK_guardT, optK_map] at h
    refine hold_of h ?_
    kernel_rfl
def S_JoinList_en (k : Nat) : Entry D := entS S_JoinList_ar (S_JoinList_f k) S_JoinList_vr
theorem S_JoinList_eo (k : Nat) : EntryOK X 94 (S_JoinList_en k) := (S_JoinList_ok k).en rfl
def S_GetField_pl : Plan := ⟨[(0, [(0, some 130), (1, none)]), (1, [(0, some 130), (1, none), (6, some 9)]), (2, [(0, some 130), (1, none), (6, some 9), (7, none)]), (3, [(0, some 130), (1, none), (6, some 9), (7, none), (12, none)]), (4, [(0, some 130), (1, none), (6, some 9), (7, none)]), (5, [(0, some 130), (1, none), (6, some 9), (7, none), (21, none)]), (6, [(0, some 130), (1, none), (6, some 9), (7, none)]), (7, [(4, none), (5, none)])],
  [(0, [(6, some 9)]), (1, [(0, some 130), (1, none), (6, some 9), (7, none)])],
  [(12, ([(0, some 130), (1, none), (6, some 9), (7, none)], [(6, some 9)])), (21, ([(0, some 130), (1, none), (6, some 9), (7, none)], [(0, some 130), (1, none), (6, some 9), (7, none)]))]⟩
def S_GetField_cl (k : Nat) : Calls' D := ⟨[(94, S_JoinList_en k)], [], [], [], []⟩
theorem S_GetField_ck (k : Nat) : CallsOK X (S_GetField_cl k) := .cons (S_JoinList_eo k) (.nil cod)
def S_GetField_c21_L (x : (List IField) × (List UInt8) × Int × Bool × (List (List UInt8)) × Unit) (o : (List (List UInt8))) (Q : Ex → VSt D → Prop) (R : VR D → Prop) : Prop := Q .normal (mkSt ⟨[(0, .hole), (1, .hole), (6, .ref 500006), (7, .hole)], [(500006, .row)]⟩ [.sl 130 x.1, .str x.2.1, .int .i64 x.2.2.1, .sl 9 o])
def S_GetField_c21_cut (k : Nat) : Cut D := cutS ⟨[(0, .hole), (1, .hole), (6, .ref 500006), (7, .hole), (21, .hole)], [(500006, .row)]⟩ [.kl 130, .ks, .ki .i64, .kb, .kl 9] (fun (x : (List IField) × (List UInt8) × Int × Bool × (List (List UInt8)) × Unit) => S_GetField_c21 k x.1 x.2.1 x.2.2.1 x.2.2.2.1 x.2.2.2.2.1) S_GetField_c21_L
def S_GetField_c21_cu (k : Nat) : Cuts D := ⟨[], []⟩
theorem S_GetField_c21_ok (k : Nat) : CutFor X S_GetField_pl k Go.Proofs.Tryz.f60.results.toList (S_GetField_c21_cut k) (sub (bodyOf Go.Proofs.Tryz.f60) [1, 1, 0, 1, 0, 0, 1, 0, 0, 1]) :=
  joinCut_s (X := X) (sg := [.kl 130, .ks, .ki .i64, .kb, .kl 9]) (cu := S_GetField_c21_cu k) (cl := S_GetField_cl k) (tys := [[0], [0]]) (S_GetField_ck k) (cutOK_of (l := []) (by kernel_rfl) trivial) fun x Q R h => by
    simp only [S_GetField_c21, optK_bind, optK_bif, optK_pure, optK_none, optK_oc, optK_guardT, optK_map] at h
    refine hold_of h ?_
    kernel_rfl
def S_GetField_b1_L (x : (List IField) × (List UInt8) × Int × (List (List UInt8)) × Unit) (o : (List (List UInt8))) (Q : Ex → VSt D → Prop) (R : VR D → Prop) : Prop := Q .normal (mkSt ⟨[(0, .hole), (1, .hole), (6, .ref 500006), (7, .hole)], [(500006, .row)]⟩ [.sl 130 x.1, .str x.2.1, .int .i64 x.2.2.1, .sl 9 o])
def S_GetField_b1_cut (k : Nat) : Cut D := cutS ⟨[(0, .hole), (1, .hole), (6, .ref 500006), (7, .hole)], [(500006, .row)]⟩ [.kl 130, .ks, .ki .i64, .kl 9] (fun (x : (List IField) × (List UInt8) × Int × (List (List UInt8)) × Unit) => S_GetField_b1 k x.1 x.2.1 x.2.2.1 x.2.2.2.1) S_GetField_b1_L
def S_GetField_b1_cu (k : Nat) : Cuts D := ⟨[], [(21, some (S_GetField_c21_cut k))]⟩
theorem S_GetField_b1_ok (k : Nat) : CutFor X S_GetField_pl k Go.Proofs.Tryz.f60.results.toList (S_GetField_b1_cut k) (sub (bodyOf Go.Proofs.Tryz.f60) [1, 1, 0, 1, 0, 0, 1, 0]) :=
  joinCut_s (X := X) (sg := [.kl 130, .ks, .ki .i64, .kl 9]) (cu := S_GetField_b1_cu k) (cl := S_GetField_cl k) (tys := [[0], [0]]) (S_GetField_ck k) (cutOK_of (l := [(S_GetField_c21_cut k, sub (bodyOf Go.Proofs.Tryz.f60) [1, 1, 0, 1, 0, 0, 1, 0, 0, 1])]) (by kernel_rfl) ⟨S_GetField_c21_ok k, trivial⟩) fun x Q R h => by
    simp only [S_GetField_b1, optK_bind, optK_bif, optK_pure, optK_none, optK_oc, optK_guardT, optK_map] at h
    refine hold_of h ?_
    kernel_rfl
def S_GetField_b0_L (x : (List IField) × (List UInt8) × Int × (List (List UInt8)) × Unit) (o : (List (List UInt8))) (Q : Ex → VSt D → Prop) (R : VR D → Prop) : Prop := Q .normal (mkSt ⟨[(6, .ref 500006)], [(500006, .row)]⟩ [.sl 9 o])
def S_GetField_b0_cut (k : Nat) : Cut D := cutS ⟨[(0, .hole), (1, .hole), (6, .ref 500006), (7, .hole)], [(500006, .row)]⟩ [.kl 130, .ks, .ki .i64, .kl 9] (fun (x : (List IField) × (List UInt8) × Int × (List (List UInt8)) × Unit) => S_GetField_b0 k k x.1 x.2.1 x.2.2.1 x.2.2.2.1) S_GetField_b0_L
def S_GetField_b0_cu (k : Nat) : Cuts D := ⟨[(1, some (S_GetField_b1_cut k))], []⟩
theorem S_GetField_b0_ok (k : Nat) : CutFor X S_GetField_pl k Go.Proofs.Tryz.f60.results.toList (S_GetField_b0_cut k) (sub (bodyOf Go.Proofs.Tryz.f60) [1, 1, 0, 1]) :=
  loopCut_s (X := X) (sg := [.kl 130, .ks, .ki .i64, .kl 9]) (cu := S_GetField_b0_cu k) (cl := S_GetField_cl k) (tys := [[0], [0]]) (id := 0) (c := sub (bodyOf Go.Proofs.Tryz.f60) [1, 1, 0, 1, 0, 0]) (f := fun n => fun (x : (List IField) × (List UInt8) × Int × (List (List UInt8)) × Unit) => S_GetField_b0 k n x.1 x.2.1 x.2.2.1 x.2.2.2.1) (S_GetField_ck k) (cutOK_of (l := [(S_GetField_b1_cut k, sub (bodyOf Go.Proofs.Tryz.f60) [1, 1, 0, 1, 0, 0, 1, 0])]) (by kernel_rfl) ⟨S_GetField_b1_ok k, trivial⟩) (fun _ => rfl) (fun n x Q R h => by
    simp only [S_GetField_b0, optK_bind, optK_bif, optK_pure, optK_none, optK_oc, optK_guardT, optK_map] at h
    refine hold_of h ?_
    kernel_rfl) (by kernel_rfl)
def S_GetField_cu (k : Nat) : Cuts D := ⟨[(0, some (S_GetField_b0_cut k))], []⟩
def S_GetField_ar : List Ar := [.c (.kl 130), .c (.ks)]
def S_GetField_f (k : Nat) (x : TupA D S_GetField_ar) : Option ((List UInt8) × Bool) := S_GetField k x.1 x.2.1
def S_GetField_vr (r : (List UInt8) × Bool) : VR D := .tup [.c (.str r.1), .c (.bool r.2)]
theorem S_GetField_ok (k : Nat) : Does P X 60 S_GetField_ar (S_GetField_f k) S_GetField_vr :=
  does_of (body := bodyOf Go.Proofs.Tryz.f60) (pl := S_GetField_pl) (k := k) (cu := S_GetField_cu k) (tys := [[0], [0]]) (S_GetField_ck k) ctx mixed Go.Proofs.Tryz.func60 (by kernel_rfl) (by kernel_rfl) (cutOK_of (l := [(S_GetField_b0_cut k, sub (bodyOf Go.Proofs.Tryz.f60) [1, 1, 0, 1])]) (by kernel_rfl) ⟨S_GetField_b0_ok k, trivial⟩) fun x R h => by
    simp only [S_GetField_f, S_GetField, optK_bind, optK_bif, optK_pure, optK_none, optK_oc, optK_guardT, optK_map] at h
    refine hold_of h ?_
    kernel_rfl
def S_GetField_en (k : Nat) : Entry D := entS S_GetField_ar (S_GetField_f k) S_GetField_vr
theorem S_GetField_eo (k : Nat) : EntryOK X 60 (S_GetField_en k) := (S_GetField_ok k).en rfl
def S_l5Get_pl : Plan := ⟨[(0, [(0, some 130), (1, none)]), (1, [(5, none)]), (2, [(4, none)])],
  [],
  []⟩
def S_l5Get_cl (k : Nat) : Calls' D := ⟨[(60, S_GetField_en k)], [], [], [], []⟩
theorem S_l5Get_ck (k : Nat) : CallsOK X (S_l5Get_cl k) := .cons (S_GetField_eo k) (.nil cod)
def S_l5Get_cu (k : Nat) : Cuts D := ⟨[], []⟩
def S_l5Get_ar : List Ar := [.c (.kl 130), .c (.ks)]
def S_l5Get_f (k : Nat) (x : TupA D S_l5Get_ar) : Option ((List UInt8)) := S_l5Get k x.1 x.2.1
def S_l5Get_vr (r : (List UInt8)) : VR D := .p (.c (.str r))
theorem S_l5Get_ok (k : Nat) : Does P X 43 S_l5Get_ar (S_l5Get_f k) S_l5Get_vr :=
  does_of (body := bodyOf Go.Proofs.Tryz.f43) (pl := S_l5Get_pl) (k := k) (cu := S_l5Get_cu k) (tys := [[0]]) (S_l5Get_ck k) ctx mixed Go.Proofs.Tryz.func43 (by kernel_rfl) (by kernel_rfl) (cutOK_of (l := []) (by kernel_rfl) trivial) fun x R h => by
    simp only [S_l5Get_f, S_l5Get, optK_bind, optK_bif, optK_pure, optK_none, optK_oc, optK_guardT, optK_map] at h
    refine hold_of h ?_
    kernel_rfl
def S_l5Get_en (k : Nat) : Entry D := entS S_l5Get_ar (S_l5Get_f k) S_l5Get_vr
theorem S_l5Get_eo (k : Nat) : EntryOK X 43 (S_l5Get_en k) := (S_l5Get_ok k).en rfl
def S_l4Cut_pl : Plan := ⟨[(0, [(0, none), (1, none)]), (1, [(0, none), (1, none), (5, some 9)]), (2, [(0, none), (1, none), (5, some 9), (6, none)]), (3, [(0, none), (1, none), (5, some 9), (6, none), (7, none)]), (4, [(0, none), (1, none), (5, some 9), (6, none), (7, none), (8, none)]), (5, [(0, none), (1, none), (5, some 9), (6, none), (7, none), (8, none), (13, none)]), (6, [(0, none), (1, none), (5, some 9), (6, none), (7, none), (8, none)]), (7, [(0, none), (1, none), (5, some 9), (6, none), (7, none), (8, none), (16, none)]), (8, [(0, none), (1, none), (5, some 9), (6, none), (7, none), (8, none)]), (9, [(0, none), (1, none), (5, some 9), (6, none), (7, none), (8, none), (26, none)]), (10, [(0, none), (1, none), (5, some 9), (6, none), (7, none), (8, none)]), (11, [(0, none), (1, none), (5, some 9), (6, none), (7, none), (8, none), (33, none)]), (12, [(0, none), (1, none), (5, some 9), (7, none), (8, none)]), (13, [(0, none), (1, none), (5, some 9), (6, none), (7, none), (8, none)]), (14, [(4, some 9)])],
  [(0, [(0, none), (5, some 9), (6, none)]), (1, [(0, none), (1, none), (5, some 9), (6, none), (7, none), (8, none)]), (2, [(0, none), (1, none), (5, some 9), (6, none), (7, none), (8, none)])],
  [(13, ([(0, none), (1, none), (5, some 9), (6, none), (7, none), (8, none)], [(0, none), (5, some 9), (6, none)])), (16, ([(0, none), (1, none), (5, some 9), (6, none), (7, none), (8, none)], [(0, none), (1, none), (5, some 9), (6, none), (7, none), (8, none)])), (26, ([(0, none), (1, none), (5, some 9), (6, none), (7, none), (8, none)], [(0, none), (1, none), (5, some 9), (6, none), (7, none), (8, none)])), (33, ([(0, none), (1, none), (5, some 9), (6, none), (7, none), (8, none)], [(0, none), (1, none), (5, some 9), (6, none), (7, none), (8, none)]))]⟩
def S_l4Cut_cl (k : Nat) : Calls' D := ⟨[], [], [], [], []⟩
theorem S_l4Cut_ck (k : Nat) : CallsOK X (S_l4Cut_cl k) := .nil cod
def S_l4Cut_c33_L (x : (List UInt8) × Int × Int × Bool × Int × Bool × (List (List UInt8)) × Unit) (o : Int × (List (List UInt8))) (Q : Ex → VSt D → Prop) (R : VR D → Prop) : Prop := Q .normal (mkSt ⟨[(0, .hole), (1, .hole), (5, .ref 500005), (6, .hole), (7, .hole), (8, .hole)], [(500005, .row)]⟩ [.str x.1, .int .u8 x.2.1, .int .i64 o.1, .bool x.2.2.2.1, .int .i64 x.2.2.2.2.1, .sl 9 o.2])
def S_l4Cut_c33_cut (k : Nat) : Cut D := cutS ⟨[(0, .hole), (1, .hole), (5, .ref 500005), (6, .hole), (7, .hole), (8, .hole), (33, .hole)], [(500005, .row)]⟩ [.ks, .ki .u8, .ki .i64, .kb, .ki .i64, .kb, .kl 9] (fun (x : (List UInt8) × Int × Int × Bool × Int × Bool × (List (List UInt8)) × Unit) => S_l4Cut_c33 k x.1 x.2.1 x.2.2.1 x.2.2.2.1 x.2.2.2.2.1 x.2.2.2.2.2.1 x.2.2.2.2.2.2.1) S_l4Cut_c33_L
def S_l4Cut_c33_cu (k : Nat) : Cuts D := ⟨[], []⟩
theorem S_l4Cut_c33_ok (k : Nat) : CutFor X S_l4Cut_pl k Go.Proofs.Tryz.f164.results.toList (S_l4Cut_c33_cut k) (sub (bodyOf Go.Proofs.Tryz.f164) [1, 1, 1, 1, 0, 1, 0, 0, 1, 0, 0, 0, 1, 1, 1, 1, 1]) :=
  joinCut_s (X := X) (sg := [.ks, .ki .u8, .ki .i64, .kb, .ki .i64, .kb, .kl 9]) (cu := S_l4Cut_c33_cu k) (cl := S_l4Cut_cl k) (tys := [[9]]) (S_l4Cut_ck k) (cutOK_of (l := []) (by kernel_rfl) trivial) fun x Q R h => by
    simp only [S_l4Cut_c33, optK_bind, optK_bif, optK_pure, optK_none, optK_oc, optK_guardT, optK_map] at h
    refine hold_of h ?_
    kernel_rfl
def S_l4Cut_c26_L (x : (List UInt8) × Int × Int × Bool × Int × Bool × (List (List UInt8)) × Unit) (o : Int × Bool × (List (List UInt8))) (Q : Ex → VSt D → Prop) (R : VR D → Prop) : Prop := Q .normal (mkSt ⟨[(0, .hole), (1, .hole), (5, .ref 500005), (6, .hole), (7, .hole), (8, .hole)], [(500005, .row)]⟩ [.str x.1, .int .u8 x.2.1, .int .i64 o.1, .bool o.2.1, .int .i64 x.2.2.2.2.1, .sl 9 o.2.2])
def S_l4Cut_c26_cut (k : Nat) : Cut D := cutS ⟨[(0, .hole), (1, .hole), (5, .ref 500005), (6, .hole), (7, .hole), (8, .hole), (26, .hole)], [(500005, .row)]⟩ [.ks, .ki .u8, .ki .i64, .kb, .ki .i64, .kb, .kl 9] (fun (x : (List UInt8) × Int × Int × Bool × Int × Bool × (List (List UInt8)) × Unit) => S_l4Cut_c26 k x.1 x.2.1 x.2.2.1 x.2.2.2.1 x.2.2.2.2.1 x.2.2.2.2.2.1 x.2.2.2.2.2.2.1) S_l4Cut_c26_L
def S_l4Cut_c26_cu (k : Nat) : Cuts D := ⟨[], [(33, some (S_l4Cut_c33_cut k))]⟩
theorem S_l4Cut_c26_ok (k : Nat) : CutFor X S_l4Cut_pl k Go.Proofs.Tryz.f164.results.toList (S_l4Cut_c26_cut k) (sub (bodyOf Go.Proofs.Tryz.f164) [1, 1, 1, 1, 0, 1, 0, 0, 1, 0, 0, 0, 1, 1, 1]) :=
  joinCut_s (X := X) (sg := [.ks, .ki .u8, .ki .i64, .kb, .ki .i64, .kb, .kl 9]) (cu := S_l4Cut_c26_cu k) (cl := S_l4Cut_cl k) (tys := [[9]]) (S_l4Cut_ck k) (cutOK_of (l := [(S_l4Cut_c33_cut k, sub (bodyOf Go.Proofs.Tryz.f164) [1, 1, 1, 1, 0, 1, 0, 0, 1, 0, 0, 0, 1, 1, 1, 1, 1])]) (by kernel_rfl) ⟨S_l4Cut_c33_ok k, trivial⟩) fun x Q R h => by
    simp only [S_l4Cut_c26, optK_bind, optK_bif, optK_pure, optK_none, optK_oc, optK_guardT, optK_map] at h
    refine hold_of h ?_
    kernel_rfl
def S_l4Cut_c16_L (x : (List UInt8) × Int × Int × Bool × Int × Bool × (List (List UInt8)) × Unit) (o : Int × Bool × Int × (List (List UInt8))) (Q : Ex → VSt D → Prop) (R : VR D → Prop) : Prop := Q .normal (mkSt ⟨[(0, .hole), (1, .hole), (5, .ref 500005), (6, .hole), (7, .hole), (8, .hole)], [(500005, .row)]⟩ [.str x.1, .int .u8 x.2.1, .int .i64 o.1, .bool o.2.1, .int .i64 o.2.2.1, .sl 9 o.2.2.2])
def S_l4Cut_c16_cut (k : Nat) : Cut D := cutS ⟨[(0, .hole), (1, .hole), (5, .ref 500005), (6, .hole), (7, .hole), (8, .hole), (16, .hole)], [(500005, .row)]⟩ [.ks, .ki .u8, .ki .i64, .kb, .ki .i64, .kb, .kl 9] (fun (x : (List UInt8) × Int × Int × Bool × Int × Bool × (List (List UInt8)) × Unit) => S_l4Cut_c16 k x.1 x.2.1 x.2.2.1 x.2.2.2.1 x.2.2.2.2.1 x.2.2.2.2.2.1 x.2.2.2.2.2.2.1) S_l4Cut_c16_L
def S_l4Cut_c16_cu (k : Nat) : Cuts D := ⟨[], [(26, some (S_l4Cut_c26_cut k))]⟩
theorem S_l4Cut_c16_ok (k : Nat) : CutFor X S_l4Cut_pl k Go.Proofs.Tryz.f164.results.toList (S_l4Cut_c16_cut k) (sub (bodyOf Go.Proofs.Tryz.f164) [1, 1, 1, 1, 0, 1, 0, 0, 1, 0, 0, 0, 1]) :=
  joinCut_s (X := X) (sg := [.ks, .ki .u8, .ki .i64, .kb, .ki .i64, .kb, .kl 9]) (cu := S_l4Cut_c16_cu k) (cl := S_l4Cut_cl k) (tys := [[9]]) (S_l4Cut_ck k) (cutOK_of (l := [(S_l4Cut_c26_cut k, sub (bodyOf Go.Proofs.Tryz.f164) [1, 1, 1, 1, 0, 1, 0, 0, 1, 0, 0, 0, 1, 1, 1])]) (by kernel_rfl) ⟨S_l4Cut_c26_ok k, trivial⟩) fun x Q R h => by
    simp only [S_l4Cut_c16, optK_bind, optK_bif, optK_pure, optK_none, optK_oc, optK_guardT, optK_map] at h
    refine hold_of h ?_
    kernel_rfl
def S_l4Cut_b2_L (x : (List UInt8) × Int × Int × Bool × Int × (List (List UInt8)) × Unit) (o : Int × Bool × Int × (List (List UInt8))) (Q : Ex → VSt D → Prop) (R : VR D → Prop) : Prop := Q .normal (mkSt ⟨[(0, .hole), (1, .hole), (5, .ref 500005), (6, .hole), (7, .hole), (8, .hole)], [(500005, .row)]⟩ [.str x.1, .int .u8 x.2.1, .int .i64 o.1, .bool o.2.1, .int .i64 o.2.2.1, .sl 9 o.2.2.2])
def S_l4Cut_b2_cut (k : Nat) : Cut D := cutS ⟨[(0, .hole), (1, .hole), (5, .ref 500005), (6, .hole), (7, .hole), (8, .hole)], [(500005, .row)]⟩ [.ks, .ki .u8, .ki .i64, .kb, .ki .i64, .kl 9] (fun (x : (List UInt8) × Int × Int × Bool × Int × (List (List UInt8)) × Unit) => S_l4Cut_b2 k x.1 x.2.1 x.2.2.1 x.2.2.2.1 x.2.2.2.2.1 x.2.2.2.2.2.1) S_l4Cut_b2_L
def S_l4Cut_b2_cu (k : Nat) : Cuts D := ⟨[], [(16, some (S_l4Cut_c16_cut k))]⟩
theorem S_l4Cut_b2_ok (k : Nat) : CutFor X S_l4Cut_pl k Go.Proofs.Tryz.f164.results.toList (S_l4Cut_b2_cut k) (sub (bodyOf Go.Proofs.Tryz.f164) [1, 1, 1, 1, 0, 1, 0, 0, 1, 0, 0]) :=
  joinCut_s (X := X) (sg := [.ks, .ki .u8, .ki .i64, .kb, .ki .i64, .kl 9]) (cu := S_l4Cut_b2_cu k) (cl := S_l4Cut_cl k) (tys := [[9]]) (S_l4Cut_ck k) (cutOK_of (l := [(S_l4Cut_c16_cut k, sub (bodyOf Go.Proofs.Tryz.f164) [1, 1, 1, 1, 0, 1, 0, 0, 1, 0, 0, 0, 1])]) (by kernel_rfl) ⟨S_l4Cut_c16_ok k, trivial⟩) fun x Q R h => by
    simp only [S_l4Cut_b2, optK_bind, optK_bif, optK_pure, optK_none, optK_oc, optK_guardT, optK_map] at h
    refine hold_of h ?_
    kernel_rfl
def S_l4Cut_b1_L (x : (List UInt8) × Int × Int × Bool × Int × (List (List UInt8)) × Unit) (o : Int × Bool × Int × (List (List UInt8))) (Q : Ex → VSt D → Prop) (R : VR D → Prop) : Prop := Q .normal (mkSt ⟨[(0, .hole), (1, .hole), (5, .ref 500005), (6, .hole), (7, .hole), (8, .hole)], [(500005, .row)]⟩ [.str x.1, .int .u8 x.2.1, .int .i64 o.1, .bool o.2.1, .int .i64 o.2.2.1, .sl 9 o.2.2.2])
def S_l4Cut_b1_cut (k : Nat) : Cut D := cutS ⟨[(0, .hole), (1, .hole), (5, .ref 500005), (6, .hole), (7, .hole), (8, .hole)], [(500005, .row)]⟩ [.ks, .ki .u8, .ki .i64, .kb, .ki .i64, .kl 9] (fun (x : (List UInt8) × Int × Int × Bool × Int × (List (List UInt8)) × Unit) => S_l4Cut_b1 k x.1 x.2.1 x.2.2.1 x.2.2.2.1 x.2.2.2.2.1 x.2.2.2.2.2.1) S_l4Cut_b1_L
def S_l4Cut_b1_cu (k : Nat) : Cuts D := ⟨[(2, some (S_l4Cut_b2_cut k))], []⟩
theorem S_l4Cut_b1_ok (k : Nat) : CutFor X S_l4Cut_pl k Go.Proofs.Tryz.f164.results.toList (S_l4Cut_b1_cut k) (sub (bodyOf Go.Proofs.Tryz.f164) [1, 1, 1, 1, 0, 1, 0, 0, 1, 0]) :=
  joinCut_s (X := X) (sg := [.ks, .ki .u8, .ki .i64, .kb, .ki .i64, .kl 9]) (cu := S_l4Cut_b1_cu k) (cl := S_l4Cut_cl k) (tys := [[9]]) (S_l4Cut_ck k) (cutOK_of (l := [(S_l4Cut_b2_cut k, sub (bodyOf Go.Proofs.Tryz.f164) [1, 1, 1, 1, 0, 1, 0, 0, 1, 0, 0])]) (by kernel_rfl) ⟨S_l4Cut_b2_ok k, trivial⟩) fun x Q R h => by
    simp only [S_l4Cut_b1, optK_bind, optK_bif, optK_pure, optK_none, optK_oc, optK_guardT, optK_map] at h
    refine hold_of h ?_
    kernel_rfl
def S_l4Cut_b0_L (x : (List UInt8) × Int × Int × Bool × Int × (List (List UInt8)) × Unit) (o : Int × (List (List UInt8))) (Q : Ex → VSt D → Prop) (R : VR D → Prop) : Prop := Q .normal (mkSt ⟨[(0, .hole), (5, .ref 500005), (6, .hole)], [(500005, .row)]⟩ [.str x.1, .int .i64 o.1, .sl 9 o.2])
def S_l4Cut_b0_cut (k : Nat) : Cut D := cutS ⟨[(0, .hole), (1, .hole), (5, .ref 500005), (6, .hole), (7, .hole), (8, .hole)], [(500005, .row)]⟩ [.ks, .ki .u8, .ki .i64, .kb, .ki .i64, .kl 9] (fun (x : (List UInt8) × Int × Int × Bool × Int × (List (List UInt8)) × Unit) => S_l4Cut_b0 k k x.1 x.2.1 x.2.2.1 x.2.2.2.1 x.2.2.2.2.1 x.2.2.2.2.2.1) S_l4Cut_b0_L
def S_l4Cut_b0_cu (k : Nat) : Cuts D := ⟨[(1, some (S_l4Cut_b1_cut k))], []⟩
theorem S_l4Cut_b0_ok (k : Nat) : CutFor X S_l4Cut_pl k Go.Proofs.Tryz.f164.results.toList (S_l4Cut_b0_cut k) (sub (bodyOf Go.Proofs.Tryz.f164) [1, 1, 1, 1, 0, 1]) :=
  loopCut_s (X := X) (sg := [.ks, .ki .u8, .ki .i64, .kb, .ki .i64, .kl 9]) (cu := S_l4Cut_b0_cu k) (cl := S_l4Cut_cl k) (tys := [[9]]) (id := 0) (c := sub (bodyOf Go.Proofs.Tryz.f164) [1, 1, 1, 1, 0, 1, 0, 0]) (f := fun n => fun (x : (List UInt8) × Int × Int × Bool × Int × (List (List UInt8)) × Unit) => S_l4Cut_b0 k n x.1 x.2.1 x.2.2.1 x.2.2.2.1 x.2.2.2.2.1 x.2.2.2.2.2.1) (S_l4Cut_ck k) (cutOK_of (l := [(S_l4Cut_b1_cut k, sub (bodyOf Go.Proofs.Tryz.f164) [1, 1, 1, 1, 0, 1, 0, 0, 1, 0])]) (by kernel_rfl) ⟨S_l4Cut_b1_ok k, trivial⟩) (fun _ => rfl) (fun n x Q R h => by
    simp only [S_l4Cut_b0, optK_bind, optK_bif, optK_pure, optK_none, optK_oc, optK_guardT, optK_map] at h
    refine hold_of h ?_
    kernel_rfl) (by kernel_rfl)
def S_l4Cut_cu (k : Nat) : Cuts D := ⟨[(0, some (S_l4Cut_b0_cut k))], []⟩
def S_l4Cut_ar : List Ar := [.c (.ks), .c (.ki .u8)]
def S_l4Cut_f (k : Nat) (x : TupA D S_l4Cut_ar) : Option ((List (List UInt8))) := S_l4Cut k x.1 x.2.1
def S_l4Cut_vr (r : (List (List UInt8))) : VR D := .p (.c (.sl 9 r))
theorem S_l4Cut_ok (k : Nat) : Does P X 164 S_l4Cut_ar (S_l4Cut_f k) S_l4Cut_vr :=
  does_of (body := bodyOf Go.Proofs.Tryz.f164) (pl := S_l4Cut_pl) (k := k) (cu := S_l4Cut_cu k) (tys := [[9]]) (S_l4Cut_ck k) ctx mixed Go.Proofs.Tryz.func164 (by kernel_rfl) (by kernel_rfl) (cutOK_of (l := [(S_l4Cut_b0_cut k, sub (bodyOf Go.Proofs.Tryz.f164) [1, 1, 1, 1, 0, 1])]) (by kernel_rfl) ⟨S_l4Cut_b0_ok k, trivial⟩) fun x R h => by
    simp only [S_l4Cut_f, S_l4Cut, optK_bind, optK_bif, optK_pure, optK_none, optK_oc, optK_guardT, optK_map] at h
    refine hold_of h ?_
    kernel_rfl
def S_l4Cut_en (k : Nat) : Entry D := entS S_l4Cut_ar (S_l4Cut_f k) S_l4Cut_vr
theorem S_l4Cut_eo (k : Nat) : EntryOK X 164 (S_l4Cut_en k) := (S_l4Cut_ok k).en rfl
def S_l4Blank_pl : Plan := ⟨[(0, [(0, none)]), (1, [(2, none)])],
  [],
  []⟩
def S_l4Blank_cl (k : Nat) : Calls' D := ⟨[], [], [], [], []⟩
theorem S_l4Blank_ck (k : Nat) : CallsOK X (S_l4Blank_cl k) := .nil cod
def S_l4Blank_cu (k : Nat) : Cuts D := ⟨[], []⟩
def S_l4Blank_ar : List Ar := [.c (.ki .u8)]
def S_l4Blank_f (k : Nat) (x : TupA D S_l4Blank_ar) : Option (Bool) := S_l4Blank k x.1
def S_l4Blank_vr (r : Bool) : VR D := .p (.c (.bool r))
theorem S_l4Blank_ok (k : Nat) : Does P X 218 S_l4Blank_ar (S_l4Blank_f k) S_l4Blank_vr :=
  does_of (body := bodyOf Go.Proofs.Tryz.f218) (pl := S_l4Blank_pl) (k := k) (cu := S_l4Blank_cu k) (tys := [[0]]) (S_l4Blank_ck k) ctx mixed Go.Proofs.Tryz.func218 (by kernel_rfl) (by kernel_rfl) (cutOK_of (l := []) (by kernel_rfl) trivial) fun x R h => by
    simp only [S_l4Blank_f, S_l4Blank, optK_bind, optK_bif, optK_pure, optK_none, optK_oc, optK_guardT, optK_map] at h
    refine hold_of h ?_
    kernel_rfl
def S_l4Blank_en (k : Nat) : Entry D := entS S_l4Blank_ar (S_l4Blank_f k) S_l4Blank_vr
theorem S_l4Blank_eo (k : Nat) : EntryOK X 218 (S_l4Blank_en k) := (S_l4Blank_ok k).en rfl
def S_TrimText_pl : Plan := ⟨[(0, [(0, none)]), (1, [(0, none), (10, none)]), (2, [(0, none)]), (3, [(0, none), (23, none)]), (4, [(0, none)]), (5, [(2, none)])],
  [(0, [(0, none)]), (1, [(0, none)]), (2, [(0, none)]), (3, [(0, none)])],
  [(10, ([(0, none)], [(0, none)])), (23, ([(0, none)], [(0, none)]))]⟩
def S_TrimText_cl (k : Nat) : Calls' D := ⟨[(218, S_l4Blank_en k)], [], [], [], []⟩
theorem S_TrimText_ck (k : Nat) : CallsOK X (S_TrimText_cl k) := .cons (S_l4Blank_eo k) (.nil cod)
def S_TrimText_b0_L (x : (List UInt8) × Unit) (o : (List UInt8)) (Q : Ex → VSt D → Prop) (R : VR D → Prop) : Prop := Q .normal (mkSt ⟨[(0, .hole)], []⟩ [.str o])
def S_TrimText_b0_cut (k : Nat) : Cut D := cutS ⟨[(0, .hole)], []⟩ [.ks] (fun (x : (List UInt8) × Unit) => S_TrimText_b0 k k x.1) S_TrimText_b0_L
def S_TrimText_b0_cu (k : Nat) : Cuts D := ⟨[], []⟩
theorem S_TrimText_b0_ok (k : Nat) : CutFor X S_TrimText_pl k Go.Proofs.Tryz.f161.results.toList (S_TrimText_b0_cut k) (sub (bodyOf Go.Proofs.Tryz.f161) [1, 0]) :=
  loopCut_s (X := X) (sg := [.ks]) (cu := S_TrimText_b0_cu k) (cl := S_TrimText_cl k) (tys := [[0]]) (id := 0) (c := sub (bodyOf Go.Proofs.Tryz.f161) [1, 0, 0, 0]) (f := fun n => fun (x : (List UInt8) × Unit) => S_TrimText_b0 k n x.1) (S_TrimText_ck k) (cutOK_of (l := []) (by kernel_rfl) trivial) (fun _ => rfl) (fun n x Q R h => by
    simp only [S_TrimText_b0, optK_bind, optK_bif, optK_pure, optK_none, optK_oc, optK_guardT, optK_map] at h
    refine hold_of h ?_
    kernel_rfl) (by kernel_rfl)
def S_TrimText_b2_L (x : (List UInt8) × Unit) (o : (List UInt8)) (Q : Ex → VSt D → Prop) (R : VR D → Prop) : Prop := Q .normal (mkSt ⟨[(0, .hole)], []⟩ [.str o])
def S_TrimText_b2_cut (k : Nat) : Cut D := cutS ⟨[(0, .hole)], []⟩ [.ks] (fun (x : (List UInt8) × Unit) => S_TrimText_b2 k k x.1) S_TrimText_b2_L
def S_TrimText_b2_cu (k : Nat) : Cuts D := ⟨[], []⟩
theorem S_TrimText_b2_ok (k : Nat) : CutFor X S_TrimText_pl k Go.Proofs.Tryz.f161.results.toList (S_TrimText_b2_cut k) (sub (bodyOf Go.Proofs.Tryz.f161) [1, 1, 0]) :=
  loopCut_s (X := X) (sg := [.ks]) (cu := S_TrimText_b2_cu k) (cl := S_TrimText_cl k) (tys := [[0]]) (id := 2) (c := sub (bodyOf Go.Proofs.Tryz.f161) [1, 1, 0, 0, 0]) (f := fun n => fun (x : (List UInt8) × Unit) => S_TrimText_b2 k n x.1) (S_TrimText_ck k) (cutOK_of (l := []) (by kernel_rfl) trivial) (fun _ => rfl) (fun n x Q R h => by
    simp only [S_TrimText_b2, optK_bind, optK_bif, optK_pure, optK_none, optK_oc, optK_guardT, optK_map] at h
    refine hold_of h ?_
    kernel_rfl) (by kernel_rfl)
def S_TrimText_cu (k : Nat) : Cuts D := ⟨[(0, some (S_TrimText_b0_cut k)), (2, some (S_TrimText_b2_cut k))], []⟩
def S_TrimText_ar : List Ar := [.c (.ks)]
def S_TrimText_f (k : Nat) (x : TupA D S_TrimText_ar) : Option ((List UInt8)) := S_TrimText k x.1
def S_TrimText_vr (r : (List UInt8)) : VR D := .p (.c (.str r))
theorem S_TrimText_ok (k : Nat) : Does P X 161 S_TrimText_ar (S_TrimText_f k) S_TrimText_vr :=
  does_of (body := bodyOf Go.Proofs.Tryz.f161) (pl := S_TrimText_pl) (k := k) (cu := S_TrimText_cu k) (tys := [[0]]) (S_TrimText_ck k) ctx mixed Go.Proofs.Tryz.func161 (by kernel_rfl) (by kernel_rfl) (cutOK_of (l := [(S_TrimText_b0_cut k, sub (bodyOf Go.Proofs.Tryz.f161) [1, 0]), (S_TrimText_b2_cut k, sub (bodyOf Go.Proofs.Tryz.f161) [1, 1, 0])]) (by kernel_rfl) ⟨S_TrimText_b0_ok k, S_TrimText_b2_ok k, trivial⟩) fun x R h => by
    simp only [S_TrimText_f, S_TrimText, optK_bind, optK_bif, optK_pure, optK_none, optK_oc, optK_guardT, optK_map] at h
    refine hold_of h ?_
    kernel_rfl
def S_TrimText_en (k : Nat) : Entry D := entS S_TrimText_ar (S_TrimText_f k) S_TrimText_vr
theorem S_TrimText_eo (k : Nat) : EntryOK X 161 (S_TrimText_en k) := (S_TrimText_ok k).en rfl
def S_SplitList_pl : Plan := ⟨[(0, [(0, none)]), (1, [(3, some 9)]), (2, [(3, some 9), (4, some 9)]), (3, [(3, some 9), (4, some 9), (5, none)]), (4, [(3, some 9), (4, some 9), (5, none), (13, none)]), (5, [(3, some 9), (4, some 9), (5, none)]), (6, [(3, some 9), (4, some 9), (5, none), (6, none)]), (7, [(3, some 9), (4, some 9), (5, none), (6, none), (22, none)]), (8, [(3, some 9), (4, some 9), (5, none)]), (9, [(2, some 9)])],
  [(0, [(4, some 9)]), (1, [(3, some 9), (4, some 9), (5, none)])],
  [(13, ([(3, some 9), (4, some 9), (5, none)], [(4, some 9)])), (22, ([(3, some 9), (4, some 9), (5, none), (6, none)], [(3, some 9), (4, some 9), (5, none)]))]⟩
def S_SplitList_cl (k : Nat) : Calls' D := ⟨[(164, S_l4Cut_en k), (161, S_TrimText_en k)], [], [], [], []⟩
theorem S_SplitList_ck (k : Nat) : CallsOK X (S_SplitList_cl k) := .cons (S_l4Cut_eo k) (.cons (S_TrimText_eo k) (.nil cod))
def S_SplitList_c22_L (x : Int × (List UInt8) × Bool × (List (List UInt8)) × (List (List UInt8)) × Unit) (o : (List (List UInt8))) (Q : Ex → VSt D → Prop) (R : VR D → Prop) : Prop := Q .normal (mkSt ⟨[(3, .ref 500003), (4, .ref 500004), (5, .hole)], [(500003, .row), (500004, .row)]⟩ [.int .i64 x.1, .sl 9 x.2.2.2.1, .sl 9 o])
def S_SplitList_c22_cut (k : Nat) : Cut D := cutS ⟨[(3, .ref 500003), (4, .ref 500004), (5, .hole), (6, .hole), (22, .hole)], [(500003, .row), (500004, .row)]⟩ [.ki .i64, .ks, .kb, .kl 9, .kl 9] (fun (x : Int × (List UInt8) × Bool × (List (List UInt8)) × (List (List UInt8)) × Unit) => S_SplitList_c22 k x.1 x.2.1 x.2.2.1 x.2.2.2.1 x.2.2.2.2.1) S_SplitList_c22_L
def S_SplitList_c22_cu (k : Nat) : Cuts D := ⟨[], []⟩
theorem S_SplitList_c22_ok (k : Nat) : CutFor X S_SplitList_pl k Go.Proofs.Tryz.f95.results.toList (S_SplitList_c22_cut k) (sub (bodyOf Go.Proofs.Tryz.f95) [1, 1, 1, 0, 1, 0, 0, 1, 0, 0, 1, 1]) :=
  joinCut_s (X := X) (sg := [.ki .i64, .ks, .kb, .kl 9, .kl 9]) (cu := S_SplitList_c22_cu k) (cl := S_SplitList_cl k) (tys := [[9]]) (S_SplitList_ck k) (cutOK_of (l := []) (by kernel_rfl) trivial) fun x Q R h => by
    simp only [S_SplitList_c22, optK_bind, optK_bif, optK_pure, optK_none, optK_oc, optK_guardT, optK_map] at h
    refine hold_of h ?_
    kernel_rfl
def S_SplitList_b1_L (x : Int × (List (List UInt8)) × (List (List UInt8)) × Unit) (o : (List (List UInt8))) (Q : Ex → VSt D → Prop) (R : VR D → Prop) : Prop := Q .normal (mkSt ⟨[(3, .ref 500003), (4, .ref 500004), (5, .hole)], [(500003, .row), (500004, .row)]⟩ [.int .i64 x.1, .sl 9 x.2.1, .sl 9 o])
def S_SplitList_b1_cut (k : Nat) : Cut D := cutS ⟨[(3, .ref 500003), (4, .ref 500004), (5, .hole)], [(500003, .row), (500004, .row)]⟩ [.ki .i64, .kl 9, .kl 9] (fun (x : Int × (List (List UInt8)) × (List (List UInt8)) × Unit) => S_SplitList_b1 k x.1 x.2.1 x.2.2.1) S_SplitList_b1_L
def S_SplitList_b1_cu (k : Nat) : Cuts D := ⟨[], [(22, some (S_SplitList_c22_cut k))]⟩
theorem S_SplitList_b1_ok (k : Nat) : CutFor X S_SplitList_pl k Go.Proofs.Tryz.f95.results.toList (S_SplitList_b1_cut k) (sub (bodyOf Go.Proofs.Tryz.f95) [1, 1, 1, 0, 1, 0, 0, 1, 0]) :=
  joinCut_s (X := X) (sg := [.ki .i64, .kl 9, .kl 9]) (cu := S_SplitList_b1_cu k) (cl := S_SplitList_cl k) (tys := [[9]]) (S_SplitList_ck k) (cutOK_of (l := [(S_SplitList_c22_cut k, sub (bodyOf Go.Proofs.Tryz.f95) [1, 1, 1, 0, 1, 0, 0, 1, 0, 0, 1, 1])]) (by kernel_rfl) ⟨S_SplitList_c22_ok k, trivial⟩) fun x Q R h => by
    simp only [S_SplitList_b1, optK_bind, optK_bif, optK_pure, optK_none, optK_oc, optK_guardT, optK_map] at h
    refine hold_of h ?_
    kernel_rfl
def S_SplitList_b0_L (x : Int × (List (List UInt8)) × (List (List UInt8)) × Unit) (o : (List (List UInt8))) (Q : Ex → VSt D → Prop) (R : VR D → Prop) : Prop := Q .normal (mkSt ⟨[(4, .ref 500004)], [(500004, .row)]⟩ [.sl 9 o])
def S_SplitList_b0_cut (k : Nat) : Cut D := cutS ⟨[(3, .ref 500003), (4, .ref 500004), (5, .hole)], [(500003, .row), (500004, .row)]⟩ [.ki .i64, .kl 9, .kl 9] (fun (x : Int × (List (List UInt8)) × (List (List UInt8)) × Unit) => S_SplitList_b0 k k x.1 x.2.1 x.2.2.1) S_SplitList_b0_L
def S_SplitList_b0_cu (k : Nat) : Cuts D := ⟨[(1, some (S_SplitList_b1_cut k))], []⟩
theorem S_SplitList_b0_ok (k : Nat) : CutFor X S_SplitList_pl k Go.Proofs.Tryz.f95.results.toList (S_SplitList_b0_cut k) (sub (bodyOf Go.Proofs.Tryz.f95) [1, 1, 1, 0, 1]) :=
  loopCut_s (X := X) (sg := [.ki .i64, .kl 9, .kl 9]) (cu := S_SplitList_b0_cu k) (cl := S_SplitList_cl k) (tys := [[9]]) (id := 0) (c := sub (bodyOf Go.Proofs.Tryz.f95) [1, 1, 1, 0, 1, 0, 0]) (f := fun n => fun (x : Int × (List (List UInt8)) × (List (List UInt8)) × Unit) => S_SplitList_b0 k n x.1 x.2.1 x.2.2.1) (S_SplitList_ck k) (cutOK_of (l := [(S_SplitList_b1_cut k, sub (bodyOf Go.Proofs.Tryz.f95) [1, 1, 1, 0, 1, 0, 0, 1, 0])]) (by kernel_rfl) ⟨S_SplitList_b1_ok k, trivial⟩) (fun _ => rfl) (fun n x Q R h => by
    simp only [S_SplitList_b0, optK_bind, optK_bif, optK_pure, optK_none, optK_oc, optK_guardT, optK_map] at h
    refine hold_of h ?_
    kernel_rfl) (by kernel_rfl)
def S_SplitList_cu (k : Nat) : Cuts D := ⟨[(0, some (S_SplitList_b0_cut k))], []⟩
def S_SplitList_ar : List Ar := [.c (.ks)]
def S_SplitList_f (k : Nat) (x : TupA D S_SplitList_ar) : Option ((List (List UInt8))) := S_SplitList k x.1
def S_SplitList_vr (r : (List (List UInt8))) : VR D := .p (.c (.sl 9 r))
theorem S_SplitList_ok (k : Nat) : Does P X 95 S_SplitList_ar (S_SplitList_f k) S_SplitList_vr :=
  does_of (body := bodyOf Go.Proofs.Tryz.f95) (pl := S_SplitList_pl) (k := k) (cu := S_SplitList_cu k) (tys := [[9]]) (S_SplitList_ck k) ctx mixed Go.Proofs.Tryz.func95 (by kernel_rfl) (by kernel_rfl) (cutOK_of (l := [(S_SplitList_b0_cut k, sub (bodyOf Go.Proofs.Tryz.f95) [1, 1, 1, 0, 1])]) (by kernel_rfl) ⟨S_SplitList_b0_ok k, trivial⟩) fun x R h => by
    simp only [S_SplitList_f, S_SplitList, optK_bind, optK_bif, optK_pure, optK_none, optK_oc, optK_guardT, optK_map] at h
    refine hold_of h ?_
    kernel_rfl
def S_SplitList_en (k : Nat) : Entry D := entS S_SplitList_ar (S_SplitList_f k) S_SplitList_vr
theorem S_SplitList_eo (k : Nat) : EntryOK X 95 (S_SplitList_en k) := (S_SplitList_ok k).en rfl
def S_l12Split_pl : Plan := ⟨[(0, [(0, none), (1, none)]), (1, [(0, none), (1, none), (5, some 9)]), (2, [(0, none), (1, none), (5, some 9), (6, none)]), (3, [(0, none), (1, none), (5, some 9), (6, none), (7, none)]), (4, [(0, none), (1, none), (5, some 9), (6, none), (7, none), (12, none)]), (5, [(0, none), (1, none), (5, some 9), (6, none), (7, none)]), (6, [(0, none), (1, none), (5, some 9), (6, none), (7, none), (19, none)]), (7, [(0, none), (1, none), (5, some 9), (7, none)]), (8, [(0, none), (1, none), (5, some 9), (6, none), (7, none)]), (9, [(4, some 9)])],
  [(0, [(0, none), (5, some 9), (6, none)]), (1, [(0, none), (1, none), (5, some 9), (6, none), (7, none)])],
  [(12, ([(0, none), (1, none), (5, some 9), (6, none), (7, none)], [(0, none), (5, some 9), (6, none)])), (19, ([(0, none), (1, none), (5, some 9), (6, none), (7, none)], [(0, none), (1, none), (5, some 9), (6, none), (7, none)]))]⟩
def S_l12Split_cl (k : Nat) : Calls' D := ⟨[], [], [], [], []⟩
theorem S_l12Split_ck (k : Nat) : CallsOK X (S_l12Split_cl k) := .nil cod
def S_l12Split_c19_L (x : (List UInt8) × Int × Int × Int × Bool × (List (List UInt8)) × Unit) (o : Int × (List (List UInt8))) (Q : Ex → VSt D → Prop) (R : VR D → Prop) : Prop := Q .normal (mkSt ⟨[(0, .hole), (1, .hole), (5, .ref 500005), (6, .hole), (7, .hole)], [(500005, .row)]⟩ [.str x.1, .int .u8 x.2.1, .int .i64 o.1, .int .i64 x.2.2.2.1, .sl 9 o.2])
def S_l12Split_c19_cut (k : Nat) : Cut D := cutS ⟨[(0, .hole), (1, .hole), (5, .ref 500005), (6, .hole), (7, .hole), (19, .hole)], [(500005, .row)]⟩ [.ks, .ki .u8, .ki .i64, .ki .i64, .kb, .kl 9] (fun (x : (List UInt8) × Int × Int × Int × Bool × (List (List UInt8)) × Unit) => S_l12Split_c19 k x.1 x.2.1 x.2.2.1 x.2.2.2.1 x.2.2.2.2.1 x.2.2.2.2.2.1) S_l12Split_c19_L
def S_l12Split_c19_cu (k : Nat) : Cuts D := ⟨[], []⟩
theorem S_l12Split_c19_ok (k : Nat) : CutFor X S_l12Split_pl k Go.Proofs.Tryz.f159.results.toList (S_l12Split_c19_cut k) (sub (bodyOf Go.Proofs.Tryz.f159) [1, 1, 1, 0, 1, 0, 0, 1, 0, 0, 1]) :=
  joinCut_s (X := X) (sg := [.ks, .ki .u8, .ki .i64, .ki .i64, .kb, .kl 9]) (cu := S_l12Split_c19_cu k) (cl := S_l12Split_cl k) (tys := [[9]]) (S_l12Split_ck k) (cutOK_of (l := []) (by kernel_rfl) trivial) fun x Q R h => by
    simp only [S_l12Split_c19, optK_bind, optK_bif, optK_pure, optK_none, optK_oc, optK_guardT, optK_map] at h
    refine hold_of h ?_
    kernel_rfl
def S_l12Split_b1_L (x : (List UInt8) × Int × Int × Int × (List (List UInt8)) × Unit) (o : Int × (List (List UInt8))) (Q : Ex → VSt D → Prop) (R : VR D → Prop) : Prop := Q .normal (mkSt ⟨[(0, .hole), (1, .hole), (5, .ref 500005), (6, .hole), (7, .hole)], [(500005, .row)]⟩ [.str x.1, .int .u8 x.2.1, .int .i64 o.1, .int .i64 x.2.2.2.1, .sl 9 o.2])
def S_l12Split_b1_cut (k : Nat) : Cut D := cutS ⟨[(0, .hole), (1, .hole), (5, .ref 500005), (6, .hole), (7, .hole)], [(500005, .row)]⟩ [.ks, .ki .u8, .ki .i64, .ki .i64, .kl 9] (fun (x : (List UInt8) × Int × Int × Int × (List (List UInt8)) × Unit) => S_l12Split_b1 k x.1 x.2.1 x.2.2.1 x.2.2.2.1 x.2.2.2.2.1) S_l12Split_b1_L
def S_l12Split_b1_cu (k : Nat) : Cuts D := ⟨[], [(19, some (S_l12Split_c19_cut k))]⟩
theorem S_l12Split_b1_ok (k : Nat) : CutFor X S_l12Split_pl k Go.Proofs.Tryz.f159.results.toList (S_l12Split_b1_cut k) (sub (bodyOf Go.Proofs.Tryz.f159) [1, 1, 1, 0, 1, 0, 0, 1, 0]) :=
  joinCut_s (X := X) (sg := [.ks, .ki .u8, .ki .i64, .ki .i64, .kl 9]) (cu := S_l12Split_b1_cu k) (cl := S_l12Split_cl k) (tys := [[9]]) (S_l12Split_ck k) (cutOK_of (l := [(S_l12Split_c19_cut k, sub (bodyOf Go.Proofs.Tryz.f159) [1, 1, 1, 0, 1, 0, 0, 1, 0, 0, 1])]) (by kernel_rfl) ⟨S_l12Split_c19_ok k, trivial⟩) fun x Q R h => by
    simp only [S_l12Split_b1, optK_bind, optK_bif, optK_pure, optK_none, optK_oc, optK_guardT, optK_map] at h
    refine hold_of h ?_
    kernel_rfl
def S_l12Split_b0_L (x : (List UInt8) × Int × Int × Int × (List (List UInt8)) × Unit) (o : Int × (List (List UInt8))) (Q : Ex → VSt D → Prop) (R : VR D → Prop) : Prop := Q .normal (mkSt ⟨[(0, .hole), (5, .ref 500005), (6, .hole)], [(500005, .row)]⟩ [.str x.1, .int .i64 o.1, .sl 9 o.2])
def S_l12Split_b0_cut (k : Nat) : Cut D := cutS ⟨[(0, .hole), (1, .hole), (5, .ref 500005), (6, .hole), (7, .hole)], [(500005, .row)]⟩ [.ks, .ki .u8, .ki .i64, .ki .i64, .kl 9] (fun (x : (List UInt8) × Int × Int × Int × (List (List UInt8)) × Unit) => S_l12Split_b0 k k x.1 x.2.1 x.2.2.1 x.2.2.2.1 x.2.2.2.2.1) S_l12Split_b0_L
def S_l12Split_b0_cu (k : Nat) : Cuts D := ⟨[(1, some (S_l12Split_b1_cut k))], []⟩
theorem S_l12Split_b0_ok (k : Nat) : CutFor X S_l12Split_pl k Go.Proofs.Tryz.f159.results.toList (S_l12Split_b0_cut k) (sub (bodyOf Go.Proofs.Tryz.f159) [1, 1, 1, 0, 1]) :=
  loopCut_s (X := X) (sg := [.ks, .ki .u8, .ki .i64, .ki .i64, .kl 9]) (cu := S_l12Split_b0_cu k) (cl := S_l12Split_cl k) (tys := [[9]]) (id := 0) (c := sub (bodyOf Go.Proofs.Tryz.f159) [1, 1, 1, 0, 1, 0, 0]) (f := fun n => fun (x : (List UInt8) × Int × Int × Int × (List (List UInt8)) × Unit) => S_l12Split_b0 k n x.1 x.2.1 x.2.2.1 x.2.2.2.1 x.2.2.2.2.1) (S_l12Split_ck k) (cutOK_of (l := [(S_l12Split_b1_cut k, sub (bodyOf Go.Proofs.Tryz.f159) [1, 1, 1, 0, 1, 0, 0, 1, 0])]) (by kernel_rfl) ⟨S_l12Split_b1_ok k, trivial⟩) (fun _ => rfl) (fun n x Q R h => by
    simp only [S_l12Split_b0, optK_bind, optK_bif, optK_pure, optK_none, optK_oc, optK_guardT, optK_map] at h
    refine hold_of h ?_
    kernel_rfl) (by kernel_rfl)
def S_l12Split_cu (k : Nat) : Cuts D := ⟨[(0, some (S_l12Split_b0_cut k))], []⟩
def S_l12Split_ar : List Ar := [.c (.ks), .c (.ki .u8)]
def S_l12Split_f (k : Nat) (x : TupA D S_l12Split_ar) : Option ((List (List UInt8))) := S_l12Split k x.1 x.2.1
def S_l12Split_vr (r : (List (List UInt8))) : VR D := .p (.c (.sl 9 r))
theorem S_l12Split_ok (k : Nat) : Does P X 159 S_l12Split_ar (S_l12Split_f k) S_l12Split_vr :=
  does_of (body := bodyOf Go.Proofs.Tryz.f159) (pl := S_l12Split_pl) (k := k) (cu := S_l12Split_cu k) (tys := [[9]]) (S_l12Split_ck k) ctx mixed Go.Proofs.Tryz.func159 (by kernel_rfl) (by kernel_rfl) (cutOK_of (l := [(S_l12Split_b0_cut k, sub (bodyOf Go.Proofs.Tryz.f159) [1, 1, 1, 0, 1])]) (by kernel_rfl) ⟨S_l12Split_b0_ok k, trivial⟩) fun x R h => by
    simp only [S_l12Split_f, S_l12Split, optK_bind, optK_bif, optK_pure, optK_none, optK_oc, optK_guardT, optK_map] at h
    refine hold_of h ?_
    kernel_rfl
def S_l12Split_en (k : Nat) : Entry D := entS S_l12Split_ar (S_l12Split_f k) S_l12Split_vr
theorem S_l12Split_eo (k : Nat) : EntryOK X 159 (S_l12Split_en k) := (S_l12Split_ok k).en rfl
def S_l1In_pl : Plan := ⟨[(0, [(0, none), (1, none), (2, none)]), (1, [(6, none)])],
  [],
  []⟩
def S_l1In_cl (k : Nat) : Calls' D := ⟨[], [], [], [], []⟩
theorem S_l1In_ck (k : Nat) : CallsOK X (S_l1In_cl k) := .nil cod
def S_l1In_cu (k : Nat) : Cuts D := ⟨[], []⟩
def S_l1In_ar : List Ar := [.c (.ki .i64), .c (.ki .i64), .c (.ki .i64)]
def S_l1In_f (k : Nat) (x : TupA D S_l1In_ar) : Option (Bool) := S_l1In k x.1 x.2.1 x.2.2.1
def S_l1In_vr (r : Bool) : VR D := .p (.c (.bool r))
theorem S_l1In_ok (k : Nat) : Does P X 109 S_l1In_ar (S_l1In_f k) S_l1In_vr :=
  does_of (body := bodyOf Go.Proofs.Tryz.f109) (pl := S_l1In_pl) (k := k) (cu := S_l1In_cu k) (tys := [[0]]) (S_l1In_ck k) ctx mixed Go.Proofs.Tryz.func109 (by kernel_rfl) (by kernel_rfl) (cutOK_of (l := []) (by kernel_rfl) trivial) fun x R h => by
    simp only [S_l1In_f, S_l1In, optK_bind, optK_bif, optK_pure, optK_none, optK_oc, optK_guardT, optK_map] at h
    refine hold_of h ?_
    kernel_rfl
def S_l1In_en (k : Nat) : Entry D := entS S_l1In_ar (S_l1In_f k) S_l1In_vr
theorem S_l1In_eo (k : Nat) : EntryOK X 109 (S_l1In_en k) := (S_l1In_ok k).en rfl
def S_LowerText_pl : Plan := ⟨[(0, [(0, none)]), (1, [(3, some 5)]), (2, [(3, some 5), (4, none)]), (3, [(3, some 5), (4, none), (10, none)]), (4, [(3, some 5), (4, none)]), (5, [(3, some 5), (4, none), (18, none)]), (6, [(3, some 5), (4, none)]), (7, [(2, none)])],
  [(0, [(3, some 5)]), (1, [(3, some 5), (4, none)])],
  [(10, ([(3, some 5), (4, none)], [(3, some 5)])), (18, ([(3, some 5), (4, none)], [(3, some 5), (4, none)]))]⟩
def S_LowerText_cl (k : Nat) : Calls' D := ⟨[(109, S_l1In_en k)], [], [], [], []⟩
theorem S_LowerText_ck (k : Nat) : CallsOK X (S_LowerText_cl k) := .cons (S_l1In_eo k) (.nil cod)
def S_LowerText_c18_L (x : Int × Bool × (List Int) × Unit) (o : (List Int)) (Q : Ex → VSt D → Prop) (R : VR D → Prop) : Prop := Q .normal (mkSt ⟨[(3, .ref 500003), (4, .hole)], [(500003, .row)]⟩ [.int .i64 x.1, .sl 5 o])
def S_LowerText_c18_cut (k : Nat) : Cut D := cutS ⟨[(3, .ref 500003), (4, .hole), (18, .hole)], [(500003, .row)]⟩ [.ki .i64, .kb, .kl 5] (fun (x : Int × Bool × (List Int) × Unit) => S_LowerText_c18 k x.1 x.2.1 x.2.2.1) S_LowerText_c18_L
def S_LowerText_c18_cu (k : Nat) : Cuts D := ⟨[], []⟩
theorem S_LowerText_c18_ok (k : Nat) : CutFor X S_LowerText_pl k Go.Proofs.Tryz.f160.results.toList (S_LowerText_c18_cut k) (sub (bodyOf Go.Proofs.Tryz.f160) [1, 1, 0, 1, 0, 0, 1, 0, 0, 1]) :=
  joinCut_s (X := X) (sg := [.ki .i64, .kb, .kl 5]) (cu := S_LowerText_c18_cu k) (cl := S_LowerText_cl k) (tys := [[0]]) (S_LowerText_ck k) (cutOK_of (l := []) (by kernel_rfl) trivial) fun x Q R h => by
    simp only [S_LowerText_c18, optK_bind, optK_bif, optK_pure, optK_none, optK_oc, optK_guardT, optK_map] at h
    refine hold_of h ?_
    kernel_rfl
def S_LowerText_b1_L (x : Int × (List Int) × Unit) (o : (List Int)) (Q : Ex → VSt D → Prop) (R : VR D → Prop) : Prop := Q .normal (mkSt ⟨[(3, .ref 500003), (4, .hole)], [(500003, .row)]⟩ [.int .i64 x.1, .sl 5 o])
def S_LowerText_b1_cut (k : Nat) : Cut D := cutS ⟨[(3, .ref 500003), (4, .hole)], [(500003, .row)]⟩ [.ki .i64, .kl 5] (fun (x : Int × (List Int) × Unit) => S_LowerText_b1 k x.1 x.2.1) S_LowerText_b1_L
def S_LowerText_b1_cu (k : Nat) : Cuts D := ⟨[], [(18, some (S_LowerText_c18_cut k))]⟩
theorem S_LowerText_b1_ok (k : Nat) : CutFor X S_LowerText_pl k Go.Proofs.Tryz.f160.results.toList (S_LowerText_b1_cut k) (sub (bodyOf Go.Proofs.Tryz.f160) [1, 1, 0, 1, 0, 0, 1, 0]) :=
  joinCut_s (X := X) (sg := [.ki .i64, .kl 5]) (cu := S_LowerText_b1_cu k) (cl := S_LowerText_cl k) (tys := [[0]]) (S_LowerText_ck k) (cutOK_of (l := [(S_LowerText_c18_cut k, sub (bodyOf Go.Proofs.Tryz.f160) [1, 1, 0, 1, 0, 0, 1, 0, 0, 1])]) (by kernel_rfl) ⟨S_LowerText_c18_ok k, trivial⟩) fun x Q R h => by
    simp only [S_LowerText_b1, optK_bind, optK_bif, optK_pure, optK_none, optK_oc, optK_guardT, optK_map] at h
    refine hold_of h ?_
    kernel_rfl
def S_LowerText_b0_L (x : Int × (List Int) × Unit) (o : (List Int)) (Q : Ex → VSt D → Prop) (R : VR D → Prop) : Prop := Q .normal (mkSt ⟨[(3, .ref 500003)], [(500003, .row)]⟩ [.sl 5 o])
def S_LowerText_b0_cut (k : Nat) : Cut D := cutS ⟨[(3, .ref 500003), (4, .hole)], [(500003, .row)]⟩ [.ki .i64, .kl 5] (fun (x : Int × (List Int) × Unit) => S_LowerText_b0 k k x.1 x.2.1) S_LowerText_b0_L
def S_LowerText_b0_cu (k : Nat) : Cuts D := ⟨[(1, some (S_LowerText_b1_cut k))], []⟩
theorem S_LowerText_b0_ok (k : Nat) : CutFor X S_LowerText_pl k Go.Proofs.Tryz.f160.results.toList (S_LowerText_b0_cut k) (sub (bodyOf Go.Proofs.Tryz.f160) [1, 1, 0, 1]) :=
  loopCut_s (X := X) (sg := [.ki .i64, .kl 5]) (cu := S_LowerText_b0_cu k) (cl := S_LowerText_cl k) (tys := [[0]]) (id := 0) (c := sub (bodyOf Go.Proofs.Tryz.f160) [1, 1, 0, 1, 0, 0]) (f := fun n => fun (x : Int × (List Int) × Unit) => S_LowerText_b0 k n x.1 x.2.1) (S_LowerText_ck k) (cutOK_of (l := [(S_LowerText_b1_cut k, sub (bodyOf Go.Proofs.Tryz.f160) [1, 1, 0, 1, 0, 0, 1, 0])]) (by kernel_rfl) ⟨S_LowerText_b1_ok k, trivial⟩) (fun _ => rfl) (fun n x Q R h => by
    simp only [S_LowerText_b0, optK_bind, optK_bif, optK_pure, optK_none, optK_oc, optK_guardT, optK_map] at h
    refine hold_of h ?_
    kernel_rfl) (by kernel_rfl)
def S_LowerText_cu (k : Nat) : Cuts D := ⟨[(0, some (S_LowerText_b0_cut k))], []⟩
def S_LowerText_ar : List Ar := [.c (.ks)]
def S_LowerText_f (k : Nat) (x : TupA D S_LowerText_ar) : Option ((List UInt8)) := S_LowerText k x.1
def S_LowerText_vr (r : (List UInt8)) : VR D := .p (.c (.str r))
theorem S_LowerText_ok (k : Nat) : Does P X 160 S_LowerText_ar (S_LowerText_f k) S_LowerText_vr :=
  does_of (body := bodyOf Go.Proofs.Tryz.f160) (pl := S_LowerText_pl) (k := k) (cu := S_LowerText_cu k) (tys := [[0]]) (S_LowerText_ck k) ctx mixed Go.Proofs.Tryz.func160 (by kernel_rfl) (by kernel_rfl) (cutOK_of (l := [(S_LowerText_b0_cut k, sub (bodyOf Go.Proofs.Tryz.f160) [1, 1, 0, 1])]) (by kernel_rfl) ⟨S_LowerText_b0_ok k, trivial⟩) fun x R h => by
    simp only [S_LowerText_f, S_LowerText, optK_bind, optK_bif, optK_pure, optK_none, optK_oc, optK_guardT, optK_map] at h
    refine hold_of h ?_
    kernel_rfl
def S_LowerText_en (k : Nat) : Entry D := entS S_LowerText_ar (S_LowerText_f k) S_LowerText_vr
theorem S_LowerText_eo (k : Nat) : EntryOK X 160 (S_LowerText_en k) := (S_LowerText_ok k).en rfl
def S_SplitPair_pl : Plan := ⟨[(0, [(0, none)]), (1, [(0, none), (5, none)]), (2, [(0, none), (5, none), (9, none)]), (3, [(0, none), (5, none)]), (4, [(0, none), (5, none), (15, none)]), (5, [(2, none), (3, none), (4, none)]), (6, [(2, none), (3, none), (4, none)])],
  [(0, [(0, none)]), (1, [(0, none), (5, none)])],
  [(9, ([(0, none), (5, none)], [(0, none)])), (15, ([(0, none), (5, none)], [(0, none), (5, none)]))]⟩
def S_SplitPair_cl (k : Nat) : Calls' D := ⟨[(161, S_TrimText_en k)], [], [], [], []⟩
theorem S_SplitPair_ck (k : Nat) : CallsOK X (S_SplitPair_cl k) := .cons (S_TrimText_eo k) (.nil cod)
def S_SplitPair_b0_L (x : (List UInt8) × Int × Unit) (o : Oc (Unit) ((List UInt8) × (List UInt8) × Bool)) (Q : Ex → VSt D → Prop) (R : VR D → Prop) : Prop := ocP o (fun v0 => Q .normal (mkSt ⟨[(0, .hole)], []⟩ [.str x.1])) (fun w0 => R (.tup [.c (.str w0.1), .c (.str w0.2.1), .c (.bool w0.2.2)]))
def S_SplitPair_b0_cut (k : Nat) : Cut D := cutS ⟨[(0, .hole), (5, .hole)], []⟩ [.ks, .ki .i64] (fun (x : (List UInt8) × Int × Unit) => S_SplitPair_b0 k k x.1 x.2.1) S_SplitPair_b0_L
def S_SplitPair_b0_cu (k : Nat) : Cuts D := ⟨[], []⟩
theorem S_SplitPair_b0_ok (k : Nat) : CutFor X S_SplitPair_pl k Go.Proofs.Tryz.f162.results.toList (S_SplitPair_b0_cut k) (sub (bodyOf Go.Proofs.Tryz.f162) [1, 0, 1]) :=
  loopCut_s (X := X) (sg := [.ks, .ki .i64]) (cu := S_SplitPair_b0_cu k) (cl := S_SplitPair_cl k) (tys := [[0], [0], [0]]) (id := 0) (c := sub (bodyOf Go.Proofs.Tryz.f162) [1, 0, 1, 0, 0]) (f := fun n => fun (x : (List UInt8) × Int × Unit) => S_SplitPair_b0 k n x.1 x.2.1) (S_SplitPair_ck k) (cutOK_of (l := []) (by kernel_rfl) trivial) (fun _ => rfl) (fun n x Q R h => by
    simp only [S_SplitPair_b0, optK_bind, optK_bif, optK_pure, optK_none, optK_oc, optK_guardT, optK_map] at h
    refine hold_of h ?_
    kernel_rfl) (by kernel_rfl)
def S_SplitPair_cu (k : Nat) : Cuts D := ⟨[(0, some (S_SplitPair_b0_cut k))], []⟩
def S_SplitPair_ar : List Ar := [.c (.ks)]
def S_SplitPair_f (k : Nat) (x : TupA D S_SplitPair_ar) : Option ((List UInt8) × (List UInt8) × Bool) := S_SplitPair k x.1
def S_SplitPair_vr (r : (List UInt8) × (List UInt8) × Bool) : VR D := .tup [.c (.str r.1), .c (.str r.2.1), .c (.bool r.2.2)]
theorem S_SplitPair_ok (k : Nat) : Does P X 162 S_SplitPair_ar (S_SplitPair_f k) S_SplitPair_vr :=
  does_of (body := bodyOf Go.Proofs.Tryz.f162) (pl := S_SplitPair_pl) (k := k) (cu := S_SplitPair_cu k) (tys := [[0], [0], [0]]) (S_SplitPair_ck k) ctx mixed Go.Proofs.Tryz.func162 (by kernel_rfl) (by kernel_rfl) (cutOK_of (l := [(S_SplitPair_b0_cut k, sub (bodyOf Go.Proofs.Tryz.f162) [1, 0, 1])]) (by kernel_rfl) ⟨S_SplitPair_b0_ok k, trivial⟩) fun x R h => by
    simp only [S_SplitPair_f, S_SplitPair, optK_bind, optK_bif, optK_pure, optK_none, optK_oc, optK_guardT, optK_map] at h
    refine hold_of h ?_
    kernel_rfl
def S_SplitPair_en (k : Nat) : Entry D := entS S_SplitPair_ar (S_SplitPair_f k) S_SplitPair_vr
theorem S_SplitPair_eo (k : Nat) : EntryOK X 162 (S_SplitPair_en k) := (S_SplitPair_ok k).en rfl
def S_l13Weight_pl : Plan := ⟨[(0, [(0, none)]), (1, [(0, none), (33, none)]), (2, [(2, none)]), (3, [(0, none), (3, none)]), (4, [(0, none), (3, none), (4, none)]), (5, [(0, none), (3, none), (4, none), (5, none)]), (6, [(0, none), (3, none), (4, none), (5, none), (42, none)]), (7, [(0, none), (3, none), (4, none), (5, none)]), (8, [(0, none), (3, none), (4, none), (5, none), (50, none)]), (9, [(2, none)]), (10, [(0, none), (3, none), (4, none), (5, none)]), (11, [(0, none), (3, none), (4, none), (5, none)]), (12, [(3, none), (63, none)]), (13, [(2, none)]), (14, [(2, none)])],
  [(0, [(3, none)]), (1, [(0, none), (3, none), (4, none), (5, none)])],
  [(33, ([], [(0, none)])), (42, ([(0, none), (3, none), (4, none), (5, none)], [(3, none)])), (50, ([], [(0, none), (3, none), (4, none), (5, none)])), (63, ([], [(3, none)]))]⟩
def S_l13Weight_cl (k : Nat) : Calls' D := ⟨[(109, S_l1In_en k)], [], [], [], []⟩
theorem S_l13Weight_ck (k : Nat) : CallsOK X (S_l13Weight_cl k) := .cons (S_l1In_eo k) (.nil cod)
def S_l13Weight_b0_L (x : (List UInt8) × Int × Int × Int × Unit) (o : Oc (Int) (Int)) (Q : Ex → VSt D → Prop) (R : VR D → Prop) : Prop := ocP o (fun v0 => Q .normal (mkSt ⟨[(3, .hole)], []⟩ [.int .i64 v0])) (fun w0 => R (.p (.c (.int .i64 w0))))
def S_l13Weight_b0_cut (k : Nat) : Cut D := cutS ⟨[(0, .hole), (3, .hole), (4, .hole), (5, .hole)], []⟩ [.ks, .ki .i64, .ki .i64, .ki .i64] (fun (x : (List UInt8) × Int × Int × Int × Unit) => S_l13Weight_b0 k k x.1 x.2.1 x.2.2.1 x.2.2.2.1) S_l13Weight_b0_L
def S_l13Weight_b0_cu (k : Nat) : Cuts D := ⟨[], []⟩
theorem S_l13Weight_b0_ok (k : Nat) : CutFor X S_l13Weight_pl k Go.Proofs.Tryz.f163.results.toList (S_l13Weight_b0_cut k) (sub (bodyOf Go.Proofs.Tryz.f163) [1, 1, 1, 1, 0, 1]) :=
  loopCut_s (X := X) (sg := [.ks, .ki .i64, .ki .i64, .ki .i64]) (cu := S_l13Weight_b0_cu k) (cl := S_l13Weight_cl k) (tys := [[0]]) (id := 0) (c := sub (bodyOf Go.Proofs.Tryz.f163) [1, 1, 1, 1, 0, 1, 0, 0]) (f := fun n => fun (x : (List UInt8) × Int × Int × Int × Unit) => S_l13Weight_b0 k n x.1 x.2.1 x.2.2.1 x.2.2.2.1) (S_l13Weight_ck k) (cutOK_of (l := []) (by kernel_rfl) trivial) (fun _ => rfl) (fun n x Q R h => by
    simp only [S_l13Weight_b0, optK_bind, optK_bif, optK_pure, optK_none, optK_oc, optK_guardT, optK_map] at h
    refine hold_of h ?_
    kernel_rfl) (by kernel_rfl)
def S_l13Weight_cu (k : Nat) : Cuts D := ⟨[(0, some (S_l13Weight_b0_cut k))], []⟩
def S_l13Weight_ar : List Ar := [.c (.ks)]
def S_l13Weight_f (k : Nat) (x : TupA D S_l13Weight_ar) : Option (Int) := S_l13Weight k x.1
def S_l13Weight_vr (r : Int) : VR D := .p (.c (.int .i64 r))
theorem S_l13Weight_ok (k : Nat) : Does P X 163 S_l13Weight_ar (S_l13Weight_f k) S_l13Weight_vr :=
  does_of (body := bodyOf Go.Proofs.Tryz.f163) (pl := S_l13Weight_pl) (k := k) (cu := S_l13Weight_cu k) (tys := [[0]]) (S_l13Weight_ck k) ctx mixed Go.Proofs.Tryz.func163 (by kernel_rfl) (by kernel_rfl) (cutOK_of (l := [(S_l13Weight_b0_cut k, sub (bodyOf Go.Proofs.Tryz.f163) [1, 1, 1, 1, 0, 1])]) (by kernel_rfl) ⟨S_l13Weight_b0_ok k, trivial⟩) fun x R h => by
    simp only [S_l13Weight_f, S_l13Weight, optK_bind, optK_bif, optK_pure, optK_none, optK_oc, optK_guardT, optK_map] at h
    refine hold_of h ?_
    kernel_rfl
def S_l13Weight_en (k : Nat) : Entry D := entS S_l13Weight_ar (S_l13Weight_f k) S_l13Weight_vr
theorem S_l13Weight_eo (k : Nat) : EntryOK X 163 (S_l13Weight_en k) := (S_l13Weight_ok k).en rfl
def S_l4Letter_pl : Plan := ⟨[(0, [(0, none)]), (1, [(2, none)])],
  [],
  []⟩
def S_l4Letter_cl (k : Nat) : Calls' D := ⟨[(109, S_l1In_en k)], [], [], [], []⟩
theorem S_l4Letter_ck (k : Nat) : CallsOK X (S_l4Letter_cl k) := .cons (S_l1In_eo k) (.nil cod)
def S_l4Letter_cu (k : Nat) : Cuts D := ⟨[], []⟩
def S_l4Letter_ar : List Ar := [.c (.ki .u8)]
def S_l4Letter_f (k : Nat) (x : TupA D S_l4Letter_ar) : Option (Bool) := S_l4Letter k x.1
def S_l4Letter_vr (r : Bool) : VR D := .p (.c (.bool r))
theorem S_l4Letter_ok (k : Nat) : Does P X 197 S_l4Letter_ar (S_l4Letter_f k) S_l4Letter_vr :=
  does_of (body := bodyOf Go.Proofs.Tryz.f197) (pl := S_l4Letter_pl) (k := k) (cu := S_l4Letter_cu k) (tys := [[0]]) (S_l4Letter_ck k) ctx mixed Go.Proofs.Tryz.func197 (by kernel_rfl) (by kernel_rfl) (cutOK_of (l := []) (by kernel_rfl) trivial) fun x R h => by
    simp only [S_l4Letter_f, S_l4Letter, optK_bind, optK_bif, optK_pure, optK_none, optK_oc, optK_guardT, optK_map] at h
    refine hold_of h ?_
    kernel_rfl
def S_l4Letter_en (k : Nat) : Entry D := entS S_l4Letter_ar (S_l4Letter_f k) S_l4Letter_vr
theorem S_l4Letter_eo (k : Nat) : EntryOK X 197 (S_l4Letter_en k) := (S_l4Letter_ok k).en rfl
def S_l4Token_pl : Plan := ⟨[(0, [(0, none)]), (1, [(0, none), (3, none)]), (2, [(0, none), (3, none), (5, none)]), (3, [(0, none), (3, none)]), (4, [(0, none), (3, none), (11, none)]), (5, [(2, none)]), (6, [(2, none)])],
  [(0, [(0, none)]), (1, [(0, none), (3, none)])],
  [(5, ([(0, none), (3, none)], [(0, none)])), (11, ([], [(0, none), (3, none)]))]⟩
def S_l4Token_cl (k : Nat) : Calls' D := ⟨[(197, S_l4Letter_en k)], [], [], [], []⟩
theorem S_l4Token_ck (k : Nat) : CallsOK X (S_l4Token_cl k) := .cons (S_l4Letter_eo k) (.nil cod)
def S_l4Token_b0_L (x : Int × Int × Unit) (o : Oc (Unit) (Bool)) (Q : Ex → VSt D → Prop) (R : VR D → Prop) : Prop := ocP o (fun v0 => Q .normal (mkSt ⟨[(0, .hole)], []⟩ [.int .u8 x.1])) (fun w0 => R (.p (.c (.bool w0))))
def S_l4Token_b0_cut (k : Nat) : Cut D := cutS ⟨[(0, .hole), (3, .hole)], []⟩ [.ki .u8, .ki .i64] (fun (x : Int × Int × Unit) => S_l4Token_b0 k k x.1 x.2.1) S_l4Token_b0_L
def S_l4Token_b0_cu (k : Nat) : Cuts D := ⟨[], []⟩
theorem S_l4Token_b0_ok (k : Nat) : CutFor X S_l4Token_pl k Go.Proofs.Tryz.f165.results.toList (S_l4Token_b0_cut k) (sub (bodyOf Go.Proofs.Tryz.f165) [1, 0, 1]) :=
  loopCut_s (X := X) (sg := [.ki .u8, .ki .i64]) (cu := S_l4Token_b0_cu k) (cl := S_l4Token_cl k) (tys := [[0]]) (id := 0) (c := sub (bodyOf Go.Proofs.Tryz.f165) [1, 0, 1, 0, 0]) (f := fun n => fun (x : Int × Int × Unit) => S_l4Token_b0 k n x.1 x.2.1) (S_l4Token_ck k) (cutOK_of (l := []) (by kernel_rfl) trivial) (fun _ => rfl) (fun n x Q R h => by
    simp only [S_l4Token_b0, optK_bind, optK_bif, optK_pure, optK_none, optK_oc, optK_guardT, optK_map] at h
    refine hold_of h ?_
    kernel_rfl) (by kernel_rfl)
def S_l4Token_cu (k : Nat) : Cuts D := ⟨[(0, some (S_l4Token_b0_cut k))], []⟩
def S_l4Token_ar : List Ar := [.c (.ki .u8)]
def S_l4Token_f (k : Nat) (x : TupA D S_l4Token_ar) : Option (Bool) := S_l4Token k x.1
def S_l4Token_vr (r : Bool) : VR D := .p (.c (.bool r))
theorem S_l4Token_ok (k : Nat) : Does P X 165 S_l4Token_ar (S_l4Token_f k) S_l4Token_vr :=
  does_of (body := bodyOf Go.Proofs.Tryz.f165) (pl := S_l4Token_pl) (k := k) (cu := S_l4Token_cu k) (tys := [[0]]) (S_l4Token_ck k) ctx mixed Go.Proofs.Tryz.func165 (by kernel_rfl) (by kernel_rfl) (cutOK_of (l := [(S_l4Token_b0_cut k, sub (bodyOf Go.Proofs.Tryz.f165) [1, 0, 1])]) (by kernel_rfl) ⟨S_l4Token_b0_ok k, trivial⟩) fun x R h => by
    simp only [S_l4Token_f, S_l4Token, optK_bind, optK_bif, optK_pure, optK_none, optK_oc, optK_guardT, optK_map] at h
    refine hold_of h ?_
    kernel_rfl
def S_l4Token_en (k : Nat) : Entry D := entS S_l4Token_ar (S_l4Token_f k) S_l4Token_vr
theorem S_l4Token_eo (k : Nat) : EntryOK X 165 (S_l4Token_en k) := (S_l4Token_ok k).en rfl
def S_IsToken_pl : Plan := ⟨[(0, [(0, none)]), (1, [(0, none), (3, none)]), (2, [(0, none), (3, none), (7, none)]), (3, [(0, none), (3, none)]), (4, [(0, none), (3, none), (14, none)]), (5, [(2, none)]), (6, [(2, none)])],
  [(0, [(0, none)]), (1, [(0, none), (3, none)])],
  [(7, ([(0, none), (3, none)], [(0, none)])), (14, ([], [(0, none), (3, none)]))]⟩
def S_IsToken_cl (k : Nat) : Calls' D := ⟨[(165, S_l4Token_en k), (109, S_l1In_en k)], [], [], [], []⟩
theorem S_IsToken_ck (k : Nat) : CallsOK X (S_IsToken_cl k) := .cons (S_l4Token_eo k) (.cons (S_l1In_eo k) (.nil cod))
def S_IsToken_b0_L (x : (List UInt8) × Int × Unit) (o : Oc (Unit) (Bool)) (Q : Ex → VSt D → Prop) (R : VR D → Prop) : Prop := ocP o (fun v0 => Q .normal (mkSt ⟨[(0, .hole)], []⟩ [.str x.1])) (fun w0 => R (.p (.c (.bool w0))))
def S_IsToken_b0_cut (k : Nat) : Cut D := cutS ⟨[(0, .hole), (3, .hole)], []⟩ [.ks, .ki .i64] (fun (x : (List UInt8) × Int × Unit) => S_IsToken_b0 k k x.1 x.2.1) S_IsToken_b0_L
def S_IsToken_b0_cu (k : Nat) : Cuts D := ⟨[], []⟩
theorem S_IsToken_b0_ok (k : Nat) : CutFor X S_IsToken_pl k Go.Proofs.Tryz.f96.results.toList (S_IsToken_b0_cut k) (sub (bodyOf Go.Proofs.Tryz.f96) [1, 0, 1]) :=
  loopCut_s (X := X) (sg := [.ks, .ki .i64]) (cu := S_IsToken_b0_cu k) (cl := S_IsToken_cl k) (tys := [[0]]) (id := 0) (c := sub (bodyOf Go.Proofs.Tryz.f96) [1, 0, 1, 0, 0]) (f := fun n => fun (x : (List UInt8) × Int × Unit) => S_IsToken_b0 k n x.1 x.2.1) (S_IsToken_ck k) (cutOK_of (l := []) (by kernel_rfl) trivial) (fun _ => rfl) (fun n x Q R h => by
    simp only [S_IsToken_b0, optK_bind, optK_bif, optK_pure, optK_none, optK_oc, optK_guardT, optK_map] at h
    refine hold_of h ?_
    kernel_rfl) (by kernel_rfl)
def S_IsToken_cu (k : Nat) : Cuts D := ⟨[(0, some (S_IsToken_b0_cut k))], []⟩
def S_IsToken_ar : List Ar := [.c (.ks)]
def S_IsToken_f (k : Nat) (x : TupA D S_IsToken_ar) : Option (Bool) := S_IsToken k x.1
def S_IsToken_vr (r : Bool) : VR D := .p (.c (.bool r))
theorem S_IsToken_ok (k : Nat) : Does P X 96 S_IsToken_ar (S_IsToken_f k) S_IsToken_vr :=
  does_of (body := bodyOf Go.Proofs.Tryz.f96) (pl := S_IsToken_pl) (k := k) (cu := S_IsToken_cu k) (tys := [[0]]) (S_IsToken_ck k) ctx mixed Go.Proofs.Tryz.func96 (by kernel_rfl) (by kernel_rfl) (cutOK_of (l := [(S_IsToken_b0_cut k, sub (bodyOf Go.Proofs.Tryz.f96) [1, 0, 1])]) (by kernel_rfl) ⟨S_IsToken_b0_ok k, trivial⟩) fun x R h => by
    simp only [S_IsToken_f, S_IsToken, optK_bind, optK_bif, optK_pure, optK_none, optK_oc, optK_guardT, optK_map] at h
    refine hold_of h ?_
    kernel_rfl
def S_IsToken_en (k : Nat) : Entry D := entS S_IsToken_ar (S_IsToken_f k) S_IsToken_vr
theorem S_IsToken_eo (k : Nat) : EntryOK X 96 (S_IsToken_en k) := (S_IsToken_ok k).en rfl
def S_ParseQualities_pl : Plan := ⟨[(0, [(0, none)]), (1, [(3, some 9)]), (2, [(3, some 9), (4, some 164)]), (3, [(3, some 9), (4, some 164), (5, none)]), (4, [(3, some 9), (4, some 164), (5, none), (17, none)]), (5, [(3, some 9), (4, some 164), (5, none)]), (6, [(3, some 9), (4, some 164), (5, none), (6, some 9)]), (7, [(3, some 9), (4, some 164), (5, none), (6, some 9), (7, none)]), (8, [(3, some 9), (4, some 164), (5, none), (6, some 9), (7, none), (33, none)]), (9, [(3, some 9), (4, some 164), (5, none), (6, some 9), (7, none), (8, none), (9, none), (10, none)]), (10, [(3, some 9), (4, some 164), (5, none), (6, some 9), (7, none), (8, none), (10, none)]), (11, [(3, some 9), (4, some 164), (5, none), (7, none), (56, none)]), (12, [(3, some 9), (4, some 164), (5, none), (7, none)]), (13, [(3, some 9), (4, some 164), (5, none), (7, none), (65, none)]), (14, [(3, some 9), (4, some 164), (5, none)]), (15, [(2, some 164)])],
  [(0, [(4, some 164)]), (1, [(3, some 9), (4, some 164), (5, none)])],
  [(17, ([(3, some 9), (4, some 164), (5, none)], [(4, some 164)])), (33, ([(3, some 9), (4, some 164), (5, none), (6, some 9), (7, none)], [(3, some 9), (4, some 164), (5, none), (7, none)])), (56, ([(3, some 9), (4, some 164), (5, none), (7, none)], [(3, some 9), (4, some 164), (5, none), (7, none)])), (65, ([(3, some 9), (4, some 164), (5, none), (7, none)], [(3, some 9), (4, some 164), (5, none)]))]⟩
def S_ParseQualities_cl (k : Nat) : Calls' D := ⟨[(95, S_SplitList_en k), (159, S_l12Split_en k), (161, S_TrimText_en k), (160, S_LowerText_en k), (162, S_SplitPair_en k), (163, S_l13Weight_en k), (96, S_IsToken_en k)], [], [], [], []⟩
theorem S_ParseQualities_ck (k : Nat) : CallsOK X (S_ParseQualities_cl k) := .cons (S_SplitList_eo k) (.cons (S_l12Split_eo k) (.cons (S_TrimText_eo k) (.cons (S_LowerText_eo k) (.cons (S_SplitPair_eo k) (.cons (S_l13Weight_eo k) (.cons (S_IsToken_eo k) (.nil cod)))))))
def S_ParseQualities_c56_L (x : Int × Bool × (List (List UInt8)) × (List IQuality) × (List UInt8) × Int × Unit) (o : Int) (Q : Ex → VSt D → Prop) (R : VR D → Prop) : Prop := Q .normal (mkSt ⟨[(3, .ref 500003), (4, .ref 500004), (5, .hole), (7, .ptr 7 0)], [(500003, .row), (500004, .row), (7, .var [.hole, .hole])]⟩ [.int .i64 x.1, .sl 9 x.2.2.1, .sl 164 x.2.2.2.1, .str x.2.2.2.2.1, .int .i64 o])
def S_ParseQualities_c56_cut (k : Nat) : Cut D := cutS ⟨[(3, .ref 500003), (4, .ref 500004), (5, .hole), (7, .ptr 7 0), (56, .hole)], [(500003, .row), (500004, .row), (7, .var [.hole, .hole])]⟩ [.ki .i64, .kb, .kl 9, .kl 164, .ks, .ki .i64] (fun (x : Int × Bool × (List (List UInt8)) × (List IQuality) × (List UInt8) × Int × Unit) => S_ParseQualities_c56 k x.1 x.2.1 x.2.2.1 x.2.2.2.1 x.2.2.2.2.1 x.2.2.2.2.2.1) S_ParseQualities_c56_L
def S_ParseQualities_c56_cu (k : Nat) : Cuts D := ⟨[], []⟩
theorem S_ParseQualities_c56_ok (k : Nat) : CutFor X S_ParseQualities_pl k Go.Proofs.Tryz.f91.results.toList (S_ParseQualities_c56_cut k) (sub (bodyOf Go.Proofs.Tryz.f91) [1, 1, 1, 0, 1, 0, 0, 1, 0, 0, 1, 1, 0, 1, 0, 1, 1, 1]) :=
  joinCut_s (X := X) (sg := [.ki .i64, .kb, .kl 9, .kl 164, .ks, .ki .i64]) (cu := S_ParseQualities_c56_cu k) (cl := S_ParseQualities_cl k) (tys := [[164]]) (S_ParseQualities_ck k) (cutOK_of (l := []) (by kernel_rfl) trivial) fun x Q R h => by
    simp only [S_ParseQualities_c56, optK_bind, optK_bif, optK_pure, optK_none, optK_oc, optK_guardT, optK_map] at h
    refine hold_of h ?_
    kernel_rfl
def S_ParseQualities_c33_L (x : Int × Bool × (List (List UInt8)) × (List IQuality) × (List (List UInt8)) × (List UInt8) × Int × Unit) (o : Int) (Q : Ex → VSt D → Prop) (R : VR D → Prop) : Prop := Q .normal (mkSt ⟨[(3, .ref 500003), (4, .ref 500004), (5, .hole), (7, .ptr 7 0)], [(500003, .row), (500004, .row), (7, .var [.hole, .hole])]⟩ [.int .i64 x.1, .sl 9 x.2.2.1, .sl 164 x.2.2.2.1, .str x.2.2.2.2.2.1, .int .i64 o])
def S_ParseQualities_c33_cut (k : Nat) : Cut D := cutS ⟨[(3, .ref 500003), (4, .ref 500004), (5, .hole), (6, .ref 500006), (7, .ptr 7 0), (33, .hole)], [(500003, .row), (500004, .row), (500006, .row), (7, .var [.hole, .hole])]⟩ [.ki .i64, .kb, .kl 9, .kl 164, .kl 9, .ks, .ki .i64] (fun (x : Int × Bool × (List (List UInt8)) × (List IQuality) × (List (List UInt8)) × (List UInt8) × Int × Unit) => S_ParseQualities_c33 k x.1 x.2.1 x.2.2.1 x.2.2.2.1 x.2.2.2.2.1 x.2.2.2.2.2.1 x.2.2.2.2.2.2.1) S_ParseQualities_c33_L
def S_ParseQualities_c33_cu (k : Nat) : Cuts D := ⟨[], [(56, some (S_ParseQualities_c56_cut k))]⟩
theorem S_ParseQualities_c33_ok (k : Nat) : CutFor X S_ParseQualities_pl k Go.Proofs.Tryz.f91.results.toList (S_ParseQualities_c33_cut k) (sub (bodyOf Go.Proofs.Tryz.f91) [1, 1, 1, 0, 1, 0, 0, 1, 0, 0, 1, 1, 0, 1]) :=
  joinCut_s (X := X) (sg := [.ki .i64, .kb, .kl 9, .kl 164, .kl 9, .ks, .ki .i64]) (cu := S_ParseQualities_c33_cu k) (cl := S_ParseQualities_cl k) (tys := [[164]]) (S_ParseQualities_ck k) (cutOK_of (l := [(S_ParseQualities_c56_cut k, sub (bodyOf Go.Proofs.Tryz.f91) [1, 1, 1, 0, 1, 0, 0, 1, 0, 0, 1, 1, 0, 1, 0, 1, 1, 1])]) (by kernel_rfl) ⟨S_ParseQualities_c56_ok k, trivial⟩) fun x Q R h => by
    simp only [S_ParseQualities_c33, optK_bind, optK_bif, optK_pure, optK_none, optK_oc, optK_guardT, optK_map] at h
    refine hold_of h ?_
    kernel_rfl
def S_ParseQualities_c65_L (x : Int × Bool × (List (List UInt8)) × (List IQuality) × (List UInt8) × Int × Unit) (o : (List IQuality)) (Q : Ex → VSt D → Prop) (R : VR D → Prop) : Prop := Q .normal (mkSt ⟨[(3, .ref 500003), (4, .ref 500004), (5, .hole)], [(500003, .row), (500004, .row)]⟩ [.int .i64 x.1, .sl 9 x.2.2.1, .sl 164 o])
def S_ParseQualities_c65_cut (k : Nat) : Cut D := cutS ⟨[(3, .ref 500003), (4, .ref 500004), (5, .hole), (7, .ptr 7 0), (65, .hole)], [(500003, .row), (500004, .row), (7, .var [.hole, .hole])]⟩ [.ki .i64, .kb, .kl 9, .kl 164, .ks, .ki .i64] (fun (x : Int × Bool × (List (List UInt8)) × (List IQuality) × (List UInt8) × Int × Unit) => S_ParseQualities_c65 k x.1 x.2.1 x.2.2.1 x.2.2.2.1 x.2.2.2.2.1 x.2.2.2.2.2.1) S_ParseQualities_c65_L
def S_ParseQualities_c65_cu (k : Nat) : Cuts D := ⟨[], []⟩
theorem S_ParseQualities_c65_ok (k : Nat) : CutFor X S_ParseQualities_pl k Go.Proofs.Tryz.f91.results.toList (S_ParseQualities_c65_cut k) (sub (bodyOf Go.Proofs.Tryz.f91) [1, 1, 1, 0, 1, 0, 0, 1, 0, 0, 1, 1, 1, 1]) :=
  joinCut_s (X := X) (sg := [.ki .i64, .kb, .kl 9, .kl 164, .ks, .ki .i64]) (cu := S_ParseQualities_c65_cu k) (cl := S_ParseQualities_cl k) (tys := [[164]]) (S_ParseQualities_ck k) (cutOK_of (l := []) (by kernel_rfl) trivial) fun x Q R h => by
    simp only [S_ParseQualities_c65, optK_bind, optK_bif, optK_pure, optK_none, optK_oc, optK_guardT, optK_map] at h
    refine hold_of h ?_
    kernel_rfl
def S_ParseQualities_b1_L (x : Int × (List (List UInt8)) × (List IQuality) × Unit) (o : (List IQuality)) (Q : Ex → VSt D → Prop) (R : VR D → Prop) : Prop := Q .normal (mkSt ⟨[(3, .ref 500003), (4, .ref 500004), (5, .hole)], [(500003, .row), (500004, .row)]⟩ [.int .i64 x.1, .sl 9 x.2.1, .sl 164 o])
def S_ParseQualities_b1_cut (k : Nat) : Cut D := cutS ⟨[(3, .ref 500003), (4, .ref 500004), (5, .hole)], [(500003, .row), (500004, .row)]⟩ [.ki .i64, .kl 9, .kl 164] (fun (x : Int × (List (List UInt8)) × (List IQuality) × Unit) => S_ParseQualities_b1 k x.1 x.2.1 x.2.2.1) S_ParseQualities_b1_L
def S_ParseQualities_b1_cu (k : Nat) : Cuts D := ⟨[], [(33, some (S_ParseQualities_c33_cut k)), (65, some (S_ParseQualities_c65_cut k))]⟩
theorem S_ParseQualities_b1_ok (k : Nat) : CutFor X S_ParseQualities_pl k Go.Proofs.Tryz.f91.results.toList (S_ParseQualities_b1_cut k) (sub (bodyOf Go.Proofs.Tryz.f91) [1, 1, 1, 0, 1, 0, 0, 1, 0]) :=
  joinCut_s (X := X) (sg := [.ki .i64, .kl 9, .kl 164]) (cu := S_ParseQualities_b1_cu k) (cl := S_ParseQualities_cl k) (tys := [[164]]) (S_ParseQualities_ck k) (cutOK_of (l := [(S_ParseQualities_c33_cut k, sub (bodyOf Go.Proofs.Tryz.f91) [1, 1, 1, 0, 1, 0, 0, 1, 0, 0, 1, 1, 0, 1]), (S_ParseQualities_c65_cut k, sub (bodyOf Go.Proofs.Tryz.f91) [1, 1, 1, 0, 1, 0, 0, 1, 0, 0, 1, 1, 1, 1])]) (by kernel_rfl) ⟨S_ParseQualities_c33_ok k, S_ParseQualities_c65_ok k, trivial⟩) fun x Q R h => by
    simp only [S_ParseQualities_b1, optK_bind, optK_bif, optK_pure, optK_none, optK_oc, optK_guardT, optK_map] at h
    refine hold_of h ?_
    kernel_rfl
def S_ParseQualities_b0_L (x : Int × (List (List UInt8)) × (List IQuality) × Unit) (o : (List IQuality)) (Q : Ex → VSt D → Prop) (R : VR D → Prop) : Prop := Q .normal (mkSt ⟨[(4, .ref 500004)], [(500004, .row)]⟩ [.sl 164 o])
def S_ParseQualities_b0_cut (k : Nat) : Cut D := cutS ⟨[(3, .ref 500003), (4, .ref 500004), (5, .hole)], [(500003, .row), (500004, .row)]⟩ [.ki .i64, .kl 9, .kl 164] (fun (x : Int × (List (List UInt8)) × (List IQuality) × Unit) => S_ParseQualities_b0 k k x.1 x.2.1 x.2.2.1) S_ParseQualities_b0_L
def S_ParseQualities_b0_cu (k : Nat) : Cuts D := ⟨[(1, some (S_ParseQualities_b1_cut k))], []⟩
theorem S_ParseQualities_b0_ok (k : Nat) : CutFor X S_ParseQualities_pl k Go.Proofs.Tryz.f91.results.toList (S_ParseQualities_b0_cut k) (sub (bodyOf Go.Proofs.Tryz.f91) [1, 1, 1, 0, 1]) :=
  loopCut_s (X := X) (sg := [.ki .i64, .kl 9, .kl 164]) (cu := S_ParseQualities_b0_cu k) (cl := S_ParseQualities_cl k) (tys := [[164]]) (id := 0) (c := sub (bodyOf Go.Proofs.Tryz.f91) [1, 1, 1, 0, 1, 0, 0]) (f := fun n => fun (x : Int × (List (List UInt8)) × (List IQuality) × Unit) => S_ParseQualities_b0 k n x.1 x.2.1 x.2.2.1) (S_ParseQualities_ck k) (cutOK_of (l := [(S_ParseQualities_b1_cut k, sub (bodyOf Go.Proofs.Tryz.f91) [1, 1, 1, 0, 1, 0, 0, 1, 0])]) (by kernel_rfl) ⟨S_ParseQualities_b1_ok k, trivial⟩) (fun _ => rfl) (fun n x Q R h => by
    simp only [S_ParseQualities_b0, optK_bind, optK_bif, optK_pure, optK_none, optK_oc, optK_guardT, optK_map] at h
    refine hold_of h ?_
    kernel_rfl) (by kernel_rfl)
def S_ParseQualities_cu (k : Nat) : Cuts D := ⟨[(0, some (S_ParseQualities_b0_cut k))], []⟩
def S_ParseQualities_ar : List Ar := [.c (.ks)]
def S_ParseQualities_f (k : Nat) (x : TupA D S_ParseQualities_ar) : Option ((List IQuality)) := S_ParseQualities k x.1
def S_ParseQualities_vr (r : (List IQuality)) : VR D := .p (.c (.sl 164 r))
theorem S_ParseQualities_ok (k : Nat) : Does P X 91 S_ParseQualities_ar (S_ParseQualities_f k) S_ParseQualities_vr :=
  does_of (body := bodyOf Go.Proofs.Tryz.f91) (pl := S_ParseQualities_pl) (k := k) (cu := S_ParseQualities_cu k) (tys := [[164]]) (S_ParseQualities_ck k) ctx mixed Go.Proofs.Tryz.func91 (by kernel_rfl) (by kernel_rfl) (cutOK_of (l := [(S_ParseQualities_b0_cut k, sub (bodyOf Go.Proofs.Tryz.f91) [1, 1, 1, 0, 1])]) (by kernel_rfl) ⟨S_ParseQualities_b0_ok k, trivial⟩) fun x R h => by
    simp only [S_ParseQualities_f, S_ParseQualities, optK_bind, optK_bif, optK_pure, optK_none, optK_oc, optK_guardT, optK_map] at h
    refine hold_of h ?_
    kernel_rfl
def S_ParseQualities_en (k : Nat) : Entry D := entS S_ParseQualities_ar (S_ParseQualities_f k) S_ParseQualities_vr
theorem S_ParseQualities_eo (k : Nat) : EntryOK X 91 (S_ParseQualities_en k) := (S_ParseQualities_ok k).en rfl
def S_QualityOf_pl : Plan := ⟨[(0, [(0, some 164), (1, none)]), (1, [(0, some 164), (1, none), (5, none)]), (2, [(0, some 164), (1, none), (5, none), (6, none)]), (3, [(0, some 164), (1, none), (5, none), (6, none), (12, none)]), (4, [(0, some 164), (1, none), (5, none), (6, none)]), (5, [(0, some 164), (1, none), (5, none), (6, none), (20, none)]), (6, [(0, some 164), (1, none), (5, none), (6, none)]), (7, [(0, some 164), (1, none), (5, none), (7, none)]), (8, [(0, some 164), (1, none), (5, none), (7, none), (29, none)]), (9, [(0, some 164), (1, none), (5, none), (7, none)]), (10, [(0, some 164), (1, none), (5, none), (7, none), (38, none)]), (11, [(4, none)]), (12, [(4, none)])],
  [(0, [(0, some 164), (1, none), (5, none)]), (1, [(0, some 164), (1, none), (5, none), (6, none)]), (2, [(5, none)]), (3, [(0, some 164), (1, none), (5, none), (7, none)])],
  [(12, ([(0, some 164), (1, none), (5, none), (6, none)], [(0, some 164), (1, none), (5, none)])), (20, ([(0, some 164), (1, none), (6, none)], [(0, some 164), (1, none), (5, none), (6, none)])), (29, ([(0, some 164), (1, none), (5, none), (7, none)], [(5, none)])), (38, ([(0, some 164), (7, none)], [(0, some 164), (1, none), (5, none), (7, none)]))]⟩
def S_QualityOf_cl (k : Nat) : Calls' D := ⟨[], [], [], [], []⟩
theorem S_QualityOf_ck (k : Nat) : CallsOK X (S_QualityOf_cl k) := .nil cod
def S_QualityOf_c20_L (x : (List IQuality) × (List UInt8) × Int × Int × Bool × Unit) (o : Int) (Q : Ex → VSt D → Prop) (R : VR D → Prop) : Prop := Q .normal (mkSt ⟨[(0, .hole), (1, .hole), (5, .hole), (6, .hole)], []⟩ [.sl 164 x.1, .str x.2.1, .int .i64 o, .int .i64 x.2.2.2.1])
def S_QualityOf_c20_cut (k : Nat) : Cut D := cutS ⟨[(0, .hole), (1, .hole), (5, .hole), (6, .hole), (20, .hole)], []⟩ [.kl 164, .ks, .ki .i64, .ki .i64, .kb] (fun (x : (List IQuality) × (List UInt8) × Int × Int × Bool × Unit) => S_QualityOf_c20 k x.1 x.2.1 x.2.2.1 x.2.2.2.1 x.2.2.2.2.1) S_QualityOf_c20_L
def S_QualityOf_c20_cu (k : Nat) : Cuts D := ⟨[], []⟩
theorem S_QualityOf_c20_ok (k : Nat) : CutFor X S_QualityOf_pl k Go.Proofs.Tryz.f92.results.toList (S_QualityOf_c20_cut k) (sub (bodyOf Go.Proofs.Tryz.f92) [1, 1, 0, 1, 0, 0, 1, 0, 0, 1]) :=
  joinCut_s (X := X) (sg := [.kl 164, .ks, .ki .i64, .ki .i64, .kb]) (cu := S_QualityOf_c20_cu k) (cl := S_QualityOf_cl k) (tys := [[0]]) (S_QualityOf_ck k) (cutOK_of (l := []) (by kernel_rfl) trivial) fun x Q R h => by
    simp only [S_QualityOf_c20, optK_bind, optK_bif, optK_pure, optK_none, optK_oc, optK_guardT, optK_map] at h
    refine hold_of h ?_
    kernel_rfl
def S_QualityOf_b1_L (x : (List IQuality) × (List UInt8) × Int × Int × Unit) (o : Int) (Q : Ex → VSt D → Prop) (R : VR D → Prop) : Prop := Q .normal (mkSt ⟨[(0, .hole), (1, .hole), (5, .hole), (6, .hole)], []⟩ [.sl 164 x.1, .str x.2.1, .int .i64 o, .int .i64 x.2.2.2.1])
def S_QualityOf_b1_cut (k : Nat) : Cut D := cutS ⟨[(0, .hole), (1, .hole), (5, .hole), (6, .hole)], []⟩ [.kl 164, .ks, .ki .i64, .ki .i64] (fun (x : (List IQuality) × (List UInt8) × Int × Int × Unit) => S_QualityOf_b1 k x.1 x.2.1 x.2.2.1 x.2.2.2.1) S_QualityOf_b1_L
def S_QualityOf_b1_cu (k : Nat) : Cuts D := ⟨[], [(20, some (S_QualityOf_c20_cut k))]⟩
theorem S_QualityOf_b1_ok (k : Nat) : CutFor X S_QualityOf_pl k Go.Proofs.Tryz.f92.results.toList (S_QualityOf_b1_cut k) (sub (bodyOf Go.Proofs.Tryz.f92) [1, 1, 0, 1, 0, 0, 1, 0]) :=
  joinCut_s (X := X) (sg := [.kl 164, .ks, .ki .i64, .ki .i64]) (cu := S_QualityOf_b1_cu k) (cl := S_QualityOf_cl k) (tys := [[0]]) (S_QualityOf_ck k) (cutOK_of (l := [(S_QualityOf_c20_cut k, sub (bodyOf Go.Proofs.Tryz.f92) [1, 1, 0, 1, 0, 0, 1, 0, 0, 1])]) (by kernel_rfl) ⟨S_QualityOf_c20_ok k, trivial⟩) fun x Q R h => by
    simp only [S_QualityOf_b1, optK_bind, optK_bif, optK_pure, optK_none, optK_oc, optK_guardT, optK_map] at h
    refine hold_of h ?_
    kernel_rfl
def S_QualityOf_b0_L (x : (List IQuality) × (List UInt8) × Int × Int × Unit) (o : Int) (Q : Ex → VSt D → Prop) (R : VR D → Prop) : Prop := Q .normal (mkSt ⟨[(0, .hole), (1, .hole), (5, .hole)], []⟩ [.sl 164 x.1, .str x.2.1, .int .i64 o])
def S_QualityOf_b0_cut (k : Nat) : Cut D := cutS ⟨[(0, .hole), (1, .hole), (5, .hole), (6, .hole)], []⟩ [.kl 164, .ks, .ki .i64, .ki .i64] (fun (x : (List IQuality) × (List UInt8) × Int × Int × Unit) => S_QualityOf_b0 k k x.1 x.2.1 x.2.2.1 x.2.2.2.1) S_QualityOf_b0_L
def S_QualityOf_b0_cu (k : Nat) : Cuts D := ⟨[(1, some (S_QualityOf_b1_cut k))], []⟩
theorem S_QualityOf_b0_ok (k : Nat) : CutFor X S_QualityOf_pl k Go.Proofs.Tryz.f92.results.toList (S_QualityOf_b0_cut k) (sub (bodyOf Go.Proofs.Tryz.f92) [1, 1, 0, 1]) :=
  loopCut_s (X := X) (sg := [.kl 164, .ks, .ki .i64, .ki .i64]) (cu := S_QualityOf_b0_cu k) (cl := S_QualityOf_cl k) (tys := [[0]]) (id := 0) (c := sub (bodyOf Go.Proofs.Tryz.f92) [1, 1, 0, 1, 0, 0]) (f := fun n => fun (x : (List IQuality) × (List UInt8) × Int × Int × Unit) => S_QualityOf_b0 k n x.1 x.2.1 x.2.2.1 x.2.2.2.1) (S_QualityOf_ck k) (cutOK_of (l := [(S_QualityOf_b1_cut k, sub (bodyOf Go.Proofs.Tryz.f92) [1, 1, 0, 1, 0, 0, 1, 0])]) (by kernel_rfl) ⟨S_QualityOf_b1_ok k, trivial⟩) (fun _ => rfl) (fun n x Q R h => by
    simp only [S_QualityOf_b0, optK_bind, optK_bif, optK_pure, optK_none, optK_oc, optK_guardT, optK_map] at h
    refine hold_of h ?_
    kernel_rfl) (by kernel_rfl)
def S_QualityOf_b2_L (x : (List IQuality) × (List UInt8) × Int × Int × Unit) (o : Oc (Unit) (Int)) (Q : Ex → VSt D → Prop) (R : VR D → Prop) : Prop := ocP o (fun v0 => Q .normal (mkSt ⟨[(5, .hole)], []⟩ [.int .i64 x.2.2.1])) (fun w0 => R (.p (.c (.int .i64 w0))))
def S_QualityOf_b2_cut (k : Nat) : Cut D := cutS ⟨[(0, .hole), (1, .hole), (5, .hole), (7, .hole)], []⟩ [.kl 164, .ks, .ki .i64, .ki .i64] (fun (x : (List IQuality) × (List UInt8) × Int × Int × Unit) => S_QualityOf_b2 k k x.1 x.2.1 x.2.2.1 x.2.2.2.1) S_QualityOf_b2_L
def S_QualityOf_b2_cu (k : Nat) : Cuts D := ⟨[], []⟩
theorem S_QualityOf_b2_ok (k : Nat) : CutFor X S_QualityOf_pl k Go.Proofs.Tryz.f92.results.toList (S_QualityOf_b2_cut k) (sub (bodyOf Go.Proofs.Tryz.f92) [1, 1, 1, 0, 1]) :=
  loopCut_s (X := X) (sg := [.kl 164, .ks, .ki .i64, .ki .i64]) (cu := S_QualityOf_b2_cu k) (cl := S_QualityOf_cl k) (tys := [[0]]) (id := 2) (c := sub (bodyOf Go.Proofs.Tryz.f92) [1, 1, 1, 0, 1, 0, 0]) (f := fun n => fun (x : (List IQuality) × (List UInt8) × Int × Int × Unit) => S_QualityOf_b2 k n x.1 x.2.1 x.2.2.1 x.2.2.2.1) (S_QualityOf_ck k) (cutOK_of (l := []) (by kernel_rfl) trivial) (fun _ => rfl) (fun n x Q R h => by
    simp only [S_QualityOf_b2, optK_bind, optK_bif, optK_pure, optK_none, optK_oc, optK_guardT, optK_map] at h
    refine hold_of h ?_
    kernel_rfl) (by kernel_rfl)
def S_QualityOf_cu (k : Nat) : Cuts D := ⟨[(0, some (S_QualityOf_b0_cut k)), (2, some (S_QualityOf_b2_cut k))], []⟩
def S_QualityOf_ar : List Ar := [.c (.kl 164), .c (.ks)]
def S_QualityOf_f (k : Nat) (x : TupA D S_QualityOf_ar) : Option (Int) := S_QualityOf k x.1 x.2.1
def S_QualityOf_vr (r : Int) : VR D := .p (.c (.int .i64 r))
theorem S_QualityOf_ok (k : Nat) : Does P X 92 S_QualityOf_ar (S_QualityOf_f k) S_QualityOf_vr :=
  does_of (body := bodyOf Go.Proofs.Tryz.f92) (pl := S_QualityOf_pl) (k := k) (cu := S_QualityOf_cu k) (tys := [[0]]) (S_QualityOf_ck k) ctx mixed Go.Proofs.Tryz.func92 (by kernel_rfl) (by kernel_rfl) (cutOK_of (l := [(S_QualityOf_b0_cut k, sub (bodyOf Go.Proofs.Tryz.f92) [1, 1, 0, 1]), (S_QualityOf_b2_cut k, sub (bodyOf Go.Proofs.Tryz.f92) [1, 1, 1, 0, 1])]) (by kernel_rfl) ⟨S_QualityOf_b0_ok k, S_QualityOf_b2_ok k, trivial⟩) fun x R h => by
    simp only [S_QualityOf_f, S_QualityOf, optK_bind, optK_bif, optK_pure, optK_none, optK_oc, optK_guardT, optK_map] at h
    refine hold_of h ?_
    kernel_rfl
def S_QualityOf_en (k : Nat) : Entry D := entS S_QualityOf_ar (S_QualityOf_f k) S_QualityOf_vr
theorem S_QualityOf_eo (k : Nat) : EntryOK X 92 (S_QualityOf_en k) := (S_QualityOf_ok k).en rfl
def S_l1Word_pl : Plan := ⟨[(0, [(0, some 9), (1, none)]), (1, [(0, some 9), (1, none), (12, none)]), (2, [(4, none)]), (3, [(4, none)])],
  [],
  [(12, ([], [(0, some 9), (1, none)]))]⟩
def S_l1Word_cl (k : Nat) : Calls' D := ⟨[], [], [], [], []⟩
theorem S_l1Word_ck (k : Nat) : CallsOK X (S_l1Word_cl k) := .nil cod
def S_l1Word_cu (k : Nat) : Cuts D := ⟨[], []⟩
def S_l1Word_ar : List Ar := [.c (.kl 9), .c (.ki .i64)]
def S_l1Word_f (k : Nat) (x : TupA D S_l1Word_ar) : Option ((List UInt8)) := S_l1Word k x.1 x.2.1
def S_l1Word_vr (r : (List UInt8)) : VR D := .p (.c (.str r))
theorem S_l1Word_ok (k : Nat) : Does P X 93 S_l1Word_ar (S_l1Word_f k) S_l1Word_vr :=
  does_of (body := bodyOf Go.Proofs.Tryz.f93) (pl := S_l1Word_pl) (k := k) (cu := S_l1Word_cu k) (tys := [[0]]) (S_l1Word_ck k) ctx mixed Go.Proofs.Tryz.func93 (by kernel_rfl) (by kernel_rfl) (cutOK_of (l := []) (by kernel_rfl) trivial) fun x R h => by
    simp only [S_l1Word_f, S_l1Word, optK_bind, optK_bif, optK_pure, optK_none, optK_oc, optK_guardT, optK_map] at h
    refine hold_of h ?_
    kernel_rfl
def S_l1Word_en (k : Nat) : Entry D := entS S_l1Word_ar (S_l1Word_f k) S_l1Word_vr
theorem S_l1Word_eo (k : Nat) : EntryOK X 93 (S_l1Word_en k) := (S_l1Word_ok k).en rfl
def S_ChooseName_pl : Plan := ⟨[(0, [(0, some 9), (1, none)]), (1, [(0, some 9), (5, some 164)]), (2, [(0, some 9), (5, some 164), (6, none)]), (3, [(0, some 9), (5, some 164), (6, none), (7, none)]), (4, [(0, some 9), (5, some 164), (6, none), (7, none), (13, none)]), (5, [(0, some 9), (5, some 164), (6, none), (7, none)]), (6, [(0, some 9), (5, some 164), (6, none), (7, none), (28, none)]), (7, [(0, some 9), (5, some 164), (6, none), (7, none)]), (8, [(4, none)])],
  [(0, [(0, some 9), (6, none)]), (1, [(0, some 9), (5, some 164), (6, none), (7, none)])],
  [(13, ([(0, some 9), (5, some 164), (6, none), (7, none)], [(0, some 9), (6, none)])), (28, ([(0, some 9), (5, some 164), (7, none)], [(0, some 9), (5, some 164), (6, none), (7, none)]))]⟩
def S_ChooseName_cl (k : Nat) : Calls' D := ⟨[(91, S_ParseQualities_en k), (92, S_QualityOf_en k), (93, S_l1Word_en k)], [], [], [], []⟩
theorem S_ChooseName_ck (k : Nat) : CallsOK X (S_ChooseName_cl k) := .cons (S_ParseQualities_eo k) (.cons (S_QualityOf_eo k) (.cons (S_l1Word_eo k) (.nil cod)))
def S_ChooseName_c28_L (x : (List (List UInt8)) × Int × Int × Bool × (List IQuality) × Unit) (o : Int) (Q : Ex → VSt D → Prop) (R : VR D → Prop) : Prop := Q .normal (mkSt ⟨[(0, .hole), (5, .ref 500005), (6, .hole), (7, .hole)], [(500005, .row)]⟩ [.sl 9 x.1, .int .i64 o, .int .i64 x.2.2.1, .sl 164 x.2.2.2.2.1])
def S_ChooseName_c28_cut (k : Nat) : Cut D := cutS ⟨[(0, .hole), (5, .ref 500005), (6, .hole), (7, .hole), (28, .hole)], [(500005, .row)]⟩ [.kl 9, .ki .i64, .ki .i64, .kb, .kl 164] (fun (x : (List (List UInt8)) × Int × Int × Bool × (List IQuality) × Unit) => S_ChooseName_c28 k x.1 x.2.1 x.2.2.1 x.2.2.2.1 x.2.2.2.2.1) S_ChooseName_c28_L
def S_ChooseName_c28_cu (k : Nat) : Cuts D := ⟨[], []⟩
theorem S_ChooseName_c28_ok (k : Nat) : CutFor X S_ChooseName_pl k Go.Proofs.Tryz.f42.results.toList (S_ChooseName_c28_cut k) (sub (bodyOf Go.Proofs.Tryz.f42) [1, 1, 1, 0, 1, 0, 0, 1, 0, 0, 1]) :=
  joinCut_s (X := X) (sg := [.kl 9, .ki .i64, .ki .i64, .kb, .kl 164]) (cu := S_ChooseName_c28_cu k) (cl := S_ChooseName_cl k) (tys := [[0]]) (S_ChooseName_ck k) (cutOK_of (l := []) (by kernel_rfl) trivial) fun x Q R h => by
    simp only [S_ChooseName_c28, optK_bind, optK_bif, optK_pure, optK_none, optK_oc, optK_guardT, optK_map] at h
    refine hold_of h ?_
    kernel_rfl
def S_ChooseName_b1_L (x : (List (List UInt8)) × Int × Int × (List IQuality) × Unit) (o : Int) (Q : Ex → VSt D → Prop) (R : VR D → Prop) : Prop := Q .normal (mkSt ⟨[(0, .hole), (5, .ref 500005), (6, .hole), (7, .hole)], [(500005, .row)]⟩ [.sl 9 x.1, .int .i64 o, .int .i64 x.2.2.1, .sl 164 x.2.2.2.1])
def S_ChooseName_b1_cut (k : Nat) : Cut D := cutS ⟨[(0, .hole), (5, .ref 500005), (6, .hole), (7, .hole)], [(500005, .row)]⟩ [.kl 9, .ki .i64, .ki .i64, .kl 164] (fun (x : (List (List UInt8)) × Int × Int × (List IQuality) × Unit) => S_ChooseName_b1 k x.1 x.2.1 x.2.2.1 x.2.2.2.1) S_ChooseName_b1_L
def S_ChooseName_b1_cu (k : Nat) : Cuts D := ⟨[], [(28, some (S_ChooseName_c28_cut k))]⟩
theorem S_ChooseName_b1_ok (k : Nat) : CutFor X S_ChooseName_pl k Go.Proofs.Tryz.f42.results.toList (S_ChooseName_b1_cut k) (sub (bodyOf Go.Proofs.Tryz.f42) [1, 1, 1, 0, 1, 0, 0, 1, 0]) :=
  joinCut_s (X := X) (sg := [.kl 9, .ki .i64, .ki .i64, .kl 164]) (cu := S_ChooseName_b1_cu k) (cl := S_ChooseName_cl k) (tys := [[0]]) (S_ChooseName_ck k) (cutOK_of (l := [(S_ChooseName_c28_cut k, sub (bodyOf Go.Proofs.Tryz.f42) [1, 1, 1, 0, 1, 0, 0, 1, 0, 0, 1])]) (by kernel_rfl) ⟨S_ChooseName_c28_ok k, trivial⟩) fun x Q R h => by
    simp only [S_ChooseName_b1, optK_bind, optK_bif, optK_pure, optK_none, optK_oc, optK_guardT, optK_map] at h
    refine hold_of h ?_
    kernel_rfl
def S_ChooseName_b0_L (x : (List (List UInt8)) × Int × Int × (List IQuality) × Unit) (o : Int) (Q : Ex → VSt D → Prop) (R : VR D → Prop) : Prop := Q .normal (mkSt ⟨[(0, .hole), (6, .hole)], []⟩ [.sl 9 x.1, .int .i64 o])
def S_ChooseName_b0_cut (k : Nat) : Cut D := cutS ⟨[(0, .hole), (5, .ref 500005), (6, .hole), (7, .hole)], [(500005, .row)]⟩ [.kl 9, .ki .i64, .ki .i64, .kl 164] (fun (x : (List (List UInt8)) × Int × Int × (List IQuality) × Unit) => S_ChooseName_b0 k k x.1 x.2.1 x.2.2.1 x.2.2.2.1) S_ChooseName_b0_L
def S_ChooseName_b0_cu (k : Nat) : Cuts D := ⟨[(1, some (S_ChooseName_b1_cut k))], []⟩
theorem S_ChooseName_b0_ok (k : Nat) : CutFor X S_ChooseName_pl k Go.Proofs.Tryz.f42.results.toList (S_ChooseName_b0_cut k) (sub (bodyOf Go.Proofs.Tryz.f42) [1, 1, 1, 0, 1]) :=
  loopCut_s (X := X) (sg := [.kl 9, .ki .i64, .ki .i64, .kl 164]) (cu := S_ChooseName_b0_cu k) (cl := S_ChooseName_cl k) (tys := [[0]]) (id := 0) (c := sub (bodyOf Go.Proofs.Tryz.f42) [1, 1, 1, 0, 1, 0, 0]) (f := fun n => fun (x : (List (List UInt8)) × Int × Int × (List IQuality) × Unit) => S_ChooseName_b0 k n x.1 x.2.1 x.2.2.1 x.2.2.2.1) (S_ChooseName_ck k) (cutOK_of (l := [(S_ChooseName_b1_cut k, sub (bodyOf Go.Proofs.Tryz.f42) [1, 1, 1, 0, 1, 0, 0, 1, 0])]) (by kernel_rfl) ⟨S_ChooseName_b1_ok k, trivial⟩) (fun _ => rfl) (fun n x Q R h => by
    simp only [S_ChooseName_b0, optK_bind, optK_bif, optK_pure, optK_none, optK_oc, optK_guardT, optK_map] at h
    refine hold_of h ?_
    kernel_rfl) (by kernel_rfl)
def S_ChooseName_cu (k : Nat) : Cuts D := ⟨[(0, some (S_ChooseName_b0_cut k))], []⟩
def S_ChooseName_ar : List Ar := [.c (.kl 9), .c (.ks)]
def S_ChooseName_f (k : Nat) (x : TupA D S_ChooseName_ar) : Option ((List UInt8)) := S_ChooseName k x.1 x.2.1
def S_ChooseName_vr (r : (List UInt8)) : VR D := .p (.c (.str r))
theorem S_ChooseName_ok (k : Nat) : Does P X 42 S_ChooseName_ar (S_ChooseName_f k) S_ChooseName_vr :=
  does_of (body := bodyOf Go.Proofs.Tryz.f42) (pl := S_ChooseName_pl) (k := k) (cu := S_ChooseName_cu k) (tys := [[0]]) (S_ChooseName_ck k) ctx mixed Go.Proofs.Tryz.func42 (by kernel_rfl) (by kernel_rfl) (cutOK_of (l := [(S_ChooseName_b0_cut k, sub (bodyOf Go.Proofs.Tryz.f42) [1, 1, 1, 0, 1])]) (by kernel_rfl) ⟨S_ChooseName_b0_ok k, trivial⟩) fun x R h => by
    simp only [S_ChooseName_f, S_ChooseName, optK_bind, optK_bif, optK_pure, optK_none, optK_oc, optK_guardT, optK_map] at h
    refine hold_of h ?_
    kernel_rfl
def S_ChooseName_en (k : Nat) : Entry D := entS S_ChooseName_ar (S_ChooseName_f k) S_ChooseName_vr
theorem S_ChooseName_eo (k : Nat) : EntryOK X 42 (S_ChooseName_en k) := (S_ChooseName_ok k).en rfl
def S_VisitorOf_pl : Plan := ⟨[(0, [(1, none)]), (1, [(3, none)]), (2, [(3, none), (16, none)]), (3, [(2, none)]), (4, [(2, none)])],
  [],
  [(16, ([], [(3, none)]))]⟩
def S_VisitorOf_cl (k : Nat) : Calls' D := ⟨[(43, S_l5Get_en k), (95, S_SplitList_en k), (94, S_JoinList_en k), (96, S_IsToken_en k)], [], [], [], []⟩
theorem S_VisitorOf_ck (k : Nat) : CallsOK X (S_VisitorOf_cl k) := .cons (S_l5Get_eo k) (.cons (S_SplitList_eo k) (.cons (S_JoinList_eo k) (.cons (S_IsToken_eo k) (.nil cod))))
def S_VisitorOf_cu (k : Nat) : Cuts D := ⟨[], []⟩
def S_VisitorOf_ar : List Ar := [.a [.ks, .ks, .ks, .kl 130]]
def S_VisitorOf_f (k : Nat) (x : TupA D S_VisitorOf_ar) : Option ((List UInt8)) := S_VisitorOf k (⟨x.1.1, x.1.2.1, x.1.2.2.1, x.1.2.2.2.1⟩ : IRequest)
def S_VisitorOf_vr (r : (List UInt8)) : VR D := .p (.c (.str r))
theorem S_VisitorOf_ok (k : Nat) : Does P X 44 S_VisitorOf_ar (S_VisitorOf_f k) S_VisitorOf_vr :=
  does_of (body := bodyOf Go.Proofs.Tryz.f44) (pl := S_VisitorOf_pl) (k := k) (cu := S_VisitorOf_cu k) (tys := [[0]]) (S_VisitorOf_ck k) ctx mixed Go.Proofs.Tryz.func44 (by kernel_rfl) (by kernel_rfl) (cutOK_of (l := []) (by kernel_rfl) trivial) fun x R h => by
    simp only [S_VisitorOf_f, S_VisitorOf, optK_bind, optK_bif, optK_pure, optK_none, optK_oc, optK_guardT, optK_map] at h
    refine hold_of h ?_
    kernel_rfl
def S_VisitorOf_en (k : Nat) : Entry D := entS S_VisitorOf_ar (S_VisitorOf_f k) S_VisitorOf_vr
theorem S_VisitorOf_eo (k : Nat) : EntryOK X 44 (S_VisitorOf_en k) := (S_VisitorOf_ok k).en rfl
def S_VariantOf_pl : Plan := ⟨[(0, [(2, none), (3, none)]), (1, [(2, none), (3, none), (6, none)]), (2, [(2, none), (3, none), (6, none), (10, none)]), (3, [(2, none), (3, none), (6, none)]), (4, [(3, none), (6, none), (18, none)]), (5, [(4, none), (5, none)]), (6, [(4, none), (5, none)])],
  [],
  [(10, ([(2, none), (3, none)], [(2, none), (3, none), (6, none)])), (18, ([(3, none), (6, none)], [(6, none)]))]⟩
def S_VariantOf_cl (k : Nat) : Calls' D := ⟨[(43, S_l5Get_en k), (42, S_ChooseName_en k), (44, S_VisitorOf_en k)], [], [], [], []⟩
theorem S_VariantOf_ck (k : Nat) : CallsOK X (S_VariantOf_cl k) := .cons (S_l5Get_eo k) (.cons (S_ChooseName_eo k) (.cons (S_VisitorOf_eo k) (.nil cod)))
def S_VariantOf_c10_L (x : (List UInt8) × Bool × (List UInt8) × (List UInt8) × (List UInt8) × Bool × (List (List UInt8)) × (List IVersion) × (List UInt8) × (List UInt8) × (List UInt8) × (List IField) × Unit) (o : (List UInt8)) (Q : Ex → VSt D → Prop) (R : VR D → Prop) : Prop := Q .normal (mkSt ⟨[(2, .ptr 2 0), (3, .ptr 3 0), (6, .hole)], [(2, .var [.hole, .hole, .hole, .hole, .hole, .hole]), (3, .var [.hole, .hole, .hole, .hole])]⟩ [.str o, .str x.2.2.1, .str x.2.2.2.1, .str x.2.2.2.2.1, .bool x.2.2.2.2.2.1, .sl 9 x.2.2.2.2.2.2.1, .sl 128 x.2.2.2.2.2.2.2.1, .str x.2.2.2.2.2.2.2.2.1, .str x.2.2.2.2.2.2.2.2.2.1, .str x.2.2.2.2.2.2.2.2.2.2.1, .sl 130 x.2.2.2.2.2.2.2.2.2.2.2.1])
def S_VariantOf_c10_cut (k : Nat) : Cut D := cutS ⟨[(2, .ptr 2 0), (3, .ptr 3 0), (6, .hole), (10, .hole)], [(2, .var [.hole, .hole, .hole, .hole, .hole, .hole]), (3, .var [.hole, .hole, .hole, .hole])]⟩ [.ks, .kb, .ks, .ks, .ks, .kb, .kl 9, .kl 128, .ks, .ks, .ks, .kl 130] (fun (x : (List UInt8) × Bool × (List UInt8) × (List UInt8) × (List UInt8) × Bool × (List (List UInt8)) × (List IVersion) × (List UInt8) × (List UInt8) × (List UInt8) × (List IField) × Unit) => S_VariantOf_c10 k x.1 x.2.1 x.2.2.1 x.2.2.2.1 x.2.2.2.2.1 x.2.2.2.2.2.1 x.2.2.2.2.2.2.1 x.2.2.2.2.2.2.2.1 x.2.2.2.2.2.2.2.2.1 x.2.2.2.2.2.2.2.2.2.1 x.2.2.2.2.2.2.2.2.2.2.1 x.2.2.2.2.2.2.2.2.2.2.2.1) S_VariantOf_c10_L
def S_VariantOf_c10_cu (k : Nat) : Cuts D := ⟨[], []⟩
theorem S_VariantOf_c10_ok (k : Nat) : CutFor X S_VariantOf_pl k Go.Proofs.Tryz.f13.results.toList (S_VariantOf_c10_cut k) (sub (bodyOf Go.Proofs.Tryz.f13) [1, 1, 0, 1]) :=
  joinCut_s (X := X) (sg := [.ks, .kb, .ks, .ks, .ks, .kb, .kl 9, .kl 128, .ks, .ks, .ks, .kl 130]) (cu := S_VariantOf_c10_cu k) (cl := S_VariantOf_cl k) (tys := [[0], [0]]) (S_VariantOf_ck k) (cutOK_of (l := []) (by kernel_rfl) trivial) fun x Q R h => by
    simp only [S_VariantOf_c10, optK_bind, optK_bif, optK_pure, optK_none, optK_oc, optK_guardT, optK_map] at h
    refine hold_of h ?_
    kernel_rfl
def S_VariantOf_cu (k : Nat) : Cuts D := ⟨[], [(10, some (S_VariantOf_c10_cut k))]⟩
def S_VariantOf_ar : List Ar := [.a [.ks, .ks, .ks, .kb, .kl 9, .kl 128], .a [.ks, .ks, .ks, .kl 130]]
def S_VariantOf_f (k : Nat) (x : TupA D S_VariantOf_ar) : Option ((List UInt8) × (List UInt8)) := S_VariantOf k (⟨x.1.1, x.1.2.1, x.1.2.2.1, x.1.2.2.2.1, x.1.2.2.2.2.1, x.1.2.2.2.2.2.1⟩ : IResource) (⟨x.2.1.1, x.2.1.2.1, x.2.1.2.2.1, x.2.1.2.2.2.1⟩ : IRequest)
def S_VariantOf_vr (r : (List UInt8) × (List UInt8)) : VR D := .tup [.c (.str r.1), .c (.str r.2)]
theorem S_VariantOf_ok (k : Nat) : Does P X 13 S_VariantOf_ar (S_VariantOf_f k) S_VariantOf_vr :=
  does_of (body := bodyOf Go.Proofs.Tryz.f13) (pl := S_VariantOf_pl) (k := k) (cu := S_VariantOf_cu k) (tys := [[0], [0]]) (S_VariantOf_ck k) ctx mixed Go.Proofs.Tryz.func13 (by kernel_rfl) (by kernel_rfl) (cutOK_of (l := [(S_VariantOf_c10_cut k, sub (bodyOf Go.Proofs.Tryz.f13) [1, 1, 0, 1])]) (by kernel_rfl) ⟨S_VariantOf_c10_ok k, trivial⟩) fun x R h => by
    simp only [S_VariantOf_f, S_VariantOf, optK_bind, optK_bif, optK_pure, optK_none, optK_oc, optK_guardT, optK_map] at h
    refine hold_of h ?_
    kernel_rfl
def S_VariantOf_en (k : Nat) : Entry D := entS S_VariantOf_ar (S_VariantOf_f k) S_VariantOf_vr
theorem S_VariantOf_eo (k : Nat) : EntryOK X 13 (S_VariantOf_en k) := (S_VariantOf_ok k).en rfl
def strings_Join_ar : List Ar := [.c (.kl 9), .c (.ks)]
def strings_Join_f (k : Nat) (x : TupA D strings_Join_ar) : Option ((List UInt8)) := strings_Join k x.1 x.2.1
def strings_Join_vr (r : (List UInt8)) : VR D := .p (.c (.str r))
theorem strings_Join_ok (k : Nat) : Does P X 127 strings_Join_ar (strings_Join_f k) strings_Join_vr := does_join (P := P) (D := D) (X := X) (el := 9) ⟨Go.Proofs.Tryz.f127, Go.Proofs.Tryz.func127, by kernel_rfl, by kernel_rfl⟩ (fun (s : List UInt8) => s) (fun (l : List (List UInt8)) s => joinO l s) (fun _ => rfl) (by kernel_rfl) (fun (l : List (List UInt8)) s => congrArg (fun t => joinO t s) (List.map_id' l).symm) (fun a c sep w => Go.Proofs.Tryz.strings_Join_none a c sep w) (fun bk o c xs sep w hg h1 h2 h3 h4 h5 => Go.Proofs.Tryz.strings_Join bk o c xs sep w h1 h2 h3 h4 h5)
def strings_Join_en (k : Nat) : Entry D := entS strings_Join_ar (strings_Join_f k) strings_Join_vr
theorem strings_Join_eo (k : Nat) : EntryOK X 127 (strings_Join_en k) := (strings_Join_ok k).en rfl
def I_JoinList_pl : Plan := ⟨[(0, [(0, some 9)]), (1, [(2, none)])],
  [],
  []⟩
def I_JoinList_cl (k : Nat) : Calls' D := ⟨[(127, strings_Join_en k)], [], [], [], []⟩
theorem I_JoinList_ck (k : Nat) : CallsOK X (I_JoinList_cl k) := .cons (strings_Join_eo k) (.nil cod)
def I_JoinList_cu (k : Nat) : Cuts D := ⟨[], []⟩
def I_JoinList_ar : List Ar := [.c (.kl 9)]
def I_JoinList_f (k : Nat) (x : TupA D I_JoinList_ar) : Option ((List UInt8)) := I_JoinList k x.1
def I_JoinList_vr (r : (List UInt8)) : VR D := .p (.c (.str r))
theorem I_JoinList_ok (k : Nat) : Does P X 99 I_JoinList_ar (I_JoinList_f k) I_JoinList_vr :=
  does_of (body := bodyOf Go.Proofs.Tryz.f99) (pl := I_JoinList_pl) (k := k) (cu := I_JoinList_cu k) (tys := [[0]]) (I_JoinList_ck k) ctx mixed Go.Proofs.Tryz.func99 (by kernel_rfl) (by kernel_rfl) (cutOK_of (l := []) (by kernel_rfl) trivial) fun x R h => by
    simp only [I_JoinList_f, I_JoinList, optK_bind, optK_bif, optK_pure, optK_none, optK_oc, optK_guardT, optK_map] at h
    refine hold_of h ?_
    kernel_rfl
def I_JoinList_en (k : Nat) : Entry D := entS I_JoinList_ar (I_JoinList_f k) I_JoinList_vr
theorem I_JoinList_eo (k : Nat) : EntryOK X 99 (I_JoinList_en k) := (I_JoinList_ok k).en rfl
def I_GetField_pl : Plan := ⟨[(0, [(0, some 130), (1, none)]), (1, [(0, some 130), (1, none), (6, some 9)]), (2, [(1, none), (6, some 9), (10, some 130), (11, none), (12, none)]), (3, [(1, none), (6, some 9), (10, some 130), (11, none), (12, none), (13, none)]), (4, [(1, none), (6, some 9), (8, none), (10, some 130), (11, none), (12, none)]), (5, [(1, none), (6, some 9), (8, none), (10, some 130), (11, none), (12, none), (19, none)]), (6, [(1, none), (6, some 9), (10, some 130), (11, none), (12, none)]), (7, [(1, none), (6, some 9), (10, some 130), (11, none), (12, none)]), (8, [(4, none), (5, none)])],
  [(0, [(6, some 9)]), (1, [(1, none), (6, some 9), (10, some 130), (11, none), (12, none)])],
  [(13, ([(1, none), (6, some 9), (10, some 130), (11, none), (12, none)], [(6, some 9)])), (19, ([(1, none), (6, some 9), (8, none), (10, some 130), (11, none), (12, none)], [(1, none), (6, some 9), (10, some 130), (11, none), (12, none)]))]⟩
def I_GetField_cl (k : Nat) : Calls' D := ⟨[(99, I_JoinList_en k)], [], [], [], []⟩
theorem I_GetField_ck (k : Nat) : CallsOK X (I_GetField_cl k) := .cons (I_JoinList_eo k) (.nil cod)
def I_GetField_c19_L (x : (List UInt8) × (List IField) × Int × Int × Bool × (List (List UInt8)) × (List UInt8) × (List UInt8) × Unit) (o : (List (List UInt8))) (Q : Ex → VSt D → Prop) (R : VR D → Prop) : Prop := Q .normal (mkSt ⟨[(1, .hole), (6, .ref 500006), (10, .hole), (11, .hole), (12, .hole)], [(500006, .row)]⟩ [.str x.1, .sl 130 x.2.1, .int .i64 x.2.2.1, .int .i64 x.2.2.2.1, .sl 9 o])
def I_GetField_c19_cut (k : Nat) : Cut D := cutS ⟨[(1, .hole), (6, .ref 500006), (8, .ptr 8 0), (10, .hole), (11, .hole), (12, .hole), (19, .hole)], [(500006, .row), (8, .var [.hole, .hole])]⟩ [.ks, .kl 130, .ki .i64, .ki .i64, .kb, .kl 9, .ks, .ks] (fun (x : (List UInt8) × (List IField) × Int × Int × Bool × (List (List UInt8)) × (List UInt8) × (List UInt8) × Unit) => I_GetField_c19 k x.1 x.2.1 x.2.2.1 x.2.2.2.1 x.2.2.2.2.1 x.2.2.2.2.2.1 x.2.2.2.2.2.2.1 x.2.2.2.2.2.2.2.1) I_GetField_c19_L
def I_GetField_c19_cu (k : Nat) : Cuts D := ⟨[], []⟩
theorem I_GetField_c19_ok (k : Nat) : CutFor X I_GetField_pl k Go.Proofs.Tryz.f48.results.toList (I_GetField_c19_cut k) (sub (bodyOf Go.Proofs.Tryz.f48) [1, 1, 0, 1, 0, 0, 1, 1, 0, 0, 1, 1]) :=
  joinCut_s (X := X) (sg := [.ks, .kl 130, .ki .i64, .ki .i64, .kb, .kl 9, .ks, .ks]) (cu := I_GetField_c19_cu k) (cl := I_GetField_cl k) (tys := [[0], [0]]) (I_GetField_ck k) (cutOK_of (l := []) (by kernel_rfl) trivial) fun x Q R h => by
    simp only [I_GetField_c19, optK_bind, optK_bif, optK_pure, optK_none, optK_oc, optK_guardT, optK_map] at h
    refine hold_of h ?_
    kernel_rfl
def I_GetField_b1_L (x : (List UInt8) × (List IField) × Int × Int × (List (List UInt8)) × Unit) (o : (List (List UInt8))) (Q : Ex → VSt D → Prop) (R : VR D → Prop) : Prop := Q .normal (mkSt ⟨[(1, .hole), (6, .ref 500006), (10, .hole), (11, .hole), (12, .hole)], [(500006, .row)]⟩ [.str x.1, .sl 130 x.2.1, .int .i64 x.2.2.1, .int .i64 x.2.2.2.1, .sl 9 o])
def I_GetField_b1_cut (k : Nat) : Cut D := cutS ⟨[(1, .hole), (6, .ref 500006), (10, .hole), (11, .hole), (12, .hole)], [(500006, .row)]⟩ [.ks, .kl 130, .ki .i64, .ki .i64, .kl 9] (fun (x : (List UInt8) × (List IField) × Int × Int × (List (List UInt8)) × Unit) => I_GetField_b1 k x.1 x.2.1 x.2.2.1 x.2.2.2.1 x.2.2.2.2.1) I_GetField_b1_L
def I_GetField_b1_cu (k : Nat) : Cuts D := ⟨[], [(19, some (I_GetField_c19_cut k))]⟩
theorem I_GetField_b1_ok (k : Nat) : CutFor X I_GetField_pl k Go.Proofs.Tryz.f48.results.toList (I_GetField_b1_cut k) (sub (bodyOf Go.Proofs.Tryz.f48) [1, 1, 0, 1, 0, 0, 1, 1, 0]) :=
  joinCut_s (X := X) (sg := [.ks, .kl 130, .ki .i64, .ki .i64, .kl 9]) (cu := I_GetField_b1_cu k) (cl := I_GetField_cl k) (tys := [[0], [0]]) (I_GetField_ck k) (cutOK_of (l := [(I_GetField_c19_cut k, sub (bodyOf Go.Proofs.Tryz.f48) [1, 1, 0, 1, 0, 0, 1, 1, 0, 0, 1, 1])]) (by kernel_rfl) ⟨I_GetField_c19_ok k, trivial⟩) fun x Q R h => by
    simp only [I_GetField_b1, optK_bind, optK_bif, optK_pure, optK_none, optK_oc, optK_guardT, optK_map] at h
    refine hold_of h ?_
    kernel_rfl
def I_GetField_b0_L (x : (List UInt8) × (List IField) × Int × Int × (List (List UInt8)) × Unit) (o : (List (List UInt8))) (Q : Ex → VSt D → Prop) (R : VR D → Prop) : Prop := Q .normal (mkSt ⟨[(6, .ref 500006)], [(500006, .row)]⟩ [.sl 9 o])
def I_GetField_b0_cut (k : Nat) : Cut D := cutS ⟨[(1, .hole), (6, .ref 500006), (10, .hole), (11, .hole), (12, .hole)], [(500006, .row)]⟩ [.ks, .kl 130, .ki .i64, .ki .i64, .kl 9] (fun (x : (List UInt8) × (List IField) × Int × Int × (List (List UInt8)) × Unit) => I_GetField_b0 k k x.1 x.2.1 x.2.2.1 x.2.2.2.1 x.2.2.2.2.1) I_GetField_b0_L
def I_GetField_b0_cu (k : Nat) : Cuts D := ⟨[(1, some (I_GetField_b1_cut k))], []⟩
theorem I_GetField_b0_ok (k : Nat) : CutFor X I_GetField_pl k Go.Proofs.Tryz.f48.results.toList (I_GetField_b0_cut k) (sub (bodyOf Go.Proofs.Tryz.f48) [1, 1, 0, 1]) :=
  loopCut_s (X := X) (sg := [.ks, .kl 130, .ki .i64, .ki .i64, .kl 9]) (cu := I_GetField_b0_cu k) (cl := I_GetField_cl k) (tys := [[0], [0]]) (id := 0) (c := sub (bodyOf Go.Proofs.Tryz.f48) [1, 1, 0, 1, 0, 0]) (f := fun n => fun (x : (List UInt8) × (List IField) × Int × Int × (List (List UInt8)) × Unit) => I_GetField_b0 k n x.1 x.2.1 x.2.2.1 x.2.2.2.1 x.2.2.2.2.1) (I_GetField_ck k) (cutOK_of (l := [(I_GetField_b1_cut k, sub (bodyOf Go.Proofs.Tryz.f48) [1, 1, 0, 1, 0, 0, 1, 1, 0])]) (by kernel_rfl) ⟨I_GetField_b1_ok k, trivial⟩) (fun _ => rfl) (fun n x Q R h => by
    simp only [I_GetField_b0, optK_bind, optK_bif, optK_pure, optK_none, optK_oc, optK_guardT, optK_map] at h
    refine hold_of h ?_
    kernel_rfl) (by kernel_rfl)
def I_GetField_cu (k : Nat) : Cuts D := ⟨[(0, some (I_GetField_b0_cut k))], []⟩
def I_GetField_ar : List Ar := [.c (.kl 130), .c (.ks)]
def I_GetField_f (k : Nat) (x : TupA D I_GetField_ar) : Option ((List UInt8) × Bool) := I_GetField k x.1 x.2.1
def I_GetField_vr (r : (List UInt8) × Bool) : VR D := .tup [.c (.str r.1), .c (.bool r.2)]
theorem I_GetField_ok (k : Nat) : Does P X 48 I_GetField_ar (I_GetField_f k) I_GetField_vr :=
  does_of (body := bodyOf Go.Proofs.Tryz.f48) (pl := I_GetField_pl) (k := k) (cu := I_GetField_cu k) (tys := [[0], [0]]) (I_GetField_ck k) ctx mixed Go.Proofs.Tryz.func48 (by kernel_rfl) (by kernel_rfl) (cutOK_of (l := [(I_GetField_b0_cut k, sub (bodyOf Go.Proofs.Tryz.f48) [1, 1, 0, 1])]) (by kernel_rfl) ⟨I_GetField_b0_ok k, trivial⟩) fun x R h => by
    simp only [I_GetField_f, I_GetField, optK_bind, optK_bif, optK_pure, optK_none, optK_oc, optK_guardT, optK_map] at h
    refine hold_of h ?_
    kernel_rfl
def I_GetField_en (k : Nat) : Entry D := entS I_GetField_ar (I_GetField_f k) I_GetField_vr
theorem I_GetField_eo (k : Nat) : EntryOK X 48 (I_GetField_en k) := (I_GetField_ok k).en rfl
def strings_Trim_ar : List Ar := [.c (.ks), .c (.ks)]
def strings_Trim_f (k : Nat) (x : TupA D strings_Trim_ar) : Option ((List UInt8)) := strings_Trim k x.1 x.2.1
def strings_Trim_vr (r : (List UInt8)) : VR D := .p (.c (.str r))
theorem strings_Trim_ok (k : Nat) : Does P X 115 strings_Trim_ar (strings_Trim_f k) strings_Trim_vr := does_trim ⟨Go.Proofs.Tryz.f115, Go.Proofs.Tryz.func115, by kernel_rfl, by kernel_rfl⟩ (fun s cs w hg h1 h2 h3 => Go.Proofs.Any.strings_Trim_laid Go.Proofs.Tryz.lays160 (by kernel_rfl) s cs w h1 h2 h3)
def strings_Trim_en (k : Nat) : Entry D := entS strings_Trim_ar (strings_Trim_f k) strings_Trim_vr
theorem strings_Trim_eo (k : Nat) : EntryOK X 115 (strings_Trim_en k) := (strings_Trim_ok k).en rfl
def I_TrimText_pl : Plan := ⟨[(0, [(0, none)]), (1, [(2, none)])],
  [],
  []⟩
def I_TrimText_cl (k : Nat) : Calls' D := ⟨[(115, strings_Trim_en k)], [], [], [], []⟩
theorem I_TrimText_ck (k : Nat) : CallsOK X (I_TrimText_cl k) := .cons (strings_Trim_eo k) (.nil cod)
def I_TrimText_cu (k : Nat) : Cuts D := ⟨[], []⟩
def I_TrimText_ar : List Ar := [.c (.ks)]
def I_TrimText_f (k : Nat) (x : TupA D I_TrimText_ar) : Option ((List UInt8)) := I_TrimText k x.1
def I_TrimText_vr (r : (List UInt8)) : VR D := .p (.c (.str r))
theorem I_TrimText_ok (k : Nat) : Does P X 139 I_TrimText_ar (I_TrimText_f k) I_TrimText_vr :=
  does_of (body := bodyOf Go.Proofs.Tryz.f139) (pl := I_TrimText_pl) (k := k) (cu := I_TrimText_cu k) (tys := [[0]]) (I_TrimText_ck k) ctx mixed Go.Proofs.Tryz.func139 (by kernel_rfl) (by kernel_rfl) (cutOK_of (l := []) (by kernel_rfl) trivial) fun x R h => by
    simp only [I_TrimText_f, I_TrimText, optK_bind, optK_bif, optK_pure, optK_none, optK_oc, optK_guardT, optK_map] at h
    refine hold_of h ?_
    kernel_rfl
def I_TrimText_en (k : Nat) : Entry D := entS I_TrimText_ar (I_TrimText_f k) I_TrimText_vr
theorem I_TrimText_eo (k : Nat) : EntryOK X 139 (I_TrimText_en k) := (I_TrimText_ok k).en rfl
def I_SplitList_pl : Plan := ⟨[(0, [(0, none)]), (1, [(0, none), (3, some 9)]), (2, [(0, none), (3, some 9), (4, none)]), (3, [(0, none), (3, some 9), (4, none), (5, none)]), (4, [(0, none), (3, some 9), (4, none), (5, none), (6, none)]), (5, [(0, none), (3, some 9), (4, none), (5, none), (6, none), (13, none)]), (6, [(0, none), (3, some 9), (4, none), (5, none), (6, none)]), (7, [(0, none), (3, some 9), (4, none), (5, none), (6, none), (28, none)]), (8, [(0, none), (3, some 9), (4, none), (5, none), (6, none), (32, none)]), (9, [(0, none), (3, some 9), (4, none), (5, none), (6, none)]), (10, [(0, none), (3, some 9), (4, none), (5, none), (6, none), (41, none)]), (11, [(0, none), (3, some 9), (4, none), (5, none), (6, none)]), (12, [(0, none), (3, some 9), (5, none), (6, none), (7, none)]), (13, [(0, none), (3, some 9), (5, none), (6, none), (7, none), (53, none)]), (14, [(0, none), (3, some 9), (5, none), (6, none)]), (15, [(0, none), (3, some 9), (4, none), (5, none), (6, none)]), (16, [(0, none), (3, some 9), (4, none), (63, none)]), (17, [(3, some 9), (8, none)]), (18, [(3, some 9), (8, none), (69, none)]), (19, [(3, some 9)]), (20, [(2, some 9)])],
  [(0, [(0, none), (3, some 9), (4, none)]), (1, [(0, none), (3, some 9), (4, none), (5, none), (6, none)])],
  [(13, ([(0, none), (3, some 9), (4, none), (5, none), (6, none)], [(0, none), (3, some 9), (4, none)])), (28, ([(0, none), (3, some 9), (4, none), (5, none), (6, none)], [(0, none), (3, some 9), (4, none), (5, none), (6, none)])), (32, ([(0, none), (3, some 9), (4, none), (5, none), (6, none)], [(0, none), (3, some 9), (4, none), (5, none), (6, none)])), (41, ([(0, none), (3, some 9), (4, none), (5, none), (6, none)], [(0, none), (3, some 9), (4, none), (5, none), (6, none)])), (53, ([(0, none), (3, some 9), (5, none), (6, none), (7, none)], [(0, none), (3, some 9), (5, none), (6, none)])), (63, ([(0, none), (3, some 9), (4, none)], [(3, some 9)])), (69, ([(3, some 9), (8, none)], [(3, some 9)]))]⟩
def I_SplitList_cl (k : Nat) : Calls' D := ⟨[(139, I_TrimText_en k)], [], [], [], []⟩
theorem I_SplitList_ck (k : Nat) : CallsOK X (I_SplitList_cl k) := .cons (I_TrimText_eo k) (.nil cod)
def I_SplitList_c32_L (x : (List UInt8) × Int × Bool × Int × Bool × (List (List UInt8)) × Unit) (o : Bool) (Q : Ex → VSt D → Prop) (R : VR D → Prop) : Prop := Q .normal (mkSt ⟨[(0, .hole), (3, .ref 500003), (4, .hole), (5, .hole), (6, .hole)], [(500003, .row)]⟩ [.str x.1, .int .i64 x.2.1, .bool o, .int .i64 x.2.2.2.1, .sl 9 x.2.2.2.2.2.1])
def I_SplitList_c32_cut (k : Nat) : Cut D := cutS ⟨[(0, .hole), (3, .ref 500003), (4, .hole), (5, .hole), (6, .hole), (32, .hole)], [(500003, .row)]⟩ [.ks, .ki .i64, .kb, .ki .i64, .kb, .kl 9] (fun (x : (List UInt8) × Int × Bool × Int × Bool × (List (List UInt8)) × Unit) => I_SplitList_c32 k x.1 x.2.1 x.2.2.1 x.2.2.2.1 x.2.2.2.2.1 x.2.2.2.2.2.1) I_SplitList_c32_L
def I_SplitList_c32_cu (k : Nat) : Cuts D := ⟨[], []⟩
theorem I_SplitList_c32_ok (k : Nat) : CutFor X I_SplitList_pl k Go.Proofs.Tryz.f140.results.toList (I_SplitList_c32_cut k) (sub (bodyOf Go.Proofs.Tryz.f140) [1, 1, 1, 1, 0, 1, 0, 0, 1, 0, 0, 0, 1, 0, 0, 1]) :=
  joinCut_s (X := X) (sg := [.ks, .ki .i64, .kb, .ki .i64, .kb, .kl 9]) (cu := I_SplitList_c32_cu k) (cl := I_SplitList_cl k) (tys := [[9]]) (I_SplitList_ck k) (cutOK_of (l := []) (by kernel_rfl) trivial) fun x Q R h => by
    simp only [I_SplitList_c32, optK_bind, optK_bif, optK_pure, optK_none, optK_oc, optK_guardT, optK_map] at h
    refine hold_of h ?_
    kernel_rfl
def I_SplitList_c41_L (x : (List UInt8) × Int × Bool × Int × Bool × (List (List UInt8)) × Unit) (o : Int) (Q : Ex → VSt D → Prop) (R : VR D → Prop) : Prop := Q .normal (mkSt ⟨[(0, .hole), (3, .ref 500003), (4, .hole), (5, .hole), (6, .hole)], [(500003, .row)]⟩ [.str x.1, .int .i64 x.2.1, .bool x.2.2.1, .int .i64 o, .sl 9 x.2.2.2.2.2.1])
def I_SplitList_c41_cut (k : Nat) : Cut D := cutS ⟨[(0, .hole), (3, .ref 500003), (4, .hole), (5, .hole), (6, .hole), (41, .hole)], [(500003, .row)]⟩ [.ks, .ki .i64, .kb, .ki .i64, .kb, .kl 9] (fun (x : (List UInt8) × Int × Bool × Int × Bool × (List (List UInt8)) × Unit) => I_SplitList_c41 k x.1 x.2.1 x.2.2.1 x.2.2.2.1 x.2.2.2.2.1 x.2.2.2.2.2.1) I_SplitList_c41_L
def I_SplitList_c41_cu (k : Nat) : Cuts D := ⟨[], []⟩
theorem I_SplitList_c41_ok (k : Nat) : CutFor X I_SplitList_pl k Go.Proofs.Tryz.f140.results.toList (I_SplitList_c41_cut k) (sub (bodyOf Go.Proofs.Tryz.f140) [1, 1, 1, 1, 0, 1, 0, 0, 1, 0, 0, 0, 1, 0, 1, 0, 1]) :=
  joinCut_s (X := X) (sg := [.ks, .ki .i64, .kb, .ki .i64, .kb, .kl 9]) (cu := I_SplitList_c41_cu k) (cl := I_SplitList_cl k) (tys := [[9]]) (I_SplitList_ck k) (cutOK_of (l := []) (by kernel_rfl) trivial) fun x Q R h => by
    simp only [I_SplitList_c41, optK_bind, optK_bif, optK_pure, optK_none, optK_oc, optK_guardT, optK_map] at h
    refine hold_of h ?_
    kernel_rfl
def I_SplitList_c53_L (x : (List UInt8) × Bool × Int × (List UInt8) × Bool × (List (List UInt8)) × Unit) (o : (List (List UInt8))) (Q : Ex → VSt D → Prop) (R : VR D → Prop) : Prop := Q .normal (mkSt ⟨[(0, .hole), (3, .ref 500003), (5, .hole), (6, .hole)], [(500003, .row)]⟩ [.str x.1, .bool x.2.1, .int .i64 x.2.2.1, .sl 9 o])
def I_SplitList_c53_cut (k : Nat) : Cut D := cutS ⟨[(0, .hole), (3, .ref 500003), (5, .hole), (6, .hole), (7, .hole), (53, .hole)], [(500003, .row)]⟩ [.ks, .kb, .ki .i64, .ks, .kb, .kl 9] (fun (x : (List UInt8) × Bool × Int × (List UInt8) × Bool × (List (List UInt8)) × Unit) => I_SplitList_c53 k x.1 x.2.1 x.2.2.1 x.2.2.2.1 x.2.2.2.2.1 x.2.2.2.2.2.1) I_SplitList_c53_L
def I_SplitList_c53_cu (k : Nat) : Cuts D := ⟨[], []⟩
theorem I_SplitList_c53_ok (k : Nat) : CutFor X I_SplitList_pl k Go.Proofs.Tryz.f140.results.toList (I_SplitList_c53_cut k) (sub (bodyOf Go.Proofs.Tryz.f140) [1, 1, 1, 1, 0, 1, 0, 0, 1, 0, 0, 1, 0, 1, 1]) :=
  joinCut_s (X := X) (sg := [.ks, .kb, .ki .i64, .ks, .kb, .kl 9]) (cu := I_SplitList_c53_cu k) (cl := I_SplitList_cl k) (tys := [[9]]) (I_SplitList_ck k) (cutOK_of (l := []) (by kernel_rfl) trivial) fun x Q R h => by
    simp only [I_SplitList_c53, optK_bind, optK_bif, optK_pure, optK_none, optK_oc, optK_guardT, optK_map] at h
    refine hold_of h ?_
    kernel_rfl
def I_SplitList_b1_L (x : (List UInt8) × Int × Bool × Int × (List (List UInt8)) × Unit) (o : Int × Bool × Int × (List (List UInt8))) (Q : Ex → VSt D → Prop) (R : VR D → Prop) : Prop := Q .normal (mkSt ⟨[(0, .hole), (3, .ref 500003), (4, .hole), (5, .hole), (6, .hole)], [(500003, .row)]⟩ [.str x.1, .int .i64 o.1, .bool o.2.1, .int .i64 o.2.2.1, .sl 9 o.2.2.2])
def I_SplitList_b1_cut (k : Nat) : Cut D := cutS ⟨[(0, .hole), (3, .ref 500003), (4, .hole), (5, .hole), (6, .hole)], [(500003, .row)]⟩ [.ks, .ki .i64, .kb, .ki .i64, .kl 9] (fun (x : (List UInt8) × Int × Bool × Int × (List (List UInt8)) × Unit) => I_SplitList_b1 k x.1 x.2.1 x.2.2.1 x.2.2.2.1 x.2.2.2.2.1) I_SplitList_b1_L
def I_SplitList_b1_cu (k : Nat) : Cuts D := ⟨[], [(32, some (I_SplitList_c32_cut k)), (41, some (I_SplitList_c41_cut k)), (53, some (I_SplitList_c53_cut k))]⟩
theorem I_SplitList_b1_ok (k : Nat) : CutFor X I_SplitList_pl k Go.Proofs.Tryz.f140.results.toList (I_SplitList_b1_cut k) (sub (bodyOf Go.Proofs.Tryz.f140) [1, 1, 1, 1, 0, 1, 0, 0, 1, 0]) :=
  joinCut_s (X := X) (sg := [.ks, .ki .i64, .kb, .ki .i64, .kl 9]) (cu := I_SplitList_b1_cu k) (cl := I_SplitList_cl k) (tys := [[9]]) (I_SplitList_ck k) (cutOK_of (l := [(I_SplitList_c32_cut k, sub (bodyOf Go.Proofs.Tryz.f140) [1, 1, 1, 1, 0, 1, 0, 0, 1, 0, 0, 0, 1, 0, 0, 1]), (I_SplitList_c41_cut k, sub (bodyOf Go.Proofs.Tryz.f140) [1, 1, 1, 1, 0, 1, 0, 0, 1, 0, 0, 0, 1, 0, 1, 0, 1]), (I_SplitList_c53_cut k, sub (bodyOf Go.Proofs.Tryz.f140) [1, 1, 1, 1, 0, 1, 0, 0, 1, 0, 0, 1, 0, 1, 1])]) (by kernel_rfl) ⟨I_SplitList_c32_ok k, I_SplitList_c41_ok k, I_SplitList_c53_ok k, trivial⟩) fun x Q R h => by
    simp only [I_SplitList_b1, optK_bind, optK_bif, optK_pure, optK_none, optK_oc, optK_guardT, optK_map] at h
    refine hold_of h ?_
    kernel_rfl
def I_SplitList_b0_L (x : (List UInt8) × Int × Bool × Int × (List (List UInt8)) × Unit) (o : Int × (List (List UInt8))) (Q : Ex → VSt D → Prop) (R : VR D → Prop) : Prop := Q .normal (mkSt ⟨[(0, .hole), (3, .ref 500003), (4, .hole)], [(500003, .row)]⟩ [.str x.1, .int .i64 o.1, .sl 9 o.2])
def I_SplitList_b0_cut (k : Nat) : Cut D := cutS ⟨[(0, .hole), (3, .ref 500003), (4, .hole), (5, .hole), (6, .hole)], [(500003, .row)]⟩ [.ks, .ki .i64, .kb, .ki .i64, .kl 9] (fun (x : (List UInt8) × Int × Bool × Int × (List (List UInt8)) × Unit) => I_SplitList_b0 k k x.1 x.2.1 x.2.2.1 x.2.2.2.1 x.2.2.2.2.1) I_SplitList_b0_L
def I_SplitList_b0_cu (k : Nat) : Cuts D := ⟨[(1, some (I_SplitList_b1_cut k))], []⟩
theorem I_SplitList_b0_ok (k : Nat) : CutFor X I_SplitList_pl k Go.Proofs.Tryz.f140.results.toList (I_SplitList_b0_cut k) (sub (bodyOf Go.Proofs.Tryz.f140) [1, 1, 1, 1, 0, 1]) :=
  loopCut_s (X := X) (sg := [.ks, .ki .i64, .kb, .ki .i64, .kl 9]) (cu := I_SplitList_b0_cu k) (cl := I_SplitList_cl k) (tys := [[9]]) (id := 0) (c := sub (bodyOf Go.Proofs.Tryz.f140) [1, 1, 1, 1, 0, 1, 0, 0]) (f := fun n => fun (x : (List UInt8) × Int × Bool × Int × (List (List UInt8)) × Unit) => I_SplitList_b0 k n x.1 x.2.1 x.2.2.1 x.2.2.2.1 x.2.2.2.2.1) (I_SplitList_ck k) (cutOK_of (l := [(I_SplitList_b1_cut k, sub (bodyOf Go.Proofs.Tryz.f140) [1, 1, 1, 1, 0, 1, 0, 0, 1, 0])]) (by kernel_rfl) ⟨I_SplitList_b1_ok k, trivial⟩) (fun _ => rfl) (fun n x Q R h => by
    simp only [I_SplitList_b0, optK_bind, optK_bif, optK_pure, optK_none, optK_oc, optK_guardT, optK_map] at h
    refine hold_of h ?_
    kernel_rfl) (by kernel_rfl)
def I_SplitList_c69_L (x : (List UInt8) × Bool × (List (List UInt8)) × Unit) (o : (List (List UInt8))) (Q : Ex → VSt D → Prop) (R : VR D → Prop) : Prop := Q .normal (mkSt ⟨[(3, .ref 500003)], [(500003, .row)]⟩ [.sl 9 o])
def I_SplitList_c69_cut (k : Nat) : Cut D := cutS ⟨[(3, .ref 500003), (8, .hole), (69, .hole)], [(500003, .row)]⟩ [.ks, .kb, .kl 9] (fun (x : (List UInt8) × Bool × (List (List UInt8)) × Unit) => I_SplitList_c69 k x.1 x.2.1 x.2.2.1) I_SplitList_c69_L
def I_SplitList_c69_cu (k : Nat) : Cuts D := ⟨[], []⟩
theorem I_SplitList_c69_ok (k : Nat) : CutFor X I_SplitList_pl k Go.Proofs.Tryz.f140.results.toList (I_SplitList_c69_cut k) (sub (bodyOf Go.Proofs.Tryz.f140) [1, 1, 1, 1, 1, 0, 1, 0, 1, 1]) :=
  joinCut_s (X := X) (sg := [.ks, .kb, .kl 9]) (cu := I_SplitList_c69_cu k) (cl := I_SplitList_cl k) (tys := [[9]]) (I_SplitList_ck k) (cutOK_of (l := []) (by kernel_rfl) trivial) fun x Q R h => by
    simp only [I_SplitList_c69, optK_bind, optK_bif, optK_pure, optK_none, optK_oc, optK_guardT, optK_map] at h
    refine hold_of h ?_
    kernel_rfl
def I_SplitList_c63_L (x : (List UInt8) × Int × Bool × (List (List UInt8)) × Unit) (o : (List (List UInt8))) (Q : Ex → VSt D → Prop) (R : VR D → Prop) : Prop := Q .normal (mkSt ⟨[(3, .ref 500003)], [(500003, .row)]⟩ [.sl 9 o])
def I_SplitList_c63_cut (k : Nat) : Cut D := cutS ⟨[(0, .hole), (3, .ref 500003), (4, .hole), (63, .hole)], [(500003, .row)]⟩ [.ks, .ki .i64, .kb, .kl 9] (fun (x : (List UInt8) × Int × Bool × (List (List UInt8)) × Unit) => I_SplitList_c63 k x.1 x.2.1 x.2.2.1 x.2.2.2.1) I_SplitList_c63_L
def I_SplitList_c63_cu (k : Nat) : Cuts D := ⟨[], [(69, some (I_SplitList_c69_cut k))]⟩
theorem I_SplitList_c63_ok (k : Nat) : CutFor X I_SplitList_pl k Go.Proofs.Tryz.f140.results.toList (I_SplitList_c63_cut k) (sub (bodyOf Go.Proofs.Tryz.f140) [1, 1, 1, 1, 1, 0, 1]) :=
  joinCut_s (X := X) (sg := [.ks, .ki .i64, .kb, .kl 9]) (cu := I_SplitList_c63_cu k) (cl := I_SplitList_cl k) (tys := [[9]]) (I_SplitList_ck k) (cutOK_of (l := [(I_SplitList_c69_cut k, sub (bodyOf Go.Proofs.Tryz.f140) [1, 1, 1, 1, 1, 0, 1, 0, 1, 1])]) (by kernel_rfl) ⟨I_SplitList_c69_ok k, trivial⟩) fun x Q R h => by
    simp only [I_SplitList_c63, optK_bind, optK_bif, optK_pure, optK_none, optK_oc, optK_guardT, optK_map] at h
    refine hold_of h ?_
    kernel_rfl
def I_SplitList_cu (k : Nat) : Cuts D := ⟨[(0, some (I_SplitList_b0_cut k))], [(63, some (I_SplitList_c63_cut k))]⟩
def I_SplitList_ar : List Ar := [.c (.ks)]
def I_SplitList_f (k : Nat) (x : TupA D I_SplitList_ar) : Option ((List (List UInt8))) := I_SplitList k x.1
def I_SplitList_vr (r : (List (List UInt8))) : VR D := .p (.c (.sl 9 r))
theorem I_SplitList_ok (k : Nat) : Does P X 140 I_SplitList_ar (I_SplitList_f k) I_SplitList_vr :=
  does_of (body := bodyOf Go.Proofs.Tryz.f140) (pl := I_SplitList_pl) (k := k) (cu := I_SplitList_cu k) (tys := [[9]]) (I_SplitList_ck k) ctx mixed Go.Proofs.Tryz.func140 (by kernel_rfl) (by kernel_rfl) (cutOK_of (l := [(I_SplitList_b0_cut k, sub (bodyOf Go.Proofs.Tryz.f140) [1, 1, 1, 1, 0, 1]), (I_SplitList_c63_cut k, sub (bodyOf Go.Proofs.Tryz.f140) [1, 1, 1, 1, 1, 0, 1])]) (by kernel_rfl) ⟨I_SplitList_b0_ok k, I_SplitList_c63_ok k, trivial⟩) fun x R h => by
    simp only [I_SplitList_f, I_SplitList, optK_bind, optK_bif, optK_pure, optK_none, optK_oc, optK_guardT, optK_map] at h
    refine hold_of h ?_
    kernel_rfl
def I_SplitList_en (k : Nat) : Entry D := entS I_SplitList_ar (I_SplitList_f k) I_SplitList_vr
theorem I_SplitList_eo (k : Nat) : EntryOK X 140 (I_SplitList_en k) := (I_SplitList_ok k).en rfl
def strings_Split_ar : List Ar := [.c (.ks), .c (.ks)]
def strings_Split_f (k : Nat) (x : TupA D strings_Split_ar) : Option ((List (List UInt8))) := strings_Split k x.1 x.2.1
def strings_Split_vr (r : (List (List UInt8))) : VR D := .p (.c (.sl 9 r))
theorem strings_Split_ok (k : Nat) : Does P X 129 strings_Split_ar (strings_Split_f k) strings_Split_vr := does_split (P := P) (D := D) (X := X) (el := 9) ⟨Go.Proofs.Tryz.f129, Go.Proofs.Tryz.func129, by kernel_rfl, by kernel_rfl⟩ (fun (s : List UInt8) => s) (fun l s => splitO l s) (fun _ => rfl) (by kernel_rfl) (fun l s => (split_id l s).symm) (fun s sep w hg h1 h2 => let ⟨m, hm⟩ := hg; Go.Proofs.Tryz.strings_Split s sep m w h1 hm h2) (fun s sep h => Go.Lib.splitB_all sep h 0 _ s rfl)
def strings_Split_en (k : Nat) : Entry D := entS strings_Split_ar (strings_Split_f k) strings_Split_vr
theorem strings_Split_eo (k : Nat) : EntryOK X 129 (strings_Split_en k) := (strings_Split_ok k).en rfl
def I_LowerText_pl : Plan := ⟨[(0, [(0, none)]), (1, [(3, some 5)]), (2, [(3, some 5), (8, some 5), (9, none), (10, none)]), (3, [(3, some 5), (8, some 5), (9, none), (10, none), (11, none)]), (4, [(3, some 5), (4, none), (5, none), (8, some 5), (9, none), (10, none)]), (5, [(3, some 5), (4, none), (5, none), (8, some 5), (9, none), (10, none), (20, none)]), (6, [(3, some 5), (8, some 5), (9, none), (10, none)]), (7, [(3, some 5), (8, some 5), (9, none), (10, none)]), (8, [(2, none)])],
  [(0, [(3, some 5)]), (1, [(3, some 5), (8, some 5), (9, none), (10, none)])],
  [(11, ([(3, some 5), (8, some 5), (9, none), (10, none)], [(3, some 5)])), (20, ([(3, some 5), (4, none), (5, none), (8, some 5), (9, none), (10, none)], [(3, some 5), (8, some 5), (9, none), (10, none)]))]⟩
def I_LowerText_cl (k : Nat) : Calls' D := ⟨[], [], [], [], []⟩
theorem I_LowerText_ck (k : Nat) : CallsOK X (I_LowerText_cl k) := .nil cod
def I_LowerText_c20_L (x : Int × Int × Int × Int × Bool × (List Int) × Unit) (o : (List Int)) (Q : Ex → VSt D → Prop) (R : VR D → Prop) : Prop := Q .normal (mkSt ⟨[(3, .ref 500008), (8, .ref 500008), (9, .hole), (10, .hole)], [(500008, .row)]⟩ [.int .i64 x.2.2.1, .int .i64 x.2.2.2.1, .sl 5 o])
def I_LowerText_c20_cut (k : Nat) : Cut D := cutS ⟨[(3, .ref 500008), (4, .hole), (5, .hole), (8, .ref 500008), (9, .hole), (10, .hole), (20, .hole)], [(500008, .row)]⟩ [.ki .i64, .ki .u8, .ki .i64, .ki .i64, .kb, .kl 5] (fun (x : Int × Int × Int × Int × Bool × (List Int) × Unit) => I_LowerText_c20 k x.1 x.2.1 x.2.2.1 x.2.2.2.1 x.2.2.2.2.1 x.2.2.2.2.2.1) I_LowerText_c20_L
def I_LowerText_c20_cu (k : Nat) : Cuts D := ⟨[], []⟩
theorem I_LowerText_c20_ok (k : Nat) : CutFor X I_LowerText_pl k Go.Proofs.Tryz.f157.results.toList (I_LowerText_c20_cut k) (sub (bodyOf Go.Proofs.Tryz.f157) [1, 1, 0, 1, 0, 0, 1, 1, 0, 0, 1, 1]) :=
  joinCut_s (X := X) (sg := [.ki .i64, .ki .u8, .ki .i64, .ki .i64, .kb, .kl 5]) (cu := I_LowerText_c20_cu k) (cl := I_LowerText_cl k) (tys := [[0]]) (I_LowerText_ck k) (cutOK_of (l := []) (by kernel_rfl) trivial) fun x Q R h => by
    simp only [I_LowerText_c20, optK_bind, optK_bif, optK_pure, optK_none, optK_oc, optK_guardT, optK_map] at h
    refine hold_of h ?_
    kernel_rfl
def I_LowerText_b1_L (x : Int × Int × (List Int) × Unit) (o : (List Int)) (Q : Ex → VSt D → Prop) (R : VR D → Prop) : Prop := Q .normal (mkSt ⟨[(3, .ref 500008), (8, .ref 500008), (9, .hole), (10, .hole)], [(500008, .row)]⟩ [.int .i64 x.1, .int .i64 x.2.1, .sl 5 o])
def I_LowerText_b1_cut (k : Nat) : Cut D := cutS ⟨[(3, .ref 500008), (8, .ref 500008), (9, .hole), (10, .hole)], [(500008, .row)]⟩ [.ki .i64, .ki .i64, .kl 5] (fun (x : Int × Int × (List Int) × Unit) => I_LowerText_b1 k x.1 x.2.1 x.2.2.1) I_LowerText_b1_L
def I_LowerText_b1_cu (k : Nat) : Cuts D := ⟨[], [(20, some (I_LowerText_c20_cut k))]⟩
theorem I_LowerText_b1_ok (k : Nat) : CutFor X I_LowerText_pl k Go.Proofs.Tryz.f157.results.toList (I_LowerText_b1_cut k) (sub (bodyOf Go.Proofs.Tryz.f157) [1, 1, 0, 1, 0, 0, 1, 1, 0]) :=
  joinCut_s (X := X) (sg := [.ki .i64, .ki .i64, .kl 5]) (cu := I_LowerText_b1_cu k) (cl := I_LowerText_cl k) (tys := [[0]]) (I_LowerText_ck k) (cutOK_of (l := [(I_LowerText_c20_cut k, sub (bodyOf Go.Proofs.Tryz.f157) [1, 1, 0, 1, 0, 0, 1, 1, 0, 0, 1, 1])]) (by kernel_rfl) ⟨I_LowerText_c20_ok k, trivial⟩) fun x Q R h => by
    simp only [I_LowerText_b1, optK_bind, optK_bif, optK_pure, optK_none, optK_oc, optK_guardT, optK_map] at h
    refine hold_of h ?_
    kernel_rfl
def I_LowerText_b0_L (x : Int × Int × (List Int) × Unit) (o : (List Int)) (Q : Ex → VSt D → Prop) (R : VR D → Prop) : Prop := Q .normal (mkSt ⟨[(3, .ref 500003)], [(500003, .row)]⟩ [.sl 5 o])
def I_LowerText_b0_cut (k : Nat) : Cut D := cutS ⟨[(3, .ref 500008), (8, .ref 500008), (9, .hole), (10, .hole)], [(500008, .row)]⟩ [.ki .i64, .ki .i64, .kl 5] (fun (x : Int × Int × (List Int) × Unit) => I_LowerText_b0 k k x.1 x.2.1 x.2.2.1) I_LowerText_b0_L
def I_LowerText_b0_cu (k : Nat) : Cuts D := ⟨[(1, some (I_LowerText_b1_cut k))], []⟩
theorem I_LowerText_b0_ok (k : Nat) : CutFor X I_LowerText_pl k Go.Proofs.Tryz.f157.results.toList (I_LowerText_b0_cut k) (sub (bodyOf Go.Proofs.Tryz.f157) [1, 1, 0, 1]) :=
  loopCut_s (X := X) (sg := [.ki .i64, .ki .i64, .kl 5]) (cu := I_LowerText_b0_cu k) (cl := I_LowerText_cl k) (tys := [[0]]) (id := 0) (c := sub (bodyOf Go.Proofs.Tryz.f157) [1, 1, 0, 1, 0, 0]) (f := fun n => fun (x : Int × Int × (List Int) × Unit) => I_LowerText_b0 k n x.1 x.2.1 x.2.2.1) (I_LowerText_ck k) (cutOK_of (l := [(I_LowerText_b1_cut k, sub (bodyOf Go.Proofs.Tryz.f157) [1, 1, 0, 1, 0, 0, 1, 1, 0])]) (by kernel_rfl) ⟨I_LowerText_b1_ok k, trivial⟩) (fun _ => rfl) (fun n x Q R h => by
    simp only [I_LowerText_b0, optK_bind, optK_bif, optK_pure, optK_none, optK_oc, optK_guardT, optK_map] at h
    refine hold_of h ?_
    kernel_rfl) (by kernel_rfl)
def I_LowerText_cu (k : Nat) : Cuts D := ⟨[(0, some (I_LowerText_b0_cut k))], []⟩
def I_LowerText_ar : List Ar := [.c (.ks)]
def I_LowerText_f (k : Nat) (x : TupA D I_LowerText_ar) : Option ((List UInt8)) := I_LowerText k x.1
def I_LowerText_vr (r : (List UInt8)) : VR D := .p (.c (.str r))
theorem I_LowerText_ok (k : Nat) : Does P X 157 I_LowerText_ar (I_LowerText_f k) I_LowerText_vr :=
  does_of (body := bodyOf Go.Proofs.Tryz.f157) (pl := I_LowerText_pl) (k := k) (cu := I_LowerText_cu k) (tys := [[0]]) (I_LowerText_ck k) ctx mixed Go.Proofs.Tryz.func157 (by kernel_rfl) (by kernel_rfl) (cutOK_of (l := [(I_LowerText_b0_cut k, sub (bodyOf Go.Proofs.Tryz.f157) [1, 1, 0, 1])]) (by kernel_rfl) ⟨I_LowerText_b0_ok k, trivial⟩) fun x R h => by
    simp only [I_LowerText_f, I_LowerText, optK_bind, optK_bif, optK_pure, optK_none, optK_oc, optK_guardT, optK_map] at h
    refine hold_of h ?_
    kernel_rfl
def I_LowerText_en (k : Nat) : Entry D := entS I_LowerText_ar (I_LowerText_f k) I_LowerText_vr
theorem I_LowerText_eo (k : Nat) : EntryOK X 157 (I_LowerText_en k) := (I_LowerText_ok k).en rfl
def strings_IndexByte_ar : List Ar := [.c (.ks), .c (.ki .u8)]
def strings_IndexByte_f (k : Nat) (x : TupA D strings_IndexByte_ar) : Option (Int) := strings_IndexByte k x.1 x.2.1
def strings_IndexByte_vr (r : Int) : VR D := .p (.c (.int .i64 r))
theorem strings_IndexByte_ok (k : Nat) : Does P X 200 strings_IndexByte_ar (strings_IndexByte_f k) strings_IndexByte_vr := does_indexByte ⟨Go.Proofs.Tryz.f200, Go.Proofs.Tryz.func200, by kernel_rfl, by kernel_rfl⟩ (fun s c w hg => Go.Proofs.Tryz.strings_IndexByte s c w)
def strings_IndexByte_en (k : Nat) : Entry D := entS strings_IndexByte_ar (strings_IndexByte_f k) strings_IndexByte_vr
theorem strings_IndexByte_eo (k : Nat) : EntryOK X 200 (strings_IndexByte_en k) := (strings_IndexByte_ok k).en rfl
def I_isTokenByte_pl : Plan := ⟨[(0, [(0, none)]), (1, [(2, none)])],
  [],
  []⟩
def I_isTokenByte_cl (k : Nat) : Calls' D := ⟨[(200, strings_IndexByte_en k)], [], [], [], []⟩
theorem I_isTokenByte_ck (k : Nat) : CallsOK X (I_isTokenByte_cl k) := .cons (strings_IndexByte_eo k) (.nil cod)
def I_isTokenByte_cu (k : Nat) : Cuts D := ⟨[], []⟩
def I_isTokenByte_ar : List Ar := [.c (.ki .u8)]
def I_isTokenByte_f (k : Nat) (x : TupA D I_isTokenByte_ar) : Option (Bool) := I_isTokenByte k x.1
def I_isTokenByte_vr (r : Bool) : VR D := .p (.c (.bool r))
theorem I_isTokenByte_ok (k : Nat) : Does P X 168 I_isTokenByte_ar (I_isTokenByte_f k) I_isTokenByte_vr :=
  does_of (body := bodyOf Go.Proofs.Tryz.f168) (pl := I_isTokenByte_pl) (k := k) (cu := I_isTokenByte_cu k) (tys := [[0]]) (I_isTokenByte_ck k) ctx mixed Go.Proofs.Tryz.func168 (by kernel_rfl) (by kernel_rfl) (cutOK_of (l := []) (by kernel_rfl) trivial) fun x R h => by
    simp only [I_isTokenByte_f, I_isTokenByte, optK_bind, optK_bif, optK_pure, optK_none, optK_oc, optK_guardT, optK_map] at h
    refine hold_of h ?_
    kernel_rfl
def I_isTokenByte_en (k : Nat) : Entry D := entS I_isTokenByte_ar (I_isTokenByte_f k) I_isTokenByte_vr
theorem I_isTokenByte_eo (k : Nat) : EntryOK X 168 (I_isTokenByte_en k) := (I_isTokenByte_ok k).en rfl
def I_inRange_pl : Plan := ⟨[(0, [(0, none), (1, none), (2, none)]), (1, [(6, none)])],
  [],
  []⟩
def I_inRange_cl (k : Nat) : Calls' D := ⟨[], [], [], [], []⟩
theorem I_inRange_ck (k : Nat) : CallsOK X (I_inRange_cl k) := .nil cod
def I_inRange_cu (k : Nat) : Cuts D := ⟨[], []⟩
def I_inRange_ar : List Ar := [.c (.ki .i64), .c (.ki .i64), .c (.ki .i64)]
def I_inRange_f (k : Nat) (x : TupA D I_inRange_ar) : Option (Bool) := I_inRange k x.1 x.2.1 x.2.2.1
def I_inRange_vr (r : Bool) : VR D := .p (.c (.bool r))
theorem I_inRange_ok (k : Nat) : Does P X 135 I_inRange_ar (I_inRange_f k) I_inRange_vr :=
  does_of (body := bodyOf Go.Proofs.Tryz.f135) (pl := I_inRange_pl) (k := k) (cu := I_inRange_cu k) (tys := [[0]]) (I_inRange_ck k) ctx mixed Go.Proofs.Tryz.func135 (by kernel_rfl) (by kernel_rfl) (cutOK_of (l := []) (by kernel_rfl) trivial) fun x R h => by
    simp only [I_inRange_f, I_inRange, optK_bind, optK_bif, optK_pure, optK_none, optK_oc, optK_guardT, optK_map] at h
    refine hold_of h ?_
    kernel_rfl
def I_inRange_en (k : Nat) : Entry D := entS I_inRange_ar (I_inRange_f k) I_inRange_vr
theorem I_inRange_eo (k : Nat) : EntryOK X 135 (I_inRange_en k) := (I_inRange_ok k).en rfl
def I_IsToken_pl : Plan := ⟨[(0, [(0, none)]), (1, [(0, none), (5, none), (6, none)]), (2, [(0, none), (5, none), (6, none), (7, none)]), (3, [(0, none), (3, none), (5, none), (6, none)]), (4, [(0, none), (5, none), (6, none), (13, none)]), (5, [(2, none)]), (6, [(0, none), (5, none), (6, none)]), (7, [(2, none)])],
  [(0, [(0, none)]), (1, [(0, none), (5, none), (6, none)])],
  [(7, ([(0, none), (5, none), (6, none)], [(0, none)])), (13, ([], [(0, none), (5, none), (6, none)]))]⟩
def I_IsToken_cl (k : Nat) : Calls' D := ⟨[(168, I_isTokenByte_en k), (135, I_inRange_en k)], [], [], [], []⟩
theorem I_IsToken_ck (k : Nat) : CallsOK X (I_IsToken_cl k) := .cons (I_isTokenByte_eo k) (.cons (I_inRange_eo k) (.nil cod))
def I_IsToken_b0_L (x : (List UInt8) × Int × Int × Unit) (o : Oc (Unit) (Bool)) (Q : Ex → VSt D → Prop) (R : VR D → Prop) : Prop := ocP o (fun v0 => Q .normal (mkSt ⟨[(0, .hole)], []⟩ [.str x.1])) (fun w0 => R (.p (.c (.bool w0))))
def I_IsToken_b0_cut (k : Nat) : Cut D := cutS ⟨[(0, .hole), (5, .hole), (6, .hole)], []⟩ [.ks, .ki .i64, .ki .i64] (fun (x : (List UInt8) × Int × Int × Unit) => I_IsToken_b0 k k x.1 x.2.1 x.2.2.1) I_IsToken_b0_L
def I_IsToken_b0_cu (k : Nat) : Cuts D := ⟨[], []⟩
theorem I_IsToken_b0_ok (k : Nat) : CutFor X I_IsToken_pl k Go.Proofs.Tryz.f103.results.toList (I_IsToken_b0_cut k) (sub (bodyOf Go.Proofs.Tryz.f103) [1, 0, 1]) :=
  loopCut_s (X := X) (sg := [.ks, .ki .i64, .ki .i64]) (cu := I_IsToken_b0_cu k) (cl := I_IsToken_cl k) (tys := [[0]]) (id := 0) (c := sub (bodyOf Go.Proofs.Tryz.f103) [1, 0, 1, 0, 0]) (f := fun n => fun (x : (List UInt8) × Int × Int × Unit) => I_IsToken_b0 k n x.1 x.2.1 x.2.2.1) (I_IsToken_ck k) (cutOK_of (l := []) (by kernel_rfl) trivial) (fun _ => rfl) (fun n x Q R h => by
    simp only [I_IsToken_b0, optK_bind, optK_bif, optK_pure, optK_none, optK_oc, optK_guardT, optK_map] at h
    refine hold_of h ?_
    kernel_rfl) (by kernel_rfl)
def I_IsToken_cu (k : Nat) : Cuts D := ⟨[(0, some (I_IsToken_b0_cut k))], []⟩
def I_IsToken_ar : List Ar := [.c (.ks)]
def I_IsToken_f (k : Nat) (x : TupA D I_IsToken_ar) : Option (Bool) := I_IsToken k x.1
def I_IsToken_vr (r : Bool) : VR D := .p (.c (.bool r))
theorem I_IsToken_ok (k : Nat) : Does P X 103 I_IsToken_ar (I_IsToken_f k) I_IsToken_vr :=
  does_of (body := bodyOf Go.Proofs.Tryz.f103) (pl := I_IsToken_pl) (k := k) (cu := I_IsToken_cu k) (tys := [[0]]) (I_IsToken_ck k) ctx mixed Go.Proofs.Tryz.func103 (by kernel_rfl) (by kernel_rfl) (cutOK_of (l := [(I_IsToken_b0_cut k, sub (bodyOf Go.Proofs.Tryz.f103) [1, 0, 1])]) (by kernel_rfl) ⟨I_IsToken_b0_ok k, trivial⟩) fun x R h => by
    simp only [I_IsToken_f, I_IsToken, optK_bind, optK_bif, optK_pure, optK_none, optK_oc, optK_guardT, optK_map] at h
    refine hold_of h ?_
    kernel_rfl
def I_IsToken_en (k : Nat) : Entry D := entS I_IsToken_ar (I_IsToken_f k) I_IsToken_vr
theorem I_IsToken_eo (k : Nat) : EntryOK X 103 (I_IsToken_en k) := (I_IsToken_ok k).en rfl
def strings_Cut_ar : List Ar := [.c (.ks), .c (.ks)]
def strings_Cut_f (k : Nat) (x : TupA D strings_Cut_ar) : Option ((List UInt8) × (List UInt8) × Bool) := strings_Cut k x.1 x.2.1
def strings_Cut_vr (r : (List UInt8) × (List UInt8) × Bool) : VR D := .tup [.c (.str r.1), .c (.str r.2.1), .c (.bool r.2.2)]
theorem strings_Cut_ok (k : Nat) : Does P X 189 strings_Cut_ar (strings_Cut_f k) strings_Cut_vr := does_cut ⟨Go.Proofs.Tryz.f189, Go.Proofs.Tryz.func189, by kernel_rfl, by kernel_rfl⟩ (fun s sep w hg hs => let ⟨m, hm⟩ := hg; Go.Proofs.Tryz.strings_Cut s sep m w hs hm)
def strings_Cut_en (k : Nat) : Entry D := entS strings_Cut_ar (strings_Cut_f k) strings_Cut_vr
theorem strings_Cut_eo (k : Nat) : EntryOK X 189 (strings_Cut_en k) := (strings_Cut_ok k).en rfl
def I_SplitPair_pl : Plan := ⟨[(0, [(0, none)]), (1, [(5, none), (6, none), (7, none)]), (2, [(2, none), (3, none), (4, none)])],
  [],
  []⟩
def I_SplitPair_cl (k : Nat) : Calls' D := ⟨[(189, strings_Cut_en k), (139, I_TrimText_en k)], [], [], [], []⟩
theorem I_SplitPair_ck (k : Nat) : CallsOK X (I_SplitPair_cl k) := .cons (strings_Cut_eo k) (.cons (I_TrimText_eo k) (.nil cod))
def I_SplitPair_cu (k : Nat) : Cuts D := ⟨[], []⟩
def I_SplitPair_ar : List Ar := [.c (.ks)]
def I_SplitPair_f (k : Nat) (x : TupA D I_SplitPair_ar) : Option ((List UInt8) × (List UInt8) × Bool) := I_SplitPair k x.1
def I_SplitPair_vr (r : (List UInt8) × (List UInt8) × Bool) : VR D := .tup [.c (.str r.1), .c (.str r.2.1), .c (.bool r.2.2)]
theorem I_SplitPair_ok (k : Nat) : Does P X 166 I_SplitPair_ar (I_SplitPair_f k) I_SplitPair_vr :=
  does_of (body := bodyOf Go.Proofs.Tryz.f166) (pl := I_SplitPair_pl) (k := k) (cu := I_SplitPair_cu k) (tys := [[0], [0], [0]]) (I_SplitPair_ck k) ctx mixed Go.Proofs.Tryz.func166 (by kernel_rfl) (by kernel_rfl) (cutOK_of (l := []) (by kernel_rfl) trivial) fun x R h => by
    simp only [I_SplitPair_f, I_SplitPair, optK_bind, optK_bif, optK_pure, optK_none, optK_oc, optK_guardT, optK_map] at h
    refine hold_of h ?_
    kernel_rfl
def I_SplitPair_en (k : Nat) : Entry D := entS I_SplitPair_ar (I_SplitPair_f k) I_SplitPair_vr
theorem I_SplitPair_eo (k : Nat) : EntryOK X 166 (I_SplitPair_en k) := (I_SplitPair_ok k).en rfl
def I_weightIn_pl : Plan := ⟨[(0, [(0, none)]), (1, [(4, none), (5, none)]), (2, [(4, none), (5, none), (27, none)]), (3, [(2, none), (3, none)]), (4, [(5, none), (7, none)]), (5, [(5, none), (7, none), (8, none)]), (6, [(7, none), (8, none), (34, some 5), (35, none), (36, none)]), (7, [(7, none), (8, none), (34, some 5), (35, none), (36, none), (37, none)]), (8, [(7, none), (8, none), (10, none), (34, some 5), (35, none), (36, none)]), (9, [(7, none), (8, none), (10, none), (34, some 5), (35, none), (36, none), (45, none)]), (10, [(2, none), (3, none)]), (11, [(7, none), (8, none), (34, some 5), (35, none), (36, none)]), (12, [(7, none), (8, none), (34, some 5), (35, none), (36, none)]), (13, [(7, none), (8, none), (34, some 5), (35, none), (36, none)]), (14, [(2, none), (3, none)])],
  [(0, [(7, none)]), (1, [(7, none), (8, none), (34, some 5), (35, none), (36, none)])],
  [(27, ([], [(4, none), (5, none)])), (37, ([(7, none), (8, none), (34, some 5), (35, none), (36, none)], [(7, none)])), (45, ([], [(7, none), (8, none), (10, none), (34, some 5), (35, none), (36, none)]))]⟩
def I_weightIn_cl (k : Nat) : Calls' D := ⟨[(189, strings_Cut_en k)], [], [], [], []⟩
theorem I_weightIn_ck (k : Nat) : CallsOK X (I_weightIn_cl k) := .cons (strings_Cut_eo k) (.nil cod)
def I_weightIn_b0_L (x : Int × Int × Int × Int × (List Int) × Unit) (o : Oc (Int) (Int × Bool)) (Q : Ex → VSt D → Prop) (R : VR D → Prop) : Prop := ocP o (fun v0 => Q .normal (mkSt ⟨[(7, .hole)], []⟩ [.int .i64 v0])) (fun w0 => R (.tup [.c (.int .i64 w0.1), .c (.bool w0.2)]))
def I_weightIn_b0_cut (k : Nat) : Cut D := cutS ⟨[(7, .hole), (8, .hole), (34, .ref 500034), (35, .hole), (36, .hole)], [(500034, .row)]⟩ [.ki .i64, .ki .i64, .ki .i64, .ki .i64, .kl 5] (fun (x : Int × Int × Int × Int × (List Int) × Unit) => I_weightIn_b0 k k x.1 x.2.1 x.2.2.1 x.2.2.2.1 x.2.2.2.2.1) I_weightIn_b0_L
def I_weightIn_b0_cu (k : Nat) : Cuts D := ⟨[], []⟩
theorem I_weightIn_b0_ok (k : Nat) : CutFor X I_weightIn_pl k Go.Proofs.Tryz.f167.results.toList (I_weightIn_b0_cut k) (sub (bodyOf Go.Proofs.Tryz.f167) [1, 1, 1, 1, 1, 0, 1]) :=
  loopCut_s (X := X) (sg := [.ki .i64, .ki .i64, .ki .i64, .ki .i64, .kl 5]) (cu := I_weightIn_b0_cu k) (cl := I_weightIn_cl k) (tys := [[0], [0]]) (id := 0) (c := sub (bodyOf Go.Proofs.Tryz.f167) [1, 1, 1, 1, 1, 0, 1, 0, 0]) (f := fun n => fun (x : Int × Int × Int × Int × (List Int) × Unit) => I_weightIn_b0 k n x.1 x.2.1 x.2.2.1 x.2.2.2.1 x.2.2.2.2.1) (I_weightIn_ck k) (cutOK_of (l := []) (by kernel_rfl) trivial) (fun _ => rfl) (fun n x Q R h => by
    simp only [I_weightIn_b0, optK_bind, optK_bif, optK_pure, optK_none, optK_oc, optK_guardT, optK_map] at h
    refine hold_of h ?_
    kernel_rfl) (by kernel_rfl)
def I_weightIn_cu (k : Nat) : Cuts D := ⟨[(0, some (I_weightIn_b0_cut k))], []⟩
def I_weightIn_ar : List Ar := [.c (.ks)]
def I_weightIn_f (k : Nat) (x : TupA D I_weightIn_ar) : Option (Int × Bool) := I_weightIn k x.1
def I_weightIn_vr (r : Int × Bool) : VR D := .tup [.c (.int .i64 r.1), .c (.bool r.2)]
theorem I_weightIn_ok (k : Nat) : Does P X 167 I_weightIn_ar (I_weightIn_f k) I_weightIn_vr :=
  does_of (body := bodyOf Go.Proofs.Tryz.f167) (pl := I_weightIn_pl) (k := k) (cu := I_weightIn_cu k) (tys := [[0], [0]]) (I_weightIn_ck k) ctx mixed Go.Proofs.Tryz.func167 (by kernel_rfl) (by kernel_rfl) (cutOK_of (l := [(I_weightIn_b0_cut k, sub (bodyOf Go.Proofs.Tryz.f167) [1, 1, 1, 1, 1, 0, 1])]) (by kernel_rfl) ⟨I_weightIn_b0_ok k, trivial⟩) fun x R h => by
    simp only [I_weightIn_f, I_weightIn, optK_bind, optK_bif, optK_pure, optK_none, optK_oc, optK_guardT, optK_map] at h
    refine hold_of h ?_
    kernel_rfl
def I_weightIn_en (k : Nat) : Entry D := entS I_weightIn_ar (I_weightIn_f k) I_weightIn_vr
theorem I_weightIn_eo (k : Nat) : EntryOK X 167 (I_weightIn_en k) := (I_weightIn_ok k).en rfl
def I_ParseQualities_pl : Plan := ⟨[(0, [(0, none)]), (1, [(0, none), (3, some 164)]), (2, [(3, some 164), (16, some 9), (17, none), (18, none)]), (3, [(3, some 164), (16, some 9), (17, none), (18, none), (19, none)]), (4, [(3, some 164), (5, none), (16, some 9), (17, none), (18, none)]), (5, [(3, some 164), (6, some 9), (16, some 9), (17, none), (18, none)]), (6, [(3, some 164), (6, some 9), (7, none), (16, some 9), (17, none), (18, none)]), (7, [(3, some 164), (6, some 9), (7, none), (8, none), (16, some 9), (17, none), (18, none)]), (8, [(3, some 164), (6, some 9), (7, none), (8, none), (16, some 9), (17, none), (18, none), (40, none)]), (9, [(3, some 164), (7, none), (8, none), (9, none), (10, none), (11, none), (16, some 9), (17, none), (18, none)]), (10, [(3, some 164), (7, none), (8, none), (9, none), (11, none), (12, none), (13, none), (16, some 9), (17, none), (18, none)]), (11, [(3, some 164), (7, none), (8, none), (9, none), (11, none), (13, none), (16, some 9), (17, none), (18, none)]), (12, [(3, some 164), (7, none), (8, none), (16, some 9), (17, none), (18, none)]), (13, [(3, some 164), (7, none), (16, some 9), (17, none), (18, none), (71, none)]), (14, [(3, some 164), (16, some 9), (17, none), (18, none)]), (15, [(3, some 164), (16, some 9), (17, none), (18, none)]), (16, [(2, some 164)])],
  [(0, [(3, some 164)]), (1, [(3, some 164), (16, some 9), (17, none), (18, none)])],
  [(19, ([(3, some 164), (16, some 9), (17, none), (18, none)], [(3, some 164)])), (40, ([(3, some 164), (6, some 9), (7, none), (8, none), (16, some 9), (17, none), (18, none)], [(3, some 164), (7, none), (8, none), (16, some 9), (17, none), (18, none)])), (71, ([(3, some 164), (7, none), (16, some 9), (17, none), (18, none)], [(3, some 164), (16, some 9), (17, none), (18, none)]))]⟩
def I_ParseQualities_cl (k : Nat) : Calls' D := ⟨[(140, I_SplitList_en k), (129, strings_Split_en k), (139, I_TrimText_en k), (157, I_LowerText_en k), (103, I_IsToken_en k), (166, I_SplitPair_en k), (167, I_weightIn_en k)], [], [], [], []⟩
theorem I_ParseQualities_ck (k : Nat) : CallsOK X (I_ParseQualities_cl k) := .cons (I_SplitList_eo k) (.cons (strings_Split_eo k) (.cons (I_TrimText_eo k) (.cons (I_LowerText_eo k) (.cons (I_IsToken_eo k) (.cons (I_SplitPair_eo k) (.cons (I_weightIn_eo k) (.nil cod)))))))
def I_ParseQualities_c40_L (x : Bool × Int × Int × Bool × (List IQuality) × (List (List UInt8)) × (List UInt8) × Int × (List (List UInt8)) × Unit) (o : Bool × Int) (Q : Ex → VSt D → Prop) (R : VR D → Prop) : Prop := Q .normal (mkSt ⟨[(3, .ref 500003), (7, .ptr 7 0), (8, .hole), (16, .ref 500016), (17, .hole), (18, .hole)], [(500003, .row), (7, .var [.hole, .hole]), (500016, .row)]⟩ [.bool o.1, .int .i64 x.2.1, .int .i64 x.2.2.1, .sl 164 x.2.2.2.2.1, .str x.2.2.2.2.2.2.1, .int .i64 o.2, .sl 9 x.2.2.2.2.2.2.2.2.1])
def I_ParseQualities_c40_cut (k : Nat) : Cut D := cutS ⟨[(3, .ref 500003), (6, .ref 500006), (7, .ptr 7 0), (8, .hole), (16, .ref 500016), (17, .hole), (18, .hole), (40, .hole)], [(500003, .row), (500006, .row), (7, .var [.hole, .hole]), (500016, .row)]⟩ [.kb, .ki .i64, .ki .i64, .kb, .kl 164, .kl 9, .ks, .ki .i64, .kl 9] (fun (x : Bool × Int × Int × Bool × (List IQuality) × (List (List UInt8)) × (List UInt8) × Int × (List (List UInt8)) × Unit) => I_ParseQualities_c40 k x.1 x.2.1 x.2.2.1 x.2.2.2.1 x.2.2.2.2.1 x.2.2.2.2.2.1 x.2.2.2.2.2.2.1 x.2.2.2.2.2.2.2.1 x.2.2.2.2.2.2.2.2.1) I_ParseQualities_c40_L
def I_ParseQualities_c40_cu (k : Nat) : Cuts D := ⟨[], []⟩
theorem I_ParseQualities_c40_ok (k : Nat) : CutFor X I_ParseQualities_pl k Go.Proofs.Tryz.f100.results.toList (I_ParseQualities_c40_cut k) (sub (bodyOf Go.Proofs.Tryz.f100) [1, 1, 0, 1, 0, 0, 1, 1, 0, 0, 1, 1, 1, 1, 0, 1]) :=
  joinCut_s (X := X) (sg := [.kb, .ki .i64, .ki .i64, .kb, .kl 164, .kl 9, .ks, .ki .i64, .kl 9]) (cu := I_ParseQualities_c40_cu k) (cl := I_ParseQualities_cl k) (tys := [[164]]) (I_ParseQualities_ck k) (cutOK_of (l := []) (by kernel_rfl) trivial) fun x Q R h => by
    simp only [I_ParseQualities_c40, optK_bind, optK_bif, optK_pure, optK_none, optK_oc, optK_guardT, optK_map] at h
    refine hold_of h ?_
    kernel_rfl
def I_ParseQualities_c71_L (x : Int × Int × Bool × (List IQuality) × (List UInt8) × Int × (List (List UInt8)) × Unit) (o : (List IQuality)) (Q : Ex → VSt D → Prop) (R : VR D → Prop) : Prop := Q .normal (mkSt ⟨[(3, .ref 500003), (16, .ref 500016), (17, .hole), (18, .hole)], [(500003, .row), (500016, .row)]⟩ [.int .i64 x.1, .int .i64 x.2.1, .sl 164 o, .sl 9 x.2.2.2.2.2.2.1])
def I_ParseQualities_c71_cut (k : Nat) : Cut D := cutS ⟨[(3, .ref 500003), (7, .ptr 7 0), (16, .ref 500016), (17, .hole), (18, .hole), (71, .hole)], [(500003, .row), (7, .var [.hole, .hole]), (500016, .row)]⟩ [.ki .i64, .ki .i64, .kb, .kl 164, .ks, .ki .i64, .kl 9] (fun (x : Int × Int × Bool × (List IQuality) × (List UInt8) × Int × (List (List UInt8)) × Unit) => I_ParseQualities_c71 k x.1 x.2.1 x.2.2.1 x.2.2.2.1 x.2.2.2.2.1 x.2.2.2.2.2.1 x.2.2.2.2.2.2.1) I_ParseQualities_c71_L
def I_ParseQualities_c71_cu (k : Nat) : Cuts D := ⟨[], []⟩
theorem I_ParseQualities_c71_ok (k : Nat) : CutFor X I_ParseQualities_pl k Go.Proofs.Tryz.f100.results.toList (I_ParseQualities_c71_cut k) (sub (bodyOf Go.Proofs.Tryz.f100) [1, 1, 0, 1, 0, 0, 1, 1, 0, 0, 1, 1, 1, 1, 1, 1]) :=
  joinCut_s (X := X) (sg := [.ki .i64, .ki .i64, .kb, .kl 164, .ks, .ki .i64, .kl 9]) (cu := I_ParseQualities_c71_cu k) (cl := I_ParseQualities_cl k) (tys := [[164]]) (I_ParseQualities_ck k) (cutOK_of (l := []) (by kernel_rfl) trivial) fun x Q R h => by
    simp only [I_ParseQualities_c71, optK_bind, optK_bif, optK_pure, optK_none, optK_oc, optK_guardT, optK_map] at h
    refine hold_of h ?_
    kernel_rfl
def I_ParseQualities_b1_L (x : Int × Int × (List IQuality) × (List (List UInt8)) × Unit) (o : (List IQuality)) (Q : Ex → VSt D → Prop) (R : VR D → Prop) : Prop := Q .normal (mkSt ⟨[(3, .ref 500003), (16, .ref 500016), (17, .hole), (18, .hole)], [(500003, .row), (500016, .row)]⟩ [.int .i64 x.1, .int .i64 x.2.1, .sl 164 o, .sl 9 x.2.2.2.1])
def I_ParseQualities_b1_cut (k : Nat) : Cut D := cutS ⟨[(3, .ref 500003), (16, .ref 500016), (17, .hole), (18, .hole)], [(500003, .row), (500016, .row)]⟩ [.ki .i64, .ki .i64, .kl 164, .kl 9] (fun (x : Int × Int × (List IQuality) × (List (List UInt8)) × Unit) => I_ParseQualities_b1 k x.1 x.2.1 x.2.2.1 x.2.2.2.1) I_ParseQualities_b1_L
def I_ParseQualities_b1_cu (k : Nat) : Cuts D := ⟨[], [(40, some (I_ParseQualities_c40_cut k)), (71, some (I_ParseQualities_c71_cut k))]⟩
theorem I_ParseQualities_b1_ok (k : Nat) : CutFor X I_ParseQualities_pl k Go.Proofs.Tryz.f100.results.toList (I_ParseQualities_b1_cut k) (sub (bodyOf Go.Proofs.Tryz.f100) [1, 1, 0, 1, 0, 0, 1, 1, 0]) :=
  joinCut_s (X := X) (sg := [.ki .i64, .ki .i64, .kl 164, .kl 9]) (cu := I_ParseQualities_b1_cu k) (cl := I_ParseQualities_cl k) (tys := [[164]]) (I_ParseQualities_ck k) (cutOK_of (l := [(I_ParseQualities_c40_cut k, sub (bodyOf Go.Proofs.Tryz.f100) [1, 1, 0, 1, 0, 0, 1, 1, 0, 0, 1, 1, 1, 1, 0, 1]), (I_ParseQualities_c71_cut k, sub (bodyOf Go.Proofs.Tryz.f100) [1, 1, 0, 1, 0, 0, 1, 1, 0, 0, 1, 1, 1, 1, 1, 1])]) (by kernel_rfl) ⟨I_ParseQualities_c40_ok k, I_ParseQualities_c71_ok k, trivial⟩) fun x Q R h => by
    simp only [I_ParseQualities_b1, optK_bind, optK_bif, optK_pure, optK_none, optK_oc, optK_guardT, optK_map] at h
    refine hold_of h ?_
    kernel_rfl
def I_ParseQualities_b0_L (x : Int × Int × (List IQuality) × (List (List UInt8)) × Unit) (o : (List IQuality)) (Q : Ex → VSt D → Prop) (R : VR D → Prop) : Prop := Q .normal (mkSt ⟨[(3, .ref 500003)], [(500003, .row)]⟩ [.sl 164 o])
def I_ParseQualities_b0_cut (k : Nat) : Cut D := cutS ⟨[(3, .ref 500003), (16, .ref 500016), (17, .hole), (18, .hole)], [(500003, .row), (500016, .row)]⟩ [.ki .i64, .ki .i64, .kl 164, .kl 9] (fun (x : Int × Int × (List IQuality) × (List (List UInt8)) × Unit) => I_ParseQualities_b0 k k x.1 x.2.1 x.2.2.1 x.2.2.2.1) I_ParseQualities_b0_L
def I_ParseQualities_b0_cu (k : Nat) : Cuts D := ⟨[(1, some (I_ParseQualities_b1_cut k))], []⟩
theorem I_ParseQualities_b0_ok (k : Nat) : CutFor X I_ParseQualities_pl k Go.Proofs.Tryz.f100.results.toList (I_ParseQualities_b0_cut k) (sub (bodyOf Go.Proofs.Tryz.f100) [1, 1, 0, 1]) :=
  loopCut_s (X := X) (sg := [.ki .i64, .ki .i64, .kl 164, .kl 9]) (cu := I_ParseQualities_b0_cu k) (cl := I_ParseQualities_cl k) (tys := [[164]]) (id := 0) (c := sub (bodyOf Go.Proofs.Tryz.f100) [1, 1, 0, 1, 0, 0]) (f := fun n => fun (x : Int × Int × (List IQuality) × (List (List UInt8)) × Unit) => I_ParseQualities_b0 k n x.1 x.2.1 x.2.2.1 x.2.2.2.1) (I_ParseQualities_ck k) (cutOK_of (l := [(I_ParseQualities_b1_cut k, sub (bodyOf Go.Proofs.Tryz.f100) [1, 1, 0, 1, 0, 0, 1, 1, 0])]) (by kernel_rfl) ⟨I_ParseQualities_b1_ok k, trivial⟩) (fun _ => rfl) (fun n x Q R h => by
    simp only [I_ParseQualities_b0, optK_bind, optK_bif, optK_pure, optK_none, optK_oc, optK_guardT, optK_map] at h
    refine hold_of h ?_
    kernel_rfl) (by kernel_rfl)
def I_ParseQualities_cu (k : Nat) : Cuts D := ⟨[(0, some (I_ParseQualities_b0_cut k))], []⟩
def I_ParseQualities_ar : List Ar := [.c (.ks)]
def I_ParseQualities_f (k : Nat) (x : TupA D I_ParseQualities_ar) : Option ((List IQuality)) := I_ParseQualities k x.1
def I_ParseQualities_vr (r : (List IQuality)) : VR D := .p (.c (.sl 164 r))
theorem I_ParseQualities_ok (k : Nat) : Does P X 100 I_ParseQualities_ar (I_ParseQualities_f k) I_ParseQualities_vr :=
  does_of (body := bodyOf Go.Proofs.Tryz.f100) (pl := I_ParseQualities_pl) (k := k) (cu := I_ParseQualities_cu k) (tys := [[164]]) (I_ParseQualities_ck k) ctx mixed Go.Proofs.Tryz.func100 (by kernel_rfl) (by kernel_rfl) (cutOK_of (l := [(I_ParseQualities_b0_cut k, sub (bodyOf Go.Proofs.Tryz.f100) [1, 1, 0, 1])]) (by kernel_rfl) ⟨I_ParseQualities_b0_ok k, trivial⟩) fun x R h => by
    simp only [I_ParseQualities_f, I_ParseQualities, optK_bind, optK_bif, optK_pure, optK_none, optK_oc, optK_guardT, optK_map] at h
    refine hold_of h ?_
    kernel_rfl
def I_ParseQualities_en (k : Nat) : Entry D := entS I_ParseQualities_ar (I_ParseQualities_f k) I_ParseQualities_vr
theorem I_ParseQualities_eo (k : Nat) : EntryOK X 100 (I_ParseQualities_en k) := (I_ParseQualities_ok k).en rfl
def I_QualityOf_pl : Plan := ⟨[(0, [(0, some 164), (1, none)]), (1, [(0, some 164), (10, some 9), (11, none), (12, none)]), (2, [(0, some 164), (10, some 9), (11, none), (12, none), (13, none)]), (3, [(0, some 164), (6, none), (10, some 9), (11, none), (12, none)]), (4, [(0, some 164), (6, none), (10, some 9), (11, none), (12, none), (16, some 164), (17, none), (18, none)]), (5, [(0, some 164), (6, none), (10, some 9), (11, none), (12, none), (16, some 164), (17, none), (18, none), (19, none)]), (6, [(0, some 164), (6, none), (8, none), (10, some 9), (11, none), (12, none), (16, some 164), (17, none), (18, none)]), (7, [(0, some 164), (6, none), (8, none), (10, some 9), (11, none), (12, none), (16, some 164), (17, none), (18, none), (25, none)]), (8, [(4, none)]), (9, [(0, some 164), (6, none), (10, some 9), (11, none), (12, none), (16, some 164), (17, none), (18, none)]), (10, [(0, some 164), (10, some 9), (11, none), (12, none)]), (11, [(4, none)])],
  [(0, []), (1, [(0, some 164), (10, some 9), (11, none), (12, none)]), (2, [(0, some 164), (10, some 9), (11, none), (12, none)]), (3, [(0, some 164), (6, none), (10, some 9), (11, none), (12, none), (16, some 164), (17, none), (18, none)])],
  [(13, ([(0, some 164), (10, some 9), (11, none), (12, none)], [])), (19, ([(0, some 164), (6, none), (10, some 9), (11, none), (12, none), (16, some 164), (17, none), (18, none)], [(0, some 164), (10, some 9), (11, none), (12, none)])), (25, ([(8, none)], [(0, some 164), (6, none), (10, some 9), (11, none), (12, none), (16, some 164), (17, none), (18, none)]))]⟩
def I_QualityOf_cl (k : Nat) : Calls' D := ⟨[], [], [], [], []⟩
theorem I_QualityOf_ck (k : Nat) : CallsOK X (I_QualityOf_cl k) := .nil cod
def I_QualityOf_b2_L (x : (List IQuality) × (List UInt8) × Int × Int × (List IQuality) × Int × Int × (List (List UInt8)) × Unit) (o : Oc (Unit) (Int)) (Q : Ex → VSt D → Prop) (R : VR D → Prop) : Prop := ocP o (fun v0 => Q .normal (mkSt ⟨[(0, .hole), (10, .ref 500010), (11, .hole), (12, .hole)], [(500010, .row)]⟩ [.sl 164 x.1, .int .i64 x.2.2.1, .int .i64 x.2.2.2.1, .sl 9 x.2.2.2.2.2.2.2.1])) (fun w0 => R (.p (.c (.int .i64 w0))))
def I_QualityOf_b2_cut (k : Nat) : Cut D := cutS ⟨[(0, .hole), (6, .hole), (10, .ref 500010), (11, .hole), (12, .hole), (16, .hole), (17, .hole), (18, .hole)], [(500010, .row)]⟩ [.kl 164, .ks, .ki .i64, .ki .i64, .kl 164, .ki .i64, .ki .i64, .kl 9] (fun (x : (List IQuality) × (List UInt8) × Int × Int × (List IQuality) × Int × Int × (List (List UInt8)) × Unit) => I_QualityOf_b2 k k x.1 x.2.1 x.2.2.1 x.2.2.2.1 x.2.2.2.2.1 x.2.2.2.2.2.1 x.2.2.2.2.2.2.1 x.2.2.2.2.2.2.2.1) I_QualityOf_b2_L
def I_QualityOf_b2_cu (k : Nat) : Cuts D := ⟨[], []⟩
theorem I_QualityOf_b2_ok (k : Nat) : CutFor X I_QualityOf_pl k Go.Proofs.Tryz.f101.results.toList (I_QualityOf_b2_cut k) (sub (bodyOf Go.Proofs.Tryz.f101) [1, 0, 1, 0, 0, 1, 1, 0, 0, 1, 1]) :=
  loopCut_s (X := X) (sg := [.kl 164, .ks, .ki .i64, .ki .i64, .kl 164, .ki .i64, .ki .i64, .kl 9]) (cu := I_QualityOf_b2_cu k) (cl := I_QualityOf_cl k) (tys := [[0]]) (id := 2) (c := sub (bodyOf Go.Proofs.Tryz.f101) [1, 0, 1, 0, 0, 1, 1, 0, 0, 1, 1, 0, 0]) (f := fun n => fun (x : (List IQuality) × (List UInt8) × Int × Int × (List IQuality) × Int × Int × (List (List UInt8)) × Unit) => I_QualityOf_b2 k n x.1 x.2.1 x.2.2.1 x.2.2.2.1 x.2.2.2.2.1 x.2.2.2.2.2.1 x.2.2.2.2.2.2.1 x.2.2.2.2.2.2.2.1) (I_QualityOf_ck k) (cutOK_of (l := []) (by kernel_rfl) trivial) (fun _ => rfl) (fun n x Q R h => by
    simp only [I_QualityOf_b2, optK_bind, optK_bif, optK_pure, optK_none, optK_oc, optK_guardT, optK_map] at h
    refine hold_of h ?_
    kernel_rfl) (by kernel_rfl)
def I_QualityOf_b0_L (x : (List IQuality) × Int × Int × (List (List UInt8)) × Unit) (o : Oc (Unit) (Int)) (Q : Ex → VSt D → Prop) (R : VR D → Prop) : Prop := ocP o (fun v0 => Q .normal (mkSt ⟨[], []⟩ [])) (fun w0 => R (.p (.c (.int .i64 w0))))
def I_QualityOf_b0_cut (k : Nat) : Cut D := cutS ⟨[(0, .hole), (10, .ref 500010), (11, .hole), (12, .hole)], [(500010, .row)]⟩ [.kl 164, .ki .i64, .ki .i64, .kl 9] (fun (x : (List IQuality) × Int × Int × (List (List UInt8)) × Unit) => I_QualityOf_b0 k k x.1 x.2.1 x.2.2.1 x.2.2.2.1) I_QualityOf_b0_L
def I_QualityOf_b0_cu (k : Nat) : Cuts D := ⟨[(2, some (I_QualityOf_b2_cut k))], []⟩
theorem I_QualityOf_b0_ok (k : Nat) : CutFor X I_QualityOf_pl k Go.Proofs.Tryz.f101.results.toList (I_QualityOf_b0_cut k) (sub (bodyOf Go.Proofs.Tryz.f101) [1, 0, 1]) :=
  loopCut_s (X := X) (sg := [.kl 164, .ki .i64, .ki .i64, .kl 9]) (cu := I_QualityOf_b0_cu k) (cl := I_QualityOf_cl k) (tys := [[0]]) (id := 0) (c := sub (bodyOf Go.Proofs.Tryz.f101) [1, 0, 1, 0, 0]) (f := fun n => fun (x : (List IQuality) × Int × Int × (List (List UInt8)) × Unit) => I_QualityOf_b0 k n x.1 x.2.1 x.2.2.1 x.2.2.2.1) (I_QualityOf_ck k) (cutOK_of (l := [(I_QualityOf_b2_cut k, sub (bodyOf Go.Proofs.Tryz.f101) [1, 0, 1, 0, 0, 1, 1, 0, 0, 1, 1])]) (by kernel_rfl) ⟨I_QualityOf_b2_ok k, trivial⟩) (fun _ => rfl) (fun n x Q R h => by
    simp only [I_QualityOf_b0, optK_bind, optK_bif, optK_pure, optK_none, optK_oc, optK_guardT, optK_map] at h
    refine hold_of h ?_
    kernel_rfl) (by kernel_rfl)
def I_QualityOf_cu (k : Nat) : Cuts D := ⟨[(0, some (I_QualityOf_b0_cut k))], []⟩
def I_QualityOf_ar : List Ar := [.c (.kl 164), .c (.ks)]
def I_QualityOf_f (k : Nat) (x : TupA D I_QualityOf_ar) : Option (Int) := I_QualityOf k x.1 x.2.1
def I_QualityOf_vr (r : Int) : VR D := .p (.c (.int .i64 r))
theorem I_QualityOf_ok (k : Nat) : Does P X 101 I_QualityOf_ar (I_QualityOf_f k) I_QualityOf_vr :=
  does_of (body := bodyOf Go.Proofs.Tryz.f101) (pl := I_QualityOf_pl) (k := k) (cu := I_QualityOf_cu k) (tys := [[0]]) (I_QualityOf_ck k) ctx mixed Go.Proofs.Tryz.func101 (by kernel_rfl) (by kernel_rfl) (cutOK_of (l := [(I_QualityOf_b0_cut k, sub (bodyOf Go.Proofs.Tryz.f101) [1, 0, 1])]) (by kernel_rfl) ⟨I_QualityOf_b0_ok k, trivial⟩) fun x R h => by
    simp only [I_QualityOf_f, I_QualityOf, optK_bind, optK_bif, optK_pure, optK_none, optK_oc, optK_guardT, optK_map] at h
    refine hold_of h ?_
    kernel_rfl
def I_QualityOf_en (k : Nat) : Entry D := entS I_QualityOf_ar (I_QualityOf_f k) I_QualityOf_vr
theorem I_QualityOf_eo (k : Nat) : EntryOK X 101 (I_QualityOf_en k) := (I_QualityOf_ok k).en rfl
def I_ChooseName_pl : Plan := ⟨[(0, [(0, some 9), (1, none)]), (1, [(0, some 9), (5, some 164)]), (2, [(0, some 9), (5, some 164), (6, none)]), (3, [(5, some 164), (6, none), (11, some 9), (12, none), (13, none)]), (4, [(5, some 164), (6, none), (11, some 9), (12, none), (13, none), (14, none)]), (5, [(5, some 164), (6, none), (7, none), (8, none), (11, some 9), (12, none), (13, none)]), (6, [(5, some 164), (6, none), (8, none), (11, some 9), (12, none), (13, none), (28, none)]), (7, [(5, some 164), (6, none), (11, some 9), (12, none), (13, none)]), (8, [(5, some 164), (6, none), (11, some 9), (12, none), (13, none)]), (9, [(4, none)])],
  [(0, [(6, none)]), (1, [(5, some 164), (6, none), (11, some 9), (12, none), (13, none)])],
  [(14, ([(5, some 164), (6, none), (11, some 9), (12, none), (13, none)], [(6, none)])), (28, ([(5, some 164), (8, none), (11, some 9), (12, none), (13, none)], [(5, some 164), (6, none), (11, some 9), (12, none), (13, none)]))]⟩
def I_ChooseName_cl (k : Nat) : Calls' D := ⟨[(100, I_ParseQualities_en k), (101, I_QualityOf_en k)], [], [], [], []⟩
theorem I_ChooseName_ck (k : Nat) : CallsOK X (I_ChooseName_cl k) := .cons (I_ParseQualities_eo k) (.cons (I_QualityOf_eo k) (.nil cod))
def I_ChooseName_c28_L (x : (List UInt8) × (List UInt8) × (List (List UInt8)) × Int × Int × Bool × (List IQuality) × Unit) (o : (List UInt8)) (Q : Ex → VSt D → Prop) (R : VR D → Prop) : Prop := Q .normal (mkSt ⟨[(5, .ref 500005), (6, .hole), (11, .hole), (12, .hole), (13, .hole)], [(500005, .row)]⟩ [.str o, .sl 9 x.2.2.1, .int .i64 x.2.2.2.1, .int .i64 x.2.2.2.2.1, .sl 164 x.2.2.2.2.2.2.1])
def I_ChooseName_c28_cut (k : Nat) : Cut D := cutS ⟨[(5, .ref 500005), (6, .hole), (8, .hole), (11, .hole), (12, .hole), (13, .hole), (28, .hole)], [(500005, .row)]⟩ [.ks, .ks, .kl 9, .ki .i64, .ki .i64, .kb, .kl 164] (fun (x : (List UInt8) × (List UInt8) × (List (List UInt8)) × Int × Int × Bool × (List IQuality) × Unit) => I_ChooseName_c28 k x.1 x.2.1 x.2.2.1 x.2.2.2.1 x.2.2.2.2.1 x.2.2.2.2.2.1 x.2.2.2.2.2.2.1) I_ChooseName_c28_L
def I_ChooseName_c28_cu (k : Nat) : Cuts D := ⟨[], []⟩
theorem I_ChooseName_c28_ok (k : Nat) : CutFor X I_ChooseName_pl k Go.Proofs.Tryz.f49.results.toList (I_ChooseName_c28_cut k) (sub (bodyOf Go.Proofs.Tryz.f49) [1, 1, 1, 0, 1, 0, 0, 1, 1, 0, 0, 1, 1]) :=
  joinCut_s (X := X) (sg := [.ks, .ks, .kl 9, .ki .i64, .ki .i64, .kb, .kl 164]) (cu := I_ChooseName_c28_cu k) (cl := I_ChooseName_cl k) (tys := [[0]]) (I_ChooseName_ck k) (cutOK_of (l := []) (by kernel_rfl) trivial) fun x Q R h => by
    simp only [I_ChooseName_c28, optK_bind, optK_bif, optK_pure, optK_none, optK_oc, optK_guardT, optK_map] at h
    refine hold_of h ?_
    kernel_rfl
def I_ChooseName_b1_L (x : (List UInt8) × (List (List UInt8)) × Int × Int × (List IQuality) × Unit) (o : (List UInt8)) (Q : Ex → VSt D → Prop) (R : VR D → Prop) : Prop := Q .normal (mkSt ⟨[(5, .ref 500005), (6, .hole), (11, .hole), (12, .hole), (13, .hole)], [(500005, .row)]⟩ [.str o, .sl 9 x.2.1, .int .i64 x.2.2.1, .int .i64 x.2.2.2.1, .sl 164 x.2.2.2.2.1])
def I_ChooseName_b1_cut (k : Nat) : Cut D := cutS ⟨[(5, .ref 500005), (6, .hole), (11, .hole), (12, .hole), (13, .hole)], [(500005, .row)]⟩ [.ks, .kl 9, .ki .i64, .ki .i64, .kl 164] (fun (x : (List UInt8) × (List (List UInt8)) × Int × Int × (List IQuality) × Unit) => I_ChooseName_b1 k x.1 x.2.1 x.2.2.1 x.2.2.2.1 x.2.2.2.2.1) I_ChooseName_b1_L
def I_ChooseName_b1_cu (k : Nat) : Cuts D := ⟨[], [(28, some (I_ChooseName_c28_cut k))]⟩
theorem I_ChooseName_b1_ok (k : Nat) : CutFor X I_ChooseName_pl k Go.Proofs.Tryz.f49.results.toList (I_ChooseName_b1_cut k) (sub (bodyOf Go.Proofs.Tryz.f49) [1, 1, 1, 0, 1, 0, 0, 1, 1, 0]) :=
  joinCut_s (X := X) (sg := [.ks, .kl 9, .ki .i64, .ki .i64, .kl 164]) (cu := I_ChooseName_b1_cu k) (cl := I_ChooseName_cl k) (tys := [[0]]) (I_ChooseName_ck k) (cutOK_of (l := [(I_ChooseName_c28_cut k, sub (bodyOf Go.Proofs.Tryz.f49) [1, 1, 1, 0, 1, 0, 0, 1, 1, 0, 0, 1, 1])]) (by kernel_rfl) ⟨I_ChooseName_c28_ok k, trivial⟩) fun x Q R h => by
    simp only [I_ChooseName_b1, optK_bind, optK_bif, optK_pure, optK_none, optK_oc, optK_guardT, optK_map] at h
    refine hold_of h ?_
    kernel_rfl
def I_ChooseName_b0_L (x : (List UInt8) × (List (List UInt8)) × Int × Int × (List IQuality) × Unit) (o : (List UInt8)) (Q : Ex → VSt D → Prop) (R : VR D → Prop) : Prop := Q .normal (mkSt ⟨[(6, .hole)], []⟩ [.str o])
def I_ChooseName_b0_cut (k : Nat) : Cut D := cutS ⟨[(5, .ref 500005), (6, .hole), (11, .hole), (12, .hole), (13, .hole)], [(500005, .row)]⟩ [.ks, .kl 9, .ki .i64, .ki .i64, .kl 164] (fun (x : (List UInt8) × (List (List UInt8)) × Int × Int × (List IQuality) × Unit) => I_ChooseName_b0 k k x.1 x.2.1 x.2.2.1 x.2.2.2.1 x.2.2.2.2.1) I_ChooseName_b0_L
def I_ChooseName_b0_cu (k : Nat) : Cuts D := ⟨[(1, some (I_ChooseName_b1_cut k))], []⟩
theorem I_ChooseName_b0_ok (k : Nat) : CutFor X I_ChooseName_pl k Go.Proofs.Tryz.f49.results.toList (I_ChooseName_b0_cut k) (sub (bodyOf Go.Proofs.Tryz.f49) [1, 1, 1, 0, 1]) :=
  loopCut_s (X := X) (sg := [.ks, .kl 9, .ki .i64, .ki .i64, .kl 164]) (cu := I_ChooseName_b0_cu k) (cl := I_ChooseName_cl k) (tys := [[0]]) (id := 0) (c := sub (bodyOf Go.Proofs.Tryz.f49) [1, 1, 1, 0, 1, 0, 0]) (f := fun n => fun (x : (List UInt8) × (List (List UInt8)) × Int × Int × (List IQuality) × Unit) => I_ChooseName_b0 k n x.1 x.2.1 x.2.2.1 x.2.2.2.1 x.2.2.2.2.1) (I_ChooseName_ck k) (cutOK_of (l := [(I_ChooseName_b1_cut k, sub (bodyOf Go.Proofs.Tryz.f49) [1, 1, 1, 0, 1, 0, 0, 1, 1, 0])]) (by kernel_rfl) ⟨I_ChooseName_b1_ok k, trivial⟩) (fun _ => rfl) (fun n x Q R h => by
    simp only [I_ChooseName_b0, optK_bind, optK_bif, optK_pure, optK_none, optK_oc, optK_guardT, optK_map] at h
    refine hold_of h ?_
    kernel_rfl) (by kernel_rfl)
def I_ChooseName_cu (k : Nat) : Cuts D := ⟨[(0, some (I_ChooseName_b0_cut k))], []⟩
def I_ChooseName_ar : List Ar := [.c (.kl 9), .c (.ks)]
def I_ChooseName_f (k : Nat) (x : TupA D I_ChooseName_ar) : Option ((List UInt8)) := I_ChooseName k x.1 x.2.1
def I_ChooseName_vr (r : (List UInt8)) : VR D := .p (.c (.str r))
theorem I_ChooseName_ok (k : Nat) : Does P X 49 I_ChooseName_ar (I_ChooseName_f k) I_ChooseName_vr :=
  does_of (body := bodyOf Go.Proofs.Tryz.f49) (pl := I_ChooseName_pl) (k := k) (cu := I_ChooseName_cu k) (tys := [[0]]) (I_ChooseName_ck k) ctx mixed Go.Proofs.Tryz.func49 (by kernel_rfl) (by kernel_rfl) (cutOK_of (l := [(I_ChooseName_b0_cut k, sub (bodyOf Go.Proofs.Tryz.f49) [1, 1, 1, 0, 1])]) (by kernel_rfl) ⟨I_ChooseName_b0_ok k, trivial⟩) fun x R h => by
    simp only [I_ChooseName_f, I_ChooseName, optK_bind, optK_bif, optK_pure, optK_none, optK_oc, optK_guardT, optK_map] at h
    refine hold_of h ?_
    kernel_rfl
def I_ChooseName_en (k : Nat) : Entry D := entS I_ChooseName_ar (I_ChooseName_f k) I_ChooseName_vr
theorem I_ChooseName_eo (k : Nat) : EntryOK X 49 (I_ChooseName_en k) := (I_ChooseName_ok k).en rfl
def I_SelectingOf_pl : Plan := ⟨[(0, [(1, some 9), (2, none)]), (1, [(1, some 9), (2, none), (5, some 130)]), (2, [(2, none), (5, some 130), (11, some 9), (12, none), (13, none)]), (3, [(2, none), (5, some 130), (11, some 9), (12, none), (13, none), (14, none)]), (4, [(2, none), (5, some 130), (7, none), (11, some 9), (12, none), (13, none)]), (5, [(2, none), (5, some 130), (7, none), (8, none), (11, some 9), (12, none), (13, none)]), (6, [(2, none), (5, some 130), (11, some 9), (12, none), (13, none)]), (7, [(2, none), (5, some 130), (11, some 9), (12, none), (13, none)]), (8, [(4, some 130)])],
  [(0, [(5, some 130)]), (1, [(2, none), (5, some 130), (11, some 9), (12, none), (13, none)])],
  [(14, ([(2, none), (5, some 130), (11, some 9), (12, none), (13, none)], [(5, some 130)]))]⟩
def I_SelectingOf_cl (k : Nat) : Calls' D := ⟨[(48, I_GetField_en k), (140, I_SplitList_en k), (99, I_JoinList_en k)], [], [], [], []⟩
theorem I_SelectingOf_ck (k : Nat) : CallsOK X (I_SelectingOf_cl k) := .cons (I_GetField_eo k) (.cons (I_SplitList_eo k) (.cons (I_JoinList_eo k) (.nil cod)))
def I_SelectingOf_b0_L (x : (List (List UInt8)) × Int × Int × (List UInt8) × (List UInt8) × (List UInt8) × (List IField) × (List IField) × Unit) (o : (List IField)) (Q : Ex → VSt D → Prop) (R : VR D → Prop) : Prop := Q .normal (mkSt ⟨[(5, .ref 500005)], [(500005, .row)]⟩ [.sl 130 o])
def I_SelectingOf_b0_cut (k : Nat) : Cut D := cutS ⟨[(2, .ptr 2 0), (5, .ref 500005), (11, .hole), (12, .hole), (13, .hole)], [(2, .var [.hole, .hole, .hole, .hole]), (500005, .row)]⟩ [.kl 9, .ki .i64, .ki .i64, .ks, .ks, .ks, .kl 130, .kl 130] (fun (x : (List (List UInt8)) × Int × Int × (List UInt8) × (List UInt8) × (List UInt8) × (List IField) × (List IField) × Unit) => I_SelectingOf_b0 k k x.1 x.2.1 x.2.2.1 x.2.2.2.1 x.2.2.2.2.1 x.2.2.2.2.2.1 x.2.2.2.2.2.2.1 x.2.2.2.2.2.2.2.1) I_SelectingOf_b0_L
def I_SelectingOf_b0_cu (k : Nat) : Cuts D := ⟨[], []⟩
theorem I_SelectingOf_b0_ok (k : Nat) : CutFor X I_SelectingOf_pl k Go.Proofs.Tryz.f102.results.toList (I_SelectingOf_b0_cut k) (sub (bodyOf Go.Proofs.Tryz.f102) [1, 1, 0, 1]) :=
  loopCut_s (X := X) (sg := [.kl 9, .ki .i64, .ki .i64, .ks, .ks, .ks, .kl 130, .kl 130]) (cu := I_SelectingOf_b0_cu k) (cl := I_SelectingOf_cl k) (tys := [[130]]) (id := 0) (c := sub (bodyOf Go.Proofs.Tryz.f102) [1, 1, 0, 1, 0, 0]) (f := fun n => fun (x : (List (List UInt8)) × Int × Int × (List UInt8) × (List UInt8) × (List UInt8) × (List IField) × (List IField) × Unit) => I_SelectingOf_b0 k n x.1 x.2.1 x.2.2.1 x.2.2.2.1 x.2.2.2.2.1 x.2.2.2.2.2.1 x.2.2.2.2.2.2.1 x.2.2.2.2.2.2.2.1) (I_SelectingOf_ck k) (cutOK_of (l := []) (by kernel_rfl) trivial) (fun _ => rfl) (fun n x Q R h => by
    simp only [I_SelectingOf_b0, optK_bind, optK_bif, optK_pure, optK_none, optK_oc, optK_guardT, optK_map] at h
    refine hold_of h ?_
    kernel_rfl) (by kernel_rfl)
def I_SelectingOf_cu (k : Nat) : Cuts D := ⟨[(0, some (I_SelectingOf_b0_cut k))], []⟩
def I_SelectingOf_ar : List Ar := [.a [.ks, .ks, .ks, .kl 130], .c (.kl 9)]
def I_SelectingOf_f (k : Nat) (x : TupA D I_SelectingOf_ar) : Option ((List IField)) := I_SelectingOf k (⟨x.1.1, x.1.2.1, x.1.2.2.1, x.1.2.2.2.1⟩ : IRequest) x.2.1
def I_SelectingOf_vr (r : (List IField)) : VR D := .p (.c (.sl 130 r))
theorem I_SelectingOf_ok (k : Nat) : Does P X 102 I_SelectingOf_ar (I_SelectingOf_f k) I_SelectingOf_vr :=
  does_of (body := bodyOf Go.Proofs.Tryz.f102) (pl := I_SelectingOf_pl) (k := k) (cu := I_SelectingOf_cu k) (tys := [[130]]) (I_SelectingOf_ck k) ctx mixed Go.Proofs.Tryz.func102 (by kernel_rfl) (by kernel_rfl) (cutOK_of (l := [(I_SelectingOf_b0_cut k, sub (bodyOf Go.Proofs.Tryz.f102) [1, 1, 0, 1])]) (by kernel_rfl) ⟨I_SelectingOf_b0_ok k, trivial⟩) fun x R h => by
    simp only [I_SelectingOf_f, I_SelectingOf, optK_bind, optK_bif, optK_pure, optK_none, optK_oc, optK_guardT, optK_map] at h
    refine hold_of h ?_
    kernel_rfl
def I_SelectingOf_en (k : Nat) : Entry D := entS I_SelectingOf_ar (I_SelectingOf_f k) I_SelectingOf_vr
theorem I_SelectingOf_eo (k : Nat) : EntryOK X 102 (I_SelectingOf_en k) := (I_SelectingOf_ok k).en rfl
def I_VisitorOf_pl : Plan := ⟨[(0, [(1, none)]), (1, [(3, none)]), (2, [(3, none), (17, none)]), (3, [(2, none)]), (4, [(2, none)])],
  [],
  [(17, ([], [(3, none)]))]⟩
def I_VisitorOf_cl (k : Nat) : Calls' D := ⟨[(102, I_SelectingOf_en k), (103, I_IsToken_en k)], [], [], [], []⟩
theorem I_VisitorOf_ck (k : Nat) : CallsOK X (I_VisitorOf_cl k) := .cons (I_SelectingOf_eo k) (.cons (I_IsToken_eo k) (.nil cod))
def I_VisitorOf_cu (k : Nat) : Cuts D := ⟨[], []⟩
def I_VisitorOf_ar : List Ar := [.a [.ks, .ks, .ks, .kl 130]]
def I_VisitorOf_f (k : Nat) (x : TupA D I_VisitorOf_ar) : Option ((List UInt8)) := I_VisitorOf k (⟨x.1.1, x.1.2.1, x.1.2.2.1, x.1.2.2.2.1⟩ : IRequest)
def I_VisitorOf_vr (r : (List UInt8)) : VR D := .p (.c (.str r))
theorem I_VisitorOf_ok (k : Nat) : Does P X 50 I_VisitorOf_ar (I_VisitorOf_f k) I_VisitorOf_vr :=
  does_of (body := bodyOf Go.Proofs.Tryz.f50) (pl := I_VisitorOf_pl) (k := k) (cu := I_VisitorOf_cu k) (tys := [[0]]) (I_VisitorOf_ck k) ctx mixed Go.Proofs.Tryz.func50 (by kernel_rfl) (by kernel_rfl) (cutOK_of (l := []) (by kernel_rfl) trivial) fun x R h => by
    simp only [I_VisitorOf_f, I_VisitorOf, optK_bind, optK_bif, optK_pure, optK_none, optK_oc, optK_guardT, optK_map] at h
    refine hold_of h ?_
    kernel_rfl
def I_VisitorOf_en (k : Nat) : Entry D := entS I_VisitorOf_ar (I_VisitorOf_f k) I_VisitorOf_vr
theorem I_VisitorOf_eo (k : Nat) : EntryOK X 50 (I_VisitorOf_en k) := (I_VisitorOf_ok k).en rfl
def I_VariantOf_pl : Plan := ⟨[(0, [(2, none), (3, none)]), (1, [(2, none), (3, none), (6, none)]), (2, [(2, none), (3, none), (8, none), (9, none)]), (3, [(3, none), (8, none), (9, none), (21, none)]), (4, [(8, none), (9, none)]), (5, [(4, none), (5, none)])],
  [],
  [(21, ([(3, none), (8, none)], [(8, none), (9, none)]))]⟩
def I_VariantOf_cl (k : Nat) : Calls' D := ⟨[(48, I_GetField_en k), (49, I_ChooseName_en k), (50, I_VisitorOf_en k)], [], [], [], []⟩
theorem I_VariantOf_ck (k : Nat) : CallsOK X (I_VariantOf_cl k) := .cons (I_GetField_eo k) (.cons (I_ChooseName_eo k) (.cons (I_VisitorOf_eo k) (.nil cod)))
def I_VariantOf_c21_L (x : (List UInt8) × (List UInt8) × Bool × (List UInt8) × (List UInt8) × (List UInt8) × (List IField) × Unit) (o : (List UInt8)) (Q : Ex → VSt D → Prop) (R : VR D → Prop) : Prop := Q .normal (mkSt ⟨[(8, .hole), (9, .hole)], []⟩ [.str x.1, .str o])
def I_VariantOf_c21_cut (k : Nat) : Cut D := cutS ⟨[(3, .ptr 3 0), (8, .hole), (9, .hole), (21, .hole)], [(3, .var [.hole, .hole, .hole, .hole])]⟩ [.ks, .ks, .kb, .ks, .ks, .ks, .kl 130] (fun (x : (List UInt8) × (List UInt8) × Bool × (List UInt8) × (List UInt8) × (List UInt8) × (List IField) × Unit) => I_VariantOf_c21 k x.1 x.2.1 x.2.2.1 x.2.2.2.1 x.2.2.2.2.1 x.2.2.2.2.2.1 x.2.2.2.2.2.2.1) I_VariantOf_c21_L
def I_VariantOf_c21_cu (k : Nat) : Cuts D := ⟨[], []⟩
theorem I_VariantOf_c21_ok (k : Nat) : CutFor X I_VariantOf_pl k Go.Proofs.Tryz.f16.results.toList (I_VariantOf_c21_cut k) (sub (bodyOf Go.Proofs.Tryz.f16) [1, 1, 1, 0, 1]) :=
  joinCut_s (X := X) (sg := [.ks, .ks, .kb, .ks, .ks, .ks, .kl 130]) (cu := I_VariantOf_c21_cu k) (cl := I_VariantOf_cl k) (tys := [[0], [0]]) (I_VariantOf_ck k) (cutOK_of (l := []) (by kernel_rfl) trivial) fun x Q R h => by
    simp only [I_VariantOf_c21, optK_bind, optK_bif, optK_pure, optK_none, optK_oc, optK_guardT, optK_map] at h
    refine hold_of h ?_
    kernel_rfl
def I_VariantOf_cu (k : Nat) : Cuts D := ⟨[], [(21, some (I_VariantOf_c21_cut k))]⟩
def I_VariantOf_ar : List Ar := [.a [.ks, .ks, .ks, .kb, .kl 9, .kl 128], .a [.ks, .ks, .ks, .kl 130]]
def I_VariantOf_f (k : Nat) (x : TupA D I_VariantOf_ar) : Option ((List UInt8) × (List UInt8)) := I_VariantOf k (⟨x.1.1, x.1.2.1, x.1.2.2.1, x.1.2.2.2.1, x.1.2.2.2.2.1, x.1.2.2.2.2.2.1⟩ : IResource) (⟨x.2.1.1, x.2.1.2.1, x.2.1.2.2.1, x.2.1.2.2.2.1⟩ : IRequest)
def I_VariantOf_vr (r : (List UInt8) × (List UInt8)) : VR D := .tup [.c (.str r.1), .c (.str r.2)]
theorem I_VariantOf_ok (k : Nat) : Does P X 16 I_VariantOf_ar (I_VariantOf_f k) I_VariantOf_vr :=
  does_of (body := bodyOf Go.Proofs.Tryz.f16) (pl := I_VariantOf_pl) (k := k) (cu := I_VariantOf_cu k) (tys := [[0], [0]]) (I_VariantOf_ck k) ctx mixed Go.Proofs.Tryz.func16 (by kernel_rfl) (by kernel_rfl) (cutOK_of (l := [(I_VariantOf_c21_cut k, sub (bodyOf Go.Proofs.Tryz.f16) [1, 1, 1, 0, 1])]) (by kernel_rfl) ⟨I_VariantOf_c21_ok k, trivial⟩) fun x R h => by
    simp only [I_VariantOf_f, I_VariantOf, optK_bind, optK_bif, optK_pure, optK_none, optK_oc, optK_guardT, optK_map] at h
    refine hold_of h ?_
    kernel_rfl
def I_VariantOf_en (k : Nat) : Entry D := entS I_VariantOf_ar (I_VariantOf_f k) I_VariantOf_vr
theorem I_VariantOf_eo (k : Nat) : EntryOK X 16 (I_VariantOf_en k) := (I_VariantOf_ok k).en rfl
def L_eqStringS_pl : Plan := ⟨[(0, [(0, some 9), (1, some 9)]), (1, [(0, some 9), (1, some 9), (10, none)]), (2, [(4, none)]), (3, [(0, some 9), (1, some 9), (5, none)]), (4, [(0, some 9), (1, some 9), (5, none), (14, none)]), (5, [(0, some 9), (1, some 9), (5, none)]), (6, [(0, some 9), (1, some 9), (5, none), (25, none)]), (7, [(4, none)]), (8, [(4, none)])],
  [(0, []), (1, [(0, some 9), (1, some 9), (5, none)])],
  [(10, ([], [(0, some 9), (1, some 9)])), (14, ([(0, some 9), (1, some 9), (5, none)], [])), (25, ([], [(0, some 9), (1, some 9), (5, none)]))]⟩
def L_eqStringS_cl (k : Nat) : Calls' D := ⟨[], [], [], [], []⟩
theorem L_eqStringS_ck (k : Nat) : CallsOK X (L_eqStringS_cl k) := .nil cod
def L_eqStringS_b0_L (x : (List (List UInt8)) × (List (List UInt8)) × Int × Unit) (o : Oc (Unit) (Bool)) (Q : Ex → VSt D → Prop) (R : VR D → Prop) : Prop := ocP o (fun v0 => Q .normal (mkSt ⟨[], []⟩ [])) (fun w0 => R (.p (.c (.bool w0))))
def L_eqStringS_b0_cut (k : Nat) : Cut D := cutS ⟨[(0, .hole), (1, .hole), (5, .hole)], []⟩ [.kl 9, .kl 9, .ki .i64] (fun (x : (List (List UInt8)) × (List (List UInt8)) × Int × Unit) => L_eqStringS_b0 k k x.1 x.2.1 x.2.2.1) L_eqStringS_b0_L
def L_eqStringS_b0_cu (k : Nat) : Cuts D := ⟨[], []⟩
theorem L_eqStringS_b0_ok (k : Nat) : CutFor X L_eqStringS_pl k Go.Proofs.Tryz.f51.results.toList (L_eqStringS_b0_cut k) (sub (bodyOf Go.Proofs.Tryz.f51) [1, 1, 0, 1]) :=
  loopCut_s (X := X) (sg := [.kl 9, .kl 9, .ki .i64]) (cu := L_eqStringS_b0_cu k) (cl := L_eqStringS_cl k) (tys := [[0]]) (id := 0) (c := sub (bodyOf Go.Proofs.Tryz.f51) [1, 1, 0, 1, 0, 0]) (f := fun n => fun (x : (List (List UInt8)) × (List (List UInt8)) × Int × Unit) => L_eqStringS_b0 k n x.1 x.2.1 x.2.2.1) (L_eqStringS_ck k) (cutOK_of (l := []) (by kernel_rfl) trivial) (fun _ => rfl) (fun n x Q R h => by
    simp only [L_eqStringS_b0, optK_bind, optK_bif, optK_pure, optK_none, optK_oc, optK_guardT, optK_map] at h
    refine hold_of h ?_
    kernel_rfl) (by kernel_rfl)
def L_eqStringS_cu (k : Nat) : Cuts D := ⟨[(0, some (L_eqStringS_b0_cut k))], []⟩
def L_eqStringS_ar : List Ar := [.c (.kl 9), .c (.kl 9)]
def L_eqStringS_f (k : Nat) (x : TupA D L_eqStringS_ar) : Option (Bool) := L_eqStringS k x.1 x.2.1
def L_eqStringS_vr (r : Bool) : VR D := .p (.c (.bool r))
theorem L_eqStringS_ok (k : Nat) : Does P X 51 L_eqStringS_ar (L_eqStringS_f k) L_eqStringS_vr :=
  does_of (body := bodyOf Go.Proofs.Tryz.f51) (pl := L_eqStringS_pl) (k := k) (cu := L_eqStringS_cu k) (tys := [[0]]) (L_eqStringS_ck k) ctx mixed Go.Proofs.Tryz.func51 (by kernel_rfl) (by kernel_rfl) (cutOK_of (l := [(L_eqStringS_b0_cut k, sub (bodyOf Go.Proofs.Tryz.f51) [1, 1, 0, 1])]) (by kernel_rfl) ⟨L_eqStringS_b0_ok k, trivial⟩) fun x R h => by
    simp only [L_eqStringS_f, L_eqStringS, optK_bind, optK_bif, optK_pure, optK_none, optK_oc, optK_guardT, optK_map] at h
    refine hold_of h ?_
    kernel_rfl
def L_eqStringS_en (k : Nat) : Entry D := entS L_eqStringS_ar (L_eqStringS_f k) L_eqStringS_vr
theorem L_eqStringS_eo (k : Nat) : EntryOK X 51 (L_eqStringS_en k) := (L_eqStringS_ok k).en rfl
def L_eqVersion_pl : Plan := ⟨[(0, [(2, none), (3, none)]), (1, [(2, none), (3, none), (9, none)]), (2, [(4, none)]), (3, [(2, none), (3, none), (14, none)]), (4, [(4, none)]), (5, [(19, none)]), (6, [(4, none)]), (7, [(4, none)])],
  [],
  [(9, ([], [(2, none), (3, none)])), (14, ([], [(2, none), (3, none)])), (19, ([], []))]⟩
def L_eqVersion_cl (k : Nat) : Calls' D := ⟨[], [], [], [], []⟩
theorem L_eqVersion_ck (k : Nat) : CallsOK X (L_eqVersion_cl k) := .nil cod
def L_eqVersion_cu (k : Nat) : Cuts D := ⟨[], []⟩
def L_eqVersion_ar : List Ar := [.a [.ki .i64, .ks, .kb], .a [.ki .i64, .ks, .kb]]
def L_eqVersion_f (k : Nat) (x : TupA D L_eqVersion_ar) : Option (Bool) := L_eqVersion k (⟨x.1.1, x.1.2.1, x.1.2.2.1⟩ : IVersion) (⟨x.2.1.1, x.2.1.2.1, x.2.1.2.2.1⟩ : IVersion)
def L_eqVersion_vr (r : Bool) : VR D := .p (.c (.bool r))
theorem L_eqVersion_ok (k : Nat) : Does P X 104 L_eqVersion_ar (L_eqVersion_f k) L_eqVersion_vr :=
  does_of (body := bodyOf Go.Proofs.Tryz.f104) (pl := L_eqVersion_pl) (k := k) (cu := L_eqVersion_cu k) (tys := [[0]]) (L_eqVersion_ck k) ctx mixed Go.Proofs.Tryz.func104 (by kernel_rfl) (by kernel_rfl) (cutOK_of (l := []) (by kernel_rfl) trivial) fun x R h => by
    simp only [L_eqVersion_f, L_eqVersion, optK_bind, optK_bif, optK_pure, optK_none, optK_oc, optK_guardT, optK_map] at h
    refine hold_of h ?_
    kernel_rfl
def L_eqVersion_en (k : Nat) : Entry D := entS L_eqVersion_ar (L_eqVersion_f k) L_eqVersion_vr
theorem L_eqVersion_eo (k : Nat) : EntryOK X 104 (L_eqVersion_en k) := (L_eqVersion_ok k).en rfl
def L_eqVersionS_pl : Plan := ⟨[(0, [(0, some 128), (1, some 128)]), (1, [(0, some 128), (1, some 128), (10, none)]), (2, [(4, none)]), (3, [(0, some 128), (1, some 128), (5, none)]), (4, [(0, some 128), (1, some 128), (5, none), (14, none)]), (5, [(0, some 128), (1, some 128), (5, none)]), (6, [(0, some 128), (1, some 128), (5, none), (26, none)]), (7, [(4, none)]), (8, [(4, none)])],
  [(0, []), (1, [(0, some 128), (1, some 128), (5, none)])],
  [(10, ([], [(0, some 128), (1, some 128)])), (14, ([(0, some 128), (1, some 128), (5, none)], [])), (26, ([], [(0, some 128), (1, some 128), (5, none)]))]⟩
def L_eqVersionS_cl (k : Nat) : Calls' D := ⟨[(104, L_eqVersion_en k)], [], [], [], []⟩
theorem L_eqVersionS_ck (k : Nat) : CallsOK X (L_eqVersionS_cl k) := .cons (L_eqVersion_eo k) (.nil cod)
def L_eqVersionS_b0_L (x : (List IVersion) × (List IVersion) × Int × Unit) (o : Oc (Unit) (Bool)) (Q : Ex → VSt D → Prop) (R : VR D → Prop) : Prop := ocP o (fun v0 => Q .normal (mkSt ⟨[], []⟩ [])) (fun w0 => R (.p (.c (.bool w0))))
def L_eqVersionS_b0_cut (k : Nat) : Cut D := cutS ⟨[(0, .hole), (1, .hole), (5, .hole)], []⟩ [.kl 128, .kl 128, .ki .i64] (fun (x : (List IVersion) × (List IVersion) × Int × Unit) => L_eqVersionS_b0 k k x.1 x.2.1 x.2.2.1) L_eqVersionS_b0_L
def L_eqVersionS_b0_cu (k : Nat) : Cuts D := ⟨[], []⟩
theorem L_eqVersionS_b0_ok (k : Nat) : CutFor X L_eqVersionS_pl k Go.Proofs.Tryz.f52.results.toList (L_eqVersionS_b0_cut k) (sub (bodyOf Go.Proofs.Tryz.f52) [1, 1, 0, 1]) :=
  loopCut_s (X := X) (sg := [.kl 128, .kl 128, .ki .i64]) (cu := L_eqVersionS_b0_cu k) (cl := L_eqVersionS_cl k) (tys := [[0]]) (id := 0) (c := sub (bodyOf Go.Proofs.Tryz.f52) [1, 1, 0, 1, 0, 0]) (f := fun n => fun (x : (List IVersion) × (List IVersion) × Int × Unit) => L_eqVersionS_b0 k n x.1 x.2.1 x.2.2.1) (L_eqVersionS_ck k) (cutOK_of (l := []) (by kernel_rfl) trivial) (fun _ => rfl) (fun n x Q R h => by
    simp only [L_eqVersionS_b0, optK_bind, optK_bif, optK_pure, optK_none, optK_oc, optK_guardT, optK_map] at h
    refine hold_of h ?_
    kernel_rfl) (by kernel_rfl)
def L_eqVersionS_cu (k : Nat) : Cuts D := ⟨[(0, some (L_eqVersionS_b0_cut k))], []⟩
def L_eqVersionS_ar : List Ar := [.c (.kl 128), .c (.kl 128)]
def L_eqVersionS_f (k : Nat) (x : TupA D L_eqVersionS_ar) : Option (Bool) := L_eqVersionS k x.1 x.2.1
def L_eqVersionS_vr (r : Bool) : VR D := .p (.c (.bool r))
theorem L_eqVersionS_ok (k : Nat) : Does P X 52 L_eqVersionS_ar (L_eqVersionS_f k) L_eqVersionS_vr :=
  does_of (body := bodyOf Go.Proofs.Tryz.f52) (pl := L_eqVersionS_pl) (k := k) (cu := L_eqVersionS_cu k) (tys := [[0]]) (L_eqVersionS_ck k) ctx mixed Go.Proofs.Tryz.func52 (by kernel_rfl) (by kernel_rfl) (cutOK_of (l := [(L_eqVersionS_b0_cut k, sub (bodyOf Go.Proofs.Tryz.f52) [1, 1, 0, 1])]) (by kernel_rfl) ⟨L_eqVersionS_b0_ok k, trivial⟩) fun x R h => by
    simp only [L_eqVersionS_f, L_eqVersionS, optK_bind, optK_bif, optK_pure, optK_none, optK_oc, optK_guardT, optK_map] at h
    refine hold_of h ?_
    kernel_rfl
def L_eqVersionS_en (k : Nat) : Entry D := entS L_eqVersionS_ar (L_eqVersionS_f k) L_eqVersionS_vr
theorem L_eqVersionS_eo (k : Nat) : EntryOK X 52 (L_eqVersionS_en k) := (L_eqVersionS_ok k).en rfl
def L_eqResource_pl : Plan := ⟨[(0, [(2, none), (3, none)]), (1, [(2, none), (3, none), (9, none)]), (2, [(4, none)]), (3, [(2, none), (3, none), (14, none)]), (4, [(4, none)]), (5, [(2, none), (3, none), (19, none)]), (6, [(4, none)]), (7, [(2, none), (3, none), (24, none)]), (8, [(4, none)]), (9, [(2, none), (3, none), (30, none)]), (10, [(4, none)]), (11, [(36, none)]), (12, [(4, none)]), (13, [(4, none)])],
  [],
  [(9, ([], [(2, none), (3, none)])), (14, ([], [(2, none), (3, none)])), (19, ([], [(2, none), (3, none)])), (24, ([], [(2, none), (3, none)])), (30, ([], [(2, none), (3, none)])), (36, ([], []))]⟩
def L_eqResource_cl (k : Nat) : Calls' D := ⟨[(51, L_eqStringS_en k), (52, L_eqVersionS_en k)], [], [], [], []⟩
theorem L_eqResource_ck (k : Nat) : CallsOK X (L_eqResource_cl k) := .cons (L_eqStringS_eo k) (.cons (L_eqVersionS_eo k) (.nil cod))
def L_eqResource_cu (k : Nat) : Cuts D := ⟨[], []⟩
def L_eqResource_ar : List Ar := [.a [.ks, .ks, .ks, .kb, .kl 9, .kl 128], .a [.ks, .ks, .ks, .kb, .kl 9, .kl 128]]
def L_eqResource_f (k : Nat) (x : TupA D L_eqResource_ar) : Option (Bool) := L_eqResource k (⟨x.1.1, x.1.2.1, x.1.2.2.1, x.1.2.2.2.1, x.1.2.2.2.2.1, x.1.2.2.2.2.2.1⟩ : IResource) (⟨x.2.1.1, x.2.1.2.1, x.2.1.2.2.1, x.2.1.2.2.2.1, x.2.1.2.2.2.2.1, x.2.1.2.2.2.2.2.1⟩ : IResource)
def L_eqResource_vr (r : Bool) : VR D := .p (.c (.bool r))
theorem L_eqResource_ok (k : Nat) : Does P X 17 L_eqResource_ar (L_eqResource_f k) L_eqResource_vr :=
  does_of (body := bodyOf Go.Proofs.Tryz.f17) (pl := L_eqResource_pl) (k := k) (cu := L_eqResource_cu k) (tys := [[0]]) (L_eqResource_ck k) ctx mixed Go.Proofs.Tryz.func17 (by kernel_rfl) (by kernel_rfl) (cutOK_of (l := []) (by kernel_rfl) trivial) fun x R h => by
    simp only [L_eqResource_f, L_eqResource, optK_bind, optK_bif, optK_pure, optK_none, optK_oc, optK_guardT, optK_map] at h
    refine hold_of h ?_
    kernel_rfl
def L_eqResource_en (k : Nat) : Entry D := entS L_eqResource_ar (L_eqResource_f k) L_eqResource_vr
theorem L_eqResource_eo (k : Nat) : EntryOK X 17 (L_eqResource_en k) := (L_eqResource_ok k).en rfl
def L_eqField_pl : Plan := ⟨[(0, [(2, none), (3, none)]), (1, [(2, none), (3, none), (9, none)]), (2, [(4, none)]), (3, [(14, none)]), (4, [(4, none)]), (5, [(4, none)])],
  [],
  [(9, ([], [(2, none), (3, none)])), (14, ([], []))]⟩
def L_eqField_cl (k : Nat) : Calls' D := ⟨[], [], [], [], []⟩
theorem L_eqField_ck (k : Nat) : CallsOK X (L_eqField_cl k) := .nil cod
def L_eqField_cu (k : Nat) : Cuts D := ⟨[], []⟩
def L_eqField_ar : List Ar := [.a [.ks, .ks], .a [.ks, .ks]]
def L_eqField_f (k : Nat) (x : TupA D L_eqField_ar) : Option (Bool) := L_eqField k (⟨x.1.1, x.1.2.1⟩ : IField) (⟨x.2.1.1, x.2.1.2.1⟩ : IField)
def L_eqField_vr (r : Bool) : VR D := .p (.c (.bool r))
theorem L_eqField_ok (k : Nat) : Does P X 105 L_eqField_ar (L_eqField_f k) L_eqField_vr :=
  does_of (body := bodyOf Go.Proofs.Tryz.f105) (pl := L_eqField_pl) (k := k) (cu := L_eqField_cu k) (tys := [[0]]) (L_eqField_ck k) ctx mixed Go.Proofs.Tryz.func105 (by kernel_rfl) (by kernel_rfl) (cutOK_of (l := []) (by kernel_rfl) trivial) fun x R h => by
    simp only [L_eqField_f, L_eqField, optK_bind, optK_bif, optK_pure, optK_none, optK_oc, optK_guardT, optK_map] at h
    refine hold_of h ?_
    kernel_rfl
def L_eqField_en (k : Nat) : Entry D := entS L_eqField_ar (L_eqField_f k) L_eqField_vr
theorem L_eqField_eo (k : Nat) : EntryOK X 105 (L_eqField_en k) := (L_eqField_ok k).en rfl
def L_eqFieldS_pl : Plan := ⟨[(0, [(0, some 130), (1, some 130)]), (1, [(0, some 130), (1, some 130), (10, none)]), (2, [(4, none)]), (3, [(0, some 130), (1, some 130), (5, none)]), (4, [(0, some 130), (1, some 130), (5, none), (14, none)]), (5, [(0, some 130), (1, some 130), (5, none)]), (6, [(0, some 130), (1, some 130), (5, none), (26, none)]), (7, [(4, none)]), (8, [(4, none)])],
  [(0, []), (1, [(0, some 130), (1, some 130), (5, none)])],
  [(10, ([], [(0, some 130), (1, some 130)])), (14, ([(0, some 130), (1, some 130), (5, none)], [])), (26, ([], [(0, some 130), (1, some 130), (5, none)]))]⟩
def L_eqFieldS_cl (k : Nat) : Calls' D := ⟨[(105, L_eqField_en k)], [], [], [], []⟩
theorem L_eqFieldS_ck (k : Nat) : CallsOK X (L_eqFieldS_cl k) := .cons (L_eqField_eo k) (.nil cod)
def L_eqFieldS_b0_L (x : (List IField) × (List IField) × Int × Unit) (o : Oc (Unit) (Bool)) (Q : Ex → VSt D → Prop) (R : VR D → Prop) : Prop := ocP o (fun v0 => Q .normal (mkSt ⟨[], []⟩ [])) (fun w0 => R (.p (.c (.bool w0))))
def L_eqFieldS_b0_cut (k : Nat) : Cut D := cutS ⟨[(0, .hole), (1, .hole), (5, .hole)], []⟩ [.kl 130, .kl 130, .ki .i64] (fun (x : (List IField) × (List IField) × Int × Unit) => L_eqFieldS_b0 k k x.1 x.2.1 x.2.2.1) L_eqFieldS_b0_L
def L_eqFieldS_b0_cu (k : Nat) : Cuts D := ⟨[], []⟩
theorem L_eqFieldS_b0_ok (k : Nat) : CutFor X L_eqFieldS_pl k Go.Proofs.Tryz.f53.results.toList (L_eqFieldS_b0_cut k) (sub (bodyOf Go.Proofs.Tryz.f53) [1, 1, 0, 1]) :=
  loopCut_s (X := X) (sg := [.kl 130, .kl 130, .ki .i64]) (cu := L_eqFieldS_b0_cu k) (cl := L_eqFieldS_cl k) (tys := [[0]]) (id := 0) (c := sub (bodyOf Go.Proofs.Tryz.f53) [1, 1, 0, 1, 0, 0]) (f := fun n => fun (x : (List IField) × (List IField) × Int × Unit) => L_eqFieldS_b0 k n x.1 x.2.1 x.2.2.1) (L_eqFieldS_ck k) (cutOK_of (l := []) (by kernel_rfl) trivial) (fun _ => rfl) (fun n x Q R h => by
    simp only [L_eqFieldS_b0, optK_bind, optK_bif, optK_pure, optK_none, optK_oc, optK_guardT, optK_map] at h
    refine hold_of h ?_
    kernel_rfl) (by kernel_rfl)
def L_eqFieldS_cu (k : Nat) : Cuts D := ⟨[(0, some (L_eqFieldS_b0_cut k))], []⟩
def L_eqFieldS_ar : List Ar := [.c (.kl 130), .c (.kl 130)]
def L_eqFieldS_f (k : Nat) (x : TupA D L_eqFieldS_ar) : Option (Bool) := L_eqFieldS k x.1 x.2.1
def L_eqFieldS_vr (r : Bool) : VR D := .p (.c (.bool r))
theorem L_eqFieldS_ok (k : Nat) : Does P X 53 L_eqFieldS_ar (L_eqFieldS_f k) L_eqFieldS_vr :=
  does_of (body := bodyOf Go.Proofs.Tryz.f53) (pl := L_eqFieldS_pl) (k := k) (cu := L_eqFieldS_cu k) (tys := [[0]]) (L_eqFieldS_ck k) ctx mixed Go.Proofs.Tryz.func53 (by kernel_rfl) (by kernel_rfl) (cutOK_of (l := [(L_eqFieldS_b0_cut k, sub (bodyOf Go.Proofs.Tryz.f53) [1, 1, 0, 1])]) (by kernel_rfl) ⟨L_eqFieldS_b0_ok k, trivial⟩) fun x R h => by
    simp only [L_eqFieldS_f, L_eqFieldS, optK_bind, optK_bif, optK_pure, optK_none, optK_oc, optK_guardT, optK_map] at h
    refine hold_of h ?_
    kernel_rfl
def L_eqFieldS_en (k : Nat) : Entry D := entS L_eqFieldS_ar (L_eqFieldS_f k) L_eqFieldS_vr
theorem L_eqFieldS_eo (k : Nat) : EntryOK X 53 (L_eqFieldS_en k) := (L_eqFieldS_ok k).en rfl
def L_eqRequest_pl : Plan := ⟨[(0, [(2, none), (3, none)]), (1, [(2, none), (3, none), (9, none)]), (2, [(4, none)]), (3, [(2, none), (3, none), (14, none)]), (4, [(4, none)]), (5, [(2, none), (3, none), (19, none)]), (6, [(4, none)]), (7, [(25, none)]), (8, [(4, none)]), (9, [(4, none)])],
  [],
  [(9, ([], [(2, none), (3, none)])), (14, ([], [(2, none), (3, none)])), (19, ([], [(2, none), (3, none)])), (25, ([], []))]⟩
def L_eqRequest_cl (k : Nat) : Calls' D := ⟨[(53, L_eqFieldS_en k)], [], [], [], []⟩
theorem L_eqRequest_ck (k : Nat) : CallsOK X (L_eqRequest_cl k) := .cons (L_eqFieldS_eo k) (.nil cod)
def L_eqRequest_cu (k : Nat) : Cuts D := ⟨[], []⟩
def L_eqRequest_ar : List Ar := [.a [.ks, .ks, .ks, .kl 130], .a [.ks, .ks, .ks, .kl 130]]
def L_eqRequest_f (k : Nat) (x : TupA D L_eqRequest_ar) : Option (Bool) := L_eqRequest k (⟨x.1.1, x.1.2.1, x.1.2.2.1, x.1.2.2.2.1⟩ : IRequest) (⟨x.2.1.1, x.2.1.2.1, x.2.1.2.2.1, x.2.1.2.2.2.1⟩ : IRequest)
def L_eqRequest_vr (r : Bool) : VR D := .p (.c (.bool r))
theorem L_eqRequest_ok (k : Nat) : Does P X 18 L_eqRequest_ar (L_eqRequest_f k) L_eqRequest_vr :=
  does_of (body := bodyOf Go.Proofs.Tryz.f18) (pl := L_eqRequest_pl) (k := k) (cu := L_eqRequest_cu k) (tys := [[0]]) (L_eqRequest_ck k) ctx mixed Go.Proofs.Tryz.func18 (by kernel_rfl) (by kernel_rfl) (cutOK_of (l := []) (by kernel_rfl) trivial) fun x R h => by
    simp only [L_eqRequest_f, L_eqRequest, optK_bind, optK_bif, optK_pure, optK_none, optK_oc, optK_guardT, optK_map] at h
    refine hold_of h ?_
    kernel_rfl
def L_eqRequest_en (k : Nat) : Entry D := entS L_eqRequest_ar (L_eqRequest_f k) L_eqRequest_vr
theorem L_eqRequest_eo (k : Nat) : EntryOK X 18 (L_eqRequest_en k) := (L_eqRequest_ok k).en rfl
def L_FnExactVariantOf_pl : Plan := ⟨[(0, [(2, none), (3, none)]), (1, [(2, none), (3, none), (5, none)]), (2, [(2, none), (3, none), (5, none)]), (3, [(2, none), (3, none), (5, none), (16, none)]), (4, [(4, none)]), (5, [(2, none), (3, none), (5, none)]), (6, [(2, none), (3, none), (21, none)]), (7, [(4, none)]), (8, [(2, none), (3, none), (6, none), (7, none)]), (9, [(2, none), (3, none), (6, none), (7, none), (8, none)]), (10, [(2, none), (3, none), (6, none), (7, none), (8, none), (9, none)]), (11, [(2, none), (3, none), (6, none), (7, none), (8, none), (9, none), (10, none), (11, none)]), (12, [(2, none), (3, none), (8, none), (9, none), (47, none)]), (13, [(4, none)]), (14, [(3, none), (9, none), (52, none)]), (15, [(4, none)]), (16, [(57, none)]), (17, [(4, none)]), (18, [(4, none)])],
  [],
  [(16, ([], [(2, none), (3, none), (5, none)])), (21, ([], [(2, none), (3, none)])), (47, ([], [(2, none), (3, none), (8, none), (9, none)])), (52, ([], [(3, none), (9, none)])), (57, ([], []))]⟩
def L_FnExactVariantOf_cl (k : Nat) : Calls' D := ⟨[(11, L_szResource_en k), (12, L_szRequest_en k), (14, L_toResource_en k), (15, L_toRequest_en k), (13, S_VariantOf_en k), (16, I_VariantOf_en k), (17, L_eqResource_en k), (18, L_eqRequest_en k)], [], [], [], []⟩
theorem L_FnExactVariantOf_ck (k : Nat) : CallsOK X (L_FnExactVariantOf_cl k) := .cons (L_szResource_eo k) (.cons (L_szRequest_eo k) (.cons (L_toResource_eo k) (.cons (L_toRequest_eo k) (.cons (S_VariantOf_eo k) (.cons (I_VariantOf_eo k) (.cons (L_eqResource_eo k) (.cons (L_eqRequest_eo k) (.nil cod))))))))
def L_FnExactVariantOf_cu (k : Nat) : Cuts D := ⟨[], []⟩
def L_FnExactVariantOf_ar : List Ar := [.a [.ks, .ks, .ks, .kb, .kl 9, .kl 117], .a [.ks, .ks, .ks, .kl 120]]
def L_FnExactVariantOf_f (k : Nat) (x : TupA D L_FnExactVariantOf_ar) : Option (Bool) := L_FnExactVariantOf k (⟨x.1.1, x.1.2.1, x.1.2.2.1, x.1.2.2.2.1, x.1.2.2.2.2.1, x.1.2.2.2.2.2.1⟩ : LResource) (⟨x.2.1.1, x.2.1.2.1, x.2.1.2.2.1, x.2.1.2.2.2.1⟩ : LRequest)
def L_FnExactVariantOf_vr (r : Bool) : VR D := .p (.c (.bool r))
theorem L_FnExactVariantOf_ok (k : Nat) : Does P X 3 L_FnExactVariantOf_ar (L_FnExactVariantOf_f k) L_FnExactVariantOf_vr :=
  does_of (body := bodyOf Go.Proofs.Tryz.f3) (pl := L_FnExactVariantOf_pl) (k := k) (cu := L_FnExactVariantOf_cu k) (tys := [[0]]) (L_FnExactVariantOf_ck k) ctx mixed Go.Proofs.Tryz.func3 (by kernel_rfl) (by kernel_rfl) (cutOK_of (l := []) (by kernel_rfl) trivial) fun x R h => by
    simp only [L_FnExactVariantOf_f, L_FnExactVariantOf, optK_bind, optK_bif, optK_pure, optK_none, optK_oc, optK_guardT, optK_map] at h
    refine hold_of h ?_
    kernel_rfl
def L_FnExactVariantOf_en (k : Nat) : Entry D := entS L_FnExactVariantOf_ar (L_FnExactVariantOf_f k) L_FnExactVariantOf_vr
theorem L_FnExactVariantOf_eo (k : Nat) : EntryOK X 3 (L_FnExactVariantOf_en k) := (L_FnExactVariantOf_ok k).en rfl

end
end Go.YtbfkbplolhniiaaGreatDoor
