/- The machine computes the functions. Nothing is claimed here. -/
import Derived.Test.YtdninebapdohkabDoorKf
import Derived.Test.YtdninebapdohkabDoorShelf
set_option linter.unusedVariables false
set_option linter.unusedSimpArgs false
set_option maxRecDepth 100000
namespace Go.YtdninebapdohkabDoor
open Go Go.RowKit Go.Pv
noncomputable section

def L_szField_pl : Plan := ⟨[(0, [(1, none), (2, none)]), (1, [(1, none), (2, none)]), (2, [(1, none), (2, none), (11, none)]), (3, [(4, none)]), (4, [(1, none)]), (5, [(1, none), (18, none)]), (6, [(4, none)]), (7, [(4, none)])],
  [],
  [(11, ([], [(1, none), (2, none)])), (18, ([], [(1, none)]))]⟩
def L_szField_cl (k : Nat) : Calls' D := ⟨[], []⟩
theorem L_szField_ck (k : Nat) : CallsOK X (L_szField_cl k) := .nil cod
def L_szField_cu (k : Nat) : Cuts D := ⟨[], []⟩
def L_szField_ar : List Ar := [.a [.ks, .ks], .c (.ki .i64)]
def L_szField_f (k : Nat) (x : TupA D L_szField_ar) : Option (Int) := L_szField k (⟨x.1.1, x.1.2.1⟩ : LField) x.2.1
def L_szField_vr (r : Int) : VR D := .p (.c (.int .i64 r))
theorem L_szField_ok (k : Nat) : Does P X 77 L_szField_ar (L_szField_f k) L_szField_vr :=
  does_of (body := bodyOf Go.Proofs.Tryd.f77) (pl := L_szField_pl) (k := k) (cu := L_szField_cu k) (tys := [[0]]) (L_szField_ck k) ctx mixed Go.Proofs.Tryd.func77 (by kernel_rfl) (by kernel_rfl) (cutOK_of (l := []) (by kernel_rfl) trivial) fun x R h => by
    simp only [L_szField_f, L_szField, optK_bind, optK_bif, optK_pure, optK_none, optK_oc, optK_guardT, optK_map] at h
    refine hold_of h ?_
    kernel_rfl
def L_szField_en (k : Nat) : Entry D := entS L_szField_ar (L_szField_f k) L_szField_vr
theorem L_szField_eo (k : Nat) : EntryOK X 77 (L_szField_en k) := (L_szField_ok k).en rfl
def L_szFieldS_pl : Plan := ⟨[(0, [(0, some 93), (1, none)]), (1, [(0, some 93), (1, none)]), (2, [(0, some 93), (1, none), (11, none)]), (3, [(4, none)]), (4, [(0, some 93), (1, none), (5, none)]), (5, [(0, some 93), (1, none), (5, none), (15, none)]), (6, [(0, some 93), (1, none), (5, none)]), (7, [(0, some 93), (1, none), (5, none)]), (8, [(0, some 93), (1, none), (5, none), (25, none)]), (9, [(4, none)]), (10, [(4, none)])],
  [(0, [(1, none)]), (1, [(0, some 93), (1, none), (5, none)])],
  [(11, ([], [(0, some 93), (1, none)])), (15, ([(0, some 93), (1, none), (5, none)], [(1, none)])), (25, ([], [(0, some 93), (1, none), (5, none)]))]⟩
def L_szFieldS_cl (k : Nat) : Calls' D := ⟨[(77, L_szField_en k)], []⟩
theorem L_szFieldS_ck (k : Nat) : CallsOK X (L_szFieldS_cl k) := .cons (L_szField_eo k) (.nil cod)
def L_szFieldS_b0_L (x : (List LField) × Int × Int × Unit) (o : Oc (Int) (Int)) (Q : Ex → VSt D → Prop) (R : VR D → Prop) : Prop := ocP o (fun v0 => Q .normal (mkSt ⟨[(1, .hole)], []⟩ [.int .i64 v0])) (fun w0 => R (.p (.c (.int .i64 w0))))
def L_szFieldS_b0_cut (k : Nat) : Cut D := cutS ⟨[(0, .hole), (1, .hole), (5, .hole)], []⟩ [.kl 93, .ki .i64, .ki .i64] (fun (x : (List LField) × Int × Int × Unit) => L_szFieldS_b0 k k x.1 x.2.1 x.2.2.1) L_szFieldS_b0_L
def L_szFieldS_b0_cu (k : Nat) : Cuts D := ⟨[], []⟩
theorem L_szFieldS_b0_ok (k : Nat) : CutFor X L_szFieldS_pl k Go.Proofs.Tryd.f25.results.toList (L_szFieldS_b0_cut k) (sub (bodyOf Go.Proofs.Tryd.f25) [1, 1, 1, 0, 1]) :=
  loopCut_s (X := X) (sg := [.kl 93, .ki .i64, .ki .i64]) (cu := L_szFieldS_b0_cu k) (cl := L_szFieldS_cl k) (tys := [[0]]) (id := 0) (c := sub (bodyOf Go.Proofs.Tryd.f25) [1, 1, 1, 0, 1, 0, 0]) (f := fun n => fun (x : (List LField) × Int × Int × Unit) => L_szFieldS_b0 k n x.1 x.2.1 x.2.2.1) (L_szFieldS_ck k) (cutOK_of (l := []) (by kernel_rfl) trivial) (fun _ => rfl) (fun n x Q R h => by
    simp only [L_szFieldS_b0, optK_bind, optK_bif, optK_pure, optK_none, optK_oc, optK_guardT, optK_map] at h
    refine hold_of h ?_
    kernel_rfl) (by kernel_rfl)
def L_szFieldS_cu (k : Nat) : Cuts D := ⟨[(0, some (L_szFieldS_b0_cut k))], []⟩
def L_szFieldS_ar : List Ar := [.c (.kl 93), .c (.ki .i64)]
def L_szFieldS_f (k : Nat) (x : TupA D L_szFieldS_ar) : Option (Int) := L_szFieldS k x.1 x.2.1
def L_szFieldS_vr (r : Int) : VR D := .p (.c (.int .i64 r))
theorem L_szFieldS_ok (k : Nat) : Does P X 25 L_szFieldS_ar (L_szFieldS_f k) L_szFieldS_vr :=
  does_of (body := bodyOf Go.Proofs.Tryd.f25) (pl := L_szFieldS_pl) (k := k) (cu := L_szFieldS_cu k) (tys := [[0]]) (L_szFieldS_ck k) ctx mixed Go.Proofs.Tryd.func25 (by kernel_rfl) (by kernel_rfl) (cutOK_of (l := [(L_szFieldS_b0_cut k, sub (bodyOf Go.Proofs.Tryd.f25) [1, 1, 1, 0, 1])]) (by kernel_rfl) ⟨L_szFieldS_b0_ok k, trivial⟩) fun x R h => by
    simp only [L_szFieldS_f, L_szFieldS, optK_bind, optK_bif, optK_pure, optK_none, optK_oc, optK_guardT, optK_map] at h
    refine hold_of h ?_
    kernel_rfl
def L_szFieldS_en (k : Nat) : Entry D := entS L_szFieldS_ar (L_szFieldS_f k) L_szFieldS_vr
theorem L_szFieldS_eo (k : Nat) : EntryOK X 25 (L_szFieldS_en k) := (L_szFieldS_ok k).en rfl
def L_szResponse_pl : Plan := ⟨[(0, [(1, none), (2, none)]), (1, [(1, none), (2, none)]), (2, [(1, none), (2, none), (10, none)]), (3, [(4, none)]), (4, [(1, none)]), (5, [(1, none), (17, none)]), (6, [(4, none)]), (7, [(4, none)])],
  [],
  [(10, ([], [(1, none), (2, none)])), (17, ([], [(1, none)]))]⟩
def L_szResponse_cl (k : Nat) : Calls' D := ⟨[(25, L_szFieldS_en k)], []⟩
theorem L_szResponse_ck (k : Nat) : CallsOK X (L_szResponse_cl k) := .cons (L_szFieldS_eo k) (.nil cod)
def L_szResponse_cu (k : Nat) : Cuts D := ⟨[], []⟩
def L_szResponse_ar : List Ar := [.a [.ki .i64, .kl 93, .ks], .c (.ki .i64)]
def L_szResponse_f (k : Nat) (x : TupA D L_szResponse_ar) : Option (Int) := L_szResponse k (⟨x.1.1, x.1.2.1, x.1.2.2.1⟩ : LResponse) x.2.1
def L_szResponse_vr (r : Int) : VR D := .p (.c (.int .i64 r))
theorem L_szResponse_ok (k : Nat) : Does P X 15 L_szResponse_ar (L_szResponse_f k) L_szResponse_vr :=
  does_of (body := bodyOf Go.Proofs.Tryd.f15) (pl := L_szResponse_pl) (k := k) (cu := L_szResponse_cu k) (tys := [[0]]) (L_szResponse_ck k) ctx mixed Go.Proofs.Tryd.func15 (by kernel_rfl) (by kernel_rfl) (cutOK_of (l := []) (by kernel_rfl) trivial) fun x R h => by
    simp only [L_szResponse_f, L_szResponse, optK_bind, optK_bif, optK_pure, optK_none, optK_oc, optK_guardT, optK_map] at h
    refine hold_of h ?_
    kernel_rfl
def L_szResponse_en (k : Nat) : Entry D := entS L_szResponse_ar (L_szResponse_f k) L_szResponse_vr
theorem L_szResponse_eo (k : Nat) : EntryOK X 15 (L_szResponse_en k) := (L_szResponse_ok k).en rfl
def L_toField_pl : Plan := ⟨[(0, [(1, none), (2, none)]), (1, [(1, none), (2, none), (3, none)]), (2, [(1, none), (2, none), (3, none)]), (3, [(2, none), (3, none)]), (4, [(2, none)])],
  [],
  []⟩
def L_toField_cl (k : Nat) : Calls' D := ⟨[], []⟩
theorem L_toField_ck (k : Nat) : CallsOK X (L_toField_cl k) := .nil cod
def L_toField_cu (k : Nat) : Cuts D := ⟨[], []⟩
def L_toField_ar : List Ar := [.a [.ks, .ks]]
def L_toField_f (k : Nat) (x : TupA D L_toField_ar) : Option (IField) := L_toField k (⟨x.1.1, x.1.2.1⟩ : LField)
def L_toField_vr (r : IField) : VR D := .p (.agg [.str r.Name, .str r.Value])
theorem L_toField_ok (k : Nat) : Does P X 81 L_toField_ar (L_toField_f k) L_toField_vr :=
  does_of (body := bodyOf Go.Proofs.Tryd.f81) (pl := L_toField_pl) (k := k) (cu := L_toField_cu k) (tys := [[0, 0]]) (L_toField_ck k) ctx mixed Go.Proofs.Tryd.func81 (by kernel_rfl) (by kernel_rfl) (cutOK_of (l := []) (by kernel_rfl) trivial) fun x R h => by
    simp only [L_toField_f, L_toField, optK_bind, optK_bif, optK_pure, optK_none, optK_oc, optK_guardT, optK_map] at h
    refine hold_of h ?_
    kernel_rfl
def L_toField_en (k : Nat) : Entry D := entS L_toField_ar (L_toField_f k) L_toField_vr
theorem L_toField_eo (k : Nat) : EntryOK X 81 (L_toField_en k) := (L_toField_ok k).en rfl
def L_toFieldS_pl : Plan := ⟨[(0, [(0, some 93)]), (1, [(0, some 93), (3, some 84)]), (2, [(0, some 93), (3, some 84), (4, none)]), (3, [(0, some 93), (3, some 84), (4, none), (11, none)]), (4, [(0, some 93), (3, some 84), (4, none)]), (5, [(0, some 93), (3, some 84), (4, none)]), (6, [(2, some 84)])],
  [(0, [(3, some 84)]), (1, [(0, some 93), (3, some 84), (4, none)])],
  [(11, ([(0, some 93), (3, some 84), (4, none)], [(3, some 84)]))]⟩
def L_toFieldS_cl (k : Nat) : Calls' D := ⟨[(81, L_toField_en k)], []⟩
theorem L_toFieldS_ck (k : Nat) : CallsOK X (L_toFieldS_cl k) := .cons (L_toField_eo k) (.nil cod)
def L_toFieldS_b0_L (x : (List LField) × Int × (List IField) × Unit) (o : (List IField)) (Q : Ex → VSt D → Prop) (R : VR D → Prop) : Prop := Q .normal (mkSt ⟨[(3, .ref 500003)], [(500003, .row)]⟩ [.sl 84 o])
def L_toFieldS_b0_cut (k : Nat) : Cut D := cutS ⟨[(0, .hole), (3, .ref 500003), (4, .hole)], [(500003, .row)]⟩ [.kl 93, .ki .i64, .kl 84] (fun (x : (List LField) × Int × (List IField) × Unit) => L_toFieldS_b0 k k x.1 x.2.1 x.2.2.1) L_toFieldS_b0_L
def L_toFieldS_b0_cu (k : Nat) : Cuts D := ⟨[], []⟩
theorem L_toFieldS_b0_ok (k : Nat) : CutFor X L_toFieldS_pl k Go.Proofs.Tryd.f28.results.toList (L_toFieldS_b0_cut k) (sub (bodyOf Go.Proofs.Tryd.f28) [1, 1, 0, 1]) :=
  loopCut_s (X := X) (sg := [.kl 93, .ki .i64, .kl 84]) (cu := L_toFieldS_b0_cu k) (cl := L_toFieldS_cl k) (tys := [[84]]) (id := 0) (c := sub (bodyOf Go.Proofs.Tryd.f28) [1, 1, 0, 1, 0, 0]) (f := fun n => fun (x : (List LField) × Int × (List IField) × Unit) => L_toFieldS_b0 k n x.1 x.2.1 x.2.2.1) (L_toFieldS_ck k) (cutOK_of (l := []) (by kernel_rfl) trivial) (fun _ => rfl) (fun n x Q R h => by
    simp only [L_toFieldS_b0, optK_bind, optK_bif, optK_pure, optK_none, optK_oc, optK_guardT, optK_map] at h
    refine hold_of h ?_
    kernel_rfl) (by kernel_rfl)
def L_toFieldS_cu (k : Nat) : Cuts D := ⟨[(0, some (L_toFieldS_b0_cut k))], []⟩
def L_toFieldS_ar : List Ar := [.c (.kl 93)]
def L_toFieldS_f (k : Nat) (x : TupA D L_toFieldS_ar) : Option ((List IField)) := L_toFieldS k x.1
def L_toFieldS_vr (r : (List IField)) : VR D := .p (.c (.sl 84 r))
theorem L_toFieldS_ok (k : Nat) : Does P X 28 L_toFieldS_ar (L_toFieldS_f k) L_toFieldS_vr :=
  does_of (body := bodyOf Go.Proofs.Tryd.f28) (pl := L_toFieldS_pl) (k := k) (cu := L_toFieldS_cu k) (tys := [[84]]) (L_toFieldS_ck k) ctx mixed Go.Proofs.Tryd.func28 (by kernel_rfl) (by kernel_rfl) (cutOK_of (l := [(L_toFieldS_b0_cut k, sub (bodyOf Go.Proofs.Tryd.f28) [1, 1, 0, 1])]) (by kernel_rfl) ⟨L_toFieldS_b0_ok k, trivial⟩) fun x R h => by
    simp only [L_toFieldS_f, L_toFieldS, optK_bind, optK_bif, optK_pure, optK_none, optK_oc, optK_guardT, optK_map] at h
    refine hold_of h ?_
    kernel_rfl
def L_toFieldS_en (k : Nat) : Entry D := entS L_toFieldS_ar (L_toFieldS_f k) L_toFieldS_vr
theorem L_toFieldS_eo (k : Nat) : EntryOK X 28 (L_toFieldS_en k) := (L_toFieldS_ok k).en rfl
def L_toResponse_pl : Plan := ⟨[(0, [(1, none), (2, none)]), (1, [(1, none), (2, none), (3, none)]), (2, [(1, none), (2, none), (3, none)]), (3, [(1, none), (2, none), (3, none)]), (4, [(2, none), (3, none)]), (5, [(2, none)])],
  [],
  []⟩
def L_toResponse_cl (k : Nat) : Calls' D := ⟨[(28, L_toFieldS_en k)], []⟩
theorem L_toResponse_ck (k : Nat) : CallsOK X (L_toResponse_cl k) := .cons (L_toFieldS_eo k) (.nil cod)
def L_toResponse_cu (k : Nat) : Cuts D := ⟨[], []⟩
def L_toResponse_ar : List Ar := [.a [.ki .i64, .kl 93, .ks]]
def L_toResponse_f (k : Nat) (x : TupA D L_toResponse_ar) : Option (IResponse) := L_toResponse k (⟨x.1.1, x.1.2.1, x.1.2.2.1⟩ : LResponse)
def L_toResponse_vr (r : IResponse) : VR D := .p (.agg [.int .i64 r.Code, .sl 84 r.Fields, .str r.Body])
theorem L_toResponse_ok (k : Nat) : Does P X 17 L_toResponse_ar (L_toResponse_f k) L_toResponse_vr :=
  does_of (body := bodyOf Go.Proofs.Tryd.f17) (pl := L_toResponse_pl) (k := k) (cu := L_toResponse_cu k) (tys := [[0, 84, 0]]) (L_toResponse_ck k) ctx mixed Go.Proofs.Tryd.func17 (by kernel_rfl) (by kernel_rfl) (cutOK_of (l := []) (by kernel_rfl) trivial) fun x R h => by
    simp only [L_toResponse_f, L_toResponse, optK_bind, optK_bif, optK_pure, optK_none, optK_oc, optK_guardT, optK_map] at h
    refine hold_of h ?_
    kernel_rfl
def L_toResponse_en (k : Nat) : Entry D := entS L_toResponse_ar (L_toResponse_f k) L_toResponse_vr
theorem L_toResponse_eo (k : Nat) : EntryOK X 17 (L_toResponse_en k) := (L_toResponse_ok k).en rfl
def S_l5Copy_pl : Plan := ⟨[(0, [(0, some 84)]), (1, [(2, some 84)])],
  [],
  []⟩
def S_l5Copy_cl (k : Nat) : Calls' D := ⟨[], []⟩
theorem S_l5Copy_ck (k : Nat) : CallsOK X (S_l5Copy_cl k) := .nil cod
def S_l5Copy_cu (k : Nat) : Cuts D := ⟨[], []⟩
def S_l5Copy_ar : List Ar := [.c (.kl 84)]
def S_l5Copy_f (k : Nat) (x : TupA D S_l5Copy_ar) : Option ((List IField)) := S_l5Copy k x.1
def S_l5Copy_vr (r : (List IField)) : VR D := .p (.c (.sl 84 r))
theorem S_l5Copy_ok (k : Nat) : Does P X 112 S_l5Copy_ar (S_l5Copy_f k) S_l5Copy_vr :=
  does_of (body := bodyOf Go.Proofs.Tryd.f112) (pl := S_l5Copy_pl) (k := k) (cu := S_l5Copy_cu k) (tys := [[84]]) (S_l5Copy_ck k) ctx mixed Go.Proofs.Tryd.func112 (by kernel_rfl) (by kernel_rfl) (cutOK_of (l := []) (by kernel_rfl) trivial) fun x R h => by
    simp only [S_l5Copy_f, S_l5Copy, optK_bind, optK_bif, optK_pure, optK_none, optK_oc, optK_guardT, optK_map] at h
    refine hold_of h ?_
    kernel_rfl
def S_l5Copy_en (k : Nat) : Entry D := entS S_l5Copy_ar (S_l5Copy_f k) S_l5Copy_vr
theorem S_l5Copy_eo (k : Nat) : EntryOK X 112 (S_l5Copy_en k) := (S_l5Copy_ok k).en rfl
def S_l11Copy_pl : Plan := ⟨[(0, [(1, none), (2, none)]), (1, [(1, none), (2, none)]), (2, [(2, none)])],
  [],
  []⟩
def S_l11Copy_cl (k : Nat) : Calls' D := ⟨[(112, S_l5Copy_en k)], []⟩
theorem S_l11Copy_ck (k : Nat) : CallsOK X (S_l11Copy_cl k) := .cons (S_l5Copy_eo k) (.nil cod)
def S_l11Copy_cu (k : Nat) : Cuts D := ⟨[], []⟩
def S_l11Copy_ar : List Ar := [.a [.ki .i64, .kl 84, .ks]]
def S_l11Copy_f (k : Nat) (x : TupA D S_l11Copy_ar) : Option (IResponse) := S_l11Copy k (⟨x.1.1, x.1.2.1, x.1.2.2.1⟩ : IResponse)
def S_l11Copy_vr (r : IResponse) : VR D := .p (.agg [.int .i64 r.Code, .sl 84 r.Fields, .str r.Body])
theorem S_l11Copy_ok (k : Nat) : Does P X 65 S_l11Copy_ar (S_l11Copy_f k) S_l11Copy_vr :=
  does_of (body := bodyOf Go.Proofs.Tryd.f65) (pl := S_l11Copy_pl) (k := k) (cu := S_l11Copy_cu k) (tys := [[0, 84, 0]]) (S_l11Copy_ck k) ctx mixed Go.Proofs.Tryd.func65 (by kernel_rfl) (by kernel_rfl) (cutOK_of (l := []) (by kernel_rfl) trivial) fun x R h => by
    simp only [S_l11Copy_f, S_l11Copy, optK_bind, optK_bif, optK_pure, optK_none, optK_oc, optK_guardT, optK_map] at h
    refine hold_of h ?_
    kernel_rfl
def S_l11Copy_en (k : Nat) : Entry D := entS S_l11Copy_ar (S_l11Copy_f k) S_l11Copy_vr
theorem S_l11Copy_eo (k : Nat) : EntryOK X 65 (S_l11Copy_en k) := (S_l11Copy_ok k).en rfl
def S_Min_pl : Plan := ⟨[(0, [(0, none), (1, none)]), (1, [(0, none), (1, none), (7, none)]), (2, [(4, none)]), (3, [(4, none)])],
  [],
  [(7, ([(1, none)], [(0, none)]))]⟩
def S_Min_cl (k : Nat) : Calls' D := ⟨[], []⟩
theorem S_Min_ck (k : Nat) : CallsOK X (S_Min_cl k) := .nil cod
def S_Min_cu (k : Nat) : Cuts D := ⟨[], []⟩
def S_Min_ar : List Ar := [.c (.ki .i64), .c (.ki .i64)]
def S_Min_f (k : Nat) (x : TupA D S_Min_ar) : Option (Int) := S_Min k x.1 x.2.1
def S_Min_vr (r : Int) : VR D := .p (.c (.int .i64 r))
theorem S_Min_ok (k : Nat) : Does P X 69 S_Min_ar (S_Min_f k) S_Min_vr :=
  does_of (body := bodyOf Go.Proofs.Tryd.f69) (pl := S_Min_pl) (k := k) (cu := S_Min_cu k) (tys := [[0]]) (S_Min_ck k) ctx mixed Go.Proofs.Tryd.func69 (by kernel_rfl) (by kernel_rfl) (cutOK_of (l := []) (by kernel_rfl) trivial) fun x R h => by
    simp only [S_Min_f, S_Min, optK_bind, optK_bif, optK_pure, optK_none, optK_oc, optK_guardT, optK_map] at h
    refine hold_of h ?_
    kernel_rfl
def S_Min_en (k : Nat) : Entry D := entS S_Min_ar (S_Min_f k) S_Min_vr
theorem S_Min_eo (k : Nat) : EntryOK X 69 (S_Min_en k) := (S_Min_ok k).en rfl
def S_Max_pl : Plan := ⟨[(0, [(0, none), (1, none)]), (1, [(0, none), (1, none), (7, none)]), (2, [(4, none)]), (3, [(4, none)])],
  [],
  [(7, ([(1, none)], [(0, none)]))]⟩
def S_Max_cl (k : Nat) : Calls' D := ⟨[], []⟩
theorem S_Max_ck (k : Nat) : CallsOK X (S_Max_cl k) := .nil cod
def S_Max_cu (k : Nat) : Cuts D := ⟨[], []⟩
def S_Max_ar : List Ar := [.c (.ki .i64), .c (.ki .i64)]
def S_Max_f (k : Nat) (x : TupA D S_Max_ar) : Option (Int) := S_Max k x.1 x.2.1
def S_Max_vr (r : Int) : VR D := .p (.c (.int .i64 r))
theorem S_Max_ok (k : Nat) : Does P X 68 S_Max_ar (S_Max_f k) S_Max_vr :=
  does_of (body := bodyOf Go.Proofs.Tryd.f68) (pl := S_Max_pl) (k := k) (cu := S_Max_cu k) (tys := [[0]]) (S_Max_ck k) ctx mixed Go.Proofs.Tryd.func68 (by kernel_rfl) (by kernel_rfl) (cutOK_of (l := []) (by kernel_rfl) trivial) fun x R h => by
    simp only [S_Max_f, S_Max, optK_bind, optK_bif, optK_pure, optK_none, optK_oc, optK_guardT, optK_map] at h
    refine hold_of h ?_
    kernel_rfl
def S_Max_en (k : Nat) : Entry D := entS S_Max_ar (S_Max_f k) S_Max_vr
theorem S_Max_eo (k : Nat) : EntryOK X 68 (S_Max_en k) := (S_Max_ok k).en rfl
def S_FormatInt_pl : Plan := ⟨[(0, [(0, none)]), (1, [(0, none), (7, none)]), (2, [(2, none)]), (3, [(0, none), (3, none)]), (4, [(0, none), (3, none), (4, none)]), (5, [(0, none), (3, none), (4, none), (10, none)]), (6, [(0, none), (3, none), (4, none)]), (7, [(0, none), (3, none), (4, none), (5, none)]), (8, [(0, none), (3, none), (4, none), (5, none), (16, none)]), (9, [(0, none), (3, none), (4, none), (5, none)]), (10, [(0, none), (3, none), (4, none)]), (11, [(3, none), (27, none)]), (12, [(2, none)]), (13, [(2, none)])],
  [(0, [(0, none), (3, none)]), (1, [(0, none), (3, none), (4, none)])],
  [(7, ([], [(0, none)])), (10, ([(0, none), (3, none), (4, none)], [(0, none), (3, none)])), (16, ([(0, none), (3, none), (4, none), (5, none)], [(0, none), (3, none), (4, none), (5, none)])), (27, ([(3, none)], [(3, none)]))]⟩
def S_FormatInt_cl (k : Nat) : Calls' D := ⟨[], []⟩
theorem S_FormatInt_ck (k : Nat) : CallsOK X (S_FormatInt_cl k) := .nil cod
def S_FormatInt_c16_L (x : Int × (List UInt8) × Int × Int × Bool × Unit) (o : Int) (Q : Ex → VSt D → Prop) (R : VR D → Prop) : Prop := Q .normal (mkSt ⟨[(0, .hole), (3, .hole), (4, .hole), (5, .hole)], []⟩ [.int .i64 x.1, .str x.2.1, .int .i64 x.2.2.1, .int .i64 o])
def S_FormatInt_c16_cut (k : Nat) : Cut D := cutS ⟨[(0, .hole), (3, .hole), (4, .hole), (5, .hole), (16, .hole)], []⟩ [.ki .i64, .ks, .ki .i64, .ki .i64, .kb] (fun (x : Int × (List UInt8) × Int × Int × Bool × Unit) => S_FormatInt_c16 k x.1 x.2.1 x.2.2.1 x.2.2.2.1 x.2.2.2.2.1) S_FormatInt_c16_L
def S_FormatInt_c16_cu (k : Nat) : Cuts D := ⟨[], []⟩
theorem S_FormatInt_c16_ok (k : Nat) : CutFor X S_FormatInt_pl k Go.Proofs.Tryd.f67.results.toList (S_FormatInt_c16_cut k) (sub (bodyOf Go.Proofs.Tryd.f67) [1, 1, 1, 0, 1, 0, 0, 1, 0, 0, 1, 0, 1]) :=
  joinCut_s (X := X) (sg := [.ki .i64, .ks, .ki .i64, .ki .i64, .kb]) (cu := S_FormatInt_c16_cu k) (cl := S_FormatInt_cl k) (tys := [[0]]) (S_FormatInt_ck k) (cutOK_of (l := []) (by kernel_rfl) trivial) fun x Q R h => by
    simp only [S_FormatInt_c16, optK_bind, optK_bif, optK_pure, optK_none, optK_oc, optK_guardT, optK_map] at h
    refine hold_of h ?_
    kernel_rfl
def S_FormatInt_b1_L (x : Int × (List UInt8) × Int × Unit) (o : (List UInt8)) (Q : Ex → VSt D → Prop) (R : VR D → Prop) : Prop := Q .normal (mkSt ⟨[(0, .hole), (3, .hole), (4, .hole)], []⟩ [.int .i64 x.1, .str o, .int .i64 x.2.2.1])
def S_FormatInt_b1_cut (k : Nat) : Cut D := cutS ⟨[(0, .hole), (3, .hole), (4, .hole)], []⟩ [.ki .i64, .ks, .ki .i64] (fun (x : Int × (List UInt8) × Int × Unit) => S_FormatInt_b1 k x.1 x.2.1 x.2.2.1) S_FormatInt_b1_L
def S_FormatInt_b1_cu (k : Nat) : Cuts D := ⟨[], [(16, some (S_FormatInt_c16_cut k))]⟩
theorem S_FormatInt_b1_ok (k : Nat) : CutFor X S_FormatInt_pl k Go.Proofs.Tryd.f67.results.toList (S_FormatInt_b1_cut k) (sub (bodyOf Go.Proofs.Tryd.f67) [1, 1, 1, 0, 1, 0, 0, 1, 0]) :=
  joinCut_s (X := X) (sg := [.ki .i64, .ks, .ki .i64]) (cu := S_FormatInt_b1_cu k) (cl := S_FormatInt_cl k) (tys := [[0]]) (S_FormatInt_ck k) (cutOK_of (l := [(S_FormatInt_c16_cut k, sub (bodyOf Go.Proofs.Tryd.f67) [1, 1, 1, 0, 1, 0, 0, 1, 0, 0, 1, 0, 1])]) (by kernel_rfl) ⟨S_FormatInt_c16_ok k, trivial⟩) fun x Q R h => by
    simp only [S_FormatInt_b1, optK_bind, optK_bif, optK_pure, optK_none, optK_oc, optK_guardT, optK_map] at h
    refine hold_of h ?_
    kernel_rfl
def S_FormatInt_b0_L (x : Int × (List UInt8) × Int × Unit) (o : (List UInt8)) (Q : Ex → VSt D → Prop) (R : VR D → Prop) : Prop := Q .normal (mkSt ⟨[(0, .hole), (3, .hole)], []⟩ [.int .i64 x.1, .str o])
def S_FormatInt_b0_cut (k : Nat) : Cut D := cutS ⟨[(0, .hole), (3, .hole), (4, .hole)], []⟩ [.ki .i64, .ks, .ki .i64] (fun (x : Int × (List UInt8) × Int × Unit) => S_FormatInt_b0 k k x.1 x.2.1 x.2.2.1) S_FormatInt_b0_L
def S_FormatInt_b0_cu (k : Nat) : Cuts D := ⟨[(1, some (S_FormatInt_b1_cut k))], []⟩
theorem S_FormatInt_b0_ok (k : Nat) : CutFor X S_FormatInt_pl k Go.Proofs.Tryd.f67.results.toList (S_FormatInt_b0_cut k) (sub (bodyOf Go.Proofs.Tryd.f67) [1, 1, 1, 0, 1]) :=
  loopCut_s (X := X) (sg := [.ki .i64, .ks, .ki .i64]) (cu := S_FormatInt_b0_cu k) (cl := S_FormatInt_cl k) (tys := [[0]]) (id := 0) (c := sub (bodyOf Go.Proofs.Tryd.f67) [1, 1, 1, 0, 1, 0, 0]) (f := fun n => fun (x : Int × (List UInt8) × Int × Unit) => S_FormatInt_b0 k n x.1 x.2.1 x.2.2.1) (S_FormatInt_ck k) (cutOK_of (l := [(S_FormatInt_b1_cut k, sub (bodyOf Go.Proofs.Tryd.f67) [1, 1, 1, 0, 1, 0, 0, 1, 0])]) (by kernel_rfl) ⟨S_FormatInt_b1_ok k, trivial⟩) (fun _ => rfl) (fun n x Q R h => by
    simp only [S_FormatInt_b0, optK_bind, optK_bif, optK_pure, optK_none, optK_oc, optK_guardT, optK_map] at h
    refine hold_of h ?_
    kernel_rfl) (by kernel_rfl)
def S_FormatInt_cu (k : Nat) : Cuts D := ⟨[(0, some (S_FormatInt_b0_cut k))], []⟩
def S_FormatInt_ar : List Ar := [.c (.ki .i64)]
def S_FormatInt_f (k : Nat) (x : TupA D S_FormatInt_ar) : Option ((List UInt8)) := S_FormatInt k x.1
def S_FormatInt_vr (r : (List UInt8)) : VR D := .p (.c (.str r))
theorem S_FormatInt_ok (k : Nat) : Does P X 67 S_FormatInt_ar (S_FormatInt_f k) S_FormatInt_vr :=
  does_of (body := bodyOf Go.Proofs.Tryd.f67) (pl := S_FormatInt_pl) (k := k) (cu := S_FormatInt_cu k) (tys := [[0]]) (S_FormatInt_ck k) ctx mixed Go.Proofs.Tryd.func67 (by kernel_rfl) (by kernel_rfl) (cutOK_of (l := [(S_FormatInt_b0_cut k, sub (bodyOf Go.Proofs.Tryd.f67) [1, 1, 1, 0, 1])]) (by kernel_rfl) ⟨S_FormatInt_b0_ok k, trivial⟩) fun x R h => by
    simp only [S_FormatInt_f, S_FormatInt, optK_bind, optK_bif, optK_pure, optK_none, optK_oc, optK_guardT, optK_map] at h
    refine hold_of h ?_
    kernel_rfl
def S_FormatInt_en (k : Nat) : Entry D := entS S_FormatInt_ar (S_FormatInt_f k) S_FormatInt_vr
theorem S_FormatInt_eo (k : Nat) : EntryOK X 67 (S_FormatInt_en k) := (S_FormatInt_ok k).en rfl
def S_SetField_pl : Plan := ⟨[(0, [(0, some 84), (1, none), (2, none)]), (1, [(0, some 84), (1, none), (2, none), (7, some 84)]), (2, [(0, some 84), (1, none), (2, none), (7, some 84), (8, none)]), (3, [(0, some 84), (1, none), (2, none), (7, some 84), (8, none), (9, none)]), (4, [(0, some 84), (1, none), (2, none), (7, some 84), (8, none), (9, none), (14, none)]), (5, [(0, some 84), (1, none), (2, none), (7, some 84), (8, none), (9, none)]), (6, [(0, some 84), (1, none), (2, none), (7, some 84), (8, none), (9, none), (17, none)]), (7, [(0, some 84), (1, none), (2, none), (7, some 84), (8, none), (9, none)]), (8, [(0, some 84), (1, none), (2, none), (7, some 84), (8, none), (9, none), (32, none)]), (9, [(0, some 84), (1, none), (2, none), (7, some 84), (9, none)]), (10, [(0, some 84), (1, none), (2, none), (7, some 84), (8, none), (9, none)]), (11, [(1, none), (2, none), (7, some 84), (42, none)]), (12, [(7, some 84)]), (13, [(6, some 84)])],
  [(0, [(1, none), (2, none), (7, some 84), (8, none)]), (1, [(0, some 84), (1, none), (2, none), (7, some 84), (8, none), (9, none)]), (2, [(0, some 84), (1, none), (2, none), (7, some 84), (8, none), (9, none)])],
  [(14, ([(0, some 84), (1, none), (2, none), (7, some 84), (8, none), (9, none)], [(1, none), (2, none), (7, some 84), (8, none)])), (17, ([(0, some 84), (1, none), (2, none), (7, some 84), (8, none), (9, none)], [(0, some 84), (1, none), (2, none), (7, some 84), (8, none), (9, none)])), (32, ([(0, some 84), (1, none), (2, none), (7, some 84), (9, none)], [(0, some 84), (1, none), (2, none), (7, some 84), (8, none), (9, none)])), (42, ([(1, none), (2, none), (7, some 84)], [(7, some 84)]))]⟩
def S_SetField_cl (k : Nat) : Calls' D := ⟨[], []⟩
theorem S_SetField_ck (k : Nat) : CallsOK X (S_SetField_cl k) := .nil cod
def S_SetField_c32_L (x : (List IField) × (List UInt8) × (List UInt8) × Bool × Int × Bool × (List IField) × Unit) (o : Bool × (List IField)) (Q : Ex → VSt D → Prop) (R : VR D → Prop) : Prop := Q .normal (mkSt ⟨[(0, .hole), (1, .hole), (2, .hole), (7, .ref 500007), (8, .hole), (9, .hole)], [(500007, .row)]⟩ [.sl 84 x.1, .str x.2.1, .str x.2.2.1, .bool o.1, .int .i64 x.2.2.2.2.1, .sl 84 o.2])
def S_SetField_c32_cut (k : Nat) : Cut D := cutS ⟨[(0, .hole), (1, .hole), (2, .hole), (7, .ref 500007), (8, .hole), (9, .hole), (32, .hole)], [(500007, .row)]⟩ [.kl 84, .ks, .ks, .kb, .ki .i64, .kb, .kl 84] (fun (x : (List IField) × (List UInt8) × (List UInt8) × Bool × Int × Bool × (List IField) × Unit) => S_SetField_c32 k x.1 x.2.1 x.2.2.1 x.2.2.2.1 x.2.2.2.2.1 x.2.2.2.2.2.1 x.2.2.2.2.2.2.1) S_SetField_c32_L
def S_SetField_c32_cu (k : Nat) : Cuts D := ⟨[], []⟩
theorem S_SetField_c32_ok (k : Nat) : CutFor X S_SetField_pl k Go.Proofs.Tryd.f66.results.toList (S_SetField_c32_cut k) (sub (bodyOf Go.Proofs.Tryd.f66) [1, 1, 1, 0, 1, 0, 0, 1, 0, 0, 0, 1, 1, 1]) :=
  joinCut_s (X := X) (sg := [.kl 84, .ks, .ks, .kb, .ki .i64, .kb, .kl 84]) (cu := S_SetField_c32_cu k) (cl := S_SetField_cl k) (tys := [[84]]) (S_SetField_ck k) (cutOK_of (l := []) (by kernel_rfl) trivial) fun x Q R h => by
    simp only [S_SetField_c32, optK_bind, optK_bif, optK_pure, optK_none, optK_oc, optK_guardT, optK_map] at h
    refine hold_of h ?_
    kernel_rfl
def S_SetField_c17_L (x : (List IField) × (List UInt8) × (List UInt8) × Bool × Int × Bool × (List IField) × Unit) (o : Bool × (List IField)) (Q : Ex → VSt D → Prop) (R : VR D → Prop) : Prop := Q .normal (mkSt ⟨[(0, .hole), (1, .hole), (2, .hole), (7, .ref 500007), (8, .hole), (9, .hole)], [(500007, .row)]⟩ [.sl 84 x.1, .str x.2.1, .str x.2.2.1, .bool o.1, .int .i64 x.2.2.2.2.1, .sl 84 o.2])
def S_SetField_c17_cut (k : Nat) : Cut D := cutS ⟨[(0, .hole), (1, .hole), (2, .hole), (7, .ref 500007), (8, .hole), (9, .hole), (17, .hole)], [(500007, .row)]⟩ [.kl 84, .ks, .ks, .kb, .ki .i64, .kb, .kl 84] (fun (x : (List IField) × (List UInt8) × (List UInt8) × Bool × Int × Bool × (List IField) × Unit) => S_SetField_c17 k x.1 x.2.1 x.2.2.1 x.2.2.2.1 x.2.2.2.2.1 x.2.2.2.2.2.1 x.2.2.2.2.2.2.1) S_SetField_c17_L
def S_SetField_c17_cu (k : Nat) : Cuts D := ⟨[], [(32, some (S_SetField_c32_cut k))]⟩
theorem S_SetField_c17_ok (k : Nat) : CutFor X S_SetField_pl k Go.Proofs.Tryd.f66.results.toList (S_SetField_c17_cut k) (sub (bodyOf Go.Proofs.Tryd.f66) [1, 1, 1, 0, 1, 0, 0, 1, 0, 0, 0, 1]) :=
  joinCut_s (X := X) (sg := [.kl 84, .ks, .ks, .kb, .ki .i64, .kb, .kl 84]) (cu := S_SetField_c17_cu k) (cl := S_SetField_cl k) (tys := [[84]]) (S_SetField_ck k) (cutOK_of (l := [(S_SetField_c32_cut k, sub (bodyOf Go.Proofs.Tryd.f66) [1, 1, 1, 0, 1, 0, 0, 1, 0, 0, 0, 1, 1, 1])]) (by kernel_rfl) ⟨S_SetField_c32_ok k, trivial⟩) fun x Q R h => by
    simp only [S_SetField_c17, optK_bind, optK_bif, optK_pure, optK_none, optK_oc, optK_guardT, optK_map] at h
    refine hold_of h ?_
    kernel_rfl
def S_SetField_b2_L (x : (List IField) × (List UInt8) × (List UInt8) × Bool × Int × (List IField) × Unit) (o : Bool × (List IField)) (Q : Ex → VSt D → Prop) (R : VR D → Prop) : Prop := Q .normal (mkSt ⟨[(0, .hole), (1, .hole), (2, .hole), (7, .ref 500007), (8, .hole), (9, .hole)], [(500007, .row)]⟩ [.sl 84 x.1, .str x.2.1, .str x.2.2.1, .bool o.1, .int .i64 x.2.2.2.2.1, .sl 84 o.2])
def S_SetField_b2_cut (k : Nat) : Cut D := cutS ⟨[(0, .hole), (1, .hole), (2, .hole), (7, .ref 500007), (8, .hole), (9, .hole)], [(500007, .row)]⟩ [.kl 84, .ks, .ks, .kb, .ki .i64, .kl 84] (fun (x : (List IField) × (List UInt8) × (List UInt8) × Bool × Int × (List IField) × Unit) => S_SetField_b2 k x.1 x.2.1 x.2.2.1 x.2.2.2.1 x.2.2.2.2.1 x.2.2.2.2.2.1) S_SetField_b2_L
def S_SetField_b2_cu (k : Nat) : Cuts D := ⟨[], [(17, some (S_SetField_c17_cut k))]⟩
theorem S_SetField_b2_ok (k : Nat) : CutFor X S_SetField_pl k Go.Proofs.Tryd.f66.results.toList (S_SetField_b2_cut k) (sub (bodyOf Go.Proofs.Tryd.f66) [1, 1, 1, 0, 1, 0, 0, 1, 0, 0]) :=
  joinCut_s (X := X) (sg := [.kl 84, .ks, .ks, .kb, .ki .i64, .kl 84]) (cu := S_SetField_b2_cu k) (cl := S_SetField_cl k) (tys := [[84]]) (S_SetField_ck k) (cutOK_of (l := [(S_SetField_c17_cut k, sub (bodyOf Go.Proofs.Tryd.f66) [1, 1, 1, 0, 1, 0, 0, 1, 0, 0, 0, 1])]) (by kernel_rfl) ⟨S_SetField_c17_ok k, trivial⟩) fun x Q R h => by
    simp only [S_SetField_b2, optK_bind, optK_bif, optK_pure, optK_none, optK_oc, optK_guardT, optK_map] at h
    refine hold_of h ?_
    kernel_rfl
def S_SetField_b1_L (x : (List IField) × (List UInt8) × (List UInt8) × Bool × Int × (List IField) × Unit) (o : Bool × (List IField)) (Q : Ex → VSt D → Prop) (R : VR D → Prop) : Prop := Q .normal (mkSt ⟨[(0, .hole), (1, .hole), (2, .hole), (7, .ref 500007), (8, .hole), (9, .hole)], [(500007, .row)]⟩ [.sl 84 x.1, .str x.2.1, .str x.2.2.1, .bool o.1, .int .i64 x.2.2.2.2.1, .sl 84 o.2])
def S_SetField_b1_cut (k : Nat) : Cut D := cutS ⟨[(0, .hole), (1, .hole), (2, .hole), (7, .ref 500007), (8, .hole), (9, .hole)], [(500007, .row)]⟩ [.kl 84, .ks, .ks, .kb, .ki .i64, .kl 84] (fun (x : (List IField) × (List UInt8) × (List UInt8) × Bool × Int × (List IField) × Unit) => S_SetField_b1 k x.1 x.2.1 x.2.2.1 x.2.2.2.1 x.2.2.2.2.1 x.2.2.2.2.2.1) S_SetField_b1_L
def S_SetField_b1_cu (k : Nat) : Cuts D := ⟨[(2, some (S_SetField_b2_cut k))], []⟩
theorem S_SetField_b1_ok (k : Nat) : CutFor X S_SetField_pl k Go.Proofs.Tryd.f66.results.toList (S_SetField_b1_cut k) (sub (bodyOf Go.Proofs.Tryd.f66) [1, 1, 1, 0, 1, 0, 0, 1, 0]) :=
  joinCut_s (X := X) (sg := [.kl 84, .ks, .ks, .kb, .ki .i64, .kl 84]) (cu := S_SetField_b1_cu k) (cl := S_SetField_cl k) (tys := [[84]]) (S_SetField_ck k) (cutOK_of (l := [(S_SetField_b2_cut k, sub (bodyOf Go.Proofs.Tryd.f66) [1, 1, 1, 0, 1, 0, 0, 1, 0, 0])]) (by kernel_rfl) ⟨S_SetField_b2_ok k, trivial⟩) fun x Q R h => by
    simp only [S_SetField_b1, optK_bind, optK_bif, optK_pure, optK_none, optK_oc, optK_guardT, optK_map] at h
    refine hold_of h ?_
    kernel_rfl
def S_SetField_b0_L (x : (List IField) × (List UInt8) × (List UInt8) × Bool × Int × (List IField) × Unit) (o : Bool × (List IField)) (Q : Ex → VSt D → Prop) (R : VR D → Prop) : Prop := Q .normal (mkSt ⟨[(1, .hole), (2, .hole), (7, .ref 500007), (8, .hole)], [(500007, .row)]⟩ [.str x.2.1, .str x.2.2.1, .bool o.1, .sl 84 o.2])
def S_SetField_b0_cut (k : Nat) : Cut D := cutS ⟨[(0, .hole), (1, .hole), (2, .hole), (7, .ref 500007), (8, .hole), (9, .hole)], [(500007, .row)]⟩ [.kl 84, .ks, .ks, .kb, .ki .i64, .kl 84] (fun (x : (List IField) × (List UInt8) × (List UInt8) × Bool × Int × (List IField) × Unit) => S_SetField_b0 k k x.1 x.2.1 x.2.2.1 x.2.2.2.1 x.2.2.2.2.1 x.2.2.2.2.2.1) S_SetField_b0_L
def S_SetField_b0_cu (k : Nat) : Cuts D := ⟨[(1, some (S_SetField_b1_cut k))], []⟩
theorem S_SetField_b0_ok (k : Nat) : CutFor X S_SetField_pl k Go.Proofs.Tryd.f66.results.toList (S_SetField_b0_cut k) (sub (bodyOf Go.Proofs.Tryd.f66) [1, 1, 1, 0, 1]) :=
  loopCut_s (X := X) (sg := [.kl 84, .ks, .ks, .kb, .ki .i64, .kl 84]) (cu := S_SetField_b0_cu k) (cl := S_SetField_cl k) (tys := [[84]]) (id := 0) (c := sub (bodyOf Go.Proofs.Tryd.f66) [1, 1, 1, 0, 1, 0, 0]) (f := fun n => fun (x : (List IField) × (List UInt8) × (List UInt8) × Bool × Int × (List IField) × Unit) => S_SetField_b0 k n x.1 x.2.1 x.2.2.1 x.2.2.2.1 x.2.2.2.2.1 x.2.2.2.2.2.1) (S_SetField_ck k) (cutOK_of (l := [(S_SetField_b1_cut k, sub (bodyOf Go.Proofs.Tryd.f66) [1, 1, 1, 0, 1, 0, 0, 1, 0])]) (by kernel_rfl) ⟨S_SetField_b1_ok k, trivial⟩) (fun _ => rfl) (fun n x Q R h => by
    simp only [S_SetField_b0, optK_bind, optK_bif, optK_pure, optK_none, optK_oc, optK_guardT, optK_map] at h
    refine hold_of h ?_
    kernel_rfl) (by kernel_rfl)
def S_SetField_c42_L (x : (List UInt8) × (List UInt8) × Bool × (List IField) × Unit) (o : (List IField)) (Q : Ex → VSt D → Prop) (R : VR D → Prop) : Prop := Q .normal (mkSt ⟨[(7, .ref 500007)], [(500007, .row)]⟩ [.sl 84 o])
def S_SetField_c42_cut (k : Nat) : Cut D := cutS ⟨[(1, .hole), (2, .hole), (7, .ref 500007), (42, .hole)], [(500007, .row)]⟩ [.ks, .ks, .kb, .kl 84] (fun (x : (List UInt8) × (List UInt8) × Bool × (List IField) × Unit) => S_SetField_c42 k x.1 x.2.1 x.2.2.1 x.2.2.2.1) S_SetField_c42_L
def S_SetField_c42_cu (k : Nat) : Cuts D := ⟨[], []⟩
theorem S_SetField_c42_ok (k : Nat) : CutFor X S_SetField_pl k Go.Proofs.Tryd.f66.results.toList (S_SetField_c42_cut k) (sub (bodyOf Go.Proofs.Tryd.f66) [1, 1, 1, 1, 0, 1]) :=
  joinCut_s (X := X) (sg := [.ks, .ks, .kb, .kl 84]) (cu := S_SetField_c42_cu k) (cl := S_SetField_cl k) (tys := [[84]]) (S_SetField_ck k) (cutOK_of (l := []) (by kernel_rfl) trivial) fun x Q R h => by
    simp only [S_SetField_c42, optK_bind, optK_bif, optK_pure, optK_none, optK_oc, optK_guardT, optK_map] at h
    refine hold_of h ?_
    kernel_rfl
def S_SetField_cu (k : Nat) : Cuts D := ⟨[(0, some (S_SetField_b0_cut k))], [(42, some (S_SetField_c42_cut k))]⟩
def S_SetField_ar : List Ar := [.c (.kl 84), .c (.ks), .c (.ks)]
def S_SetField_f (k : Nat) (x : TupA D S_SetField_ar) : Option ((List IField)) := S_SetField k x.1 x.2.1 x.2.2.1
def S_SetField_vr (r : (List IField)) : VR D := .p (.c (.sl 84 r))
theorem S_SetField_ok (k : Nat) : Does P X 66 S_SetField_ar (S_SetField_f k) S_SetField_vr :=
  does_of (body := bodyOf Go.Proofs.Tryd.f66) (pl := S_SetField_pl) (k := k) (cu := S_SetField_cu k) (tys := [[84]]) (S_SetField_ck k) ctx mixed Go.Proofs.Tryd.func66 (by kernel_rfl) (by kernel_rfl) (cutOK_of (l := [(S_SetField_b0_cut k, sub (bodyOf Go.Proofs.Tryd.f66) [1, 1, 1, 0, 1]), (S_SetField_c42_cut k, sub (bodyOf Go.Proofs.Tryd.f66) [1, 1, 1, 1, 0, 1])]) (by kernel_rfl) ⟨S_SetField_b0_ok k, S_SetField_c42_ok k, trivial⟩) fun x R h => by
    simp only [S_SetField_f, S_SetField, optK_bind, optK_bif, optK_pure, optK_none, optK_oc, optK_guardT, optK_map] at h
    refine hold_of h ?_
    kernel_rfl
def S_SetField_en (k : Nat) : Entry D := entS S_SetField_ar (S_SetField_f k) S_SetField_vr
theorem S_SetField_eo (k : Nat) : EntryOK X 66 (S_SetField_en k) := (S_SetField_ok k).en rfl
def S_WithAge_pl : Plan := ⟨[(0, [(1, none), (2, none), (4, none)]), (1, [(1, none), (4, none), (5, none)]), (2, [(4, none), (5, none)]), (3, [(4, none)])],
  [],
  []⟩
def S_WithAge_cl (k : Nat) : Calls' D := ⟨[(65, S_l11Copy_en k), (69, S_Min_en k), (68, S_Max_en k), (67, S_FormatInt_en k), (66, S_SetField_en k)], []⟩
theorem S_WithAge_ck (k : Nat) : CallsOK X (S_WithAge_cl k) := .cons (S_l11Copy_eo k) (.cons (S_Min_eo k) (.cons (S_Max_eo k) (.cons (S_FormatInt_eo k) (.cons (S_SetField_eo k) (.nil cod)))))
def S_WithAge_cu (k : Nat) : Cuts D := ⟨[], []⟩
def S_WithAge_ar : List Ar := [.a [.ki .i64, .kl 84, .ks], .c (.ki .i64)]
def S_WithAge_f (k : Nat) (x : TupA D S_WithAge_ar) : Option (IResponse) := S_WithAge k (⟨x.1.1, x.1.2.1, x.1.2.2.1⟩ : IResponse) x.2.1
def S_WithAge_vr (r : IResponse) : VR D := .p (.agg [.int .i64 r.Code, .sl 84 r.Fields, .str r.Body])
theorem S_WithAge_ok (k : Nat) : Does P X 16 S_WithAge_ar (S_WithAge_f k) S_WithAge_vr :=
  does_of (body := bodyOf Go.Proofs.Tryd.f16) (pl := S_WithAge_pl) (k := k) (cu := S_WithAge_cu k) (tys := [[0, 84, 0]]) (S_WithAge_ck k) ctx mixed Go.Proofs.Tryd.func16 (by kernel_rfl) (by kernel_rfl) (cutOK_of (l := []) (by kernel_rfl) trivial) fun x R h => by
    simp only [S_WithAge_f, S_WithAge, optK_bind, optK_bif, optK_pure, optK_none, optK_oc, optK_guardT, optK_map] at h
    refine hold_of h ?_
    kernel_rfl
def S_WithAge_en (k : Nat) : Entry D := entS S_WithAge_ar (S_WithAge_f k) S_WithAge_vr
theorem S_WithAge_eo (k : Nat) : EntryOK X 16 (S_WithAge_en k) := (S_WithAge_ok k).en rfl
def strconv_Itoa_ar : List Ar := [.c (.ki .i64)]
def strconv_Itoa_f (k : Nat) (x : TupA D strconv_Itoa_ar) : Option ((List UInt8)) := strconv_Itoa k x.1
def strconv_Itoa_vr (r : (List UInt8)) : VR D := .p (.c (.str r))
theorem strconv_Itoa_ok (k : Nat) : Does P X 113 strconv_Itoa_ar (strconv_Itoa_f k) strconv_Itoa_vr := does_itoa ⟨Go.Proofs.Tryd.f113, Go.Proofs.Tryd.func113, by kernel_rfl, by kernel_rfl⟩ (fun n w hg h0 h1 => Go.Proofs.Tryd.strconv_Itoa n h0 h1 w hg)
def strconv_Itoa_en (k : Nat) : Entry D := entS strconv_Itoa_ar (strconv_Itoa_f k) strconv_Itoa_vr
theorem strconv_Itoa_eo (k : Nat) : EntryOK X 113 (strconv_Itoa_en k) := (strconv_Itoa_ok k).en rfl
def I_FormatInt_pl : Plan := ⟨[(0, [(0, none)]), (1, [(2, none)])],
  [],
  []⟩
def I_FormatInt_cl (k : Nat) : Calls' D := ⟨[(113, strconv_Itoa_en k)], []⟩
theorem I_FormatInt_ck (k : Nat) : CallsOK X (I_FormatInt_cl k) := .cons (strconv_Itoa_eo k) (.nil cod)
def I_FormatInt_cu (k : Nat) : Cuts D := ⟨[], []⟩
def I_FormatInt_ar : List Ar := [.c (.ki .i64)]
def I_FormatInt_f (k : Nat) (x : TupA D I_FormatInt_ar) : Option ((List UInt8)) := I_FormatInt k x.1
def I_FormatInt_vr (r : (List UInt8)) : VR D := .p (.c (.str r))
theorem I_FormatInt_ok (k : Nat) : Does P X 71 I_FormatInt_ar (I_FormatInt_f k) I_FormatInt_vr :=
  does_of (body := bodyOf Go.Proofs.Tryd.f71) (pl := I_FormatInt_pl) (k := k) (cu := I_FormatInt_cu k) (tys := [[0]]) (I_FormatInt_ck k) ctx mixed Go.Proofs.Tryd.func71 (by kernel_rfl) (by kernel_rfl) (cutOK_of (l := []) (by kernel_rfl) trivial) fun x R h => by
    simp only [I_FormatInt_f, I_FormatInt, optK_bind, optK_bif, optK_pure, optK_none, optK_oc, optK_guardT, optK_map] at h
    refine hold_of h ?_
    kernel_rfl
def I_FormatInt_en (k : Nat) : Entry D := entS I_FormatInt_ar (I_FormatInt_f k) I_FormatInt_vr
theorem I_FormatInt_eo (k : Nat) : EntryOK X 71 (I_FormatInt_en k) := (I_FormatInt_ok k).en rfl
def I_SetField_pl : Plan := ⟨[(0, [(0, some 84), (1, none), (2, none)]), (1, [(0, some 84), (1, none), (2, none), (7, some 84)]), (2, [(0, some 84), (1, none), (2, none), (7, some 84), (8, none)]), (3, [(1, none), (2, none), (7, some 84), (8, none), (12, some 84), (13, none), (14, none)]), (4, [(1, none), (2, none), (7, some 84), (8, none), (12, some 84), (13, none), (14, none), (15, none)]), (5, [(1, none), (2, none), (7, some 84), (8, none), (10, none), (12, some 84), (13, none), (14, none)]), (6, [(1, none), (2, none), (7, some 84), (8, none), (10, none), (12, some 84), (13, none), (14, none), (21, none)]), (7, [(1, none), (2, none), (7, some 84), (8, none), (12, some 84), (13, none), (14, none)]), (8, [(1, none), (2, none), (7, some 84), (8, none), (12, some 84), (13, none), (14, none), (27, none)]), (9, [(1, none), (2, none), (7, some 84), (12, some 84), (13, none), (14, none)]), (10, [(1, none), (2, none), (7, some 84), (8, none), (12, some 84), (13, none), (14, none)]), (11, [(1, none), (2, none), (7, some 84), (8, none), (12, some 84), (13, none), (14, none)]), (12, [(1, none), (2, none), (7, some 84), (36, none)]), (13, [(7, some 84)]), (14, [(6, some 84)])],
  [(0, [(1, none), (2, none), (7, some 84), (8, none)]), (1, [(1, none), (2, none), (7, some 84), (8, none), (12, some 84), (13, none), (14, none)])],
  [(15, ([(1, none), (2, none), (7, some 84), (8, none), (12, some 84), (13, none), (14, none)], [(1, none), (2, none), (7, some 84), (8, none)])), (21, ([(1, none), (2, none), (7, some 84), (8, none), (10, none), (12, some 84), (13, none), (14, none)], [(1, none), (2, none), (7, some 84), (8, none), (12, some 84), (13, none), (14, none)])), (27, ([(1, none), (2, none), (7, some 84), (12, some 84), (13, none), (14, none)], [(1, none), (2, none), (7, some 84), (8, none), (12, some 84), (13, none), (14, none)])), (36, ([(1, none), (2, none), (7, some 84)], [(7, some 84)]))]⟩
def I_SetField_cl (k : Nat) : Calls' D := ⟨[], []⟩
theorem I_SetField_ck (k : Nat) : CallsOK X (I_SetField_cl k) := .nil cod
def I_SetField_c27_L (x : (List UInt8) × (List UInt8) × Bool × (List IField) × Int × Int × Bool × (List IField) × Unit) (o : Bool × (List IField)) (Q : Ex → VSt D → Prop) (R : VR D → Prop) : Prop := Q .normal (mkSt ⟨[(1, .hole), (2, .hole), (7, .ref 500007), (8, .hole), (12, .hole), (13, .hole), (14, .hole)], [(500007, .row)]⟩ [.str x.1, .str x.2.1, .bool o.1, .sl 84 x.2.2.2.1, .int .i64 x.2.2.2.2.1, .int .i64 x.2.2.2.2.2.1, .sl 84 o.2])
def I_SetField_c27_cut (k : Nat) : Cut D := cutS ⟨[(1, .hole), (2, .hole), (7, .ref 500007), (8, .hole), (12, .hole), (13, .hole), (14, .hole), (27, .hole)], [(500007, .row)]⟩ [.ks, .ks, .kb, .kl 84, .ki .i64, .ki .i64, .kb, .kl 84] (fun (x : (List UInt8) × (List UInt8) × Bool × (List IField) × Int × Int × Bool × (List IField) × Unit) => I_SetField_c27 k x.1 x.2.1 x.2.2.1 x.2.2.2.1 x.2.2.2.2.1 x.2.2.2.2.2.1 x.2.2.2.2.2.2.1 x.2.2.2.2.2.2.2.1) I_SetField_c27_L
def I_SetField_c27_cu (k : Nat) : Cuts D := ⟨[], []⟩
theorem I_SetField_c27_ok (k : Nat) : CutFor X I_SetField_pl k Go.Proofs.Tryd.f70.results.toList (I_SetField_c27_cut k) (sub (bodyOf Go.Proofs.Tryd.f70) [1, 1, 1, 0, 1, 0, 0, 1, 1, 0, 0, 1, 1, 1, 1]) :=
  joinCut_s (X := X) (sg := [.ks, .ks, .kb, .kl 84, .ki .i64, .ki .i64, .kb, .kl 84]) (cu := I_SetField_c27_cu k) (cl := I_SetField_cl k) (tys := [[84]]) (I_SetField_ck k) (cutOK_of (l := []) (by kernel_rfl) trivial) fun x Q R h => by
    simp only [I_SetField_c27, optK_bind, optK_bif, optK_pure, optK_none, optK_oc, optK_guardT, optK_map] at h
    refine hold_of h ?_
    kernel_rfl
def I_SetField_c21_L (x : (List UInt8) × (List UInt8) × Bool × (List IField) × Int × Int × Bool × (List IField) × (List UInt8) × (List UInt8) × Unit) (o : Bool × (List IField)) (Q : Ex → VSt D → Prop) (R : VR D → Prop) : Prop := Q .normal (mkSt ⟨[(1, .hole), (2, .hole), (7, .ref 500007), (8, .hole), (12, .hole), (13, .hole), (14, .hole)], [(500007, .row)]⟩ [.str x.1, .str x.2.1, .bool o.1, .sl 84 x.2.2.2.1, .int .i64 x.2.2.2.2.1, .int .i64 x.2.2.2.2.2.1, .sl 84 o.2])
def I_SetField_c21_cut (k : Nat) : Cut D := cutS ⟨[(1, .hole), (2, .hole), (7, .ref 500007), (8, .hole), (10, .ptr 10 0), (12, .hole), (13, .hole), (14, .hole), (21, .hole)], [(500007, .row), (10, .var [.hole, .hole])]⟩ [.ks, .ks, .kb, .kl 84, .ki .i64, .ki .i64, .kb, .kl 84, .ks, .ks] (fun (x : (List UInt8) × (List UInt8) × Bool × (List IField) × Int × Int × Bool × (List IField) × (List UInt8) × (List UInt8) × Unit) => I_SetField_c21 k x.1 x.2.1 x.2.2.1 x.2.2.2.1 x.2.2.2.2.1 x.2.2.2.2.2.1 x.2.2.2.2.2.2.1 x.2.2.2.2.2.2.2.1 x.2.2.2.2.2.2.2.2.1 x.2.2.2.2.2.2.2.2.2.1) I_SetField_c21_L
def I_SetField_c21_cu (k : Nat) : Cuts D := ⟨[], [(27, some (I_SetField_c27_cut k))]⟩
theorem I_SetField_c21_ok (k : Nat) : CutFor X I_SetField_pl k Go.Proofs.Tryd.f70.results.toList (I_SetField_c21_cut k) (sub (bodyOf Go.Proofs.Tryd.f70) [1, 1, 1, 0, 1, 0, 0, 1, 1, 0, 0, 1, 1]) :=
  joinCut_s (X := X) (sg := [.ks, .ks, .kb, .kl 84, .ki .i64, .ki .i64, .kb, .kl 84, .ks, .ks]) (cu := I_SetField_c21_cu k) (cl := I_SetField_cl k) (tys := [[84]]) (I_SetField_ck k) (cutOK_of (l := [(I_SetField_c27_cut k, sub (bodyOf Go.Proofs.Tryd.f70) [1, 1, 1, 0, 1, 0, 0, 1, 1, 0, 0, 1, 1, 1, 1])]) (by kernel_rfl) ⟨I_SetField_c27_ok k, trivial⟩) fun x Q R h => by
    simp only [I_SetField_c21, optK_bind, optK_bif, optK_pure, optK_none, optK_oc, optK_guardT, optK_map] at h
    refine hold_of h ?_
    kernel_rfl
def I_SetField_b1_L (x : (List UInt8) × (List UInt8) × Bool × (List IField) × Int × Int × (List IField) × Unit) (o : Bool × (List IField)) (Q : Ex → VSt D → Prop) (R : VR D → Prop) : Prop := Q .normal (mkSt ⟨[(1, .hole), (2, .hole), (7, .ref 500007), (8, .hole), (12, .hole), (13, .hole), (14, .hole)], [(500007, .row)]⟩ [.str x.1, .str x.2.1, .bool o.1, .sl 84 x.2.2.2.1, .int .i64 x.2.2.2.2.1, .int .i64 x.2.2.2.2.2.1, .sl 84 o.2])
def I_SetField_b1_cut (k : Nat) : Cut D := cutS ⟨[(1, .hole), (2, .hole), (7, .ref 500007), (8, .hole), (12, .hole), (13, .hole), (14, .hole)], [(500007, .row)]⟩ [.ks, .ks, .kb, .kl 84, .ki .i64, .ki .i64, .kl 84] (fun (x : (List UInt8) × (List UInt8) × Bool × (List IField) × Int × Int × (List IField) × Unit) => I_SetField_b1 k x.1 x.2.1 x.2.2.1 x.2.2.2.1 x.2.2.2.2.1 x.2.2.2.2.2.1 x.2.2.2.2.2.2.1) I_SetField_b1_L
def I_SetField_b1_cu (k : Nat) : Cuts D := ⟨[], [(21, some (I_SetField_c21_cut k))]⟩
theorem I_SetField_b1_ok (k : Nat) : CutFor X I_SetField_pl k Go.Proofs.Tryd.f70.results.toList (I_SetField_b1_cut k) (sub (bodyOf Go.Proofs.Tryd.f70) [1, 1, 1, 0, 1, 0, 0, 1, 1, 0]) :=
  joinCut_s (X := X) (sg := [.ks, .ks, .kb, .kl 84, .ki .i64, .ki .i64, .kl 84]) (cu := I_SetField_b1_cu k) (cl := I_SetField_cl k) (tys := [[84]]) (I_SetField_ck k) (cutOK_of (l := [(I_SetField_c21_cut k, sub (bodyOf Go.Proofs.Tryd.f70) [1, 1, 1, 0, 1, 0, 0, 1, 1, 0, 0, 1, 1])]) (by kernel_rfl) ⟨I_SetField_c21_ok k, trivial⟩) fun x Q R h => by
    simp only [I_SetField_b1, optK_bind, optK_bif, optK_pure, optK_none, optK_oc, optK_guardT, optK_map] at h
    refine hold_of h ?_
    kernel_rfl
def I_SetField_b0_L (x : (List UInt8) × (List UInt8) × Bool × (List IField) × Int × Int × (List IField) × Unit) (o : Bool × (List IField)) (Q : Ex → VSt D → Prop) (R : VR D → Prop) : Prop := Q .normal (mkSt ⟨[(1, .hole), (2, .hole), (7, .ref 500007), (8, .hole)], [(500007, .row)]⟩ [.str x.1, .str x.2.1, .bool o.1, .sl 84 o.2])
def I_SetField_b0_cut (k : Nat) : Cut D := cutS ⟨[(1, .hole), (2, .hole), (7, .ref 500007), (8, .hole), (12, .hole), (13, .hole), (14, .hole)], [(500007, .row)]⟩ [.ks, .ks, .kb, .kl 84, .ki .i64, .ki .i64, .kl 84] (fun (x : (List UInt8) × (List UInt8) × Bool × (List IField) × Int × Int × (List IField) × Unit) => I_SetField_b0 k k x.1 x.2.1 x.2.2.1 x.2.2.2.1 x.2.2.2.2.1 x.2.2.2.2.2.1 x.2.2.2.2.2.2.1) I_SetField_b0_L
def I_SetField_b0_cu (k : Nat) : Cuts D := ⟨[(1, some (I_SetField_b1_cut k))], []⟩
theorem I_SetField_b0_ok (k : Nat) : CutFor X I_SetField_pl k Go.Proofs.Tryd.f70.results.toList (I_SetField_b0_cut k) (sub (bodyOf Go.Proofs.Tryd.f70) [1, 1, 1, 0, 1]) :=
  loopCut_s (X := X) (sg := [.ks, .ks, .kb, .kl 84, .ki .i64, .ki .i64, .kl 84]) (cu := I_SetField_b0_cu k) (cl := I_SetField_cl k) (tys := [[84]]) (id := 0) (c := sub (bodyOf Go.Proofs.Tryd.f70) [1, 1, 1, 0, 1, 0, 0]) (f := fun n => fun (x : (List UInt8) × (List UInt8) × Bool × (List IField) × Int × Int × (List IField) × Unit) => I_SetField_b0 k n x.1 x.2.1 x.2.2.1 x.2.2.2.1 x.2.2.2.2.1 x.2.2.2.2.2.1 x.2.2.2.2.2.2.1) (I_SetField_ck k) (cutOK_of (l := [(I_SetField_b1_cut k, sub (bodyOf Go.Proofs.Tryd.f70) [1, 1, 1, 0, 1, 0, 0, 1, 1, 0])]) (by kernel_rfl) ⟨I_SetField_b1_ok k, trivial⟩) (fun _ => rfl) (fun n x Q R h => by
    simp only [I_SetField_b0, optK_bind, optK_bif, optK_pure, optK_none, optK_oc, optK_guardT, optK_map] at h
    refine hold_of h ?_
    kernel_rfl) (by kernel_rfl)
def I_SetField_c36_L (x : (List UInt8) × (List UInt8) × Bool × (List IField) × Unit) (o : (List IField)) (Q : Ex → VSt D → Prop) (R : VR D → Prop) : Prop := Q .normal (mkSt ⟨[(7, .ref 500007)], [(500007, .row)]⟩ [.sl 84 o])
def I_SetField_c36_cut (k : Nat) : Cut D := cutS ⟨[(1, .hole), (2, .hole), (7, .ref 500007), (36, .hole)], [(500007, .row)]⟩ [.ks, .ks, .kb, .kl 84] (fun (x : (List UInt8) × (List UInt8) × Bool × (List IField) × Unit) => I_SetField_c36 k x.1 x.2.1 x.2.2.1 x.2.2.2.1) I_SetField_c36_L
def I_SetField_c36_cu (k : Nat) : Cuts D := ⟨[], []⟩
theorem I_SetField_c36_ok (k : Nat) : CutFor X I_SetField_pl k Go.Proofs.Tryd.f70.results.toList (I_SetField_c36_cut k) (sub (bodyOf Go.Proofs.Tryd.f70) [1, 1, 1, 1, 0, 1]) :=
  joinCut_s (X := X) (sg := [.ks, .ks, .kb, .kl 84]) (cu := I_SetField_c36_cu k) (cl := I_SetField_cl k) (tys := [[84]]) (I_SetField_ck k) (cutOK_of (l := []) (by kernel_rfl) trivial) fun x Q R h => by
    simp only [I_SetField_c36, optK_bind, optK_bif, optK_pure, optK_none, optK_oc, optK_guardT, optK_map] at h
    refine hold_of h ?_
    kernel_rfl
def I_SetField_cu (k : Nat) : Cuts D := ⟨[(0, some (I_SetField_b0_cut k))], [(36, some (I_SetField_c36_cut k))]⟩
def I_SetField_ar : List Ar := [.c (.kl 84), .c (.ks), .c (.ks)]
def I_SetField_f (k : Nat) (x : TupA D I_SetField_ar) : Option ((List IField)) := I_SetField k x.1 x.2.1 x.2.2.1
def I_SetField_vr (r : (List IField)) : VR D := .p (.c (.sl 84 r))
theorem I_SetField_ok (k : Nat) : Does P X 70 I_SetField_ar (I_SetField_f k) I_SetField_vr :=
  does_of (body := bodyOf Go.Proofs.Tryd.f70) (pl := I_SetField_pl) (k := k) (cu := I_SetField_cu k) (tys := [[84]]) (I_SetField_ck k) ctx mixed Go.Proofs.Tryd.func70 (by kernel_rfl) (by kernel_rfl) (cutOK_of (l := [(I_SetField_b0_cut k, sub (bodyOf Go.Proofs.Tryd.f70) [1, 1, 1, 0, 1]), (I_SetField_c36_cut k, sub (bodyOf Go.Proofs.Tryd.f70) [1, 1, 1, 1, 0, 1])]) (by kernel_rfl) ⟨I_SetField_b0_ok k, I_SetField_c36_ok k, trivial⟩) fun x R h => by
    simp only [I_SetField_f, I_SetField, optK_bind, optK_bif, optK_pure, optK_none, optK_oc, optK_guardT, optK_map] at h
    refine hold_of h ?_
    kernel_rfl
def I_SetField_en (k : Nat) : Entry D := entS I_SetField_ar (I_SetField_f k) I_SetField_vr
theorem I_SetField_eo (k : Nat) : EntryOK X 70 (I_SetField_en k) := (I_SetField_ok k).en rfl
def I_WithAge_pl : Plan := ⟨[(0, [(1, none), (2, none), (4, none)]), (1, [(1, none), (2, none), (4, none), (5, none)]), (2, [(4, none), (5, none)]), (3, [(4, none)])],
  [],
  []⟩
def I_WithAge_cl (k : Nat) : Calls' D := ⟨[(71, I_FormatInt_en k), (70, I_SetField_en k)], []⟩
theorem I_WithAge_ck (k : Nat) : CallsOK X (I_WithAge_cl k) := .cons (I_FormatInt_eo k) (.cons (I_SetField_eo k) (.nil cod))
def I_WithAge_cu (k : Nat) : Cuts D := ⟨[], []⟩
def I_WithAge_ar : List Ar := [.a [.ki .i64, .kl 84, .ks], .c (.ki .i64)]
def I_WithAge_f (k : Nat) (x : TupA D I_WithAge_ar) : Option (IResponse) := I_WithAge k (⟨x.1.1, x.1.2.1, x.1.2.2.1⟩ : IResponse) x.2.1
def I_WithAge_vr (r : IResponse) : VR D := .p (.agg [.int .i64 r.Code, .sl 84 r.Fields, .str r.Body])
theorem I_WithAge_ok (k : Nat) : Does P X 18 I_WithAge_ar (I_WithAge_f k) I_WithAge_vr :=
  does_of (body := bodyOf Go.Proofs.Tryd.f18) (pl := I_WithAge_pl) (k := k) (cu := I_WithAge_cu k) (tys := [[0, 84, 0]]) (I_WithAge_ck k) ctx mixed Go.Proofs.Tryd.func18 (by kernel_rfl) (by kernel_rfl) (cutOK_of (l := []) (by kernel_rfl) trivial) fun x R h => by
    simp only [I_WithAge_f, I_WithAge, optK_bind, optK_bif, optK_pure, optK_none, optK_oc, optK_guardT, optK_map] at h
    refine hold_of h ?_
    kernel_rfl
def I_WithAge_en (k : Nat) : Entry D := entS I_WithAge_ar (I_WithAge_f k) I_WithAge_vr
theorem I_WithAge_eo (k : Nat) : EntryOK X 18 (I_WithAge_en k) := (I_WithAge_ok k).en rfl
def L_eqField_pl : Plan := ⟨[(0, [(2, none), (3, none)]), (1, [(2, none), (3, none), (9, none)]), (2, [(4, none)]), (3, [(14, none)]), (4, [(4, none)]), (5, [(4, none)])],
  [],
  [(9, ([], [(2, none), (3, none)])), (14, ([], []))]⟩
def L_eqField_cl (k : Nat) : Calls' D := ⟨[], []⟩
theorem L_eqField_ck (k : Nat) : CallsOK X (L_eqField_cl k) := .nil cod
def L_eqField_cu (k : Nat) : Cuts D := ⟨[], []⟩
def L_eqField_ar : List Ar := [.a [.ks, .ks], .a [.ks, .ks]]
def L_eqField_f (k : Nat) (x : TupA D L_eqField_ar) : Option (Bool) := L_eqField k (⟨x.1.1, x.1.2.1⟩ : IField) (⟨x.2.1.1, x.2.1.2.1⟩ : IField)
def L_eqField_vr (r : Bool) : VR D := .p (.c (.bool r))
theorem L_eqField_ok (k : Nat) : Does P X 82 L_eqField_ar (L_eqField_f k) L_eqField_vr :=
  does_of (body := bodyOf Go.Proofs.Tryd.f82) (pl := L_eqField_pl) (k := k) (cu := L_eqField_cu k) (tys := [[0]]) (L_eqField_ck k) ctx mixed Go.Proofs.Tryd.func82 (by kernel_rfl) (by kernel_rfl) (cutOK_of (l := []) (by kernel_rfl) trivial) fun x R h => by
    simp only [L_eqField_f, L_eqField, optK_bind, optK_bif, optK_pure, optK_none, optK_oc, optK_guardT, optK_map] at h
    refine hold_of h ?_
    kernel_rfl
def L_eqField_en (k : Nat) : Entry D := entS L_eqField_ar (L_eqField_f k) L_eqField_vr
theorem L_eqField_eo (k : Nat) : EntryOK X 82 (L_eqField_en k) := (L_eqField_ok k).en rfl
def L_eqFieldS_pl : Plan := ⟨[(0, [(0, some 84), (1, some 84)]), (1, [(0, some 84), (1, some 84), (10, none)]), (2, [(4, none)]), (3, [(0, some 84), (1, some 84), (5, none)]), (4, [(0, some 84), (1, some 84), (5, none), (14, none)]), (5, [(0, some 84), (1, some 84), (5, none)]), (6, [(0, some 84), (1, some 84), (5, none), (26, none)]), (7, [(4, none)]), (8, [(4, none)])],
  [(0, []), (1, [(0, some 84), (1, some 84), (5, none)])],
  [(10, ([], [(0, some 84), (1, some 84)])), (14, ([(0, some 84), (1, some 84), (5, none)], [])), (26, ([], [(0, some 84), (1, some 84), (5, none)]))]⟩
def L_eqFieldS_cl (k : Nat) : Calls' D := ⟨[(82, L_eqField_en k)], []⟩
theorem L_eqFieldS_ck (k : Nat) : CallsOK X (L_eqFieldS_cl k) := .cons (L_eqField_eo k) (.nil cod)
def L_eqFieldS_b0_L (x : (List IField) × (List IField) × Int × Unit) (o : Oc (Unit) (Bool)) (Q : Ex → VSt D → Prop) (R : VR D → Prop) : Prop := ocP o (fun v0 => Q .normal (mkSt ⟨[], []⟩ [])) (fun w0 => R (.p (.c (.bool w0))))
def L_eqFieldS_b0_cut (k : Nat) : Cut D := cutS ⟨[(0, .hole), (1, .hole), (5, .hole)], []⟩ [.kl 84, .kl 84, .ki .i64] (fun (x : (List IField) × (List IField) × Int × Unit) => L_eqFieldS_b0 k k x.1 x.2.1 x.2.2.1) L_eqFieldS_b0_L
def L_eqFieldS_b0_cu (k : Nat) : Cuts D := ⟨[], []⟩
theorem L_eqFieldS_b0_ok (k : Nat) : CutFor X L_eqFieldS_pl k Go.Proofs.Tryd.f31.results.toList (L_eqFieldS_b0_cut k) (sub (bodyOf Go.Proofs.Tryd.f31) [1, 1, 0, 1]) :=
  loopCut_s (X := X) (sg := [.kl 84, .kl 84, .ki .i64]) (cu := L_eqFieldS_b0_cu k) (cl := L_eqFieldS_cl k) (tys := [[0]]) (id := 0) (c := sub (bodyOf Go.Proofs.Tryd.f31) [1, 1, 0, 1, 0, 0]) (f := fun n => fun (x : (List IField) × (List IField) × Int × Unit) => L_eqFieldS_b0 k n x.1 x.2.1 x.2.2.1) (L_eqFieldS_ck k) (cutOK_of (l := []) (by kernel_rfl) trivial) (fun _ => rfl) (fun n x Q R h => by
    simp only [L_eqFieldS_b0, optK_bind, optK_bif, optK_pure, optK_none, optK_oc, optK_guardT, optK_map] at h
    refine hold_of h ?_
    kernel_rfl) (by kernel_rfl)
def L_eqFieldS_cu (k : Nat) : Cuts D := ⟨[(0, some (L_eqFieldS_b0_cut k))], []⟩
def L_eqFieldS_ar : List Ar := [.c (.kl 84), .c (.kl 84)]
def L_eqFieldS_f (k : Nat) (x : TupA D L_eqFieldS_ar) : Option (Bool) := L_eqFieldS k x.1 x.2.1
def L_eqFieldS_vr (r : Bool) : VR D := .p (.c (.bool r))
theorem L_eqFieldS_ok (k : Nat) : Does P X 31 L_eqFieldS_ar (L_eqFieldS_f k) L_eqFieldS_vr :=
  does_of (body := bodyOf Go.Proofs.Tryd.f31) (pl := L_eqFieldS_pl) (k := k) (cu := L_eqFieldS_cu k) (tys := [[0]]) (L_eqFieldS_ck k) ctx mixed Go.Proofs.Tryd.func31 (by kernel_rfl) (by kernel_rfl) (cutOK_of (l := [(L_eqFieldS_b0_cut k, sub (bodyOf Go.Proofs.Tryd.f31) [1, 1, 0, 1])]) (by kernel_rfl) ⟨L_eqFieldS_b0_ok k, trivial⟩) fun x R h => by
    simp only [L_eqFieldS_f, L_eqFieldS, optK_bind, optK_bif, optK_pure, optK_none, optK_oc, optK_guardT, optK_map] at h
    refine hold_of h ?_
    kernel_rfl
def L_eqFieldS_en (k : Nat) : Entry D := entS L_eqFieldS_ar (L_eqFieldS_f k) L_eqFieldS_vr
theorem L_eqFieldS_eo (k : Nat) : EntryOK X 31 (L_eqFieldS_en k) := (L_eqFieldS_ok k).en rfl
def L_eqResponse_pl : Plan := ⟨[(0, [(2, none), (3, none)]), (1, [(2, none), (3, none), (9, none)]), (2, [(4, none)]), (3, [(2, none), (3, none), (15, none)]), (4, [(4, none)]), (5, [(20, none)]), (6, [(4, none)]), (7, [(4, none)])],
  [],
  [(9, ([], [(2, none), (3, none)])), (15, ([], [(2, none), (3, none)])), (20, ([], []))]⟩
def L_eqResponse_cl (k : Nat) : Calls' D := ⟨[(31, L_eqFieldS_en k)], []⟩
theorem L_eqResponse_ck (k : Nat) : CallsOK X (L_eqResponse_cl k) := .cons (L_eqFieldS_eo k) (.nil cod)
def L_eqResponse_cu (k : Nat) : Cuts D := ⟨[], []⟩
def L_eqResponse_ar : List Ar := [.a [.ki .i64, .kl 84, .ks], .a [.ki .i64, .kl 84, .ks]]
def L_eqResponse_f (k : Nat) (x : TupA D L_eqResponse_ar) : Option (Bool) := L_eqResponse k (⟨x.1.1, x.1.2.1, x.1.2.2.1⟩ : IResponse) (⟨x.2.1.1, x.2.1.2.1, x.2.1.2.2.1⟩ : IResponse)
def L_eqResponse_vr (r : Bool) : VR D := .p (.c (.bool r))
theorem L_eqResponse_ok (k : Nat) : Does P X 19 L_eqResponse_ar (L_eqResponse_f k) L_eqResponse_vr :=
  does_of (body := bodyOf Go.Proofs.Tryd.f19) (pl := L_eqResponse_pl) (k := k) (cu := L_eqResponse_cu k) (tys := [[0]]) (L_eqResponse_ck k) ctx mixed Go.Proofs.Tryd.func19 (by kernel_rfl) (by kernel_rfl) (cutOK_of (l := []) (by kernel_rfl) trivial) fun x R h => by
    simp only [L_eqResponse_f, L_eqResponse, optK_bind, optK_bif, optK_pure, optK_none, optK_oc, optK_guardT, optK_map] at h
    refine hold_of h ?_
    kernel_rfl
def L_eqResponse_en (k : Nat) : Entry D := entS L_eqResponse_ar (L_eqResponse_f k) L_eqResponse_vr
theorem L_eqResponse_eo (k : Nat) : EntryOK X 19 (L_eqResponse_en k) := (L_eqResponse_ok k).en rfl
def L_markText_pl : Plan := ⟨[(0, [(0, none)]), (1, [(0, none), (5, none)]), (2, [(2, none)]), (3, [(0, none), (3, none)]), (4, [(0, none), (3, none), (7, none)]), (5, [(0, none), (3, none)]), (6, [(0, none), (3, none)]), (7, [(2, none)])],
  [(0, [(3, none)]), (1, [(0, none), (3, none)])],
  [(5, ([], [(0, none)])), (7, ([(0, none), (3, none)], [(3, none)]))]⟩
def L_markText_cl (k : Nat) : Calls' D := ⟨[], []⟩
theorem L_markText_ck (k : Nat) : CallsOK X (L_markText_cl k) := .nil cod
def L_markText_b0_L (x : Int × (List UInt8) × Unit) (o : (List UInt8)) (Q : Ex → VSt D → Prop) (R : VR D → Prop) : Prop := Q .normal (mkSt ⟨[(3, .hole)], []⟩ [.str o])
def L_markText_b0_cut (k : Nat) : Cut D := cutS ⟨[(0, .hole), (3, .hole)], []⟩ [.ki .i64, .ks] (fun (x : Int × (List UInt8) × Unit) => L_markText_b0 k k x.1 x.2.1) L_markText_b0_L
def L_markText_b0_cu (k : Nat) : Cuts D := ⟨[], []⟩
theorem L_markText_b0_ok (k : Nat) : CutFor X L_markText_pl k Go.Proofs.Tryd.f97.results.toList (L_markText_b0_cut k) (sub (bodyOf Go.Proofs.Tryd.f97) [1, 1, 1, 0]) :=
  loopCut_s (X := X) (sg := [.ki .i64, .ks]) (cu := L_markText_b0_cu k) (cl := L_markText_cl k) (tys := [[0]]) (id := 0) (c := sub (bodyOf Go.Proofs.Tryd.f97) [1, 1, 1, 0, 0, 0]) (f := fun n => fun (x : Int × (List UInt8) × Unit) => L_markText_b0 k n x.1 x.2.1) (L_markText_ck k) (cutOK_of (l := []) (by kernel_rfl) trivial) (fun _ => rfl) (fun n x Q R h => by
    simp only [L_markText_b0, optK_bind, optK_bif, optK_pure, optK_none, optK_oc, optK_guardT, optK_map] at h
    refine hold_of h ?_
    kernel_rfl) (by kernel_rfl)
def L_markText_cu (k : Nat) : Cuts D := ⟨[(0, some (L_markText_b0_cut k))], []⟩
def L_markText_ar : List Ar := [.c (.ki .i64)]
def L_markText_f (k : Nat) (x : TupA D L_markText_ar) : Option ((List UInt8)) := L_markText k x.1
def L_markText_vr (r : (List UInt8)) : VR D := .p (.c (.str r))
theorem L_markText_ok (k : Nat) : Does P X 97 L_markText_ar (L_markText_f k) L_markText_vr :=
  does_of (body := bodyOf Go.Proofs.Tryd.f97) (pl := L_markText_pl) (k := k) (cu := L_markText_cu k) (tys := [[0]]) (L_markText_ck k) ctx mixed Go.Proofs.Tryd.func97 (by kernel_rfl) (by kernel_rfl) (cutOK_of (l := [(L_markText_b0_cut k, sub (bodyOf Go.Proofs.Tryd.f97) [1, 1, 1, 0])]) (by kernel_rfl) ⟨L_markText_b0_ok k, trivial⟩) fun x R h => by
    simp only [L_markText_f, L_markText, optK_bind, optK_bif, optK_pure, optK_none, optK_oc, optK_guardT, optK_map] at h
    refine hold_of h ?_
    kernel_rfl
def L_markText_en (k : Nat) : Entry D := entS L_markText_ar (L_markText_f k) L_markText_vr
theorem L_markText_eo (k : Nat) : EntryOK X 97 (L_markText_en k) := (L_markText_ok k).en rfl
def L_markFieldS_pl : Plan := ⟨[(0, [(0, some 84), (1, none)]), (1, [(0, some 84), (1, none), (5, none)]), (2, [(0, some 84), (1, none), (5, none), (9, none)]), (3, [(0, some 84), (1, none), (5, none)]), (4, [(0, some 84), (1, none), (5, none)]), (5, [(0, some 84), (1, none), (5, none)]), (6, [(0, some 84), (1, none), (5, none)]), (7, [(0, some 84), (1, none), (5, none)]), (8, [(0, some 84), (4, none)])],
  [(0, [(0, some 84), (1, none)]), (1, [(0, some 84), (1, none), (5, none)])],
  [(9, ([(0, some 84), (1, none), (5, none)], [(0, some 84), (1, none)]))]⟩
def L_markFieldS_cl (k : Nat) : Calls' D := ⟨[(97, L_markText_en k)], []⟩
theorem L_markFieldS_ck (k : Nat) : CallsOK X (L_markFieldS_cl k) := .cons (L_markText_eo k) (.nil cod)
def L_markFieldS_b0_L (x : Int × Int × (List IField) × Unit) (o : Int × (List IField)) (Q : Ex → VSt D → Prop) (R : VR D → Prop) : Prop := Q .normal (mkSt ⟨[(0, .ref 500000), (1, .hole)], [(500000, .row)]⟩ [.int .i64 o.1, .sl 84 o.2])
def L_markFieldS_b0_cut (k : Nat) : Cut D := cutS ⟨[(0, .ref 500000), (1, .hole), (5, .hole)], [(500000, .row)]⟩ [.ki .i64, .ki .i64, .kl 84] (fun (x : Int × Int × (List IField) × Unit) => L_markFieldS_b0 k k x.1 x.2.1 x.2.2.1) L_markFieldS_b0_L
def L_markFieldS_b0_cu (k : Nat) : Cuts D := ⟨[], []⟩
theorem L_markFieldS_b0_ok (k : Nat) : CutFor X L_markFieldS_pl k [.tmp 4, .tmp 0] (L_markFieldS_b0_cut k) (sub (bodyOf Go.Proofs.Tryd.f44) [1, 0, 1]) :=
  loopCut_s (X := X) (sg := [.ki .i64, .ki .i64, .kl 84]) (cu := L_markFieldS_b0_cu k) (cl := L_markFieldS_cl k) (tys := [[0], [84]]) (id := 0) (c := sub (bodyOf Go.Proofs.Tryd.f44) [1, 0, 1, 0, 0]) (f := fun n => fun (x : Int × Int × (List IField) × Unit) => L_markFieldS_b0 k n x.1 x.2.1 x.2.2.1) (L_markFieldS_ck k) (cutOK_of (l := []) (by kernel_rfl) trivial) (fun _ => rfl) (fun n x Q R h => by
    simp only [L_markFieldS_b0, optK_bind, optK_bif, optK_pure, optK_none, optK_oc, optK_guardT, optK_map] at h
    refine hold_of h ?_
    kernel_rfl) (by kernel_rfl)
def L_markFieldS_cu (k : Nat) : Cuts D := ⟨[(0, some (L_markFieldS_b0_cut k))], []⟩
def L_markFieldS_f (k : Nat) : ArT D (.c (.kl 84)) → Int → Option (Int × ArT D (.c (.kl 84))) := fun x n => L_markFieldS k x n
theorem L_markFieldS_ok (k : Nat) : DoesW P X 44 (.c (.kl 84)) (L_markFieldS_f k) :=
  doesW_of (r0 := 4) (body := bodyOf Go.Proofs.Tryd.f44) (pl := L_markFieldS_pl) (k := k) (cu := L_markFieldS_cu k) (tys := [[0], [84]]) (L_markFieldS_ck k) ctx mixed Go.Proofs.Tryd.func44 (by kernel_rfl) (by kernel_rfl) (by kernel_rfl) (by kernel_rfl) (cutOK_of (l := [(L_markFieldS_b0_cut k, sub (bodyOf Go.Proofs.Tryd.f44) [1, 0, 1])]) (by kernel_rfl) ⟨L_markFieldS_b0_ok k, trivial⟩) fun x n R h => by
    simp only [L_markFieldS_f, L_markFieldS, optK_bind, optK_bif, optK_pure, optK_none, optK_oc, optK_guardT, optK_map] at h
    refine hold_of h ?_
    kernel_rfl
def L_markFieldS_en (k : Nat) : EntryW D := entW (.c (.kl 84)) (L_markFieldS_f k)
theorem L_markFieldS_eo (k : Nat) : EntryWOK X 44 (L_markFieldS_en k) := (L_markFieldS_ok k).en rfl
def L_markResponse_pl : Plan := ⟨[(0, [(0, none), (1, none), (2, none)]), (1, [(0, none), (1, none)]), (2, [(0, none), (4, none)])],
  [],
  []⟩
def L_markResponse_cl (k : Nat) : Calls' D := ⟨[], [(44, L_markFieldS_en k)]⟩
theorem L_markResponse_ck (k : Nat) : CallsOK X (L_markResponse_cl k) := .consW (L_markFieldS_eo k) (.nil cod)
def L_markResponse_cu (k : Nat) : Cuts D := ⟨[], []⟩
theorem L_markResponse_ok (k : Nat) : DoesW P X 20 (.a [.ki .i64, .kl 84, .ks]) (L_markResponse_f k) :=
  doesW_of (r0 := 4) (body := bodyOf Go.Proofs.Tryd.f20) (pl := L_markResponse_pl) (k := k) (cu := L_markResponse_cu k) (tys := [[0], [0, 84, 0]]) (L_markResponse_ck k) ctx mixed Go.Proofs.Tryd.func20 (by kernel_rfl) (by kernel_rfl) (by kernel_rfl) (by kernel_rfl) (cutOK_of (l := []) (by kernel_rfl) trivial) fun x n R h => by
    simp only [L_markResponse_f, L_markResponse, optK_bind, optK_bif, optK_pure, optK_none, optK_oc, optK_guardT, optK_map] at h
    refine hold_of h ?_
    kernel_rfl
def L_markResponse_en (k : Nat) : EntryW D := entW (.a [.ki .i64, .kl 84, .ks]) (L_markResponse_f k)
theorem L_markResponse_eo (k : Nat) : EntryWOK X 20 (L_markResponse_en k) := (L_markResponse_ok k).en rfl
def L_heldFieldS_pl : Plan := ⟨[(0, [(0, some 84), (1, none)]), (1, [(0, some 84), (1, none), (5, none)]), (2, [(0, some 84), (1, none), (5, none), (9, none)]), (3, [(0, some 84), (1, none), (5, none)]), (4, [(0, some 84), (1, none), (5, none), (19, none)]), (5, [(4, none)]), (6, [(0, some 84), (1, none), (5, none)]), (7, [(0, some 84), (1, none), (5, none), (29, none)]), (8, [(4, none)]), (9, [(0, some 84), (1, none), (5, none)]), (10, [(4, none)])],
  [(0, [(1, none)]), (1, [(0, some 84), (1, none), (5, none)])],
  [(9, ([(0, some 84), (1, none), (5, none)], [(1, none)])), (19, ([], [(0, some 84), (1, none), (5, none)])), (29, ([], [(0, some 84), (1, none), (5, none)]))]⟩
def L_heldFieldS_cl (k : Nat) : Calls' D := ⟨[(97, L_markText_en k)], []⟩
theorem L_heldFieldS_ck (k : Nat) : CallsOK X (L_heldFieldS_cl k) := .cons (L_markText_eo k) (.nil cod)
def L_heldFieldS_b0_L (x : (List IField) × Int × Int × Unit) (o : Oc (Int) (Int)) (Q : Ex → VSt D → Prop) (R : VR D → Prop) : Prop := ocP o (fun v0 => Q .normal (mkSt ⟨[(1, .hole)], []⟩ [.int .i64 v0])) (fun w0 => R (.p (.c (.int .i64 w0))))
def L_heldFieldS_b0_cut (k : Nat) : Cut D := cutS ⟨[(0, .hole), (1, .hole), (5, .hole)], []⟩ [.kl 84, .ki .i64, .ki .i64] (fun (x : (List IField) × Int × Int × Unit) => L_heldFieldS_b0 k k x.1 x.2.1 x.2.2.1) L_heldFieldS_b0_L
def L_heldFieldS_b0_cu (k : Nat) : Cuts D := ⟨[], []⟩
theorem L_heldFieldS_b0_ok (k : Nat) : CutFor X L_heldFieldS_pl k Go.Proofs.Tryd.f52.results.toList (L_heldFieldS_b0_cut k) (sub (bodyOf Go.Proofs.Tryd.f52) [1, 0, 1]) :=
  loopCut_s (X := X) (sg := [.kl 84, .ki .i64, .ki .i64]) (cu := L_heldFieldS_b0_cu k) (cl := L_heldFieldS_cl k) (tys := [[0]]) (id := 0) (c := sub (bodyOf Go.Proofs.Tryd.f52) [1, 0, 1, 0, 0]) (f := fun n => fun (x : (List IField) × Int × Int × Unit) => L_heldFieldS_b0 k n x.1 x.2.1 x.2.2.1) (L_heldFieldS_ck k) (cutOK_of (l := []) (by kernel_rfl) trivial) (fun _ => rfl) (fun n x Q R h => by
    simp only [L_heldFieldS_b0, optK_bind, optK_bif, optK_pure, optK_none, optK_oc, optK_guardT, optK_map] at h
    refine hold_of h ?_
    kernel_rfl) (by kernel_rfl)
def L_heldFieldS_cu (k : Nat) : Cuts D := ⟨[(0, some (L_heldFieldS_b0_cut k))], []⟩
def L_heldFieldS_ar : List Ar := [.c (.kl 84), .c (.ki .i64)]
def L_heldFieldS_f (k : Nat) (x : TupA D L_heldFieldS_ar) : Option (Int) := L_heldFieldS k x.1 x.2.1
def L_heldFieldS_vr (r : Int) : VR D := .p (.c (.int .i64 r))
theorem L_heldFieldS_ok (k : Nat) : Does P X 52 L_heldFieldS_ar (L_heldFieldS_f k) L_heldFieldS_vr :=
  does_of (body := bodyOf Go.Proofs.Tryd.f52) (pl := L_heldFieldS_pl) (k := k) (cu := L_heldFieldS_cu k) (tys := [[0]]) (L_heldFieldS_ck k) ctx mixed Go.Proofs.Tryd.func52 (by kernel_rfl) (by kernel_rfl) (cutOK_of (l := [(L_heldFieldS_b0_cut k, sub (bodyOf Go.Proofs.Tryd.f52) [1, 0, 1])]) (by kernel_rfl) ⟨L_heldFieldS_b0_ok k, trivial⟩) fun x R h => by
    simp only [L_heldFieldS_f, L_heldFieldS, optK_bind, optK_bif, optK_pure, optK_none, optK_oc, optK_guardT, optK_map] at h
    refine hold_of h ?_
    kernel_rfl
def L_heldFieldS_en (k : Nat) : Entry D := entS L_heldFieldS_ar (L_heldFieldS_f k) L_heldFieldS_vr
theorem L_heldFieldS_eo (k : Nat) : EntryOK X 52 (L_heldFieldS_en k) := (L_heldFieldS_ok k).en rfl
def L_heldResponse_pl : Plan := ⟨[(0, [(1, none), (2, none)]), (1, [(1, none)]), (2, [(1, none), (10, none)]), (3, [(4, none)]), (4, [(4, none)])],
  [],
  [(10, ([], [(1, none)]))]⟩
def L_heldResponse_cl (k : Nat) : Calls' D := ⟨[(52, L_heldFieldS_en k)], []⟩
theorem L_heldResponse_ck (k : Nat) : CallsOK X (L_heldResponse_cl k) := .cons (L_heldFieldS_eo k) (.nil cod)
def L_heldResponse_cu (k : Nat) : Cuts D := ⟨[], []⟩
def L_heldResponse_ar : List Ar := [.a [.ki .i64, .kl 84, .ks], .c (.ki .i64)]
def L_heldResponse_f (k : Nat) (x : TupA D L_heldResponse_ar) : Option (Int) := L_heldResponse k (⟨x.1.1, x.1.2.1, x.1.2.2.1⟩ : IResponse) x.2.1
def L_heldResponse_vr (r : Int) : VR D := .p (.c (.int .i64 r))
theorem L_heldResponse_ok (k : Nat) : Does P X 21 L_heldResponse_ar (L_heldResponse_f k) L_heldResponse_vr :=
  does_of (body := bodyOf Go.Proofs.Tryd.f21) (pl := L_heldResponse_pl) (k := k) (cu := L_heldResponse_cu k) (tys := [[0]]) (L_heldResponse_ck k) ctx mixed Go.Proofs.Tryd.func21 (by kernel_rfl) (by kernel_rfl) (cutOK_of (l := []) (by kernel_rfl) trivial) fun x R h => by
    simp only [L_heldResponse_f, L_heldResponse, optK_bind, optK_bif, optK_pure, optK_none, optK_oc, optK_guardT, optK_map] at h
    refine hold_of h ?_
    kernel_rfl
def L_heldResponse_en (k : Nat) : Entry D := entS L_heldResponse_ar (L_heldResponse_f k) L_heldResponse_vr
theorem L_heldResponse_eo (k : Nat) : EntryOK X 21 (L_heldResponse_en k) := (L_heldResponse_ok k).en rfl
def L_FnExactWithAge_pl : Plan := ⟨[(0, [(1, none), (2, none)]), (1, [(1, none), (2, none), (5, none)]), (2, [(1, none), (2, none), (5, none)]), (3, [(1, none), (2, none), (17, none)]), (4, [(4, none)]), (5, [(1, none), (2, none), (6, none)]), (6, [(1, none), (2, none), (6, none), (7, none)]), (7, [(1, none), (2, none), (6, none), (7, none), (8, none)]), (8, [(1, none), (2, none), (6, none), (7, none), (8, none), (30, none)]), (9, [(4, none)]), (10, [(1, none), (2, none), (6, none), (7, none), (8, none), (35, none)]), (11, [(4, none)]), (12, [(1, none), (2, none), (6, none), (7, none), (8, none), (9, none)]), (13, [(1, none), (2, none), (6, none), (8, none), (9, none)]), (14, [(1, none), (2, none), (6, none), (8, none), (46, none)]), (15, [(4, none)]), (16, [(1, none), (2, none), (6, none), (8, none), (10, none)]), (17, [(1, none), (2, none), (6, none), (8, none), (10, none)]), (18, [(1, none), (2, none), (6, none), (8, none), (10, none), (11, none)]), (19, [(1, none), (2, none), (6, none), (8, none), (10, none), (11, none)]), (20, [(1, none), (2, none), (6, none), (8, none), (10, none), (11, none), (54, none)]), (21, [(4, none)]), (22, [(1, none), (2, none), (6, none), (8, none), (10, none), (57, none)]), (23, [(4, none)]), (24, [(6, none), (8, none), (10, none), (12, none)]), (25, [(8, none), (10, none), (65, none)]), (26, [(4, none)]), (27, [(8, none), (10, none), (11, none)]), (28, [(10, none), (11, none)]), (29, [(10, none), (11, none), (70, none)]), (30, [(4, none)]), (31, [(73, none)]), (32, [(4, none)]), (33, [(4, none)])],
  [],
  [(17, ([], [(1, none), (2, none)])), (30, ([], [(1, none), (2, none), (6, none), (7, none), (8, none)])), (35, ([], [(1, none), (2, none), (6, none), (7, none), (8, none)])), (46, ([], [(1, none), (2, none), (6, none), (8, none)])), (54, ([], [(1, none), (2, none), (6, none), (8, none), (10, none), (11, none)])), (57, ([], [(1, none), (2, none), (6, none), (8, none), (10, none)])), (65, ([], [(8, none), (10, none)])), (70, ([], [(10, none), (11, none)])), (73, ([], []))]⟩
def L_FnExactWithAge_cl (k : Nat) : Calls' D := ⟨[(15, L_szResponse_en k), (17, L_toResponse_en k), (16, S_WithAge_en k), (18, I_WithAge_en k), (19, L_eqResponse_en k), (21, L_heldResponse_en k)], [(20, L_markResponse_en k)]⟩
theorem L_FnExactWithAge_ck (k : Nat) : CallsOK X (L_FnExactWithAge_cl k) := .cons (L_szResponse_eo k) (.cons (L_toResponse_eo k) (.cons (S_WithAge_eo k) (.cons (I_WithAge_eo k) (.cons (L_eqResponse_eo k) (.cons (L_heldResponse_eo k) (.consW (L_markResponse_eo k) (.nil cod)))))))
def L_FnExactWithAge_cu (k : Nat) : Cuts D := ⟨[], []⟩
def L_FnExactWithAge_ar : List Ar := [.a [.ki .i64, .kl 93, .ks], .c (.ki .i64)]
def L_FnExactWithAge_f (k : Nat) (x : TupA D L_FnExactWithAge_ar) : Option (Bool) := L_FnExactWithAge k (⟨x.1.1, x.1.2.1, x.1.2.2.1⟩ : LResponse) x.2.1
def L_FnExactWithAge_vr (r : Bool) : VR D := .p (.c (.bool r))
theorem L_FnExactWithAge_ok (k : Nat) : Does P X 3 L_FnExactWithAge_ar (L_FnExactWithAge_f k) L_FnExactWithAge_vr :=
  does_of (body := bodyOf Go.Proofs.Tryd.f3) (pl := L_FnExactWithAge_pl) (k := k) (cu := L_FnExactWithAge_cu k) (tys := [[0]]) (L_FnExactWithAge_ck k) ctx mixed Go.Proofs.Tryd.func3 (by kernel_rfl) (by kernel_rfl) (cutOK_of (l := []) (by kernel_rfl) trivial) fun x R h => by
    simp only [L_FnExactWithAge_f, L_FnExactWithAge, optK_bind, optK_bif, optK_pure, optK_none, optK_oc, optK_guardT, optK_map] at h
    refine hold_of h ?_
    kernel_rfl
def L_FnExactWithAge_en (k : Nat) : Entry D := entS L_FnExactWithAge_ar (L_FnExactWithAge_f k) L_FnExactWithAge_vr
theorem L_FnExactWithAge_eo (k : Nat) : EntryOK X 3 (L_FnExactWithAge_en k) := (L_FnExactWithAge_ok k).en rfl

end
end Go.YtdninebapdohkabDoor
