/- The machine computes the functions. Nothing is claimed here. -/
import Derived.Test.YtilbenelefdihaaKf
set_option linter.unusedVariables false
set_option linter.unusedSimpArgs false
set_option maxRecDepth 100000
namespace Go.Ytilbenelefdihaa
open Go Go.RowKit Go.Pv
noncomputable section

def L_szField_pl : Plan := ⟨[(0, [(1, none), (2, none)]), (1, [(1, none), (2, none)]), (2, [(1, none), (2, none), (11, none)]), (3, [(4, none)]), (4, [(1, none)]), (5, [(1, none), (18, none)]), (6, [(4, none)]), (7, [(4, none)])],
  [],
  [(11, ([], [(1, none), (2, none)])), (18, ([], [(1, none)]))]⟩
def L_szField_cl (k : Nat) : Calls' D := ⟨[], []⟩
theorem L_szField_ck (k : Nat) : CallsOK X (L_szField_cl k) := .nil cod
def L_szField_cu (k : Nat) : Cuts D := ⟨[], []⟩
def L_szField_ar : List Ar := [.a [.ks, .ks], .c (.ki .i64)]
def L_szField_f (k : Nat) (x : TupA D L_szField_ar) : Option (Int) := L_szField k (⟨x.1.1, x.1.2.1⟩ : LField) x.2.1
def L_szField_vr (r : Int) : VR D := .p (.c (.int .i64 r))
theorem L_szField_ok (k : Nat) : Does P X 81 L_szField_ar (L_szField_f k) L_szField_vr :=
  does_of (body := bodyOf Go.Proofs.Try.f81) (pl := L_szField_pl) (k := k) (cu := L_szField_cu k) (tys := [[0]]) (L_szField_ck k) ctx mixed Go.Proofs.Try.func81 (by kernel_rfl) (by kernel_rfl) (cutOK_of (l := []) (by kernel_rfl) trivial) fun x R h => by
    simp only [L_szField_f, L_szField, optK_bind, optK_bif, optK_pure, optK_none, optK_oc, optK_guardT, optK_map] at h
    refine hold_of h ?_
    kernel_rfl
def L_szField_en (k : Nat) : Entry D := entS L_szField_ar (L_szField_f k) L_szField_vr
theorem L_szField_eo (k : Nat) : EntryOK X 81 (L_szField_en k) := (L_szField_ok k).en rfl
def L_szFieldS_pl : Plan := ⟨[(0, [(0, some 103), (1, none)]), (1, [(0, some 103), (1, none)]), (2, [(0, some 103), (1, none), (11, none)]), (3, [(4, none)]), (4, [(0, some 103), (1, none), (5, none)]), (5, [(0, some 103), (1, none), (5, none), (15, none)]), (6, [(0, some 103), (1, none), (5, none)]), (7, [(0, some 103), (1, none), (5, none)]), (8, [(0, some 103), (1, none), (5, none), (25, none)]), (9, [(4, none)]), (10, [(4, none)])],
  [(0, [(1, none)]), (1, [(0, some 103), (1, none), (5, none)])],
  [(11, ([], [(0, some 103), (1, none)])), (15, ([(0, some 103), (1, none), (5, none)], [(1, none)])), (25, ([], [(0, some 103), (1, none), (5, none)]))]⟩
def L_szFieldS_cl (k : Nat) : Calls' D := ⟨[(81, L_szField_en k)], []⟩
theorem L_szFieldS_ck (k : Nat) : CallsOK X (L_szFieldS_cl k) := .cons (L_szField_eo k) (.nil cod)
def L_szFieldS_b0_L (x : (List LField) × Int × Int × Unit) (o : Oc (Int) (Int)) (Q : Ex → VSt D → Prop) (R : VR D → Prop) : Prop := ocP o (fun v0 => Q .normal (mkSt ⟨[(1, .hole)], []⟩ [.int .i64 v0])) (fun w0 => R (.p (.c (.int .i64 w0))))
def L_szFieldS_b0_cut (k : Nat) : Cut D := cutS ⟨[(0, .hole), (1, .hole), (5, .hole)], []⟩ [.kl 103, .ki .i64, .ki .i64] (fun (x : (List LField) × Int × Int × Unit) => L_szFieldS_b0 k k x.1 x.2.1 x.2.2.1) L_szFieldS_b0_L
def L_szFieldS_b0_cu (k : Nat) : Cuts D := ⟨[], []⟩
theorem L_szFieldS_b0_ok (k : Nat) : CutFor X L_szFieldS_pl k Go.Proofs.Try.f73.results.toList (L_szFieldS_b0_cut k) (sub (bodyOf Go.Proofs.Try.f73) [1, 1, 1, 0, 1]) :=
  loopCut_s (X := X) (sg := [.kl 103, .ki .i64, .ki .i64]) (cu := L_szFieldS_b0_cu k) (cl := L_szFieldS_cl k) (tys := [[0]]) (id := 0) (c := sub (bodyOf Go.Proofs.Try.f73) [1, 1, 1, 0, 1, 0, 0]) (f := fun n => fun (x : (List LField) × Int × Int × Unit) => L_szFieldS_b0 k n x.1 x.2.1 x.2.2.1) (L_szFieldS_ck k) (cutOK_of (l := []) (by kernel_rfl) trivial) (fun _ => rfl) (fun n x Q R h => by
    simp only [L_szFieldS_b0, optK_bind, optK_bif, optK_pure, optK_none, optK_oc, optK_guardT, optK_map] at h
    refine hold_of h ?_
    kernel_rfl) (by kernel_rfl)
def L_szFieldS_cu (k : Nat) : Cuts D := ⟨[(0, some (L_szFieldS_b0_cut k))], []⟩
def L_szFieldS_ar : List Ar := [.c (.kl 103), .c (.ki .i64)]
def L_szFieldS_f (k : Nat) (x : TupA D L_szFieldS_ar) : Option (Int) := L_szFieldS k x.1 x.2.1
def L_szFieldS_vr (r : Int) : VR D := .p (.c (.int .i64 r))
theorem L_szFieldS_ok (k : Nat) : Does P X 73 L_szFieldS_ar (L_szFieldS_f k) L_szFieldS_vr :=
  does_of (body := bodyOf Go.Proofs.Try.f73) (pl := L_szFieldS_pl) (k := k) (cu := L_szFieldS_cu k) (tys := [[0]]) (L_szFieldS_ck k) ctx mixed Go.Proofs.Try.func73 (by kernel_rfl) (by kernel_rfl) (cutOK_of (l := [(L_szFieldS_b0_cut k, sub (bodyOf Go.Proofs.Try.f73) [1, 1, 1, 0, 1])]) (by kernel_rfl) ⟨L_szFieldS_b0_ok k, trivial⟩) fun x R h => by
    simp only [L_szFieldS_f, L_szFieldS, optK_bind, optK_bif, optK_pure, optK_none, optK_oc, optK_guardT, optK_map] at h
    refine hold_of h ?_
    kernel_rfl
def L_szFieldS_en (k : Nat) : Entry D := entS L_szFieldS_ar (L_szFieldS_f k) L_szFieldS_vr
theorem L_szFieldS_eo (k : Nat) : EntryOK X 73 (L_szFieldS_en k) := (L_szFieldS_ok k).en rfl
def L_szResponse_pl : Plan := ⟨[(0, [(1, none), (2, none)]), (1, [(1, none), (2, none)]), (2, [(1, none), (2, none), (10, none)]), (3, [(4, none)]), (4, [(1, none)]), (5, [(1, none), (17, none)]), (6, [(4, none)]), (7, [(4, none)])],
  [],
  [(10, ([], [(1, none), (2, none)])), (17, ([], [(1, none)]))]⟩
def L_szResponse_cl (k : Nat) : Calls' D := ⟨[(73, L_szFieldS_en k)], []⟩
theorem L_szResponse_ck (k : Nat) : CallsOK X (L_szResponse_cl k) := .cons (L_szFieldS_eo k) (.nil cod)
def L_szResponse_cu (k : Nat) : Cuts D := ⟨[], []⟩
def L_szResponse_ar : List Ar := [.a [.ki .i64, .kl 103, .ks], .c (.ki .i64)]
def L_szResponse_f (k : Nat) (x : TupA D L_szResponse_ar) : Option (Int) := L_szResponse k (⟨x.1.1, x.1.2.1, x.1.2.2.1⟩ : LResponse) x.2.1
def L_szResponse_vr (r : Int) : VR D := .p (.c (.int .i64 r))
theorem L_szResponse_ok (k : Nat) : Does P X 45 L_szResponse_ar (L_szResponse_f k) L_szResponse_vr :=
  does_of (body := bodyOf Go.Proofs.Try.f45) (pl := L_szResponse_pl) (k := k) (cu := L_szResponse_cu k) (tys := [[0]]) (L_szResponse_ck k) ctx mixed Go.Proofs.Try.func45 (by kernel_rfl) (by kernel_rfl) (cutOK_of (l := []) (by kernel_rfl) trivial) fun x R h => by
    simp only [L_szResponse_f, L_szResponse, optK_bind, optK_bif, optK_pure, optK_none, optK_oc, optK_guardT, optK_map] at h
    refine hold_of h ?_
    kernel_rfl
def L_szResponse_en (k : Nat) : Entry D := entS L_szResponse_ar (L_szResponse_f k) L_szResponse_vr
theorem L_szResponse_eo (k : Nat) : EntryOK X 45 (L_szResponse_en k) := (L_szResponse_ok k).en rfl
def L_toField_pl : Plan := ⟨[(0, [(1, none), (2, none)]), (1, [(1, none), (2, none), (3, none)]), (2, [(1, none), (2, none), (3, none)]), (3, [(2, none), (3, none)]), (4, [(2, none)])],
  [],
  []⟩
def L_toField_cl (k : Nat) : Calls' D := ⟨[], []⟩
theorem L_toField_ck (k : Nat) : CallsOK X (L_toField_cl k) := .nil cod
def L_toField_cu (k : Nat) : Cuts D := ⟨[], []⟩
def L_toField_ar : List Ar := [.a [.ks, .ks]]
def L_toField_f (k : Nat) (x : TupA D L_toField_ar) : Option (IField) := L_toField k (⟨x.1.1, x.1.2.1⟩ : LField)
def L_toField_vr (r : IField) : VR D := .p (.agg [.str r.Name, .str r.Value])
theorem L_toField_ok (k : Nat) : Does P X 82 L_toField_ar (L_toField_f k) L_toField_vr :=
  does_of (body := bodyOf Go.Proofs.Try.f82) (pl := L_toField_pl) (k := k) (cu := L_toField_cu k) (tys := [[0, 0]]) (L_toField_ck k) ctx mixed Go.Proofs.Try.func82 (by kernel_rfl) (by kernel_rfl) (cutOK_of (l := []) (by kernel_rfl) trivial) fun x R h => by
    simp only [L_toField_f, L_toField, optK_bind, optK_bif, optK_pure, optK_none, optK_oc, optK_guardT, optK_map] at h
    refine hold_of h ?_
    kernel_rfl
def L_toField_en (k : Nat) : Entry D := entS L_toField_ar (L_toField_f k) L_toField_vr
theorem L_toField_eo (k : Nat) : EntryOK X 82 (L_toField_en k) := (L_toField_ok k).en rfl
def L_toFieldS_pl : Plan := ⟨[(0, [(0, some 103)]), (1, [(0, some 103), (3, some 104)]), (2, [(0, some 103), (3, some 104), (4, none)]), (3, [(0, some 103), (3, some 104), (4, none), (11, none)]), (4, [(0, some 103), (3, some 104), (4, none)]), (5, [(0, some 103), (3, some 104), (4, none)]), (6, [(2, some 104)])],
  [(0, [(3, some 104)]), (1, [(0, some 103), (3, some 104), (4, none)])],
  [(11, ([(0, some 103), (3, some 104), (4, none)], [(3, some 104)]))]⟩
def L_toFieldS_cl (k : Nat) : Calls' D := ⟨[(82, L_toField_en k)], []⟩
theorem L_toFieldS_ck (k : Nat) : CallsOK X (L_toFieldS_cl k) := .cons (L_toField_eo k) (.nil cod)
def L_toFieldS_b0_L (x : (List LField) × Int × (List IField) × Unit) (o : (List IField)) (Q : Ex → VSt D → Prop) (R : VR D → Prop) : Prop := Q .normal (mkSt ⟨[(3, .ref 500003)], [(500003, .row)]⟩ [.sl 104 o])
def L_toFieldS_b0_cut (k : Nat) : Cut D := cutS ⟨[(0, .hole), (3, .ref 500003), (4, .hole)], [(500003, .row)]⟩ [.kl 103, .ki .i64, .kl 104] (fun (x : (List LField) × Int × (List IField) × Unit) => L_toFieldS_b0 k k x.1 x.2.1 x.2.2.1) L_toFieldS_b0_L
def L_toFieldS_b0_cu (k : Nat) : Cuts D := ⟨[], []⟩
theorem L_toFieldS_b0_ok (k : Nat) : CutFor X L_toFieldS_pl k Go.Proofs.Try.f75.results.toList (L_toFieldS_b0_cut k) (sub (bodyOf Go.Proofs.Try.f75) [1, 1, 0, 1]) :=
  loopCut_s (X := X) (sg := [.kl 103, .ki .i64, .kl 104]) (cu := L_toFieldS_b0_cu k) (cl := L_toFieldS_cl k) (tys := [[104]]) (id := 0) (c := sub (bodyOf Go.Proofs.Try.f75) [1, 1, 0, 1, 0, 0]) (f := fun n => fun (x : (List LField) × Int × (List IField) × Unit) => L_toFieldS_b0 k n x.1 x.2.1 x.2.2.1) (L_toFieldS_ck k) (cutOK_of (l := []) (by kernel_rfl) trivial) (fun _ => rfl) (fun n x Q R h => by
    simp only [L_toFieldS_b0, optK_bind, optK_bif, optK_pure, optK_none, optK_oc, optK_guardT, optK_map] at h
    refine hold_of h ?_
    kernel_rfl) (by kernel_rfl)
def L_toFieldS_cu (k : Nat) : Cuts D := ⟨[(0, some (L_toFieldS_b0_cut k))], []⟩
def L_toFieldS_ar : List Ar := [.c (.kl 103)]
def L_toFieldS_f (k : Nat) (x : TupA D L_toFieldS_ar) : Option ((List IField)) := L_toFieldS k x.1
def L_toFieldS_vr (r : (List IField)) : VR D := .p (.c (.sl 104 r))
theorem L_toFieldS_ok (k : Nat) : Does P X 75 L_toFieldS_ar (L_toFieldS_f k) L_toFieldS_vr :=
  does_of (body := bodyOf Go.Proofs.Try.f75) (pl := L_toFieldS_pl) (k := k) (cu := L_toFieldS_cu k) (tys := [[104]]) (L_toFieldS_ck k) ctx mixed Go.Proofs.Try.func75 (by kernel_rfl) (by kernel_rfl) (cutOK_of (l := [(L_toFieldS_b0_cut k, sub (bodyOf Go.Proofs.Try.f75) [1, 1, 0, 1])]) (by kernel_rfl) ⟨L_toFieldS_b0_ok k, trivial⟩) fun x R h => by
    simp only [L_toFieldS_f, L_toFieldS, optK_bind, optK_bif, optK_pure, optK_none, optK_oc, optK_guardT, optK_map] at h
    refine hold_of h ?_
    kernel_rfl
def L_toFieldS_en (k : Nat) : Entry D := entS L_toFieldS_ar (L_toFieldS_f k) L_toFieldS_vr
theorem L_toFieldS_eo (k : Nat) : EntryOK X 75 (L_toFieldS_en k) := (L_toFieldS_ok k).en rfl
def L_toResponse_pl : Plan := ⟨[(0, [(1, none), (2, none)]), (1, [(1, none), (2, none), (3, none)]), (2, [(1, none), (2, none), (3, none)]), (3, [(1, none), (2, none), (3, none)]), (4, [(2, none), (3, none)]), (5, [(2, none)])],
  [],
  []⟩
def L_toResponse_cl (k : Nat) : Calls' D := ⟨[(75, L_toFieldS_en k)], []⟩
theorem L_toResponse_ck (k : Nat) : CallsOK X (L_toResponse_cl k) := .cons (L_toFieldS_eo k) (.nil cod)
def L_toResponse_cu (k : Nat) : Cuts D := ⟨[], []⟩
def L_toResponse_ar : List Ar := [.a [.ki .i64, .kl 103, .ks]]
def L_toResponse_f (k : Nat) (x : TupA D L_toResponse_ar) : Option (IResponse) := L_toResponse k (⟨x.1.1, x.1.2.1, x.1.2.2.1⟩ : LResponse)
def L_toResponse_vr (r : IResponse) : VR D := .p (.agg [.int .i64 r.Code, .sl 104 r.Fields, .str r.Body])
theorem L_toResponse_ok (k : Nat) : Does P X 47 L_toResponse_ar (L_toResponse_f k) L_toResponse_vr :=
  does_of (body := bodyOf Go.Proofs.Try.f47) (pl := L_toResponse_pl) (k := k) (cu := L_toResponse_cu k) (tys := [[0, 104, 0]]) (L_toResponse_ck k) ctx mixed Go.Proofs.Try.func47 (by kernel_rfl) (by kernel_rfl) (cutOK_of (l := []) (by kernel_rfl) trivial) fun x R h => by
    simp only [L_toResponse_f, L_toResponse, optK_bind, optK_bif, optK_pure, optK_none, optK_oc, optK_guardT, optK_map] at h
    refine hold_of h ?_
    kernel_rfl
def L_toResponse_en (k : Nat) : Entry D := entS L_toResponse_ar (L_toResponse_f k) L_toResponse_vr
theorem L_toResponse_eo (k : Nat) : EntryOK X 47 (L_toResponse_en k) := (L_toResponse_ok k).en rfl
def S_SameFields_pl : Plan := ⟨[(0, [(0, some 104), (1, some 104)]), (1, [(0, some 104), (1, some 104), (10, none)]), (2, [(4, none)]), (3, [(0, some 104), (1, some 104), (5, none)]), (4, [(0, some 104), (1, some 104), (5, none), (14, none)]), (5, [(0, some 104), (1, some 104), (5, none)]), (6, [(0, some 104), (1, some 104), (5, none), (25, none)]), (7, [(4, none)]), (8, [(4, none)])],
  [(0, []), (1, [(0, some 104), (1, some 104), (5, none)])],
  [(10, ([], [(0, some 104), (1, some 104)])), (14, ([(0, some 104), (1, some 104), (5, none)], [])), (25, ([], [(0, some 104), (1, some 104), (5, none)]))]⟩
def S_SameFields_cl (k : Nat) : Calls' D := ⟨[], []⟩
theorem S_SameFields_ck (k : Nat) : CallsOK X (S_SameFields_cl k) := .nil cod
def S_SameFields_b0_L (x : (List IField) × (List IField) × Int × Unit) (o : Oc (Unit) (Bool)) (Q : Ex → VSt D → Prop) (R : VR D → Prop) : Prop := ocP o (fun v0 => Q .normal (mkSt ⟨[], []⟩ [])) (fun w0 => R (.p (.c (.bool w0))))
def S_SameFields_b0_cut (k : Nat) : Cut D := cutS ⟨[(0, .hole), (1, .hole), (5, .hole)], []⟩ [.kl 104, .kl 104, .ki .i64] (fun (x : (List IField) × (List IField) × Int × Unit) => S_SameFields_b0 k k x.1 x.2.1 x.2.2.1) S_SameFields_b0_L
def S_SameFields_b0_cu (k : Nat) : Cuts D := ⟨[], []⟩
theorem S_SameFields_b0_ok (k : Nat) : CutFor X S_SameFields_pl k Go.Proofs.Try.f74.results.toList (S_SameFields_b0_cut k) (sub (bodyOf Go.Proofs.Try.f74) [1, 1, 0, 1]) :=
  loopCut_s (X := X) (sg := [.kl 104, .kl 104, .ki .i64]) (cu := S_SameFields_b0_cu k) (cl := S_SameFields_cl k) (tys := [[0]]) (id := 0) (c := sub (bodyOf Go.Proofs.Try.f74) [1, 1, 0, 1, 0, 0]) (f := fun n => fun (x : (List IField) × (List IField) × Int × Unit) => S_SameFields_b0 k n x.1 x.2.1 x.2.2.1) (S_SameFields_ck k) (cutOK_of (l := []) (by kernel_rfl) trivial) (fun _ => rfl) (fun n x Q R h => by
    simp only [S_SameFields_b0, optK_bind, optK_bif, optK_pure, optK_none, optK_oc, optK_guardT, optK_map] at h
    refine hold_of h ?_
    kernel_rfl) (by kernel_rfl)
def S_SameFields_cu (k : Nat) : Cuts D := ⟨[(0, some (S_SameFields_b0_cut k))], []⟩
def S_SameFields_ar : List Ar := [.c (.kl 104), .c (.kl 104)]
def S_SameFields_f (k : Nat) (x : TupA D S_SameFields_ar) : Option (Bool) := S_SameFields k x.1 x.2.1
def S_SameFields_vr (r : Bool) : VR D := .p (.c (.bool r))
theorem S_SameFields_ok (k : Nat) : Does P X 74 S_SameFields_ar (S_SameFields_f k) S_SameFields_vr :=
  does_of (body := bodyOf Go.Proofs.Try.f74) (pl := S_SameFields_pl) (k := k) (cu := S_SameFields_cu k) (tys := [[0]]) (S_SameFields_ck k) ctx mixed Go.Proofs.Try.func74 (by kernel_rfl) (by kernel_rfl) (cutOK_of (l := [(S_SameFields_b0_cut k, sub (bodyOf Go.Proofs.Try.f74) [1, 1, 0, 1])]) (by kernel_rfl) ⟨S_SameFields_b0_ok k, trivial⟩) fun x R h => by
    simp only [S_SameFields_f, S_SameFields, optK_bind, optK_bif, optK_pure, optK_none, optK_oc, optK_guardT, optK_map] at h
    refine hold_of h ?_
    kernel_rfl
def S_SameFields_en (k : Nat) : Entry D := entS S_SameFields_ar (S_SameFields_f k) S_SameFields_vr
theorem S_SameFields_eo (k : Nat) : EntryOK X 74 (S_SameFields_en k) := (S_SameFields_ok k).en rfl
def S_SameResponse_pl : Plan := ⟨[(0, [(2, none), (3, none)]), (1, [(4, none)])],
  [],
  []⟩
def S_SameResponse_cl (k : Nat) : Calls' D := ⟨[(74, S_SameFields_en k)], []⟩
theorem S_SameResponse_ck (k : Nat) : CallsOK X (S_SameResponse_cl k) := .cons (S_SameFields_eo k) (.nil cod)
def S_SameResponse_cu (k : Nat) : Cuts D := ⟨[], []⟩
def S_SameResponse_ar : List Ar := [.a [.ki .i64, .kl 104, .ks], .a [.ki .i64, .kl 104, .ks]]
def S_SameResponse_f (k : Nat) (x : TupA D S_SameResponse_ar) : Option (Bool) := S_SameResponse k (⟨x.1.1, x.1.2.1, x.1.2.2.1⟩ : IResponse) (⟨x.2.1.1, x.2.1.2.1, x.2.1.2.2.1⟩ : IResponse)
def S_SameResponse_vr (r : Bool) : VR D := .p (.c (.bool r))
theorem S_SameResponse_ok (k : Nat) : Does P X 46 S_SameResponse_ar (S_SameResponse_f k) S_SameResponse_vr :=
  does_of (body := bodyOf Go.Proofs.Try.f46) (pl := S_SameResponse_pl) (k := k) (cu := S_SameResponse_cu k) (tys := [[0]]) (S_SameResponse_ck k) ctx mixed Go.Proofs.Try.func46 (by kernel_rfl) (by kernel_rfl) (cutOK_of (l := []) (by kernel_rfl) trivial) fun x R h => by
    simp only [S_SameResponse_f, S_SameResponse, optK_bind, optK_bif, optK_pure, optK_none, optK_oc, optK_guardT, optK_map] at h
    refine hold_of h ?_
    kernel_rfl
def S_SameResponse_en (k : Nat) : Entry D := entS S_SameResponse_ar (S_SameResponse_f k) S_SameResponse_vr
theorem S_SameResponse_eo (k : Nat) : EntryOK X 46 (S_SameResponse_en k) := (S_SameResponse_ok k).en rfl
def slices_Equal_IField_pl : Plan := ⟨[(0, [(0, some 104), (1, some 104)]), (1, [(0, some 104), (1, some 104), (10, none)]), (2, [(4, none)]), (3, [(0, some 104), (1, some 104), (12, none), (13, none)]), (4, [(0, some 104), (1, some 104), (12, none), (13, none), (14, none)]), (5, [(0, some 104), (1, some 104), (5, none), (12, none), (13, none)]), (6, [(0, some 104), (1, some 104), (12, none), (13, none), (24, none)]), (7, [(4, none)]), (8, [(0, some 104), (1, some 104), (12, none), (13, none)]), (9, [(4, none)])],
  [(0, []), (1, [(0, some 104), (1, some 104), (12, none), (13, none)])],
  [(10, ([], [(0, some 104), (1, some 104)])), (14, ([(0, some 104), (1, some 104), (12, none), (13, none)], [])), (24, ([], [(0, some 104), (1, some 104), (12, none), (13, none)]))]⟩
def slices_Equal_IField_cl (k : Nat) : Calls' D := ⟨[], []⟩
theorem slices_Equal_IField_ck (k : Nat) : CallsOK X (slices_Equal_IField_cl k) := .nil cod
def slices_Equal_IField_b0_L (x : (List IField) × (List IField) × Int × Int × Unit) (o : Oc (Unit) (Bool)) (Q : Ex → VSt D → Prop) (R : VR D → Prop) : Prop := ocP o (fun v0 => Q .normal (mkSt ⟨[], []⟩ [])) (fun w0 => R (.p (.c (.bool w0))))
def slices_Equal_IField_b0_cut (k : Nat) : Cut D := cutS ⟨[(0, .hole), (1, .hole), (12, .hole), (13, .hole)], []⟩ [.kl 104, .kl 104, .ki .i64, .ki .i64] (fun (x : (List IField) × (List IField) × Int × Int × Unit) => slices_Equal_IField_b0 k k x.1 x.2.1 x.2.2.1 x.2.2.2.1) slices_Equal_IField_b0_L
def slices_Equal_IField_b0_cu (k : Nat) : Cuts D := ⟨[], []⟩
theorem slices_Equal_IField_b0_ok (k : Nat) : CutFor X slices_Equal_IField_pl k Go.Proofs.Try.f83.results.toList (slices_Equal_IField_b0_cut k) (sub (bodyOf Go.Proofs.Try.f83) [1, 1, 0, 1]) :=
  loopCut_s (X := X) (sg := [.kl 104, .kl 104, .ki .i64, .ki .i64]) (cu := slices_Equal_IField_b0_cu k) (cl := slices_Equal_IField_cl k) (tys := [[0]]) (id := 0) (c := sub (bodyOf Go.Proofs.Try.f83) [1, 1, 0, 1, 0, 0]) (f := fun n => fun (x : (List IField) × (List IField) × Int × Int × Unit) => slices_Equal_IField_b0 k n x.1 x.2.1 x.2.2.1 x.2.2.2.1) (slices_Equal_IField_ck k) (cutOK_of (l := []) (by kernel_rfl) trivial) (fun _ => rfl) (fun n x Q R h => by
    simp only [slices_Equal_IField_b0, optK_bind, optK_bif, optK_pure, optK_none, optK_oc, optK_guardT, optK_map] at h
    refine hold_of h ?_
    kernel_rfl) (by kernel_rfl)
def slices_Equal_IField_cu (k : Nat) : Cuts D := ⟨[(0, some (slices_Equal_IField_b0_cut k))], []⟩
def slices_Equal_IField_ar : List Ar := [.c (.kl 104), .c (.kl 104)]
def slices_Equal_IField_f (k : Nat) (x : TupA D slices_Equal_IField_ar) : Option (Bool) := slices_Equal_IField k x.1 x.2.1
def slices_Equal_IField_vr (r : Bool) : VR D := .p (.c (.bool r))
theorem slices_Equal_IField_ok (k : Nat) : Does P X 83 slices_Equal_IField_ar (slices_Equal_IField_f k) slices_Equal_IField_vr :=
  does_of (body := bodyOf Go.Proofs.Try.f83) (pl := slices_Equal_IField_pl) (k := k) (cu := slices_Equal_IField_cu k) (tys := [[0]]) (slices_Equal_IField_ck k) ctx mixed Go.Proofs.Try.func83 (by kernel_rfl) (by kernel_rfl) (cutOK_of (l := [(slices_Equal_IField_b0_cut k, sub (bodyOf Go.Proofs.Try.f83) [1, 1, 0, 1])]) (by kernel_rfl) ⟨slices_Equal_IField_b0_ok k, trivial⟩) fun x R h => by
    simp only [slices_Equal_IField_f, slices_Equal_IField, optK_bind, optK_bif, optK_pure, optK_none, optK_oc, optK_guardT, optK_map] at h
    refine hold_of h ?_
    kernel_rfl
def slices_Equal_IField_en (k : Nat) : Entry D := entS slices_Equal_IField_ar (slices_Equal_IField_f k) slices_Equal_IField_vr
theorem slices_Equal_IField_eo (k : Nat) : EntryOK X 83 (slices_Equal_IField_en k) := (slices_Equal_IField_ok k).en rfl
def I_SameFields_pl : Plan := ⟨[(0, [(0, some 104), (1, some 104)]), (1, [(4, none)])],
  [],
  []⟩
def I_SameFields_cl (k : Nat) : Calls' D := ⟨[(83, slices_Equal_IField_en k)], []⟩
theorem I_SameFields_ck (k : Nat) : CallsOK X (I_SameFields_cl k) := .cons (slices_Equal_IField_eo k) (.nil cod)
def I_SameFields_cu (k : Nat) : Cuts D := ⟨[], []⟩
def I_SameFields_ar : List Ar := [.c (.kl 104), .c (.kl 104)]
def I_SameFields_f (k : Nat) (x : TupA D I_SameFields_ar) : Option (Bool) := I_SameFields k x.1 x.2.1
def I_SameFields_vr (r : Bool) : VR D := .p (.c (.bool r))
theorem I_SameFields_ok (k : Nat) : Does P X 76 I_SameFields_ar (I_SameFields_f k) I_SameFields_vr :=
  does_of (body := bodyOf Go.Proofs.Try.f76) (pl := I_SameFields_pl) (k := k) (cu := I_SameFields_cu k) (tys := [[0]]) (I_SameFields_ck k) ctx mixed Go.Proofs.Try.func76 (by kernel_rfl) (by kernel_rfl) (cutOK_of (l := []) (by kernel_rfl) trivial) fun x R h => by
    simp only [I_SameFields_f, I_SameFields, optK_bind, optK_bif, optK_pure, optK_none, optK_oc, optK_guardT, optK_map] at h
    refine hold_of h ?_
    kernel_rfl
def I_SameFields_en (k : Nat) : Entry D := entS I_SameFields_ar (I_SameFields_f k) I_SameFields_vr
theorem I_SameFields_eo (k : Nat) : EntryOK X 76 (I_SameFields_en k) := (I_SameFields_ok k).en rfl
def I_SameResponse_pl : Plan := ⟨[(0, [(2, none), (3, none)]), (1, [(4, none)])],
  [],
  []⟩
def I_SameResponse_cl (k : Nat) : Calls' D := ⟨[(76, I_SameFields_en k)], []⟩
theorem I_SameResponse_ck (k : Nat) : CallsOK X (I_SameResponse_cl k) := .cons (I_SameFields_eo k) (.nil cod)
def I_SameResponse_cu (k : Nat) : Cuts D := ⟨[], []⟩
def I_SameResponse_ar : List Ar := [.a [.ki .i64, .kl 104, .ks], .a [.ki .i64, .kl 104, .ks]]
def I_SameResponse_f (k : Nat) (x : TupA D I_SameResponse_ar) : Option (Bool) := I_SameResponse k (⟨x.1.1, x.1.2.1, x.1.2.2.1⟩ : IResponse) (⟨x.2.1.1, x.2.1.2.1, x.2.1.2.2.1⟩ : IResponse)
def I_SameResponse_vr (r : Bool) : VR D := .p (.c (.bool r))
theorem I_SameResponse_ok (k : Nat) : Does P X 48 I_SameResponse_ar (I_SameResponse_f k) I_SameResponse_vr :=
  does_of (body := bodyOf Go.Proofs.Try.f48) (pl := I_SameResponse_pl) (k := k) (cu := I_SameResponse_cu k) (tys := [[0]]) (I_SameResponse_ck k) ctx mixed Go.Proofs.Try.func48 (by kernel_rfl) (by kernel_rfl) (cutOK_of (l := []) (by kernel_rfl) trivial) fun x R h => by
    simp only [I_SameResponse_f, I_SameResponse, optK_bind, optK_bif, optK_pure, optK_none, optK_oc, optK_guardT, optK_map] at h
    refine hold_of h ?_
    kernel_rfl
def I_SameResponse_en (k : Nat) : Entry D := entS I_SameResponse_ar (I_SameResponse_f k) I_SameResponse_vr
theorem I_SameResponse_eo (k : Nat) : EntryOK X 48 (I_SameResponse_en k) := (I_SameResponse_ok k).en rfl
def L_eqField_pl : Plan := ⟨[(0, [(2, none), (3, none)]), (1, [(2, none), (3, none), (9, none)]), (2, [(4, none)]), (3, [(14, none)]), (4, [(4, none)]), (5, [(4, none)])],
  [],
  [(9, ([], [(2, none), (3, none)])), (14, ([], []))]⟩
def L_eqField_cl (k : Nat) : Calls' D := ⟨[], []⟩
theorem L_eqField_ck (k : Nat) : CallsOK X (L_eqField_cl k) := .nil cod
def L_eqField_cu (k : Nat) : Cuts D := ⟨[], []⟩
def L_eqField_ar : List Ar := [.a [.ks, .ks], .a [.ks, .ks]]
def L_eqField_f (k : Nat) (x : TupA D L_eqField_ar) : Option (Bool) := L_eqField k (⟨x.1.1, x.1.2.1⟩ : IField) (⟨x.2.1.1, x.2.1.2.1⟩ : IField)
def L_eqField_vr (r : Bool) : VR D := .p (.c (.bool r))
theorem L_eqField_ok (k : Nat) : Does P X 84 L_eqField_ar (L_eqField_f k) L_eqField_vr :=
  does_of (body := bodyOf Go.Proofs.Try.f84) (pl := L_eqField_pl) (k := k) (cu := L_eqField_cu k) (tys := [[0]]) (L_eqField_ck k) ctx mixed Go.Proofs.Try.func84 (by kernel_rfl) (by kernel_rfl) (cutOK_of (l := []) (by kernel_rfl) trivial) fun x R h => by
    simp only [L_eqField_f, L_eqField, optK_bind, optK_bif, optK_pure, optK_none, optK_oc, optK_guardT, optK_map] at h
    refine hold_of h ?_
    kernel_rfl
def L_eqField_en (k : Nat) : Entry D := entS L_eqField_ar (L_eqField_f k) L_eqField_vr
theorem L_eqField_eo (k : Nat) : EntryOK X 84 (L_eqField_en k) := (L_eqField_ok k).en rfl
def L_eqFieldS_pl : Plan := ⟨[(0, [(0, some 104), (1, some 104)]), (1, [(0, some 104), (1, some 104), (10, none)]), (2, [(4, none)]), (3, [(0, some 104), (1, some 104), (5, none)]), (4, [(0, some 104), (1, some 104), (5, none), (14, none)]), (5, [(0, some 104), (1, some 104), (5, none)]), (6, [(0, some 104), (1, some 104), (5, none), (26, none)]), (7, [(4, none)]), (8, [(4, none)])],
  [(0, []), (1, [(0, some 104), (1, some 104), (5, none)])],
  [(10, ([], [(0, some 104), (1, some 104)])), (14, ([(0, some 104), (1, some 104), (5, none)], [])), (26, ([], [(0, some 104), (1, some 104), (5, none)]))]⟩
def L_eqFieldS_cl (k : Nat) : Calls' D := ⟨[(84, L_eqField_en k)], []⟩
theorem L_eqFieldS_ck (k : Nat) : CallsOK X (L_eqFieldS_cl k) := .cons (L_eqField_eo k) (.nil cod)
def L_eqFieldS_b0_L (x : (List IField) × (List IField) × Int × Unit) (o : Oc (Unit) (Bool)) (Q : Ex → VSt D → Prop) (R : VR D → Prop) : Prop := ocP o (fun v0 => Q .normal (mkSt ⟨[], []⟩ [])) (fun w0 => R (.p (.c (.bool w0))))
def L_eqFieldS_b0_cut (k : Nat) : Cut D := cutS ⟨[(0, .hole), (1, .hole), (5, .hole)], []⟩ [.kl 104, .kl 104, .ki .i64] (fun (x : (List IField) × (List IField) × Int × Unit) => L_eqFieldS_b0 k k x.1 x.2.1 x.2.2.1) L_eqFieldS_b0_L
def L_eqFieldS_b0_cu (k : Nat) : Cuts D := ⟨[], []⟩
theorem L_eqFieldS_b0_ok (k : Nat) : CutFor X L_eqFieldS_pl k Go.Proofs.Try.f77.results.toList (L_eqFieldS_b0_cut k) (sub (bodyOf Go.Proofs.Try.f77) [1, 1, 0, 1]) :=
  loopCut_s (X := X) (sg := [.kl 104, .kl 104, .ki .i64]) (cu := L_eqFieldS_b0_cu k) (cl := L_eqFieldS_cl k) (tys := [[0]]) (id := 0) (c := sub (bodyOf Go.Proofs.Try.f77) [1, 1, 0, 1, 0, 0]) (f := fun n => fun (x : (List IField) × (List IField) × Int × Unit) => L_eqFieldS_b0 k n x.1 x.2.1 x.2.2.1) (L_eqFieldS_ck k) (cutOK_of (l := []) (by kernel_rfl) trivial) (fun _ => rfl) (fun n x Q R h => by
    simp only [L_eqFieldS_b0, optK_bind, optK_bif, optK_pure, optK_none, optK_oc, optK_guardT, optK_map] at h
    refine hold_of h ?_
    kernel_rfl) (by kernel_rfl)
def L_eqFieldS_cu (k : Nat) : Cuts D := ⟨[(0, some (L_eqFieldS_b0_cut k))], []⟩
def L_eqFieldS_ar : List Ar := [.c (.kl 104), .c (.kl 104)]
def L_eqFieldS_f (k : Nat) (x : TupA D L_eqFieldS_ar) : Option (Bool) := L_eqFieldS k x.1 x.2.1
def L_eqFieldS_vr (r : Bool) : VR D := .p (.c (.bool r))
theorem L_eqFieldS_ok (k : Nat) : Does P X 77 L_eqFieldS_ar (L_eqFieldS_f k) L_eqFieldS_vr :=
  does_of (body := bodyOf Go.Proofs.Try.f77) (pl := L_eqFieldS_pl) (k := k) (cu := L_eqFieldS_cu k) (tys := [[0]]) (L_eqFieldS_ck k) ctx mixed Go.Proofs.Try.func77 (by kernel_rfl) (by kernel_rfl) (cutOK_of (l := [(L_eqFieldS_b0_cut k, sub (bodyOf Go.Proofs.Try.f77) [1, 1, 0, 1])]) (by kernel_rfl) ⟨L_eqFieldS_b0_ok k, trivial⟩) fun x R h => by
    simp only [L_eqFieldS_f, L_eqFieldS, optK_bind, optK_bif, optK_pure, optK_none, optK_oc, optK_guardT, optK_map] at h
    refine hold_of h ?_
    kernel_rfl
def L_eqFieldS_en (k : Nat) : Entry D := entS L_eqFieldS_ar (L_eqFieldS_f k) L_eqFieldS_vr
theorem L_eqFieldS_eo (k : Nat) : EntryOK X 77 (L_eqFieldS_en k) := (L_eqFieldS_ok k).en rfl
def L_eqResponse_pl : Plan := ⟨[(0, [(2, none), (3, none)]), (1, [(2, none), (3, none), (9, none)]), (2, [(4, none)]), (3, [(2, none), (3, none), (15, none)]), (4, [(4, none)]), (5, [(20, none)]), (6, [(4, none)]), (7, [(4, none)])],
  [],
  [(9, ([], [(2, none), (3, none)])), (15, ([], [(2, none), (3, none)])), (20, ([], []))]⟩
def L_eqResponse_cl (k : Nat) : Calls' D := ⟨[(77, L_eqFieldS_en k)], []⟩
theorem L_eqResponse_ck (k : Nat) : CallsOK X (L_eqResponse_cl k) := .cons (L_eqFieldS_eo k) (.nil cod)
def L_eqResponse_cu (k : Nat) : Cuts D := ⟨[], []⟩
def L_eqResponse_ar : List Ar := [.a [.ki .i64, .kl 104, .ks], .a [.ki .i64, .kl 104, .ks]]
def L_eqResponse_f (k : Nat) (x : TupA D L_eqResponse_ar) : Option (Bool) := L_eqResponse k (⟨x.1.1, x.1.2.1, x.1.2.2.1⟩ : IResponse) (⟨x.2.1.1, x.2.1.2.1, x.2.1.2.2.1⟩ : IResponse)
def L_eqResponse_vr (r : Bool) : VR D := .p (.c (.bool r))
theorem L_eqResponse_ok (k : Nat) : Does P X 49 L_eqResponse_ar (L_eqResponse_f k) L_eqResponse_vr :=
  does_of (body := bodyOf Go.Proofs.Try.f49) (pl := L_eqResponse_pl) (k := k) (cu := L_eqResponse_cu k) (tys := [[0]]) (L_eqResponse_ck k) ctx mixed Go.Proofs.Try.func49 (by kernel_rfl) (by kernel_rfl) (cutOK_of (l := []) (by kernel_rfl) trivial) fun x R h => by
    simp only [L_eqResponse_f, L_eqResponse, optK_bind, optK_bif, optK_pure, optK_none, optK_oc, optK_guardT, optK_map] at h
    refine hold_of h ?_
    kernel_rfl
def L_eqResponse_en (k : Nat) : Entry D := entS L_eqResponse_ar (L_eqResponse_f k) L_eqResponse_vr
theorem L_eqResponse_eo (k : Nat) : EntryOK X 49 (L_eqResponse_en k) := (L_eqResponse_ok k).en rfl
def L_FnExactSameResponse_pl : Plan := ⟨[(0, [(2, none), (3, none)]), (1, [(2, none), (3, none), (5, none)]), (2, [(2, none), (3, none), (5, none)]), (3, [(2, none), (3, none), (5, none), (14, none)]), (4, [(4, none)]), (5, [(2, none), (3, none), (5, none)]), (6, [(2, none), (3, none), (19, none)]), (7, [(4, none)]), (8, [(2, none), (3, none), (6, none)]), (9, [(2, none), (3, none), (6, none), (7, none)]), (10, [(2, none), (3, none), (6, none), (7, none), (8, none)]), (11, [(2, none), (3, none), (6, none), (7, none), (8, none), (9, none)]), (12, [(2, none), (3, none), (7, none), (8, none), (34, none)]), (13, [(4, none)]), (14, [(3, none), (8, none), (39, none)]), (15, [(4, none)]), (16, [(44, none)]), (17, [(4, none)]), (18, [(4, none)])],
  [],
  [(14, ([], [(2, none), (3, none), (5, none)])), (19, ([], [(2, none), (3, none)])), (34, ([], [(2, none), (3, none), (7, none), (8, none)])), (39, ([], [(3, none), (8, none)])), (44, ([], []))]⟩
def L_FnExactSameResponse_cl (k : Nat) : Calls' D := ⟨[(45, L_szResponse_en k), (47, L_toResponse_en k), (46, S_SameResponse_en k), (48, I_SameResponse_en k), (49, L_eqResponse_en k)], []⟩
theorem L_FnExactSameResponse_ck (k : Nat) : CallsOK X (L_FnExactSameResponse_cl k) := .cons (L_szResponse_eo k) (.cons (L_toResponse_eo k) (.cons (S_SameResponse_eo k) (.cons (I_SameResponse_eo k) (.cons (L_eqResponse_eo k) (.nil cod)))))
def L_FnExactSameResponse_cu (k : Nat) : Cuts D := ⟨[], []⟩
def L_FnExactSameResponse_ar : List Ar := [.a [.ki .i64, .kl 103, .ks], .a [.ki .i64, .kl 103, .ks]]
def L_FnExactSameResponse_f (k : Nat) (x : TupA D L_FnExactSameResponse_ar) : Option (Bool) := L_FnExactSameResponse k (⟨x.1.1, x.1.2.1, x.1.2.2.1⟩ : LResponse) (⟨x.2.1.1, x.2.1.2.1, x.2.1.2.2.1⟩ : LResponse)
def L_FnExactSameResponse_vr (r : Bool) : VR D := .p (.c (.bool r))
theorem L_FnExactSameResponse_ok (k : Nat) : Does P X 12 L_FnExactSameResponse_ar (L_FnExactSameResponse_f k) L_FnExactSameResponse_vr :=
  does_of (body := bodyOf Go.Proofs.Try.f12) (pl := L_FnExactSameResponse_pl) (k := k) (cu := L_FnExactSameResponse_cu k) (tys := [[0]]) (L_FnExactSameResponse_ck k) ctx mixed Go.Proofs.Try.func12 (by kernel_rfl) (by kernel_rfl) (cutOK_of (l := []) (by kernel_rfl) trivial) fun x R h => by
    simp only [L_FnExactSameResponse_f, L_FnExactSameResponse, optK_bind, optK_bif, optK_pure, optK_none, optK_oc, optK_guardT, optK_map] at h
    refine hold_of h ?_
    kernel_rfl
def L_FnExactSameResponse_en (k : Nat) : Entry D := entS L_FnExactSameResponse_ar (L_FnExactSameResponse_f k) L_FnExactSameResponse_vr
theorem L_FnExactSameResponse_eo (k : Nat) : EntryOK X 12 (L_FnExactSameResponse_en k) := (L_FnExactSameResponse_ok k).en rfl

end
end Go.Ytilbenelefdihaa
