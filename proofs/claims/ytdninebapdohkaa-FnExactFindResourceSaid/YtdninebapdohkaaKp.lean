/- The machine computes the functions. Nothing is claimed here. -/
import Derived.Test.YtdninebapdohkaaKf
set_option linter.unusedVariables false
set_option linter.unusedSimpArgs false
set_option maxRecDepth 100000
namespace Go.Ytdninebapdohkaa
open Go Go.RowKit Go.Pv
noncomputable section

def L_szStringS_pl : Plan := ⟨[(0, [(0, some 9), (1, none)]), (1, [(0, some 9), (1, none)]), (2, [(0, some 9), (1, none), (11, none)]), (3, [(4, none)]), (4, [(0, some 9), (1, none), (5, none)]), (5, [(0, some 9), (1, none), (5, none), (15, none)]), (6, [(0, some 9), (1, none), (5, none)]), (7, [(0, some 9), (1, none), (5, none)]), (8, [(0, some 9), (1, none), (5, none), (26, none)]), (9, [(4, none)]), (10, [(4, none)])],
  [(0, [(1, none)]), (1, [(0, some 9), (1, none), (5, none)])],
  [(11, ([], [(0, some 9), (1, none)])), (15, ([(0, some 9), (1, none), (5, none)], [(1, none)])), (26, ([], [(0, some 9), (1, none), (5, none)]))]⟩
def L_szStringS_cl (k : Nat) : Calls' D := ⟨[], []⟩
theorem L_szStringS_ck (k : Nat) : CallsOK X (L_szStringS_cl k) := .nil cod
def L_szStringS_b0_L (x : (List (List UInt8)) × Int × Int × Unit) (o : Oc (Int) (Int)) (Q : Ex → VSt D → Prop) (R : VR D → Prop) : Prop := ocP o (fun v0 => Q .normal (mkSt ⟨[(1, .hole)], []⟩ [.int .i64 v0])) (fun w0 => R (.p (.c (.int .i64 w0))))
def L_szStringS_b0_cut (k : Nat) : Cut D := cutS ⟨[(0, .hole), (1, .hole), (5, .hole)], []⟩ [.kl 9, .ki .i64, .ki .i64] (fun (x : (List (List UInt8)) × Int × Int × Unit) => L_szStringS_b0 k k x.1 x.2.1 x.2.2.1) L_szStringS_b0_L
def L_szStringS_b0_cu (k : Nat) : Cuts D := ⟨[], []⟩
theorem L_szStringS_b0_ok (k : Nat) : CutFor X L_szStringS_pl k Go.Proofs.Try.f62.results.toList (L_szStringS_b0_cut k) (sub (bodyOf Go.Proofs.Try.f62) [1, 1, 1, 0, 1]) :=
  loopCut_s (X := X) (sg := [.kl 9, .ki .i64, .ki .i64]) (cu := L_szStringS_b0_cu k) (cl := L_szStringS_cl k) (tys := [[0]]) (id := 0) (c := sub (bodyOf Go.Proofs.Try.f62) [1, 1, 1, 0, 1, 0, 0]) (f := fun n => fun (x : (List (List UInt8)) × Int × Int × Unit) => L_szStringS_b0 k n x.1 x.2.1 x.2.2.1) (L_szStringS_ck k) (cutOK_of (l := []) (by kernel_rfl) trivial) (fun _ => rfl) (fun n x Q R h => by
    simp only [L_szStringS_b0, optK_bind, optK_bif, optK_pure, optK_none, optK_oc, optK_guardT, optK_map] at h
    refine hold_of h ?_
    kernel_rfl) (by kernel_rfl)
def L_szStringS_cu (k : Nat) : Cuts D := ⟨[(0, some (L_szStringS_b0_cut k))], []⟩
def L_szStringS_ar : List Ar := [.c (.kl 9), .c (.ki .i64)]
def L_szStringS_f (k : Nat) (x : TupA D L_szStringS_ar) : Option (Int) := L_szStringS k x.1 x.2.1
def L_szStringS_vr (r : Int) : VR D := .p (.c (.int .i64 r))
theorem L_szStringS_ok (k : Nat) : Does P X 62 L_szStringS_ar (L_szStringS_f k) L_szStringS_vr :=
  does_of (body := bodyOf Go.Proofs.Try.f62) (pl := L_szStringS_pl) (k := k) (cu := L_szStringS_cu k) (tys := [[0]]) (L_szStringS_ck k) ctx mixed Go.Proofs.Try.func62 (by kernel_rfl) (by kernel_rfl) (cutOK_of (l := [(L_szStringS_b0_cut k, sub (bodyOf Go.Proofs.Try.f62) [1, 1, 1, 0, 1])]) (by kernel_rfl) ⟨L_szStringS_b0_ok k, trivial⟩) fun x R h => by
    simp only [L_szStringS_f, L_szStringS, optK_bind, optK_bif, optK_pure, optK_none, optK_oc, optK_guardT, optK_map] at h
    refine hold_of h ?_
    kernel_rfl
def L_szStringS_en (k : Nat) : Entry D := entS L_szStringS_ar (L_szStringS_f k) L_szStringS_vr
theorem L_szStringS_eo (k : Nat) : EntryOK X 62 (L_szStringS_en k) := (L_szStringS_ok k).en rfl
def L_szVersion_pl : Plan := ⟨[(0, [(1, none), (2, none)]), (1, [(1, none)]), (2, [(1, none), (11, none)]), (3, [(4, none)]), (4, [(4, none)])],
  [],
  [(11, ([], [(1, none)]))]⟩
def L_szVersion_cl (k : Nat) : Calls' D := ⟨[], []⟩
theorem L_szVersion_ck (k : Nat) : CallsOK X (L_szVersion_cl k) := .nil cod
def L_szVersion_cu (k : Nat) : Cuts D := ⟨[], []⟩
def L_szVersion_ar : List Ar := [.a [.ki .i64, .ks, .kb], .c (.ki .i64)]
def L_szVersion_f (k : Nat) (x : TupA D L_szVersion_ar) : Option (Int) := L_szVersion k (⟨x.1.1, x.1.2.1, x.1.2.2.1⟩ : LVersion) x.2.1
def L_szVersion_vr (r : Int) : VR D := .p (.c (.int .i64 r))
theorem L_szVersion_ok (k : Nat) : Does P X 91 L_szVersion_ar (L_szVersion_f k) L_szVersion_vr :=
  does_of (body := bodyOf Go.Proofs.Try.f91) (pl := L_szVersion_pl) (k := k) (cu := L_szVersion_cu k) (tys := [[0]]) (L_szVersion_ck k) ctx mixed Go.Proofs.Try.func91 (by kernel_rfl) (by kernel_rfl) (cutOK_of (l := []) (by kernel_rfl) trivial) fun x R h => by
    simp only [L_szVersion_f, L_szVersion, optK_bind, optK_bif, optK_pure, optK_none, optK_oc, optK_guardT, optK_map] at h
    refine hold_of h ?_
    kernel_rfl
def L_szVersion_en (k : Nat) : Entry D := entS L_szVersion_ar (L_szVersion_f k) L_szVersion_vr
theorem L_szVersion_eo (k : Nat) : EntryOK X 91 (L_szVersion_en k) := (L_szVersion_ok k).en rfl
def L_szVersionS_pl : Plan := ⟨[(0, [(0, some 122), (1, none)]), (1, [(0, some 122), (1, none)]), (2, [(0, some 122), (1, none), (11, none)]), (3, [(4, none)]), (4, [(0, some 122), (1, none), (5, none)]), (5, [(0, some 122), (1, none), (5, none), (15, none)]), (6, [(0, some 122), (1, none), (5, none)]), (7, [(0, some 122), (1, none), (5, none)]), (8, [(0, some 122), (1, none), (5, none), (25, none)]), (9, [(4, none)]), (10, [(4, none)])],
  [(0, [(1, none)]), (1, [(0, some 122), (1, none), (5, none)])],
  [(11, ([], [(0, some 122), (1, none)])), (15, ([(0, some 122), (1, none), (5, none)], [(1, none)])), (25, ([], [(0, some 122), (1, none), (5, none)]))]⟩
def L_szVersionS_cl (k : Nat) : Calls' D := ⟨[(91, L_szVersion_en k)], []⟩
theorem L_szVersionS_ck (k : Nat) : CallsOK X (L_szVersionS_cl k) := .cons (L_szVersion_eo k) (.nil cod)
def L_szVersionS_b0_L (x : (List LVersion) × Int × Int × Unit) (o : Oc (Int) (Int)) (Q : Ex → VSt D → Prop) (R : VR D → Prop) : Prop := ocP o (fun v0 => Q .normal (mkSt ⟨[(1, .hole)], []⟩ [.int .i64 v0])) (fun w0 => R (.p (.c (.int .i64 w0))))
def L_szVersionS_b0_cut (k : Nat) : Cut D := cutS ⟨[(0, .hole), (1, .hole), (5, .hole)], []⟩ [.kl 122, .ki .i64, .ki .i64] (fun (x : (List LVersion) × Int × Int × Unit) => L_szVersionS_b0 k k x.1 x.2.1 x.2.2.1) L_szVersionS_b0_L
def L_szVersionS_b0_cu (k : Nat) : Cuts D := ⟨[], []⟩
theorem L_szVersionS_b0_ok (k : Nat) : CutFor X L_szVersionS_pl k Go.Proofs.Try.f63.results.toList (L_szVersionS_b0_cut k) (sub (bodyOf Go.Proofs.Try.f63) [1, 1, 1, 0, 1]) :=
  loopCut_s (X := X) (sg := [.kl 122, .ki .i64, .ki .i64]) (cu := L_szVersionS_b0_cu k) (cl := L_szVersionS_cl k) (tys := [[0]]) (id := 0) (c := sub (bodyOf Go.Proofs.Try.f63) [1, 1, 1, 0, 1, 0, 0]) (f := fun n => fun (x : (List LVersion) × Int × Int × Unit) => L_szVersionS_b0 k n x.1 x.2.1 x.2.2.1) (L_szVersionS_ck k) (cutOK_of (l := []) (by kernel_rfl) trivial) (fun _ => rfl) (fun n x Q R h => by
    simp only [L_szVersionS_b0, optK_bind, optK_bif, optK_pure, optK_none, optK_oc, optK_guardT, optK_map] at h
    refine hold_of h ?_
    kernel_rfl) (by kernel_rfl)
def L_szVersionS_cu (k : Nat) : Cuts D := ⟨[(0, some (L_szVersionS_b0_cut k))], []⟩
def L_szVersionS_ar : List Ar := [.c (.kl 122), .c (.ki .i64)]
def L_szVersionS_f (k : Nat) (x : TupA D L_szVersionS_ar) : Option (Int) := L_szVersionS k x.1 x.2.1
def L_szVersionS_vr (r : Int) : VR D := .p (.c (.int .i64 r))
theorem L_szVersionS_ok (k : Nat) : Does P X 63 L_szVersionS_ar (L_szVersionS_f k) L_szVersionS_vr :=
  does_of (body := bodyOf Go.Proofs.Try.f63) (pl := L_szVersionS_pl) (k := k) (cu := L_szVersionS_cu k) (tys := [[0]]) (L_szVersionS_ck k) ctx mixed Go.Proofs.Try.func63 (by kernel_rfl) (by kernel_rfl) (cutOK_of (l := [(L_szVersionS_b0_cut k, sub (bodyOf Go.Proofs.Try.f63) [1, 1, 1, 0, 1])]) (by kernel_rfl) ⟨L_szVersionS_b0_ok k, trivial⟩) fun x R h => by
    simp only [L_szVersionS_f, L_szVersionS, optK_bind, optK_bif, optK_pure, optK_none, optK_oc, optK_guardT, optK_map] at h
    refine hold_of h ?_
    kernel_rfl
def L_szVersionS_en (k : Nat) : Entry D := entS L_szVersionS_ar (L_szVersionS_f k) L_szVersionS_vr
theorem L_szVersionS_eo (k : Nat) : EntryOK X 63 (L_szVersionS_en k) := (L_szVersionS_ok k).en rfl
def L_szResource_pl : Plan := ⟨[(0, [(1, none), (2, none)]), (1, [(1, none), (2, none)]), (2, [(1, none), (2, none), (11, none)]), (3, [(4, none)]), (4, [(1, none), (2, none)]), (5, [(1, none), (2, none), (18, none)]), (6, [(4, none)]), (7, [(1, none), (2, none)]), (8, [(1, none), (2, none), (25, none)]), (9, [(4, none)]), (10, [(1, none), (2, none)]), (11, [(1, none), (2, none), (31, none)]), (12, [(4, none)]), (13, [(1, none)]), (14, [(1, none), (37, none)]), (15, [(4, none)]), (16, [(4, none)])],
  [],
  [(11, ([], [(1, none), (2, none)])), (18, ([], [(1, none), (2, none)])), (25, ([], [(1, none), (2, none)])), (31, ([], [(1, none), (2, none)])), (37, ([], [(1, none)]))]⟩
def L_szResource_cl (k : Nat) : Calls' D := ⟨[(62, L_szStringS_en k), (63, L_szVersionS_en k)], []⟩
theorem L_szResource_ck (k : Nat) : CallsOK X (L_szResource_cl k) := .cons (L_szStringS_eo k) (.cons (L_szVersionS_eo k) (.nil cod))
def L_szResource_cu (k : Nat) : Cuts D := ⟨[], []⟩
def L_szResource_ar : List Ar := [.a [.ks, .ks, .ks, .kb, .kl 9, .kl 122], .c (.ki .i64)]
def L_szResource_f (k : Nat) (x : TupA D L_szResource_ar) : Option (Int) := L_szResource k (⟨x.1.1, x.1.2.1, x.1.2.2.1, x.1.2.2.2.1, x.1.2.2.2.2.1, x.1.2.2.2.2.2.1⟩ : LResource) x.2.1
def L_szResource_vr (r : Int) : VR D := .p (.c (.int .i64 r))
theorem L_szResource_ok (k : Nat) : Does P X 21 L_szResource_ar (L_szResource_f k) L_szResource_vr :=
  does_of (body := bodyOf Go.Proofs.Try.f21) (pl := L_szResource_pl) (k := k) (cu := L_szResource_cu k) (tys := [[0]]) (L_szResource_ck k) ctx mixed Go.Proofs.Try.func21 (by kernel_rfl) (by kernel_rfl) (cutOK_of (l := []) (by kernel_rfl) trivial) fun x R h => by
    simp only [L_szResource_f, L_szResource, optK_bind, optK_bif, optK_pure, optK_none, optK_oc, optK_guardT, optK_map] at h
    refine hold_of h ?_
    kernel_rfl
def L_szResource_en (k : Nat) : Entry D := entS L_szResource_ar (L_szResource_f k) L_szResource_vr
theorem L_szResource_eo (k : Nat) : EntryOK X 21 (L_szResource_en k) := (L_szResource_ok k).en rfl
def L_szResourceS_pl : Plan := ⟨[(0, [(0, some 39), (1, none)]), (1, [(0, some 39), (1, none)]), (2, [(0, some 39), (1, none), (11, none)]), (3, [(4, none)]), (4, [(0, some 39), (1, none), (5, none)]), (5, [(0, some 39), (1, none), (5, none), (15, none)]), (6, [(0, some 39), (1, none), (5, none)]), (7, [(0, some 39), (1, none), (5, none)]), (8, [(0, some 39), (1, none), (5, none), (25, none)]), (9, [(4, none)]), (10, [(4, none)])],
  [(0, [(1, none)]), (1, [(0, some 39), (1, none), (5, none)])],
  [(11, ([], [(0, some 39), (1, none)])), (15, ([(0, some 39), (1, none), (5, none)], [(1, none)])), (25, ([], [(0, some 39), (1, none), (5, none)]))]⟩
def L_szResourceS_cl (k : Nat) : Calls' D := ⟨[(21, L_szResource_en k)], []⟩
theorem L_szResourceS_ck (k : Nat) : CallsOK X (L_szResourceS_cl k) := .cons (L_szResource_eo k) (.nil cod)
def L_szResourceS_b0_L (x : (List LResource) × Int × Int × Unit) (o : Oc (Int) (Int)) (Q : Ex → VSt D → Prop) (R : VR D → Prop) : Prop := ocP o (fun v0 => Q .normal (mkSt ⟨[(1, .hole)], []⟩ [.int .i64 v0])) (fun w0 => R (.p (.c (.int .i64 w0))))
def L_szResourceS_b0_cut (k : Nat) : Cut D := cutS ⟨[(0, .hole), (1, .hole), (5, .hole)], []⟩ [.kl 39, .ki .i64, .ki .i64] (fun (x : (List LResource) × Int × Int × Unit) => L_szResourceS_b0 k k x.1 x.2.1 x.2.2.1) L_szResourceS_b0_L
def L_szResourceS_b0_cu (k : Nat) : Cuts D := ⟨[], []⟩
theorem L_szResourceS_b0_ok (k : Nat) : CutFor X L_szResourceS_pl k Go.Proofs.Try.f76.results.toList (L_szResourceS_b0_cut k) (sub (bodyOf Go.Proofs.Try.f76) [1, 1, 1, 0, 1]) :=
  loopCut_s (X := X) (sg := [.kl 39, .ki .i64, .ki .i64]) (cu := L_szResourceS_b0_cu k) (cl := L_szResourceS_cl k) (tys := [[0]]) (id := 0) (c := sub (bodyOf Go.Proofs.Try.f76) [1, 1, 1, 0, 1, 0, 0]) (f := fun n => fun (x : (List LResource) × Int × Int × Unit) => L_szResourceS_b0 k n x.1 x.2.1 x.2.2.1) (L_szResourceS_ck k) (cutOK_of (l := []) (by kernel_rfl) trivial) (fun _ => rfl) (fun n x Q R h => by
    simp only [L_szResourceS_b0, optK_bind, optK_bif, optK_pure, optK_none, optK_oc, optK_guardT, optK_map] at h
    refine hold_of h ?_
    kernel_rfl) (by kernel_rfl)
def L_szResourceS_cu (k : Nat) : Cuts D := ⟨[(0, some (L_szResourceS_b0_cut k))], []⟩
def L_szResourceS_ar : List Ar := [.c (.kl 39), .c (.ki .i64)]
def L_szResourceS_f (k : Nat) (x : TupA D L_szResourceS_ar) : Option (Int) := L_szResourceS k x.1 x.2.1
def L_szResourceS_vr (r : Int) : VR D := .p (.c (.int .i64 r))
theorem L_szResourceS_ok (k : Nat) : Does P X 76 L_szResourceS_ar (L_szResourceS_f k) L_szResourceS_vr :=
  does_of (body := bodyOf Go.Proofs.Try.f76) (pl := L_szResourceS_pl) (k := k) (cu := L_szResourceS_cu k) (tys := [[0]]) (L_szResourceS_ck k) ctx mixed Go.Proofs.Try.func76 (by kernel_rfl) (by kernel_rfl) (cutOK_of (l := [(L_szResourceS_b0_cut k, sub (bodyOf Go.Proofs.Try.f76) [1, 1, 1, 0, 1])]) (by kernel_rfl) ⟨L_szResourceS_b0_ok k, trivial⟩) fun x R h => by
    simp only [L_szResourceS_f, L_szResourceS, optK_bind, optK_bif, optK_pure, optK_none, optK_oc, optK_guardT, optK_map] at h
    refine hold_of h ?_
    kernel_rfl
def L_szResourceS_en (k : Nat) : Entry D := entS L_szResourceS_ar (L_szResourceS_f k) L_szResourceS_vr
theorem L_szResourceS_eo (k : Nat) : EntryOK X 76 (L_szResourceS_en k) := (L_szResourceS_ok k).en rfl
def L_szOrigin_pl : Plan := ⟨[(0, [(1, none), (2, none)]), (1, [(1, none), (2, none)]), (2, [(1, none), (2, none), (11, none)]), (3, [(4, none)]), (4, [(1, none)]), (5, [(1, none), (17, none)]), (6, [(4, none)]), (7, [(4, none)])],
  [],
  [(11, ([], [(1, none), (2, none)])), (17, ([], [(1, none)]))]⟩
def L_szOrigin_cl (k : Nat) : Calls' D := ⟨[(76, L_szResourceS_en k)], []⟩
theorem L_szOrigin_ck (k : Nat) : CallsOK X (L_szOrigin_cl k) := .cons (L_szResourceS_eo k) (.nil cod)
def L_szOrigin_cu (k : Nat) : Cuts D := ⟨[], []⟩
def L_szOrigin_ar : List Ar := [.a [.ks, .kl 39], .c (.ki .i64)]
def L_szOrigin_f (k : Nat) (x : TupA D L_szOrigin_ar) : Option (Int) := L_szOrigin k (⟨x.1.1, x.1.2.1⟩ : LOrigin) x.2.1
def L_szOrigin_vr (r : Int) : VR D := .p (.c (.int .i64 r))
theorem L_szOrigin_ok (k : Nat) : Does P X 38 L_szOrigin_ar (L_szOrigin_f k) L_szOrigin_vr :=
  does_of (body := bodyOf Go.Proofs.Try.f38) (pl := L_szOrigin_pl) (k := k) (cu := L_szOrigin_cu k) (tys := [[0]]) (L_szOrigin_ck k) ctx mixed Go.Proofs.Try.func38 (by kernel_rfl) (by kernel_rfl) (cutOK_of (l := []) (by kernel_rfl) trivial) fun x R h => by
    simp only [L_szOrigin_f, L_szOrigin, optK_bind, optK_bif, optK_pure, optK_none, optK_oc, optK_guardT, optK_map] at h
    refine hold_of h ?_
    kernel_rfl
def L_szOrigin_en (k : Nat) : Entry D := entS L_szOrigin_ar (L_szOrigin_f k) L_szOrigin_vr
theorem L_szOrigin_eo (k : Nat) : EntryOK X 38 (L_szOrigin_en k) := (L_szOrigin_ok k).en rfl
def L_toStringS_pl : Plan := ⟨[(0, [(0, some 9)]), (1, [(0, some 9), (3, some 9)]), (2, [(0, some 9), (3, some 9), (4, none)]), (3, [(0, some 9), (3, some 9), (4, none), (11, none)]), (4, [(0, some 9), (3, some 9), (4, none)]), (5, [(0, some 9), (3, some 9), (4, none)]), (6, [(2, some 9)])],
  [(0, [(3, some 9)]), (1, [(0, some 9), (3, some 9), (4, none)])],
  [(11, ([(0, some 9), (3, some 9), (4, none)], [(3, some 9)]))]⟩
def L_toStringS_cl (k : Nat) : Calls' D := ⟨[], []⟩
theorem L_toStringS_ck (k : Nat) : CallsOK X (L_toStringS_cl k) := .nil cod
def L_toStringS_b0_L (x : (List (List UInt8)) × Int × (List (List UInt8)) × Unit) (o : (List (List UInt8))) (Q : Ex → VSt D → Prop) (R : VR D → Prop) : Prop := Q .normal (mkSt ⟨[(3, .ref 500003)], [(500003, .row)]⟩ [.sl 9 o])
def L_toStringS_b0_cut (k : Nat) : Cut D := cutS ⟨[(0, .hole), (3, .ref 500003), (4, .hole)], [(500003, .row)]⟩ [.kl 9, .ki .i64, .kl 9] (fun (x : (List (List UInt8)) × Int × (List (List UInt8)) × Unit) => L_toStringS_b0 k k x.1 x.2.1 x.2.2.1) L_toStringS_b0_L
def L_toStringS_b0_cu (k : Nat) : Cuts D := ⟨[], []⟩
theorem L_toStringS_b0_ok (k : Nat) : CutFor X L_toStringS_pl k Go.Proofs.Try.f64.results.toList (L_toStringS_b0_cut k) (sub (bodyOf Go.Proofs.Try.f64) [1, 1, 0, 1]) :=
  loopCut_s (X := X) (sg := [.kl 9, .ki .i64, .kl 9]) (cu := L_toStringS_b0_cu k) (cl := L_toStringS_cl k) (tys := [[9]]) (id := 0) (c := sub (bodyOf Go.Proofs.Try.f64) [1, 1, 0, 1, 0, 0]) (f := fun n => fun (x : (List (List UInt8)) × Int × (List (List UInt8)) × Unit) => L_toStringS_b0 k n x.1 x.2.1 x.2.2.1) (L_toStringS_ck k) (cutOK_of (l := []) (by kernel_rfl) trivial) (fun _ => rfl) (fun n x Q R h => by
    simp only [L_toStringS_b0, optK_bind, optK_bif, optK_pure, optK_none, optK_oc, optK_guardT, optK_map] at h
    refine hold_of h ?_
    kernel_rfl) (by kernel_rfl)
def L_toStringS_cu (k : Nat) : Cuts D := ⟨[(0, some (L_toStringS_b0_cut k))], []⟩
def L_toStringS_ar : List Ar := [.c (.kl 9)]
def L_toStringS_f (k : Nat) (x : TupA D L_toStringS_ar) : Option ((List (List UInt8))) := L_toStringS k x.1
def L_toStringS_vr (r : (List (List UInt8))) : VR D := .p (.c (.sl 9 r))
theorem L_toStringS_ok (k : Nat) : Does P X 64 L_toStringS_ar (L_toStringS_f k) L_toStringS_vr :=
  does_of (body := bodyOf Go.Proofs.Try.f64) (pl := L_toStringS_pl) (k := k) (cu := L_toStringS_cu k) (tys := [[9]]) (L_toStringS_ck k) ctx mixed Go.Proofs.Try.func64 (by kernel_rfl) (by kernel_rfl) (cutOK_of (l := [(L_toStringS_b0_cut k, sub (bodyOf Go.Proofs.Try.f64) [1, 1, 0, 1])]) (by kernel_rfl) ⟨L_toStringS_b0_ok k, trivial⟩) fun x R h => by
    simp only [L_toStringS_f, L_toStringS, optK_bind, optK_bif, optK_pure, optK_none, optK_oc, optK_guardT, optK_map] at h
    refine hold_of h ?_
    kernel_rfl
def L_toStringS_en (k : Nat) : Entry D := entS L_toStringS_ar (L_toStringS_f k) L_toStringS_vr
theorem L_toStringS_eo (k : Nat) : EntryOK X 64 (L_toStringS_en k) := (L_toStringS_ok k).en rfl
def L_toVersion_pl : Plan := ⟨[(0, [(1, none), (2, none)]), (1, [(1, none), (2, none), (3, none)]), (2, [(1, none), (2, none), (3, none)]), (3, [(1, none), (2, none), (3, none)]), (4, [(2, none), (3, none)]), (5, [(2, none)])],
  [],
  []⟩
def L_toVersion_cl (k : Nat) : Calls' D := ⟨[], []⟩
theorem L_toVersion_ck (k : Nat) : CallsOK X (L_toVersion_cl k) := .nil cod
def L_toVersion_cu (k : Nat) : Cuts D := ⟨[], []⟩
def L_toVersion_ar : List Ar := [.a [.ki .i64, .ks, .kb]]
def L_toVersion_f (k : Nat) (x : TupA D L_toVersion_ar) : Option (IVersion) := L_toVersion k (⟨x.1.1, x.1.2.1, x.1.2.2.1⟩ : LVersion)
def L_toVersion_vr (r : IVersion) : VR D := .p (.agg [.int .i64 r.At, .str r.Text, .bool r.Gone])
theorem L_toVersion_ok (k : Nat) : Does P X 92 L_toVersion_ar (L_toVersion_f k) L_toVersion_vr :=
  does_of (body := bodyOf Go.Proofs.Try.f92) (pl := L_toVersion_pl) (k := k) (cu := L_toVersion_cu k) (tys := [[0, 0, 0]]) (L_toVersion_ck k) ctx mixed Go.Proofs.Try.func92 (by kernel_rfl) (by kernel_rfl) (cutOK_of (l := []) (by kernel_rfl) trivial) fun x R h => by
    simp only [L_toVersion_f, L_toVersion, optK_bind, optK_bif, optK_pure, optK_none, optK_oc, optK_guardT, optK_map] at h
    refine hold_of h ?_
    kernel_rfl
def L_toVersion_en (k : Nat) : Entry D := entS L_toVersion_ar (L_toVersion_f k) L_toVersion_vr
theorem L_toVersion_eo (k : Nat) : EntryOK X 92 (L_toVersion_en k) := (L_toVersion_ok k).en rfl
def L_toVersionS_pl : Plan := ⟨[(0, [(0, some 122)]), (1, [(0, some 122), (3, some 94)]), (2, [(0, some 122), (3, some 94), (4, none)]), (3, [(0, some 122), (3, some 94), (4, none), (11, none)]), (4, [(0, some 122), (3, some 94), (4, none)]), (5, [(0, some 122), (3, some 94), (4, none)]), (6, [(2, some 94)])],
  [(0, [(3, some 94)]), (1, [(0, some 122), (3, some 94), (4, none)])],
  [(11, ([(0, some 122), (3, some 94), (4, none)], [(3, some 94)]))]⟩
def L_toVersionS_cl (k : Nat) : Calls' D := ⟨[(92, L_toVersion_en k)], []⟩
theorem L_toVersionS_ck (k : Nat) : CallsOK X (L_toVersionS_cl k) := .cons (L_toVersion_eo k) (.nil cod)
def L_toVersionS_b0_L (x : (List LVersion) × Int × (List IVersion) × Unit) (o : (List IVersion)) (Q : Ex → VSt D → Prop) (R : VR D → Prop) : Prop := Q .normal (mkSt ⟨[(3, .ref 500003)], [(500003, .row)]⟩ [.sl 94 o])
def L_toVersionS_b0_cut (k : Nat) : Cut D := cutS ⟨[(0, .hole), (3, .ref 500003), (4, .hole)], [(500003, .row)]⟩ [.kl 122, .ki .i64, .kl 94] (fun (x : (List LVersion) × Int × (List IVersion) × Unit) => L_toVersionS_b0 k k x.1 x.2.1 x.2.2.1) L_toVersionS_b0_L
def L_toVersionS_b0_cu (k : Nat) : Cuts D := ⟨[], []⟩
theorem L_toVersionS_b0_ok (k : Nat) : CutFor X L_toVersionS_pl k Go.Proofs.Try.f65.results.toList (L_toVersionS_b0_cut k) (sub (bodyOf Go.Proofs.Try.f65) [1, 1, 0, 1]) :=
  loopCut_s (X := X) (sg := [.kl 122, .ki .i64, .kl 94]) (cu := L_toVersionS_b0_cu k) (cl := L_toVersionS_cl k) (tys := [[94]]) (id := 0) (c := sub (bodyOf Go.Proofs.Try.f65) [1, 1, 0, 1, 0, 0]) (f := fun n => fun (x : (List LVersion) × Int × (List IVersion) × Unit) => L_toVersionS_b0 k n x.1 x.2.1 x.2.2.1) (L_toVersionS_ck k) (cutOK_of (l := []) (by kernel_rfl) trivial) (fun _ => rfl) (fun n x Q R h => by
    simp only [L_toVersionS_b0, optK_bind, optK_bif, optK_pure, optK_none, optK_oc, optK_guardT, optK_map] at h
    refine hold_of h ?_
    kernel_rfl) (by kernel_rfl)
def L_toVersionS_cu (k : Nat) : Cuts D := ⟨[(0, some (L_toVersionS_b0_cut k))], []⟩
def L_toVersionS_ar : List Ar := [.c (.kl 122)]
def L_toVersionS_f (k : Nat) (x : TupA D L_toVersionS_ar) : Option ((List IVersion)) := L_toVersionS k x.1
def L_toVersionS_vr (r : (List IVersion)) : VR D := .p (.c (.sl 94 r))
theorem L_toVersionS_ok (k : Nat) : Does P X 65 L_toVersionS_ar (L_toVersionS_f k) L_toVersionS_vr :=
  does_of (body := bodyOf Go.Proofs.Try.f65) (pl := L_toVersionS_pl) (k := k) (cu := L_toVersionS_cu k) (tys := [[94]]) (L_toVersionS_ck k) ctx mixed Go.Proofs.Try.func65 (by kernel_rfl) (by kernel_rfl) (cutOK_of (l := [(L_toVersionS_b0_cut k, sub (bodyOf Go.Proofs.Try.f65) [1, 1, 0, 1])]) (by kernel_rfl) ⟨L_toVersionS_b0_ok k, trivial⟩) fun x R h => by
    simp only [L_toVersionS_f, L_toVersionS, optK_bind, optK_bif, optK_pure, optK_none, optK_oc, optK_guardT, optK_map] at h
    refine hold_of h ?_
    kernel_rfl
def L_toVersionS_en (k : Nat) : Entry D := entS L_toVersionS_ar (L_toVersionS_f k) L_toVersionS_vr
theorem L_toVersionS_eo (k : Nat) : EntryOK X 65 (L_toVersionS_en k) := (L_toVersionS_ok k).en rfl
def L_toResource_pl : Plan := ⟨[(0, [(1, none), (2, none)]), (1, [(1, none), (2, none), (3, none)]), (2, [(1, none), (2, none), (3, none)]), (3, [(1, none), (2, none), (3, none)]), (4, [(1, none), (2, none), (3, none)]), (5, [(1, none), (2, none), (3, none)]), (6, [(1, none), (2, none), (3, none)]), (7, [(2, none), (3, none)]), (8, [(2, none)])],
  [],
  []⟩
def L_toResource_cl (k : Nat) : Calls' D := ⟨[(64, L_toStringS_en k), (65, L_toVersionS_en k)], []⟩
theorem L_toResource_ck (k : Nat) : CallsOK X (L_toResource_cl k) := .cons (L_toStringS_eo k) (.cons (L_toVersionS_eo k) (.nil cod))
def L_toResource_cu (k : Nat) : Cuts D := ⟨[], []⟩
def L_toResource_ar : List Ar := [.a [.ks, .ks, .ks, .kb, .kl 9, .kl 122]]
def L_toResource_f (k : Nat) (x : TupA D L_toResource_ar) : Option (IResource) := L_toResource k (⟨x.1.1, x.1.2.1, x.1.2.2.1, x.1.2.2.2.1, x.1.2.2.2.2.1, x.1.2.2.2.2.2.1⟩ : LResource)
def L_toResource_vr (r : IResource) : VR D := .p (.agg [.str r.Target, .str r.Control, .str r.Keys, .bool r.Private, .sl 9 r.Langs, .sl 94 r.Versions])
theorem L_toResource_ok (k : Nat) : Does P X 23 L_toResource_ar (L_toResource_f k) L_toResource_vr :=
  does_of (body := bodyOf Go.Proofs.Try.f23) (pl := L_toResource_pl) (k := k) (cu := L_toResource_cu k) (tys := [[0, 0, 0, 0, 9, 94]]) (L_toResource_ck k) ctx mixed Go.Proofs.Try.func23 (by kernel_rfl) (by kernel_rfl) (cutOK_of (l := []) (by kernel_rfl) trivial) fun x R h => by
    simp only [L_toResource_f, L_toResource, optK_bind, optK_bif, optK_pure, optK_none, optK_oc, optK_guardT, optK_map] at h
    refine hold_of h ?_
    kernel_rfl
def L_toResource_en (k : Nat) : Entry D := entS L_toResource_ar (L_toResource_f k) L_toResource_vr
theorem L_toResource_eo (k : Nat) : EntryOK X 23 (L_toResource_en k) := (L_toResource_ok k).en rfl
def L_toResourceS_pl : Plan := ⟨[(0, [(0, some 39)]), (1, [(0, some 39), (3, some 44)]), (2, [(0, some 39), (3, some 44), (4, none)]), (3, [(0, some 39), (3, some 44), (4, none), (11, none)]), (4, [(0, some 39), (3, some 44), (4, none)]), (5, [(0, some 39), (3, some 44), (4, none)]), (6, [(2, some 44)])],
  [(0, [(3, some 44)]), (1, [(0, some 39), (3, some 44), (4, none)])],
  [(11, ([(0, some 39), (3, some 44), (4, none)], [(3, some 44)]))]⟩
def L_toResourceS_cl (k : Nat) : Calls' D := ⟨[(23, L_toResource_en k)], []⟩
theorem L_toResourceS_ck (k : Nat) : CallsOK X (L_toResourceS_cl k) := .cons (L_toResource_eo k) (.nil cod)
def L_toResourceS_b0_L (x : (List LResource) × Int × (List IResource) × Unit) (o : (List IResource)) (Q : Ex → VSt D → Prop) (R : VR D → Prop) : Prop := Q .normal (mkSt ⟨[(3, .ref 500003)], [(500003, .row)]⟩ [.sl 44 o])
def L_toResourceS_b0_cut (k : Nat) : Cut D := cutS ⟨[(0, .hole), (3, .ref 500003), (4, .hole)], [(500003, .row)]⟩ [.kl 39, .ki .i64, .kl 44] (fun (x : (List LResource) × Int × (List IResource) × Unit) => L_toResourceS_b0 k k x.1 x.2.1 x.2.2.1) L_toResourceS_b0_L
def L_toResourceS_b0_cu (k : Nat) : Cuts D := ⟨[], []⟩
theorem L_toResourceS_b0_ok (k : Nat) : CutFor X L_toResourceS_pl k Go.Proofs.Try.f77.results.toList (L_toResourceS_b0_cut k) (sub (bodyOf Go.Proofs.Try.f77) [1, 1, 0, 1]) :=
  loopCut_s (X := X) (sg := [.kl 39, .ki .i64, .kl 44]) (cu := L_toResourceS_b0_cu k) (cl := L_toResourceS_cl k) (tys := [[44]]) (id := 0) (c := sub (bodyOf Go.Proofs.Try.f77) [1, 1, 0, 1, 0, 0]) (f := fun n => fun (x : (List LResource) × Int × (List IResource) × Unit) => L_toResourceS_b0 k n x.1 x.2.1 x.2.2.1) (L_toResourceS_ck k) (cutOK_of (l := []) (by kernel_rfl) trivial) (fun _ => rfl) (fun n x Q R h => by
    simp only [L_toResourceS_b0, optK_bind, optK_bif, optK_pure, optK_none, optK_oc, optK_guardT, optK_map] at h
    refine hold_of h ?_
    kernel_rfl) (by kernel_rfl)
def L_toResourceS_cu (k : Nat) : Cuts D := ⟨[(0, some (L_toResourceS_b0_cut k))], []⟩
def L_toResourceS_ar : List Ar := [.c (.kl 39)]
def L_toResourceS_f (k : Nat) (x : TupA D L_toResourceS_ar) : Option ((List IResource)) := L_toResourceS k x.1
def L_toResourceS_vr (r : (List IResource)) : VR D := .p (.c (.sl 44 r))
theorem L_toResourceS_ok (k : Nat) : Does P X 77 L_toResourceS_ar (L_toResourceS_f k) L_toResourceS_vr :=
  does_of (body := bodyOf Go.Proofs.Try.f77) (pl := L_toResourceS_pl) (k := k) (cu := L_toResourceS_cu k) (tys := [[44]]) (L_toResourceS_ck k) ctx mixed Go.Proofs.Try.func77 (by kernel_rfl) (by kernel_rfl) (cutOK_of (l := [(L_toResourceS_b0_cut k, sub (bodyOf Go.Proofs.Try.f77) [1, 1, 0, 1])]) (by kernel_rfl) ⟨L_toResourceS_b0_ok k, trivial⟩) fun x R h => by
    simp only [L_toResourceS_f, L_toResourceS, optK_bind, optK_bif, optK_pure, optK_none, optK_oc, optK_guardT, optK_map] at h
    refine hold_of h ?_
    kernel_rfl
def L_toResourceS_en (k : Nat) : Entry D := entS L_toResourceS_ar (L_toResourceS_f k) L_toResourceS_vr
theorem L_toResourceS_eo (k : Nat) : EntryOK X 77 (L_toResourceS_en k) := (L_toResourceS_ok k).en rfl
def L_toOrigin_pl : Plan := ⟨[(0, [(1, none), (2, none)]), (1, [(1, none), (2, none), (3, none)]), (2, [(1, none), (2, none), (3, none)]), (3, [(2, none), (3, none)]), (4, [(2, none)])],
  [],
  []⟩
def L_toOrigin_cl (k : Nat) : Calls' D := ⟨[(77, L_toResourceS_en k)], []⟩
theorem L_toOrigin_ck (k : Nat) : CallsOK X (L_toOrigin_cl k) := .cons (L_toResourceS_eo k) (.nil cod)
def L_toOrigin_cu (k : Nat) : Cuts D := ⟨[], []⟩
def L_toOrigin_ar : List Ar := [.a [.ks, .kl 39]]
def L_toOrigin_f (k : Nat) (x : TupA D L_toOrigin_ar) : Option (IOrigin) := L_toOrigin k (⟨x.1.1, x.1.2.1⟩ : LOrigin)
def L_toOrigin_vr (r : IOrigin) : VR D := .p (.agg [.str r.Host, .sl 44 r.Resources])
theorem L_toOrigin_ok (k : Nat) : Does P X 40 L_toOrigin_ar (L_toOrigin_f k) L_toOrigin_vr :=
  does_of (body := bodyOf Go.Proofs.Try.f40) (pl := L_toOrigin_pl) (k := k) (cu := L_toOrigin_cu k) (tys := [[0, 44]]) (L_toOrigin_ck k) ctx mixed Go.Proofs.Try.func40 (by kernel_rfl) (by kernel_rfl) (cutOK_of (l := []) (by kernel_rfl) trivial) fun x R h => by
    simp only [L_toOrigin_f, L_toOrigin, optK_bind, optK_bif, optK_pure, optK_none, optK_oc, optK_guardT, optK_map] at h
    refine hold_of h ?_
    kernel_rfl
def L_toOrigin_en (k : Nat) : Entry D := entS L_toOrigin_ar (L_toOrigin_f k) L_toOrigin_vr
theorem L_toOrigin_eo (k : Nat) : EntryOK X 40 (L_toOrigin_en k) := (L_toOrigin_ok k).en rfl
def S_FindResource_pl : Plan := ⟨[(0, [(1, none), (2, none)]), (1, [(1, none), (2, none), (5, none)]), (2, [(1, none), (2, none), (5, none), (10, none)]), (3, [(1, none), (2, none), (5, none)]), (4, [(1, none), (2, none), (5, none), (20, none)]), (5, [(4, none)]), (6, [(4, none)])],
  [(0, []), (1, [(1, none), (2, none), (5, none)])],
  [(10, ([(1, none), (2, none), (5, none)], [])), (20, ([(5, none)], [(1, none), (2, none), (5, none)]))]⟩
def S_FindResource_cl (k : Nat) : Calls' D := ⟨[], []⟩
theorem S_FindResource_ck (k : Nat) : CallsOK X (S_FindResource_cl k) := .nil cod
def S_FindResource_b0_L (x : (List UInt8) × Int × (List UInt8) × (List IResource) × Unit) (o : Oc (Unit) (Int)) (Q : Ex → VSt D → Prop) (R : VR D → Prop) : Prop := ocP o (fun v0 => Q .normal (mkSt ⟨[], []⟩ [])) (fun w0 => R (.p (.c (.int .i64 w0))))
def S_FindResource_b0_cut (k : Nat) : Cut D := cutS ⟨[(1, .hole), (2, .ptr 2 0), (5, .hole)], [(2, .var [.hole, .hole])]⟩ [.ks, .ki .i64, .ks, .kl 44] (fun (x : (List UInt8) × Int × (List UInt8) × (List IResource) × Unit) => S_FindResource_b0 k k x.1 x.2.1 x.2.2.1 x.2.2.2.1) S_FindResource_b0_L
def S_FindResource_b0_cu (k : Nat) : Cuts D := ⟨[], []⟩
theorem S_FindResource_b0_ok (k : Nat) : CutFor X S_FindResource_pl k Go.Proofs.Try.f39.results.toList (S_FindResource_b0_cut k) (sub (bodyOf Go.Proofs.Try.f39) [1, 0, 1]) :=
  loopCut_s (X := X) (sg := [.ks, .ki .i64, .ks, .kl 44]) (cu := S_FindResource_b0_cu k) (cl := S_FindResource_cl k) (tys := [[0]]) (id := 0) (c := sub (bodyOf Go.Proofs.Try.f39) [1, 0, 1, 0, 0]) (f := fun n => fun (x : (List UInt8) × Int × (List UInt8) × (List IResource) × Unit) => S_FindResource_b0 k n x.1 x.2.1 x.2.2.1 x.2.2.2.1) (S_FindResource_ck k) (cutOK_of (l := []) (by kernel_rfl) trivial) (fun _ => rfl) (fun n x Q R h => by
    simp only [S_FindResource_b0, optK_bind, optK_bif, optK_pure, optK_none, optK_oc, optK_guardT, optK_map] at h
    refine hold_of h ?_
    kernel_rfl) (by kernel_rfl)
def S_FindResource_cu (k : Nat) : Cuts D := ⟨[(0, some (S_FindResource_b0_cut k))], []⟩
def S_FindResource_ar : List Ar := [.a [.ks, .kl 44], .c (.ks)]
def S_FindResource_f (k : Nat) (x : TupA D S_FindResource_ar) : Option (Int) := S_FindResource k (⟨x.1.1, x.1.2.1⟩ : IOrigin) x.2.1
def S_FindResource_vr (r : Int) : VR D := .p (.c (.int .i64 r))
theorem S_FindResource_ok (k : Nat) : Does P X 39 S_FindResource_ar (S_FindResource_f k) S_FindResource_vr :=
  does_of (body := bodyOf Go.Proofs.Try.f39) (pl := S_FindResource_pl) (k := k) (cu := S_FindResource_cu k) (tys := [[0]]) (S_FindResource_ck k) ctx mixed Go.Proofs.Try.func39 (by kernel_rfl) (by kernel_rfl) (cutOK_of (l := [(S_FindResource_b0_cut k, sub (bodyOf Go.Proofs.Try.f39) [1, 0, 1])]) (by kernel_rfl) ⟨S_FindResource_b0_ok k, trivial⟩) fun x R h => by
    simp only [S_FindResource_f, S_FindResource, optK_bind, optK_bif, optK_pure, optK_none, optK_oc, optK_guardT, optK_map] at h
    refine hold_of h ?_
    kernel_rfl
def S_FindResource_en (k : Nat) : Entry D := entS S_FindResource_ar (S_FindResource_f k) S_FindResource_vr
theorem S_FindResource_eo (k : Nat) : EntryOK X 39 (S_FindResource_en k) := (S_FindResource_ok k).en rfl
def I_FindResource_1_pl : Plan := ⟨[(0, [(1, none), (2, none)]), (1, [(3, none)])],
  [],
  []⟩
def I_FindResource_1_cl (k : Nat) : Calls' D := ⟨[], []⟩
theorem I_FindResource_1_ck (k : Nat) : CallsOK X (I_FindResource_1_cl k) := .nil cod
def I_FindResource_1_cu (k : Nat) : Cuts D := ⟨[], []⟩
def I_FindResource_1_ar : List Ar := [.a [.ks, .ks, .ks, .kb, .kl 9, .kl 94], .x [.ks]]
def I_FindResource_1_f (k : Nat) (x : TupA D I_FindResource_1_ar) : Option (Bool) := I_FindResource_1 k (⟨x.1.1, x.1.2.1, x.1.2.2.1, x.1.2.2.2.1, x.1.2.2.2.2.1, x.1.2.2.2.2.2.1⟩ : IResource) x.2.1.1
def I_FindResource_1_vr (r : Bool) : VR D := .p (.c (.bool r))
theorem I_FindResource_1_ok (k : Nat) : Does P X 79 I_FindResource_1_ar (I_FindResource_1_f k) I_FindResource_1_vr :=
  does_of (body := bodyOf Go.Proofs.Try.f79) (pl := I_FindResource_1_pl) (k := k) (cu := I_FindResource_1_cu k) (tys := [[0]]) (I_FindResource_1_ck k) ctx mixed Go.Proofs.Try.func79 (by kernel_rfl) (by kernel_rfl) (cutOK_of (l := []) (by kernel_rfl) trivial) fun x R h => by
    simp only [I_FindResource_1_f, I_FindResource_1, optK_bind, optK_bif, optK_pure, optK_none, optK_oc, optK_guardT, optK_map] at h
    refine hold_of h ?_
    kernel_rfl
def I_FindResource_1_en (k : Nat) : Entry D := entS I_FindResource_1_ar (I_FindResource_1_f k) I_FindResource_1_vr
theorem I_FindResource_1_eo (k : Nat) : EntryOK X 79 (I_FindResource_1_en k) := (I_FindResource_1_ok k).en rfl
def slices_IndexFunc_IResource_at_I_FindResource_1_pl : Plan := ⟨[(0, [(0, some 44), (1, none)]), (1, [(0, some 44), (1, none), (7, none), (8, none)]), (2, [(0, some 44), (1, none), (7, none), (8, none), (9, none)]), (3, [(0, some 44), (1, none), (5, none), (7, none), (8, none)]), (4, [(0, some 44), (1, none), (5, none), (7, none), (8, none), (16, none)]), (5, [(4, none)]), (6, [(0, some 44), (1, none), (7, none), (8, none)]), (7, [(4, none)])],
  [(0, []), (1, [(0, some 44), (1, none), (7, none), (8, none)])],
  [(9, ([(0, some 44), (1, none), (7, none), (8, none)], [])), (16, ([(5, none)], [(0, some 44), (1, none), (7, none), (8, none)]))]⟩
def slices_IndexFunc_IResource_at_I_FindResource_1_cl (k : Nat) : Calls' D := ⟨[(79, I_FindResource_1_en k)], []⟩
theorem slices_IndexFunc_IResource_at_I_FindResource_1_ck (k : Nat) : CallsOK X (slices_IndexFunc_IResource_at_I_FindResource_1_cl k) := .cons (I_FindResource_1_eo k) (.nil cod)
def slices_IndexFunc_IResource_at_I_FindResource_1_b0_L (x : (List IResource) × (List UInt8) × Int × Int × Unit) (o : Oc (Unit) (Int)) (Q : Ex → VSt D → Prop) (R : VR D → Prop) : Prop := ocP o (fun v0 => Q .normal (mkSt ⟨[], []⟩ [])) (fun w0 => R (.p (.c (.int .i64 w0))))
def slices_IndexFunc_IResource_at_I_FindResource_1_b0_cut (k : Nat) : Cut D := cutS ⟨[(0, .hole), (1, .clo 79 [.rptr 1]), (7, .hole), (8, .hole)], []⟩ [.kl 44, .ks, .ki .i64, .ki .i64] (fun (x : (List IResource) × (List UInt8) × Int × Int × Unit) => slices_IndexFunc_IResource_at_I_FindResource_1_b0 k k x.1 x.2.1 x.2.2.1 x.2.2.2.1) slices_IndexFunc_IResource_at_I_FindResource_1_b0_L
def slices_IndexFunc_IResource_at_I_FindResource_1_b0_cu (k : Nat) : Cuts D := ⟨[], []⟩
theorem slices_IndexFunc_IResource_at_I_FindResource_1_b0_ok (k : Nat) : CutFor X slices_IndexFunc_IResource_at_I_FindResource_1_pl k Go.Proofs.Try.f78.results.toList (slices_IndexFunc_IResource_at_I_FindResource_1_b0_cut k) (sub (bodyOf Go.Proofs.Try.f78) [1, 0, 1]) :=
  loopCut_s (X := X) (sg := [.kl 44, .ks, .ki .i64, .ki .i64]) (cu := slices_IndexFunc_IResource_at_I_FindResource_1_b0_cu k) (cl := slices_IndexFunc_IResource_at_I_FindResource_1_cl k) (tys := [[0]]) (id := 0) (c := sub (bodyOf Go.Proofs.Try.f78) [1, 0, 1, 0, 0]) (f := fun n => fun (x : (List IResource) × (List UInt8) × Int × Int × Unit) => slices_IndexFunc_IResource_at_I_FindResource_1_b0 k n x.1 x.2.1 x.2.2.1 x.2.2.2.1) (slices_IndexFunc_IResource_at_I_FindResource_1_ck k) (cutOK_of (l := []) (by kernel_rfl) trivial) (fun _ => rfl) (fun n x Q R h => by
    simp only [slices_IndexFunc_IResource_at_I_FindResource_1_b0, optK_bind, optK_bif, optK_pure, optK_none, optK_oc, optK_guardT, optK_map] at h
    refine hold_of h ?_
    kernel_rfl) (by kernel_rfl)
def slices_IndexFunc_IResource_at_I_FindResource_1_cu (k : Nat) : Cuts D := ⟨[(0, some (slices_IndexFunc_IResource_at_I_FindResource_1_b0_cut k))], []⟩
def slices_IndexFunc_IResource_at_I_FindResource_1_ar : List Ar := [.c (.kl 44), .f 79 [[.ks]]]
def slices_IndexFunc_IResource_at_I_FindResource_1_f (k : Nat) (x : TupA D slices_IndexFunc_IResource_at_I_FindResource_1_ar) : Option (Int) := slices_IndexFunc_IResource_at_I_FindResource_1 k x.1 x.2.1.1.1
def slices_IndexFunc_IResource_at_I_FindResource_1_vr (r : Int) : VR D := .p (.c (.int .i64 r))
theorem slices_IndexFunc_IResource_at_I_FindResource_1_ok (k : Nat) : Does P X 78 slices_IndexFunc_IResource_at_I_FindResource_1_ar (slices_IndexFunc_IResource_at_I_FindResource_1_f k) slices_IndexFunc_IResource_at_I_FindResource_1_vr :=
  does_of (body := bodyOf Go.Proofs.Try.f78) (pl := slices_IndexFunc_IResource_at_I_FindResource_1_pl) (k := k) (cu := slices_IndexFunc_IResource_at_I_FindResource_1_cu k) (tys := [[0]]) (slices_IndexFunc_IResource_at_I_FindResource_1_ck k) ctx mixed Go.Proofs.Try.func78 (by kernel_rfl) (by kernel_rfl) (cutOK_of (l := [(slices_IndexFunc_IResource_at_I_FindResource_1_b0_cut k, sub (bodyOf Go.Proofs.Try.f78) [1, 0, 1])]) (by kernel_rfl) ⟨slices_IndexFunc_IResource_at_I_FindResource_1_b0_ok k, trivial⟩) fun x R h => by
    simp only [slices_IndexFunc_IResource_at_I_FindResource_1_f, slices_IndexFunc_IResource_at_I_FindResource_1, optK_bind, optK_bif, optK_pure, optK_none, optK_oc, optK_guardT, optK_map] at h
    refine hold_of h ?_
    kernel_rfl
def slices_IndexFunc_IResource_at_I_FindResource_1_en (k : Nat) : Entry D := entS slices_IndexFunc_IResource_at_I_FindResource_1_ar (slices_IndexFunc_IResource_at_I_FindResource_1_f k) slices_IndexFunc_IResource_at_I_FindResource_1_vr
theorem slices_IndexFunc_IResource_at_I_FindResource_1_eo (k : Nat) : EntryOK X 78 (slices_IndexFunc_IResource_at_I_FindResource_1_en k) := (slices_IndexFunc_IResource_at_I_FindResource_1_ok k).en rfl
def I_FindResource_pl : Plan := ⟨[(0, [(2, none), (3, none)]), (1, [(4, none)])],
  [],
  []⟩
def I_FindResource_cl (k : Nat) : Calls' D := ⟨[(78, slices_IndexFunc_IResource_at_I_FindResource_1_en k)], []⟩
theorem I_FindResource_ck (k : Nat) : CallsOK X (I_FindResource_cl k) := .cons (slices_IndexFunc_IResource_at_I_FindResource_1_eo k) (.nil cod)
def I_FindResource_cu (k : Nat) : Cuts D := ⟨[], []⟩
def I_FindResource_ar : List Ar := [.a [.ks, .kl 44], .c (.ks)]
def I_FindResource_f (k : Nat) (x : TupA D I_FindResource_ar) : Option (Int) := I_FindResource k (⟨x.1.1, x.1.2.1⟩ : IOrigin) x.2.1
def I_FindResource_vr (r : Int) : VR D := .p (.c (.int .i64 r))
theorem I_FindResource_ok (k : Nat) : Does P X 41 I_FindResource_ar (I_FindResource_f k) I_FindResource_vr :=
  does_of (body := bodyOf Go.Proofs.Try.f41) (pl := I_FindResource_pl) (k := k) (cu := I_FindResource_cu k) (tys := [[0]]) (I_FindResource_ck k) ctx mixed Go.Proofs.Try.func41 (by kernel_rfl) (by kernel_rfl) (cutOK_of (l := []) (by kernel_rfl) trivial) fun x R h => by
    simp only [I_FindResource_f, I_FindResource, optK_bind, optK_bif, optK_pure, optK_none, optK_oc, optK_guardT, optK_map] at h
    refine hold_of h ?_
    kernel_rfl
def I_FindResource_en (k : Nat) : Entry D := entS I_FindResource_ar (I_FindResource_f k) I_FindResource_vr
theorem I_FindResource_eo (k : Nat) : EntryOK X 41 (I_FindResource_en k) := (I_FindResource_ok k).en rfl
def L_eqStringS_pl : Plan := ⟨[(0, [(0, some 9), (1, some 9)]), (1, [(0, some 9), (1, some 9), (10, none)]), (2, [(4, none)]), (3, [(0, some 9), (1, some 9), (5, none)]), (4, [(0, some 9), (1, some 9), (5, none), (14, none)]), (5, [(0, some 9), (1, some 9), (5, none)]), (6, [(0, some 9), (1, some 9), (5, none), (25, none)]), (7, [(4, none)]), (8, [(4, none)])],
  [(0, []), (1, [(0, some 9), (1, some 9), (5, none)])],
  [(10, ([], [(0, some 9), (1, some 9)])), (14, ([(0, some 9), (1, some 9), (5, none)], [])), (25, ([], [(0, some 9), (1, some 9), (5, none)]))]⟩
def L_eqStringS_cl (k : Nat) : Calls' D := ⟨[], []⟩
theorem L_eqStringS_ck (k : Nat) : CallsOK X (L_eqStringS_cl k) := .nil cod
def L_eqStringS_b0_L (x : (List (List UInt8)) × (List (List UInt8)) × Int × Unit) (o : Oc (Unit) (Bool)) (Q : Ex → VSt D → Prop) (R : VR D → Prop) : Prop := ocP o (fun v0 => Q .normal (mkSt ⟨[], []⟩ [])) (fun w0 => R (.p (.c (.bool w0))))
def L_eqStringS_b0_cut (k : Nat) : Cut D := cutS ⟨[(0, .hole), (1, .hole), (5, .hole)], []⟩ [.kl 9, .kl 9, .ki .i64] (fun (x : (List (List UInt8)) × (List (List UInt8)) × Int × Unit) => L_eqStringS_b0 k k x.1 x.2.1 x.2.2.1) L_eqStringS_b0_L
def L_eqStringS_b0_cu (k : Nat) : Cuts D := ⟨[], []⟩
theorem L_eqStringS_b0_ok (k : Nat) : CutFor X L_eqStringS_pl k Go.Proofs.Try.f66.results.toList (L_eqStringS_b0_cut k) (sub (bodyOf Go.Proofs.Try.f66) [1, 1, 0, 1]) :=
  loopCut_s (X := X) (sg := [.kl 9, .kl 9, .ki .i64]) (cu := L_eqStringS_b0_cu k) (cl := L_eqStringS_cl k) (tys := [[0]]) (id := 0) (c := sub (bodyOf Go.Proofs.Try.f66) [1, 1, 0, 1, 0, 0]) (f := fun n => fun (x : (List (List UInt8)) × (List (List UInt8)) × Int × Unit) => L_eqStringS_b0 k n x.1 x.2.1 x.2.2.1) (L_eqStringS_ck k) (cutOK_of (l := []) (by kernel_rfl) trivial) (fun _ => rfl) (fun n x Q R h => by
    simp only [L_eqStringS_b0, optK_bind, optK_bif, optK_pure, optK_none, optK_oc, optK_guardT, optK_map] at h
    refine hold_of h ?_
    kernel_rfl) (by kernel_rfl)
def L_eqStringS_cu (k : Nat) : Cuts D := ⟨[(0, some (L_eqStringS_b0_cut k))], []⟩
def L_eqStringS_ar : List Ar := [.c (.kl 9), .c (.kl 9)]
def L_eqStringS_f (k : Nat) (x : TupA D L_eqStringS_ar) : Option (Bool) := L_eqStringS k x.1 x.2.1
def L_eqStringS_vr (r : Bool) : VR D := .p (.c (.bool r))
theorem L_eqStringS_ok (k : Nat) : Does P X 66 L_eqStringS_ar (L_eqStringS_f k) L_eqStringS_vr :=
  does_of (body := bodyOf Go.Proofs.Try.f66) (pl := L_eqStringS_pl) (k := k) (cu := L_eqStringS_cu k) (tys := [[0]]) (L_eqStringS_ck k) ctx mixed Go.Proofs.Try.func66 (by kernel_rfl) (by kernel_rfl) (cutOK_of (l := [(L_eqStringS_b0_cut k, sub (bodyOf Go.Proofs.Try.f66) [1, 1, 0, 1])]) (by kernel_rfl) ⟨L_eqStringS_b0_ok k, trivial⟩) fun x R h => by
    simp only [L_eqStringS_f, L_eqStringS, optK_bind, optK_bif, optK_pure, optK_none, optK_oc, optK_guardT, optK_map] at h
    refine hold_of h ?_
    kernel_rfl
def L_eqStringS_en (k : Nat) : Entry D := entS L_eqStringS_ar (L_eqStringS_f k) L_eqStringS_vr
theorem L_eqStringS_eo (k : Nat) : EntryOK X 66 (L_eqStringS_en k) := (L_eqStringS_ok k).en rfl
def L_eqVersion_pl : Plan := ⟨[(0, [(2, none), (3, none)]), (1, [(2, none), (3, none), (9, none)]), (2, [(4, none)]), (3, [(2, none), (3, none), (14, none)]), (4, [(4, none)]), (5, [(19, none)]), (6, [(4, none)]), (7, [(4, none)])],
  [],
  [(9, ([], [(2, none), (3, none)])), (14, ([], [(2, none), (3, none)])), (19, ([], []))]⟩
def L_eqVersion_cl (k : Nat) : Calls' D := ⟨[], []⟩
theorem L_eqVersion_ck (k : Nat) : CallsOK X (L_eqVersion_cl k) := .nil cod
def L_eqVersion_cu (k : Nat) : Cuts D := ⟨[], []⟩
def L_eqVersion_ar : List Ar := [.a [.ki .i64, .ks, .kb], .a [.ki .i64, .ks, .kb]]
def L_eqVersion_f (k : Nat) (x : TupA D L_eqVersion_ar) : Option (Bool) := L_eqVersion k (⟨x.1.1, x.1.2.1, x.1.2.2.1⟩ : IVersion) (⟨x.2.1.1, x.2.1.2.1, x.2.1.2.2.1⟩ : IVersion)
def L_eqVersion_vr (r : Bool) : VR D := .p (.c (.bool r))
theorem L_eqVersion_ok (k : Nat) : Does P X 93 L_eqVersion_ar (L_eqVersion_f k) L_eqVersion_vr :=
  does_of (body := bodyOf Go.Proofs.Try.f93) (pl := L_eqVersion_pl) (k := k) (cu := L_eqVersion_cu k) (tys := [[0]]) (L_eqVersion_ck k) ctx mixed Go.Proofs.Try.func93 (by kernel_rfl) (by kernel_rfl) (cutOK_of (l := []) (by kernel_rfl) trivial) fun x R h => by
    simp only [L_eqVersion_f, L_eqVersion, optK_bind, optK_bif, optK_pure, optK_none, optK_oc, optK_guardT, optK_map] at h
    refine hold_of h ?_
    kernel_rfl
def L_eqVersion_en (k : Nat) : Entry D := entS L_eqVersion_ar (L_eqVersion_f k) L_eqVersion_vr
theorem L_eqVersion_eo (k : Nat) : EntryOK X 93 (L_eqVersion_en k) := (L_eqVersion_ok k).en rfl
def L_eqVersionS_pl : Plan := ⟨[(0, [(0, some 94), (1, some 94)]), (1, [(0, some 94), (1, some 94), (10, none)]), (2, [(4, none)]), (3, [(0, some 94), (1, some 94), (5, none)]), (4, [(0, some 94), (1, some 94), (5, none), (14, none)]), (5, [(0, some 94), (1, some 94), (5, none)]), (6, [(0, some 94), (1, some 94), (5, none), (26, none)]), (7, [(4, none)]), (8, [(4, none)])],
  [(0, []), (1, [(0, some 94), (1, some 94), (5, none)])],
  [(10, ([], [(0, some 94), (1, some 94)])), (14, ([(0, some 94), (1, some 94), (5, none)], [])), (26, ([], [(0, some 94), (1, some 94), (5, none)]))]⟩
def L_eqVersionS_cl (k : Nat) : Calls' D := ⟨[(93, L_eqVersion_en k)], []⟩
theorem L_eqVersionS_ck (k : Nat) : CallsOK X (L_eqVersionS_cl k) := .cons (L_eqVersion_eo k) (.nil cod)
def L_eqVersionS_b0_L (x : (List IVersion) × (List IVersion) × Int × Unit) (o : Oc (Unit) (Bool)) (Q : Ex → VSt D → Prop) (R : VR D → Prop) : Prop := ocP o (fun v0 => Q .normal (mkSt ⟨[], []⟩ [])) (fun w0 => R (.p (.c (.bool w0))))
def L_eqVersionS_b0_cut (k : Nat) : Cut D := cutS ⟨[(0, .hole), (1, .hole), (5, .hole)], []⟩ [.kl 94, .kl 94, .ki .i64] (fun (x : (List IVersion) × (List IVersion) × Int × Unit) => L_eqVersionS_b0 k k x.1 x.2.1 x.2.2.1) L_eqVersionS_b0_L
def L_eqVersionS_b0_cu (k : Nat) : Cuts D := ⟨[], []⟩
theorem L_eqVersionS_b0_ok (k : Nat) : CutFor X L_eqVersionS_pl k Go.Proofs.Try.f67.results.toList (L_eqVersionS_b0_cut k) (sub (bodyOf Go.Proofs.Try.f67) [1, 1, 0, 1]) :=
  loopCut_s (X := X) (sg := [.kl 94, .kl 94, .ki .i64]) (cu := L_eqVersionS_b0_cu k) (cl := L_eqVersionS_cl k) (tys := [[0]]) (id := 0) (c := sub (bodyOf Go.Proofs.Try.f67) [1, 1, 0, 1, 0, 0]) (f := fun n => fun (x : (List IVersion) × (List IVersion) × Int × Unit) => L_eqVersionS_b0 k n x.1 x.2.1 x.2.2.1) (L_eqVersionS_ck k) (cutOK_of (l := []) (by kernel_rfl) trivial) (fun _ => rfl) (fun n x Q R h => by
    simp only [L_eqVersionS_b0, optK_bind, optK_bif, optK_pure, optK_none, optK_oc, optK_guardT, optK_map] at h
    refine hold_of h ?_
    kernel_rfl) (by kernel_rfl)
def L_eqVersionS_cu (k : Nat) : Cuts D := ⟨[(0, some (L_eqVersionS_b0_cut k))], []⟩
def L_eqVersionS_ar : List Ar := [.c (.kl 94), .c (.kl 94)]
def L_eqVersionS_f (k : Nat) (x : TupA D L_eqVersionS_ar) : Option (Bool) := L_eqVersionS k x.1 x.2.1
def L_eqVersionS_vr (r : Bool) : VR D := .p (.c (.bool r))
theorem L_eqVersionS_ok (k : Nat) : Does P X 67 L_eqVersionS_ar (L_eqVersionS_f k) L_eqVersionS_vr :=
  does_of (body := bodyOf Go.Proofs.Try.f67) (pl := L_eqVersionS_pl) (k := k) (cu := L_eqVersionS_cu k) (tys := [[0]]) (L_eqVersionS_ck k) ctx mixed Go.Proofs.Try.func67 (by kernel_rfl) (by kernel_rfl) (cutOK_of (l := [(L_eqVersionS_b0_cut k, sub (bodyOf Go.Proofs.Try.f67) [1, 1, 0, 1])]) (by kernel_rfl) ⟨L_eqVersionS_b0_ok k, trivial⟩) fun x R h => by
    simp only [L_eqVersionS_f, L_eqVersionS, optK_bind, optK_bif, optK_pure, optK_none, optK_oc, optK_guardT, optK_map] at h
    refine hold_of h ?_
    kernel_rfl
def L_eqVersionS_en (k : Nat) : Entry D := entS L_eqVersionS_ar (L_eqVersionS_f k) L_eqVersionS_vr
theorem L_eqVersionS_eo (k : Nat) : EntryOK X 67 (L_eqVersionS_en k) := (L_eqVersionS_ok k).en rfl
def L_eqResource_pl : Plan := ⟨[(0, [(2, none), (3, none)]), (1, [(2, none), (3, none), (9, none)]), (2, [(4, none)]), (3, [(2, none), (3, none), (14, none)]), (4, [(4, none)]), (5, [(2, none), (3, none), (19, none)]), (6, [(4, none)]), (7, [(2, none), (3, none), (24, none)]), (8, [(4, none)]), (9, [(2, none), (3, none), (30, none)]), (10, [(4, none)]), (11, [(36, none)]), (12, [(4, none)]), (13, [(4, none)])],
  [],
  [(9, ([], [(2, none), (3, none)])), (14, ([], [(2, none), (3, none)])), (19, ([], [(2, none), (3, none)])), (24, ([], [(2, none), (3, none)])), (30, ([], [(2, none), (3, none)])), (36, ([], []))]⟩
def L_eqResource_cl (k : Nat) : Calls' D := ⟨[(66, L_eqStringS_en k), (67, L_eqVersionS_en k)], []⟩
theorem L_eqResource_ck (k : Nat) : CallsOK X (L_eqResource_cl k) := .cons (L_eqStringS_eo k) (.cons (L_eqVersionS_eo k) (.nil cod))
def L_eqResource_cu (k : Nat) : Cuts D := ⟨[], []⟩
def L_eqResource_ar : List Ar := [.a [.ks, .ks, .ks, .kb, .kl 9, .kl 94], .a [.ks, .ks, .ks, .kb, .kl 9, .kl 94]]
def L_eqResource_f (k : Nat) (x : TupA D L_eqResource_ar) : Option (Bool) := L_eqResource k (⟨x.1.1, x.1.2.1, x.1.2.2.1, x.1.2.2.2.1, x.1.2.2.2.2.1, x.1.2.2.2.2.2.1⟩ : IResource) (⟨x.2.1.1, x.2.1.2.1, x.2.1.2.2.1, x.2.1.2.2.2.1, x.2.1.2.2.2.2.1, x.2.1.2.2.2.2.2.1⟩ : IResource)
def L_eqResource_vr (r : Bool) : VR D := .p (.c (.bool r))
theorem L_eqResource_ok (k : Nat) : Does P X 25 L_eqResource_ar (L_eqResource_f k) L_eqResource_vr :=
  does_of (body := bodyOf Go.Proofs.Try.f25) (pl := L_eqResource_pl) (k := k) (cu := L_eqResource_cu k) (tys := [[0]]) (L_eqResource_ck k) ctx mixed Go.Proofs.Try.func25 (by kernel_rfl) (by kernel_rfl) (cutOK_of (l := []) (by kernel_rfl) trivial) fun x R h => by
    simp only [L_eqResource_f, L_eqResource, optK_bind, optK_bif, optK_pure, optK_none, optK_oc, optK_guardT, optK_map] at h
    refine hold_of h ?_
    kernel_rfl
def L_eqResource_en (k : Nat) : Entry D := entS L_eqResource_ar (L_eqResource_f k) L_eqResource_vr
theorem L_eqResource_eo (k : Nat) : EntryOK X 25 (L_eqResource_en k) := (L_eqResource_ok k).en rfl
def L_eqResourceS_pl : Plan := ⟨[(0, [(0, some 44), (1, some 44)]), (1, [(0, some 44), (1, some 44), (10, none)]), (2, [(4, none)]), (3, [(0, some 44), (1, some 44), (5, none)]), (4, [(0, some 44), (1, some 44), (5, none), (14, none)]), (5, [(0, some 44), (1, some 44), (5, none)]), (6, [(0, some 44), (1, some 44), (5, none), (26, none)]), (7, [(4, none)]), (8, [(4, none)])],
  [(0, []), (1, [(0, some 44), (1, some 44), (5, none)])],
  [(10, ([], [(0, some 44), (1, some 44)])), (14, ([(0, some 44), (1, some 44), (5, none)], [])), (26, ([], [(0, some 44), (1, some 44), (5, none)]))]⟩
def L_eqResourceS_cl (k : Nat) : Calls' D := ⟨[(25, L_eqResource_en k)], []⟩
theorem L_eqResourceS_ck (k : Nat) : CallsOK X (L_eqResourceS_cl k) := .cons (L_eqResource_eo k) (.nil cod)
def L_eqResourceS_b0_L (x : (List IResource) × (List IResource) × Int × Unit) (o : Oc (Unit) (Bool)) (Q : Ex → VSt D → Prop) (R : VR D → Prop) : Prop := ocP o (fun v0 => Q .normal (mkSt ⟨[], []⟩ [])) (fun w0 => R (.p (.c (.bool w0))))
def L_eqResourceS_b0_cut (k : Nat) : Cut D := cutS ⟨[(0, .hole), (1, .hole), (5, .hole)], []⟩ [.kl 44, .kl 44, .ki .i64] (fun (x : (List IResource) × (List IResource) × Int × Unit) => L_eqResourceS_b0 k k x.1 x.2.1 x.2.2.1) L_eqResourceS_b0_L
def L_eqResourceS_b0_cu (k : Nat) : Cuts D := ⟨[], []⟩
theorem L_eqResourceS_b0_ok (k : Nat) : CutFor X L_eqResourceS_pl k Go.Proofs.Try.f80.results.toList (L_eqResourceS_b0_cut k) (sub (bodyOf Go.Proofs.Try.f80) [1, 1, 0, 1]) :=
  loopCut_s (X := X) (sg := [.kl 44, .kl 44, .ki .i64]) (cu := L_eqResourceS_b0_cu k) (cl := L_eqResourceS_cl k) (tys := [[0]]) (id := 0) (c := sub (bodyOf Go.Proofs.Try.f80) [1, 1, 0, 1, 0, 0]) (f := fun n => fun (x : (List IResource) × (List IResource) × Int × Unit) => L_eqResourceS_b0 k n x.1 x.2.1 x.2.2.1) (L_eqResourceS_ck k) (cutOK_of (l := []) (by kernel_rfl) trivial) (fun _ => rfl) (fun n x Q R h => by
    simp only [L_eqResourceS_b0, optK_bind, optK_bif, optK_pure, optK_none, optK_oc, optK_guardT, optK_map] at h
    refine hold_of h ?_
    kernel_rfl) (by kernel_rfl)
def L_eqResourceS_cu (k : Nat) : Cuts D := ⟨[(0, some (L_eqResourceS_b0_cut k))], []⟩
def L_eqResourceS_ar : List Ar := [.c (.kl 44), .c (.kl 44)]
def L_eqResourceS_f (k : Nat) (x : TupA D L_eqResourceS_ar) : Option (Bool) := L_eqResourceS k x.1 x.2.1
def L_eqResourceS_vr (r : Bool) : VR D := .p (.c (.bool r))
theorem L_eqResourceS_ok (k : Nat) : Does P X 80 L_eqResourceS_ar (L_eqResourceS_f k) L_eqResourceS_vr :=
  does_of (body := bodyOf Go.Proofs.Try.f80) (pl := L_eqResourceS_pl) (k := k) (cu := L_eqResourceS_cu k) (tys := [[0]]) (L_eqResourceS_ck k) ctx mixed Go.Proofs.Try.func80 (by kernel_rfl) (by kernel_rfl) (cutOK_of (l := [(L_eqResourceS_b0_cut k, sub (bodyOf Go.Proofs.Try.f80) [1, 1, 0, 1])]) (by kernel_rfl) ⟨L_eqResourceS_b0_ok k, trivial⟩) fun x R h => by
    simp only [L_eqResourceS_f, L_eqResourceS, optK_bind, optK_bif, optK_pure, optK_none, optK_oc, optK_guardT, optK_map] at h
    refine hold_of h ?_
    kernel_rfl
def L_eqResourceS_en (k : Nat) : Entry D := entS L_eqResourceS_ar (L_eqResourceS_f k) L_eqResourceS_vr
theorem L_eqResourceS_eo (k : Nat) : EntryOK X 80 (L_eqResourceS_en k) := (L_eqResourceS_ok k).en rfl
def L_eqOrigin_pl : Plan := ⟨[(0, [(2, none), (3, none)]), (1, [(2, none), (3, none), (9, none)]), (2, [(4, none)]), (3, [(15, none)]), (4, [(4, none)]), (5, [(4, none)])],
  [],
  [(9, ([], [(2, none), (3, none)])), (15, ([], []))]⟩
def L_eqOrigin_cl (k : Nat) : Calls' D := ⟨[(80, L_eqResourceS_en k)], []⟩
theorem L_eqOrigin_ck (k : Nat) : CallsOK X (L_eqOrigin_cl k) := .cons (L_eqResourceS_eo k) (.nil cod)
def L_eqOrigin_cu (k : Nat) : Cuts D := ⟨[], []⟩
def L_eqOrigin_ar : List Ar := [.a [.ks, .kl 44], .a [.ks, .kl 44]]
def L_eqOrigin_f (k : Nat) (x : TupA D L_eqOrigin_ar) : Option (Bool) := L_eqOrigin k (⟨x.1.1, x.1.2.1⟩ : IOrigin) (⟨x.2.1.1, x.2.1.2.1⟩ : IOrigin)
def L_eqOrigin_vr (r : Bool) : VR D := .p (.c (.bool r))
theorem L_eqOrigin_ok (k : Nat) : Does P X 42 L_eqOrigin_ar (L_eqOrigin_f k) L_eqOrigin_vr :=
  does_of (body := bodyOf Go.Proofs.Try.f42) (pl := L_eqOrigin_pl) (k := k) (cu := L_eqOrigin_cu k) (tys := [[0]]) (L_eqOrigin_ck k) ctx mixed Go.Proofs.Try.func42 (by kernel_rfl) (by kernel_rfl) (cutOK_of (l := []) (by kernel_rfl) trivial) fun x R h => by
    simp only [L_eqOrigin_f, L_eqOrigin, optK_bind, optK_bif, optK_pure, optK_none, optK_oc, optK_guardT, optK_map] at h
    refine hold_of h ?_
    kernel_rfl
def L_eqOrigin_en (k : Nat) : Entry D := entS L_eqOrigin_ar (L_eqOrigin_f k) L_eqOrigin_vr
theorem L_eqOrigin_eo (k : Nat) : EntryOK X 42 (L_eqOrigin_en k) := (L_eqOrigin_ok k).en rfl
def L_FnExactFindResource_pl : Plan := ⟨[(0, [(1, none), (2, none)]), (1, [(1, none), (2, none), (11, none)]), (2, [(4, none)]), (3, [(1, none), (2, none), (5, none)]), (4, [(1, none), (2, none), (5, none)]), (5, [(1, none), (2, none), (16, none)]), (6, [(4, none)]), (7, [(1, none), (2, none), (6, none)]), (8, [(1, none), (2, none), (6, none), (7, none)]), (9, [(2, none), (6, none), (7, none), (8, none)]), (10, [(2, none), (7, none), (28, none)]), (11, [(4, none)]), (12, [(33, none)]), (13, [(4, none)]), (14, [(4, none)])],
  [],
  [(11, ([], [(1, none), (2, none)])), (16, ([], [(1, none), (2, none)])), (28, ([], [(2, none), (7, none)])), (33, ([], []))]⟩
def L_FnExactFindResource_cl (k : Nat) : Calls' D := ⟨[(38, L_szOrigin_en k), (40, L_toOrigin_en k), (39, S_FindResource_en k), (41, I_FindResource_en k), (42, L_eqOrigin_en k)], []⟩
theorem L_FnExactFindResource_ck (k : Nat) : CallsOK X (L_FnExactFindResource_cl k) := .cons (L_szOrigin_eo k) (.cons (L_toOrigin_eo k) (.cons (S_FindResource_eo k) (.cons (I_FindResource_eo k) (.cons (L_eqOrigin_eo k) (.nil cod)))))
def L_FnExactFindResource_cu (k : Nat) : Cuts D := ⟨[], []⟩
def L_FnExactFindResource_ar : List Ar := [.a [.ks, .kl 39], .c (.ks)]
def L_FnExactFindResource_f (k : Nat) (x : TupA D L_FnExactFindResource_ar) : Option (Bool) := L_FnExactFindResource k (⟨x.1.1, x.1.2.1⟩ : LOrigin) x.2.1
def L_FnExactFindResource_vr (r : Bool) : VR D := .p (.c (.bool r))
theorem L_FnExactFindResource_ok (k : Nat) : Does P X 8 L_FnExactFindResource_ar (L_FnExactFindResource_f k) L_FnExactFindResource_vr :=
  does_of (body := bodyOf Go.Proofs.Try.f8) (pl := L_FnExactFindResource_pl) (k := k) (cu := L_FnExactFindResource_cu k) (tys := [[0]]) (L_FnExactFindResource_ck k) ctx mixed Go.Proofs.Try.func8 (by kernel_rfl) (by kernel_rfl) (cutOK_of (l := []) (by kernel_rfl) trivial) fun x R h => by
    simp only [L_FnExactFindResource_f, L_FnExactFindResource, optK_bind, optK_bif, optK_pure, optK_none, optK_oc, optK_guardT, optK_map] at h
    refine hold_of h ?_
    kernel_rfl
def L_FnExactFindResource_en (k : Nat) : Entry D := entS L_FnExactFindResource_ar (L_FnExactFindResource_f k) L_FnExactFindResource_vr
theorem L_FnExactFindResource_eo (k : Nat) : EntryOK X 8 (L_FnExactFindResource_en k) := (L_FnExactFindResource_ok k).en rfl

end
end Go.Ytdninebapdohkaa
