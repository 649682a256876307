/- The machine computes the functions. Nothing is claimed here. -/
import Derived.Test.YtdninebapdohkaaKf
set_option linter.unusedVariables false
set_option linter.unusedSimpArgs false
set_option maxRecDepth 100000
namespace Go.Ytdninebapdohkaa
open Go Go.RowKit Go.Pv
noncomputable section

def L_szStringS_pl : Plan := ⟨[(0, [(0, some 9), (1, none)]), (1, [(0, some 9), (1, none)]), (2, [(0, some 9), (1, none), (11, none)]), (3, [(4, none)]), (4, [(0, some 9), (1, none), (5, none)]), (5, [(0, some 9), (1, none), (5, none), (15, none)]), (6, [(0, some 9), (1, none), (5, none)]), (7, [(0, some 9), (1, none), (5, none)]), (8, [(0, some 9), (1, none), (5, none), (26, none)]), (9, [(4, none)]), (10, [(4, none)])],
  [(0, [(1, none)]), (1, [(0, some 9), (1, none), (5, none)])],
  [(11, ([], [(0, some 9), (1, none)])), (15, ([(0, some 9), (1, none), (5, none)], [(1, none)])), (26, ([], [(0, some 9), (1, none), (5, none)]))]⟩
def L_szStringS_cl (k : Nat) : Calls' D := ⟨[], []⟩
theorem L_szStringS_ck (k : Nat) : CallsOK X (L_szStringS_cl k) := .nil cod
def L_szStringS_b0_L (x : (List (List UInt8)) × Int × Int × Unit) (o : Oc (Int) (Int)) (Q : Ex → VSt D → Prop) (R : VR D → Prop) : Prop := ocP o (fun v0 => Q .normal (mkSt ⟨[(1, .hole)], []⟩ [.int .i64 v0])) (fun w0 => R (.p (.c (.int .i64 w0))))
def L_szStringS_b0_cut (k : Nat) : Cut D := cutS ⟨[(0, .hole), (1, .hole), (5, .hole)], []⟩ [.kl 9, .ki .i64, .ki .i64] (fun (x : (List (List UInt8)) × Int × Int × Unit) => L_szStringS_b0 k k x.1 x.2.1 x.2.2.1) L_szStringS_b0_L
def L_szStringS_b0_cu (k : Nat) : Cuts D := ⟨[], []⟩
theorem L_szStringS_b0_ok (k : Nat) : CutFor X L_szStringS_pl k Go.Proofs.Try.f62.results.toList (L_szStringS_b0_cut k) (sub (bodyOf Go.Proofs.Try.f62) [1, 1, 1, 0, 1]) :=
  loopCut_s (X := X) (sg := [.kl 9, .ki .i64, .ki .i64]) (cu := L_szStringS_b0_cu k) (cl := L_szStringS_cl k) (tys := [[0]]) (id := 0) (c := sub (bodyOf Go.Proofs.Try.f62) [1, 1, 1, 0, 1, 0, 0]) (f := fun n => fun (x : (List (List UInt8)) × Int × Int × Unit) => L_szStringS_b0 k n x.1 x.2.1 x.2.2.1) (L_szStringS_ck k) (cutOK_of (l := []) (by kernel_rfl) trivial) (fun _ => rfl) (fun n x Q R h => by
    simp only [L_szStringS_b0, optK_bind, optK_bif, optK_pure, optK_none, optK_oc, optK_guardT, optK_map] at h
    refine hold_of h ?_
    kernel_rfl) (by kernel_rfl)
def L_szStringS_cu (k : Nat) : Cuts D := ⟨[(0, some (L_szStringS_b0_cut k))], []⟩
def L_szStringS_ar : List Ar := [.c (.kl 9), .c (.ki .i64)]
def L_szStringS_f (k : Nat) (x : TupA D L_szStringS_ar) : Option (Int) := L_szStringS k x.1 x.2.1
def L_szStringS_vr (r : Int) : VR D := .p (.c (.int .i64 r))
theorem L_szStringS_ok (k : Nat) : Does P X 62 L_szStringS_ar (L_szStringS_f k) L_szStringS_vr :=
  does_of (body := bodyOf Go.Proofs.Try.f62) (pl := L_szStringS_pl) (k := k) (cu := L_szStringS_cu k) (tys := [[0]]) (L_szStringS_ck k) ctx mixed Go.Proofs.Try.func62 (by kernel_rfl) (by kernel_rfl) (cutOK_of (l := [(L_szStringS_b0_cut k, sub (bodyOf Go.Proofs.Try.f62) [1, 1, 1, 0, 1])]) (by kernel_rfl) ⟨L_szStringS_b0_ok k, trivial⟩) fun x R h => by
    simp only [L_szStringS_f, L_szStringS, optK_bind, optK_bif, optK_pure, optK_none, optK_oc, optK_guardT, optK_map] at h
    refine hold_of h ?_
    kernel_rfl
def L_szStringS_en (k : Nat) : Entry D := entS L_szStringS_ar (L_szStringS_f k) L_szStringS_vr
theorem L_szStringS_eo (k : Nat) : EntryOK X 62 (L_szStringS_en k) := (L_szStringS_ok k).en rfl
def L_szVersion_pl : Plan := ⟨[(0, [(1, none), (2, none)]), (1, [(1, none)]), (2, [(1, none), (11, none)]), (3, [(4, none)]), (4, [(4, none)])],
  [],
  [(11, ([], [(1, none)]))]⟩
def L_szVersion_cl (k : Nat) : Calls' D := ⟨[], []⟩
theorem L_szVersion_ck (k : Nat) : CallsOK X (L_szVersion_cl k) := .nil cod
def L_szVersion_cu (k : Nat) : Cuts D := ⟨[], []⟩
def L_szVersion_ar : List Ar := [.a [.ki .i64, .ks, .kb], .c (.ki .i64)]
def L_szVersion_f (k : Nat) (x : TupA D L_szVersion_ar) : Option (Int) := L_szVersion k (⟨x.1.1, x.1.2.1, x.1.2.2.1⟩ : LVersion) x.2.1
def L_szVersion_vr (r : Int) : VR D := .p (.c (.int .i64 r))
theorem L_szVersion_ok (k : Nat) : Does P X 91 L_szVersion_ar (L_szVersion_f k) L_szVersion_vr :=
  does_of (body := bodyOf Go.Proofs.Try.f91) (pl := L_szVersion_pl) (k := k) (cu := L_szVersion_cu k) (tys := [[0]]) (L_szVersion_ck k) ctx mixed Go.Proofs.Try.func91 (by kernel_rfl) (by kernel_rfl) (cutOK_of (l := []) (by kernel_rfl) trivial) fun x R h => by
    simp only [L_szVersion_f, L_szVersion, optK_bind, optK_bif, optK_pure, optK_none, optK_oc, optK_guardT, optK_map] at h
    refine hold_of h ?_
    kernel_rfl
def L_szVersion_en (k : Nat) : Entry D := entS L_szVersion_ar (L_szVersion_f k) L_szVersion_vr
theorem L_szVersion_eo (k : Nat) : EntryOK X 91 (L_szVersion_en k) := (L_szVersion_ok k).en rfl
def L_szVersionS_pl : Plan := ⟨[(0, [(0, some 122), (1, none)]), (1, [(0, some 122), (1, none)]), (2, [(0, some 122), (1, none), (11, none)]), (3, [(4, none)]), (4, [(0, some 122), (1, none), (5, none)]), (5, [(0, some 122), (1, none), (5, none), (15, none)]), (6, [(0, some 122), (1, none), (5, none)]), (7, [(0, some 122), (1, none), (5, none)]), (8, [(0, some 122), (1, none), (5, none), (25, none)]), (9, [(4, none)]), (10, [(4, none)])],
  [(0, [(1, none)]), (1, [(0, some 122), (1, none), (5, none)])],
  [(11, ([], [(0, some 122), (1, none)])), (15, ([(0, some 122), (1, none), (5, none)], [(1, none)])), (25, ([], [(0, some 122), (1, none), (5, none)]))]⟩
def L_szVersionS_cl (k : Nat) : Calls' D := ⟨[(91, L_szVersion_en k)], []⟩
theorem L_szVersionS_ck (k : Nat) : CallsOK X (L_szVersionS_cl k) := .cons (L_szVersion_eo k) (.nil cod)
def L_szVersionS_b0_L (x : (List LVersion) × Int × Int × Unit) (o : Oc (Int) (Int)) (Q : Ex → VSt D → Prop) (R : VR D → Prop) : Prop := ocP o (fun v0 => Q .normal (mkSt ⟨[(1, .hole)], []⟩ [.int .i64 v0])) (fun w0 => R (.p (.c (.int .i64 w0))))
def L_szVersionS_b0_cut (k : Nat) : Cut D := cutS ⟨[(0, .hole), (1, .hole), (5, .hole)], []⟩ [.kl 122, .ki .i64, .ki .i64] (fun (x : (List LVersion) × Int × Int × Unit) => L_szVersionS_b0 k k x.1 x.2.1 x.2.2.1) L_szVersionS_b0_L
def L_szVersionS_b0_cu (k : Nat) : Cuts D := ⟨[], []⟩
theorem L_szVersionS_b0_ok (k : Nat) : CutFor X L_szVersionS_pl k Go.Proofs.Try.f63.results.toList (L_szVersionS_b0_cut k) (sub (bodyOf Go.Proofs.Try.f63) [1, 1, 1, 0, 1]) :=
  loopCut_s (X := X) (sg := [.kl 122, .ki .i64, .ki .i64]) (cu := L_szVersionS_b0_cu k) (cl := L_szVersionS_cl k) (tys := [[0]]) (id := 0) (c := sub (bodyOf Go.Proofs.Try.f63) [1, 1, 1, 0, 1, 0, 0]) (f := fun n => fun (x : (List LVersion) × Int × Int × Unit) => L_szVersionS_b0 k n x.1 x.2.1 x.2.2.1) (L_szVersionS_ck k) (cutOK_of (l := []) (by kernel_rfl) trivial) (fun _ => rfl) (fun n x Q R h => by
    simp only [L_szVersionS_b0, optK_bind, optK_bif, optK_pure, optK_none, optK_oc, optK_guardT, optK_map] at h
    refine hold_of h ?_
    kernel_rfl) (by kernel_rfl)
def L_szVersionS_cu (k : Nat) : Cuts D := ⟨[(0, some (L_szVersionS_b0_cut k))], []⟩
def L_szVersionS_ar : List Ar := [.c (.kl 122), .c (.ki .i64)]
def L_szVersionS_f (k : Nat) (x : TupA D L_szVersionS_ar) : Option (Int) := L_szVersionS k x.1 x.2.1
def L_szVersionS_vr (r : Int) : VR D := .p (.c (.int .i64 r))
theorem L_szVersionS_ok (k : Nat) : Does P X 63 L_szVersionS_ar (L_szVersionS_f k) L_szVersionS_vr :=
  does_of (body := bodyOf Go.Proofs.Try.f63) (pl := L_szVersionS_pl) (k := k) (cu := L_szVersionS_cu k) (tys := [[0]]) (L_szVersionS_ck k) ctx mixed Go.Proofs.Try.func63 (by kernel_rfl) (by kernel_rfl) (cutOK_of (l := [(L_szVersionS_b0_cut k, sub (bodyOf Go.Proofs.Try.f63) [1, 1, 1, 0, 1])]) (by kernel_rfl) ⟨L_szVersionS_b0_ok k, trivial⟩) fun x R h => by
    simp only [L_szVersionS_f, L_szVersionS, optK_bind, optK_bif, optK_pure, optK_none, optK_oc, optK_guardT, optK_map] at h
    refine hold_of h ?_
    kernel_rfl
def L_szVersionS_en (k : Nat) : Entry D := entS L_szVersionS_ar (L_szVersionS_f k) L_szVersionS_vr
theorem L_szVersionS_eo (k : Nat) : EntryOK X 63 (L_szVersionS_en k) := (L_szVersionS_ok k).en rfl
def L_szResource_pl : Plan := ⟨[(0, [(1, none), (2, none)]), (1, [(1, none), (2, none)]), (2, [(1, none), (2, none), (11, none)]), (3, [(4, none)]), (4, [(1, none), (2, none)]), (5, [(1, none), (2, none), (18, none)]), (6, [(4, none)]), (7, [(1, none), (2, none)]), (8, [(1, none), (2, none), (25, none)]), (9, [(4, none)]), (10, [(1, none), (2, none)]), (11, [(1, none), (2, none), (31, none)]), (12, [(4, none)]), (13, [(1, none)]), (14, [(1, none), (37, none)]), (15, [(4, none)]), (16, [(4, none)])],
  [],
  [(11, ([], [(1, none), (2, none)])), (18, ([], [(1, none), (2, none)])), (25, ([], [(1, none), (2, none)])), (31, ([], [(1, none), (2, none)])), (37, ([], [(1, none)]))]⟩
def L_szResource_cl (k : Nat) : Calls' D := ⟨[(62, L_szStringS_en k), (63, L_szVersionS_en k)], []⟩
theorem L_szResource_ck (k : Nat) : CallsOK X (L_szResource_cl k) := .cons (L_szStringS_eo k) (.cons (L_szVersionS_eo k) (.nil cod))
def L_szResource_cu (k : Nat) : Cuts D := ⟨[], []⟩
def L_szResource_ar : List Ar := [.a [.ks, .ks, .ks, .kb, .kl 9, .kl 122], .c (.ki .i64)]
def L_szResource_f (k : Nat) (x : TupA D L_szResource_ar) : Option (Int) := L_szResource k (⟨x.1.1, x.1.2.1, x.1.2.2.1, x.1.2.2.2.1, x.1.2.2.2.2.1, x.1.2.2.2.2.2.1⟩ : LResource) x.2.1
def L_szResource_vr (r : Int) : VR D := .p (.c (.int .i64 r))
theorem L_szResource_ok (k : Nat) : Does P X 21 L_szResource_ar (L_szResource_f k) L_szResource_vr :=
  does_of (body := bodyOf Go.Proofs.Try.f21) (pl := L_szResource_pl) (k := k) (cu := L_szResource_cu k) (tys := [[0]]) (L_szResource_ck k) ctx mixed Go.Proofs.Try.func21 (by kernel_rfl) (by kernel_rfl) (cutOK_of (l := []) (by kernel_rfl) trivial) fun x R h => by
    simp only [L_szResource_f, L_szResource, optK_bind, optK_bif, optK_pure, optK_none, optK_oc, optK_guardT, optK_map] at h
    refine hold_of h ?_
    kernel_rfl
def L_szResource_en (k : Nat) : Entry D := entS L_szResource_ar (L_szResource_f k) L_szResource_vr
theorem L_szResource_eo (k : Nat) : EntryOK X 21 (L_szResource_en k) := (L_szResource_ok k).en rfl
def L_toStringS_pl : Plan := ⟨[(0, [(0, some 9)]), (1, [(0, some 9), (3, some 9)]), (2, [(0, some 9), (3, some 9), (4, none)]), (3, [(0, some 9), (3, some 9), (4, none), (11, none)]), (4, [(0, some 9), (3, some 9), (4, none)]), (5, [(0, some 9), (3, some 9), (4, none)]), (6, [(2, some 9)])],
  [(0, [(3, some 9)]), (1, [(0, some 9), (3, some 9), (4, none)])],
  [(11, ([(0, some 9), (3, some 9), (4, none)], [(3, some 9)]))]⟩
def L_toStringS_cl (k : Nat) : Calls' D := ⟨[], []⟩
theorem L_toStringS_ck (k : Nat) : CallsOK X (L_toStringS_cl k) := .nil cod
def L_toStringS_b0_L (x : (List (List UInt8)) × Int × (List (List UInt8)) × Unit) (o : (List (List UInt8))) (Q : Ex → VSt D → Prop) (R : VR D → Prop) : Prop := Q .normal (mkSt ⟨[(3, .ref 500003)], [(500003, .row)]⟩ [.sl 9 o])
def L_toStringS_b0_cut (k : Nat) : Cut D := cutS ⟨[(0, .hole), (3, .ref 500003), (4, .hole)], [(500003, .row)]⟩ [.kl 9, .ki .i64, .kl 9] (fun (x : (List (List UInt8)) × Int × (List (List UInt8)) × Unit) => L_toStringS_b0 k k x.1 x.2.1 x.2.2.1) L_toStringS_b0_L
def L_toStringS_b0_cu (k : Nat) : Cuts D := ⟨[], []⟩
theorem L_toStringS_b0_ok (k : Nat) : CutFor X L_toStringS_pl k Go.Proofs.Try.f64.results.toList (L_toStringS_b0_cut k) (sub (bodyOf Go.Proofs.Try.f64) [1, 1, 0, 1]) :=
  loopCut_s (X := X) (sg := [.kl 9, .ki .i64, .kl 9]) (cu := L_toStringS_b0_cu k) (cl := L_toStringS_cl k) (tys := [[9]]) (id := 0) (c := sub (bodyOf Go.Proofs.Try.f64) [1, 1, 0, 1, 0, 0]) (f := fun n => fun (x : (List (List UInt8)) × Int × (List (List UInt8)) × Unit) => L_toStringS_b0 k n x.1 x.2.1 x.2.2.1) (L_toStringS_ck k) (cutOK_of (l := []) (by kernel_rfl) trivial) (fun _ => rfl) (fun n x Q R h => by
    simp only [L_toStringS_b0, optK_bind, optK_bif, optK_pure, optK_none, optK_oc, optK_guardT, optK_map] at h
    refine hold_of h ?_
    kernel_rfl) (by kernel_rfl)
def L_toStringS_cu (k : Nat) : Cuts D := ⟨[(0, some (L_toStringS_b0_cut k))], []⟩
def L_toStringS_ar : List Ar := [.c (.kl 9)]
def L_toStringS_f (k : Nat) (x : TupA D L_toStringS_ar) : Option ((List (List UInt8))) := L_toStringS k x.1
def L_toStringS_vr (r : (List (List UInt8))) : VR D := .p (.c (.sl 9 r))
theorem L_toStringS_ok (k : Nat) : Does P X 64 L_toStringS_ar (L_toStringS_f k) L_toStringS_vr :=
  does_of (body := bodyOf Go.Proofs.Try.f64) (pl := L_toStringS_pl) (k := k) (cu := L_toStringS_cu k) (tys := [[9]]) (L_toStringS_ck k) ctx mixed Go.Proofs.Try.func64 (by kernel_rfl) (by kernel_rfl) (cutOK_of (l := [(L_toStringS_b0_cut k, sub (bodyOf Go.Proofs.Try.f64) [1, 1, 0, 1])]) (by kernel_rfl) ⟨L_toStringS_b0_ok k, trivial⟩) fun x R h => by
    simp only [L_toStringS_f, L_toStringS, optK_bind, optK_bif, optK_pure, optK_none, optK_oc, optK_guardT, optK_map] at h
    refine hold_of h ?_
    kernel_rfl
def L_toStringS_en (k : Nat) : Entry D := entS L_toStringS_ar (L_toStringS_f k) L_toStringS_vr
theorem L_toStringS_eo (k : Nat) : EntryOK X 64 (L_toStringS_en k) := (L_toStringS_ok k).en rfl
def L_toVersion_pl : Plan := ⟨[(0, [(1, none), (2, none)]), (1, [(1, none), (2, none), (3, none)]), (2, [(1, none), (2, none), (3, none)]), (3, [(1, none), (2, none), (3, none)]), (4, [(2, none), (3, none)]), (5, [(2, none)])],
  [],
  []⟩
def L_toVersion_cl (k : Nat) : Calls' D := ⟨[], []⟩
theorem L_toVersion_ck (k : Nat) : CallsOK X (L_toVersion_cl k) := .nil cod
def L_toVersion_cu (k : Nat) : Cuts D := ⟨[], []⟩
def L_toVersion_ar : List Ar := [.a [.ki .i64, .ks, .kb]]
def L_toVersion_f (k : Nat) (x : TupA D L_toVersion_ar) : Option (IVersion) := L_toVersion k (⟨x.1.1, x.1.2.1, x.1.2.2.1⟩ : LVersion)
def L_toVersion_vr (r : IVersion) : VR D := .p (.agg [.int .i64 r.At, .str r.Text, .bool r.Gone])
theorem L_toVersion_ok (k : Nat) : Does P X 92 L_toVersion_ar (L_toVersion_f k) L_toVersion_vr :=
  does_of (body := bodyOf Go.Proofs.Try.f92) (pl := L_toVersion_pl) (k := k) (cu := L_toVersion_cu k) (tys := [[0, 0, 0]]) (L_toVersion_ck k) ctx mixed Go.Proofs.Try.func92 (by kernel_rfl) (by kernel_rfl) (cutOK_of (l := []) (by kernel_rfl) trivial) fun x R h => by
    simp only [L_toVersion_f, L_toVersion, optK_bind, optK_bif, optK_pure, optK_none, optK_oc, optK_guardT, optK_map] at h
    refine hold_of h ?_
    kernel_rfl
def L_toVersion_en (k : Nat) : Entry D := entS L_toVersion_ar (L_toVersion_f k) L_toVersion_vr
theorem L_toVersion_eo (k : Nat) : EntryOK X 92 (L_toVersion_en k) := (L_toVersion_ok k).en rfl
def L_toVersionS_pl : Plan := ⟨[(0, [(0, some 122)]), (1, [(0, some 122), (3, some 94)]), (2, [(0, some 122), (3, some 94), (4, none)]), (3, [(0, some 122), (3, some 94), (4, none), (11, none)]), (4, [(0, some 122), (3, some 94), (4, none)]), (5, [(0, some 122), (3, some 94), (4, none)]), (6, [(2, some 94)])],
  [(0, [(3, some 94)]), (1, [(0, some 122), (3, some 94), (4, none)])],
  [(11, ([(0, some 122), (3, some 94), (4, none)], [(3, some 94)]))]⟩
def L_toVersionS_cl (k : Nat) : Calls' D := ⟨[(92, L_toVersion_en k)], []⟩
theorem L_toVersionS_ck (k : Nat) : CallsOK X (L_toVersionS_cl k) := .cons (L_toVersion_eo k) (.nil cod)
def L_toVersionS_b0_L (x : (List LVersion) × Int × (List IVersion) × Unit) (o : (List IVersion)) (Q : Ex → VSt D → Prop) (R : VR D → Prop) : Prop := Q .normal (mkSt ⟨[(3, .ref 500003)], [(500003, .row)]⟩ [.sl 94 o])
def L_toVersionS_b0_cut (k : Nat) : Cut D := cutS ⟨[(0, .hole), (3, .ref 500003), (4, .hole)], [(500003, .row)]⟩ [.kl 122, .ki .i64, .kl 94] (fun (x : (List LVersion) × Int × (List IVersion) × Unit) => L_toVersionS_b0 k k x.1 x.2.1 x.2.2.1) L_toVersionS_b0_L
def L_toVersionS_b0_cu (k : Nat) : Cuts D := ⟨[], []⟩
theorem L_toVersionS_b0_ok (k : Nat) : CutFor X L_toVersionS_pl k Go.Proofs.Try.f65.results.toList (L_toVersionS_b0_cut k) (sub (bodyOf Go.Proofs.Try.f65) [1, 1, 0, 1]) :=
  loopCut_s (X := X) (sg := [.kl 122, .ki .i64, .kl 94]) (cu := L_toVersionS_b0_cu k) (cl := L_toVersionS_cl k) (tys := [[94]]) (id := 0) (c := sub (bodyOf Go.Proofs.Try.f65) [1, 1, 0, 1, 0, 0]) (f := fun n => fun (x : (List LVersion) × Int × (List IVersion) × Unit) => L_toVersionS_b0 k n x.1 x.2.1 x.2.2.1) (L_toVersionS_ck k) (cutOK_of (l := []) (by kernel_rfl) trivial) (fun _ => rfl) (fun n x Q R h => by
    simp only [L_toVersionS_b0, optK_bind, optK_bif, optK_pure, optK_none, optK_oc, optK_guardT, optK_map] at h
    refine hold_of h ?_
    kernel_rfl) (by kernel_rfl)
def L_toVersionS_cu (k : Nat) : Cuts D := ⟨[(0, some (L_toVersionS_b0_cut k))], []⟩
def L_toVersionS_ar : List Ar := [.c (.kl 122)]
def L_toVersionS_f (k : Nat) (x : TupA D L_toVersionS_ar) : Option ((List IVersion)) := L_toVersionS k x.1
def L_toVersionS_vr (r : (List IVersion)) : VR D := .p (.c (.sl 94 r))
theorem L_toVersionS_ok (k : Nat) : Does P X 65 L_toVersionS_ar (L_toVersionS_f k) L_toVersionS_vr :=
  does_of (body := bodyOf Go.Proofs.Try.f65) (pl := L_toVersionS_pl) (k := k) (cu := L_toVersionS_cu k) (tys := [[94]]) (L_toVersionS_ck k) ctx mixed Go.Proofs.Try.func65 (by kernel_rfl) (by kernel_rfl) (cutOK_of (l := [(L_toVersionS_b0_cut k, sub (bodyOf Go.Proofs.Try.f65) [1, 1, 0, 1])]) (by kernel_rfl) ⟨L_toVersionS_b0_ok k, trivial⟩) fun x R h => by
    simp only [L_toVersionS_f, L_toVersionS, optK_bind, optK_bif, optK_pure, optK_none, optK_oc, optK_guardT, optK_map] at h
    refine hold_of h ?_
    kernel_rfl
def L_toVersionS_en (k : Nat) : Entry D := entS L_toVersionS_ar (L_toVersionS_f k) L_toVersionS_vr
theorem L_toVersionS_eo (k : Nat) : EntryOK X 65 (L_toVersionS_en k) := (L_toVersionS_ok k).en rfl
def L_toResource_pl : Plan := ⟨[(0, [(1, none), (2, none)]), (1, [(1, none), (2, none), (3, none)]), (2, [(1, none), (2, none), (3, none)]), (3, [(1, none), (2, none), (3, none)]), (4, [(1, none), (2, none), (3, none)]), (5, [(1, none), (2, none), (3, none)]), (6, [(1, none), (2, none), (3, none)]), (7, [(2, none), (3, none)]), (8, [(2, none)])],
  [],
  []⟩
def L_toResource_cl (k : Nat) : Calls' D := ⟨[(64, L_toStringS_en k), (65, L_toVersionS_en k)], []⟩
theorem L_toResource_ck (k : Nat) : CallsOK X (L_toResource_cl k) := .cons (L_toStringS_eo k) (.cons (L_toVersionS_eo k) (.nil cod))
def L_toResource_cu (k : Nat) : Cuts D := ⟨[], []⟩
def L_toResource_ar : List Ar := [.a [.ks, .ks, .ks, .kb, .kl 9, .kl 122]]
def L_toResource_f (k : Nat) (x : TupA D L_toResource_ar) : Option (IResource) := L_toResource k (⟨x.1.1, x.1.2.1, x.1.2.2.1, x.1.2.2.2.1, x.1.2.2.2.2.1, x.1.2.2.2.2.2.1⟩ : LResource)
def L_toResource_vr (r : IResource) : VR D := .p (.agg [.str r.Target, .str r.Control, .str r.Keys, .bool r.Private, .sl 9 r.Langs, .sl 94 r.Versions])
theorem L_toResource_ok (k : Nat) : Does P X 23 L_toResource_ar (L_toResource_f k) L_toResource_vr :=
  does_of (body := bodyOf Go.Proofs.Try.f23) (pl := L_toResource_pl) (k := k) (cu := L_toResource_cu k) (tys := [[0, 0, 0, 0, 9, 94]]) (L_toResource_ck k) ctx mixed Go.Proofs.Try.func23 (by kernel_rfl) (by kernel_rfl) (cutOK_of (l := []) (by kernel_rfl) trivial) fun x R h => by
    simp only [L_toResource_f, L_toResource, optK_bind, optK_bif, optK_pure, optK_none, optK_oc, optK_guardT, optK_map] at h
    refine hold_of h ?_
    kernel_rfl
def L_toResource_en (k : Nat) : Entry D := entS L_toResource_ar (L_toResource_f k) L_toResource_vr
theorem L_toResource_eo (k : Nat) : EntryOK X 23 (L_toResource_en k) := (L_toResource_ok k).en rfl
def S_ControlOf_pl : Plan := ⟨[(0, [(1, none)]), (1, [(1, none), (3, none)]), (2, [(2, none)]), (3, [(1, none), (11, none)]), (4, [(2, none)]), (5, [(2, none)])],
  [(0, [(1, none)])],
  [(3, ([], [(1, none)])), (11, ([(1, none)], [(1, none)]))]⟩
def S_ControlOf_cl (k : Nat) : Calls' D := ⟨[], []⟩
theorem S_ControlOf_ck (k : Nat) : CallsOK X (S_ControlOf_cl k) := .nil cod
def S_ControlOf_cu (k : Nat) : Cuts D := ⟨[], []⟩
def S_ControlOf_ar : List Ar := [.a [.ks, .ks, .ks, .kb, .kl 9, .kl 94]]
def S_ControlOf_f (k : Nat) (x : TupA D S_ControlOf_ar) : Option ((List UInt8)) := S_ControlOf k (⟨x.1.1, x.1.2.1, x.1.2.2.1, x.1.2.2.2.1, x.1.2.2.2.2.1, x.1.2.2.2.2.2.1⟩ : IResource)
def S_ControlOf_vr (r : (List UInt8)) : VR D := .p (.c (.str r))
theorem S_ControlOf_ok (k : Nat) : Does P X 26 S_ControlOf_ar (S_ControlOf_f k) S_ControlOf_vr :=
  does_of (body := bodyOf Go.Proofs.Try.f26) (pl := S_ControlOf_pl) (k := k) (cu := S_ControlOf_cu k) (tys := [[0]]) (S_ControlOf_ck k) ctx mixed Go.Proofs.Try.func26 (by kernel_rfl) (by kernel_rfl) (cutOK_of (l := []) (by kernel_rfl) trivial) fun x R h => by
    simp only [S_ControlOf_f, S_ControlOf, optK_bind, optK_bif, optK_pure, optK_none, optK_oc, optK_guardT, optK_map] at h
    refine hold_of h ?_
    kernel_rfl
def S_ControlOf_en (k : Nat) : Entry D := entS S_ControlOf_ar (S_ControlOf_f k) S_ControlOf_vr
theorem S_ControlOf_eo (k : Nat) : EntryOK X 26 (S_ControlOf_en k) := (S_ControlOf_ok k).en rfl
def I_ControlOf_pl : Plan := ⟨[(0, [(1, none)]), (1, [(1, none), (3, none)]), (2, [(2, none)]), (3, [(1, none), (9, none)]), (4, [(2, none)]), (5, [(2, none)])],
  [(0, [(1, none)])],
  [(3, ([(1, none)], [(1, none)])), (9, ([], [(1, none)]))]⟩
def I_ControlOf_cl (k : Nat) : Calls' D := ⟨[], []⟩
theorem I_ControlOf_ck (k : Nat) : CallsOK X (I_ControlOf_cl k) := .nil cod
def I_ControlOf_cu (k : Nat) : Cuts D := ⟨[], []⟩
def I_ControlOf_ar : List Ar := [.a [.ks, .ks, .ks, .kb, .kl 9, .kl 94]]
def I_ControlOf_f (k : Nat) (x : TupA D I_ControlOf_ar) : Option ((List UInt8)) := I_ControlOf k (⟨x.1.1, x.1.2.1, x.1.2.2.1, x.1.2.2.2.1, x.1.2.2.2.2.1, x.1.2.2.2.2.2.1⟩ : IResource)
def I_ControlOf_vr (r : (List UInt8)) : VR D := .p (.c (.str r))
theorem I_ControlOf_ok (k : Nat) : Does P X 27 I_ControlOf_ar (I_ControlOf_f k) I_ControlOf_vr :=
  does_of (body := bodyOf Go.Proofs.Try.f27) (pl := I_ControlOf_pl) (k := k) (cu := I_ControlOf_cu k) (tys := [[0]]) (I_ControlOf_ck k) ctx mixed Go.Proofs.Try.func27 (by kernel_rfl) (by kernel_rfl) (cutOK_of (l := []) (by kernel_rfl) trivial) fun x R h => by
    simp only [I_ControlOf_f, I_ControlOf, optK_bind, optK_bif, optK_pure, optK_none, optK_oc, optK_guardT, optK_map] at h
    refine hold_of h ?_
    kernel_rfl
def I_ControlOf_en (k : Nat) : Entry D := entS I_ControlOf_ar (I_ControlOf_f k) I_ControlOf_vr
theorem I_ControlOf_eo (k : Nat) : EntryOK X 27 (I_ControlOf_en k) := (I_ControlOf_ok k).en rfl
def L_eqStringS_pl : Plan := ⟨[(0, [(0, some 9), (1, some 9)]), (1, [(0, some 9), (1, some 9), (10, none)]), (2, [(4, none)]), (3, [(0, some 9), (1, some 9), (5, none)]), (4, [(0, some 9), (1, some 9), (5, none), (14, none)]), (5, [(0, some 9), (1, some 9), (5, none)]), (6, [(0, some 9), (1, some 9), (5, none), (25, none)]), (7, [(4, none)]), (8, [(4, none)])],
  [(0, []), (1, [(0, some 9), (1, some 9), (5, none)])],
  [(10, ([], [(0, some 9), (1, some 9)])), (14, ([(0, some 9), (1, some 9), (5, none)], [])), (25, ([], [(0, some 9), (1, some 9), (5, none)]))]⟩
def L_eqStringS_cl (k : Nat) : Calls' D := ⟨[], []⟩
theorem L_eqStringS_ck (k : Nat) : CallsOK X (L_eqStringS_cl k) := .nil cod
def L_eqStringS_b0_L (x : (List (List UInt8)) × (List (List UInt8)) × Int × Unit) (o : Oc (Unit) (Bool)) (Q : Ex → VSt D → Prop) (R : VR D → Prop) : Prop := ocP o (fun v0 => Q .normal (mkSt ⟨[], []⟩ [])) (fun w0 => R (.p (.c (.bool w0))))
def L_eqStringS_b0_cut (k : Nat) : Cut D := cutS ⟨[(0, .hole), (1, .hole), (5, .hole)], []⟩ [.kl 9, .kl 9, .ki .i64] (fun (x : (List (List UInt8)) × (List (List UInt8)) × Int × Unit) => L_eqStringS_b0 k k x.1 x.2.1 x.2.2.1) L_eqStringS_b0_L
def L_eqStringS_b0_cu (k : Nat) : Cuts D := ⟨[], []⟩
theorem L_eqStringS_b0_ok (k : Nat) : CutFor X L_eqStringS_pl k Go.Proofs.Try.f66.results.toList (L_eqStringS_b0_cut k) (sub (bodyOf Go.Proofs.Try.f66) [1, 1, 0, 1]) :=
  loopCut_s (X := X) (sg := [.kl 9, .kl 9, .ki .i64]) (cu := L_eqStringS_b0_cu k) (cl := L_eqStringS_cl k) (tys := [[0]]) (id := 0) (c := sub (bodyOf Go.Proofs.Try.f66) [1, 1, 0, 1, 0, 0]) (f := fun n => fun (x : (List (List UInt8)) × (List (List UInt8)) × Int × Unit) => L_eqStringS_b0 k n x.1 x.2.1 x.2.2.1) (L_eqStringS_ck k) (cutOK_of (l := []) (by kernel_rfl) trivial) (fun _ => rfl) (fun n x Q R h => by
    simp only [L_eqStringS_b0, optK_bind, optK_bif, optK_pure, optK_none, optK_oc, optK_guardT, optK_map] at h
    refine hold_of h ?_
    kernel_rfl) (by kernel_rfl)
def L_eqStringS_cu (k : Nat) : Cuts D := ⟨[(0, some (L_eqStringS_b0_cut k))], []⟩
def L_eqStringS_ar : List Ar := [.c (.kl 9), .c (.kl 9)]
def L_eqStringS_f (k : Nat) (x : TupA D L_eqStringS_ar) : Option (Bool) := L_eqStringS k x.1 x.2.1
def L_eqStringS_vr (r : Bool) : VR D := .p (.c (.bool r))
theorem L_eqStringS_ok (k : Nat) : Does P X 66 L_eqStringS_ar (L_eqStringS_f k) L_eqStringS_vr :=
  does_of (body := bodyOf Go.Proofs.Try.f66) (pl := L_eqStringS_pl) (k := k) (cu := L_eqStringS_cu k) (tys := [[0]]) (L_eqStringS_ck k) ctx mixed Go.Proofs.Try.func66 (by kernel_rfl) (by kernel_rfl) (cutOK_of (l := [(L_eqStringS_b0_cut k, sub (bodyOf Go.Proofs.Try.f66) [1, 1, 0, 1])]) (by kernel_rfl) ⟨L_eqStringS_b0_ok k, trivial⟩) fun x R h => by
    simp only [L_eqStringS_f, L_eqStringS, optK_bind, optK_bif, optK_pure, optK_none, optK_oc, optK_guardT, optK_map] at h
    refine hold_of h ?_
    kernel_rfl
def L_eqStringS_en (k : Nat) : Entry D := entS L_eqStringS_ar (L_eqStringS_f k) L_eqStringS_vr
theorem L_eqStringS_eo (k : Nat) : EntryOK X 66 (L_eqStringS_en k) := (L_eqStringS_ok k).en rfl
def L_eqVersion_pl : Plan := ⟨[(0, [(2, none), (3, none)]), (1, [(2, none), (3, none), (9, none)]), (2, [(4, none)]), (3, [(2, none), (3, none), (14, none)]), (4, [(4, none)]), (5, [(19, none)]), (6, [(4, none)]), (7, [(4, none)])],
  [],
  [(9, ([], [(2, none), (3, none)])), (14, ([], [(2, none), (3, none)])), (19, ([], []))]⟩
def L_eqVersion_cl (k : Nat) : Calls' D := ⟨[], []⟩
theorem L_eqVersion_ck (k : Nat) : CallsOK X (L_eqVersion_cl k) := .nil cod
def L_eqVersion_cu (k : Nat) : Cuts D := ⟨[], []⟩
def L_eqVersion_ar : List Ar := [.a [.ki .i64, .ks, .kb], .a [.ki .i64, .ks, .kb]]
def L_eqVersion_f (k : Nat) (x : TupA D L_eqVersion_ar) : Option (Bool) := L_eqVersion k (⟨x.1.1, x.1.2.1, x.1.2.2.1⟩ : IVersion) (⟨x.2.1.1, x.2.1.2.1, x.2.1.2.2.1⟩ : IVersion)
def L_eqVersion_vr (r : Bool) : VR D := .p (.c (.bool r))
theorem L_eqVersion_ok (k : Nat) : Does P X 93 L_eqVersion_ar (L_eqVersion_f k) L_eqVersion_vr :=
  does_of (body := bodyOf Go.Proofs.Try.f93) (pl := L_eqVersion_pl) (k := k) (cu := L_eqVersion_cu k) (tys := [[0]]) (L_eqVersion_ck k) ctx mixed Go.Proofs.Try.func93 (by kernel_rfl) (by kernel_rfl) (cutOK_of (l := []) (by kernel_rfl) trivial) fun x R h => by
    simp only [L_eqVersion_f, L_eqVersion, optK_bind, optK_bif, optK_pure, optK_none, optK_oc, optK_guardT, optK_map] at h
    refine hold_of h ?_
    kernel_rfl
def L_eqVersion_en (k : Nat) : Entry D := entS L_eqVersion_ar (L_eqVersion_f k) L_eqVersion_vr
theorem L_eqVersion_eo (k : Nat) : EntryOK X 93 (L_eqVersion_en k) := (L_eqVersion_ok k).en rfl
def L_eqVersionS_pl : Plan := ⟨[(0, [(0, some 94), (1, some 94)]), (1, [(0, some 94), (1, some 94), (10, none)]), (2, [(4, none)]), (3, [(0, some 94), (1, some 94), (5, none)]), (4, [(0, some 94), (1, some 94), (5, none), (14, none)]), (5, [(0, some 94), (1, some 94), (5, none)]), (6, [(0, some 94), (1, some 94), (5, none), (26, none)]), (7, [(4, none)]), (8, [(4, none)])],
  [(0, []), (1, [(0, some 94), (1, some 94), (5, none)])],
  [(10, ([], [(0, some 94), (1, some 94)])), (14, ([(0, some 94), (1, some 94), (5, none)], [])), (26, ([], [(0, some 94), (1, some 94), (5, none)]))]⟩
def L_eqVersionS_cl (k : Nat) : Calls' D := ⟨[(93, L_eqVersion_en k)], []⟩
theorem L_eqVersionS_ck (k : Nat) : CallsOK X (L_eqVersionS_cl k) := .cons (L_eqVersion_eo k) (.nil cod)
def L_eqVersionS_b0_L (x : (List IVersion) × (List IVersion) × Int × Unit) (o : Oc (Unit) (Bool)) (Q : Ex → VSt D → Prop) (R : VR D → Prop) : Prop := ocP o (fun v0 => Q .normal (mkSt ⟨[], []⟩ [])) (fun w0 => R (.p (.c (.bool w0))))
def L_eqVersionS_b0_cut (k : Nat) : Cut D := cutS ⟨[(0, .hole), (1, .hole), (5, .hole)], []⟩ [.kl 94, .kl 94, .ki .i64] (fun (x : (List IVersion) × (List IVersion) × Int × Unit) => L_eqVersionS_b0 k k x.1 x.2.1 x.2.2.1) L_eqVersionS_b0_L
def L_eqVersionS_b0_cu (k : Nat) : Cuts D := ⟨[], []⟩
theorem L_eqVersionS_b0_ok (k : Nat) : CutFor X L_eqVersionS_pl k Go.Proofs.Try.f67.results.toList (L_eqVersionS_b0_cut k) (sub (bodyOf Go.Proofs.Try.f67) [1, 1, 0, 1]) :=
  loopCut_s (X := X) (sg := [.kl 94, .kl 94, .ki .i64]) (cu := L_eqVersionS_b0_cu k) (cl := L_eqVersionS_cl k) (tys := [[0]]) (id := 0) (c := sub (bodyOf Go.Proofs.Try.f67) [1, 1, 0, 1, 0, 0]) (f := fun n => fun (x : (List IVersion) × (List IVersion) × Int × Unit) => L_eqVersionS_b0 k n x.1 x.2.1 x.2.2.1) (L_eqVersionS_ck k) (cutOK_of (l := []) (by kernel_rfl) trivial) (fun _ => rfl) (fun n x Q R h => by
    simp only [L_eqVersionS_b0, optK_bind, optK_bif, optK_pure, optK_none, optK_oc, optK_guardT, optK_map] at h
    refine hold_of h ?_
    kernel_rfl) (by kernel_rfl)
def L_eqVersionS_cu (k : Nat) : Cuts D := ⟨[(0, some (L_eqVersionS_b0_cut k))], []⟩
def L_eqVersionS_ar : List Ar := [.c (.kl 94), .c (.kl 94)]
def L_eqVersionS_f (k : Nat) (x : TupA D L_eqVersionS_ar) : Option (Bool) := L_eqVersionS k x.1 x.2.1
def L_eqVersionS_vr (r : Bool) : VR D := .p (.c (.bool r))
theorem L_eqVersionS_ok (k : Nat) : Does P X 67 L_eqVersionS_ar (L_eqVersionS_f k) L_eqVersionS_vr :=
  does_of (body := bodyOf Go.Proofs.Try.f67) (pl := L_eqVersionS_pl) (k := k) (cu := L_eqVersionS_cu k) (tys := [[0]]) (L_eqVersionS_ck k) ctx mixed Go.Proofs.Try.func67 (by kernel_rfl) (by kernel_rfl) (cutOK_of (l := [(L_eqVersionS_b0_cut k, sub (bodyOf Go.Proofs.Try.f67) [1, 1, 0, 1])]) (by kernel_rfl) ⟨L_eqVersionS_b0_ok k, trivial⟩) fun x R h => by
    simp only [L_eqVersionS_f, L_eqVersionS, optK_bind, optK_bif, optK_pure, optK_none, optK_oc, optK_guardT, optK_map] at h
    refine hold_of h ?_
    kernel_rfl
def L_eqVersionS_en (k : Nat) : Entry D := entS L_eqVersionS_ar (L_eqVersionS_f k) L_eqVersionS_vr
theorem L_eqVersionS_eo (k : Nat) : EntryOK X 67 (L_eqVersionS_en k) := (L_eqVersionS_ok k).en rfl
def L_eqResource_pl : Plan := ⟨[(0, [(2, none), (3, none)]), (1, [(2, none), (3, none), (9, none)]), (2, [(4, none)]), (3, [(2, none), (3, none), (14, none)]), (4, [(4, none)]), (5, [(2, none), (3, none), (19, none)]), (6, [(4, none)]), (7, [(2, none), (3, none), (24, none)]), (8, [(4, none)]), (9, [(2, none), (3, none), (30, none)]), (10, [(4, none)]), (11, [(36, none)]), (12, [(4, none)]), (13, [(4, none)])],
  [],
  [(9, ([], [(2, none), (3, none)])), (14, ([], [(2, none), (3, none)])), (19, ([], [(2, none), (3, none)])), (24, ([], [(2, none), (3, none)])), (30, ([], [(2, none), (3, none)])), (36, ([], []))]⟩
def L_eqResource_cl (k : Nat) : Calls' D := ⟨[(66, L_eqStringS_en k), (67, L_eqVersionS_en k)], []⟩
theorem L_eqResource_ck (k : Nat) : CallsOK X (L_eqResource_cl k) := .cons (L_eqStringS_eo k) (.cons (L_eqVersionS_eo k) (.nil cod))
def L_eqResource_cu (k : Nat) : Cuts D := ⟨[], []⟩
def L_eqResource_ar : List Ar := [.a [.ks, .ks, .ks, .kb, .kl 9, .kl 94], .a [.ks, .ks, .ks, .kb, .kl 9, .kl 94]]
def L_eqResource_f (k : Nat) (x : TupA D L_eqResource_ar) : Option (Bool) := L_eqResource k (⟨x.1.1, x.1.2.1, x.1.2.2.1, x.1.2.2.2.1, x.1.2.2.2.2.1, x.1.2.2.2.2.2.1⟩ : IResource) (⟨x.2.1.1, x.2.1.2.1, x.2.1.2.2.1, x.2.1.2.2.2.1, x.2.1.2.2.2.2.1, x.2.1.2.2.2.2.2.1⟩ : IResource)
def L_eqResource_vr (r : Bool) : VR D := .p (.c (.bool r))
theorem L_eqResource_ok (k : Nat) : Does P X 25 L_eqResource_ar (L_eqResource_f k) L_eqResource_vr :=
  does_of (body := bodyOf Go.Proofs.Try.f25) (pl := L_eqResource_pl) (k := k) (cu := L_eqResource_cu k) (tys := [[0]]) (L_eqResource_ck k) ctx mixed Go.Proofs.Try.func25 (by kernel_rfl) (by kernel_rfl) (cutOK_of (l := []) (by kernel_rfl) trivial) fun x R h => by
    simp only [L_eqResource_f, L_eqResource, optK_bind, optK_bif, optK_pure, optK_none, optK_oc, optK_guardT, optK_map] at h
    refine hold_of h ?_
    kernel_rfl
def L_eqResource_en (k : Nat) : Entry D := entS L_eqResource_ar (L_eqResource_f k) L_eqResource_vr
theorem L_eqResource_eo (k : Nat) : EntryOK X 25 (L_eqResource_en k) := (L_eqResource_ok k).en rfl
def L_FnExactControlOf_pl : Plan := ⟨[(0, [(1, none)]), (1, [(1, none), (3, none)]), (2, [(1, none), (3, none)]), (3, [(1, none), (11, none)]), (4, [(2, none)]), (5, [(1, none), (4, none)]), (6, [(1, none), (4, none), (5, none)]), (7, [(1, none), (4, none), (5, none), (6, none)]), (8, [(1, none), (5, none), (21, none)]), (9, [(2, none)]), (10, [(26, none)]), (11, [(2, none)]), (12, [(2, none)])],
  [],
  [(11, ([], [(1, none)])), (21, ([], [(1, none), (5, none)])), (26, ([], []))]⟩
def L_FnExactControlOf_cl (k : Nat) : Calls' D := ⟨[(21, L_szResource_en k), (23, L_toResource_en k), (26, S_ControlOf_en k), (27, I_ControlOf_en k), (25, L_eqResource_en k)], []⟩
theorem L_FnExactControlOf_ck (k : Nat) : CallsOK X (L_FnExactControlOf_cl k) := .cons (L_szResource_eo k) (.cons (L_toResource_eo k) (.cons (S_ControlOf_eo k) (.cons (I_ControlOf_eo k) (.cons (L_eqResource_eo k) (.nil cod)))))
def L_FnExactControlOf_cu (k : Nat) : Cuts D := ⟨[], []⟩
def L_FnExactControlOf_ar : List Ar := [.a [.ks, .ks, .ks, .kb, .kl 9, .kl 122]]
def L_FnExactControlOf_f (k : Nat) (x : TupA D L_FnExactControlOf_ar) : Option (Bool) := L_FnExactControlOf k (⟨x.1.1, x.1.2.1, x.1.2.2.1, x.1.2.2.2.1, x.1.2.2.2.2.1, x.1.2.2.2.2.2.1⟩ : LResource)
def L_FnExactControlOf_vr (r : Bool) : VR D := .p (.c (.bool r))
theorem L_FnExactControlOf_ok (k : Nat) : Does P X 6 L_FnExactControlOf_ar (L_FnExactControlOf_f k) L_FnExactControlOf_vr :=
  does_of (body := bodyOf Go.Proofs.Try.f6) (pl := L_FnExactControlOf_pl) (k := k) (cu := L_FnExactControlOf_cu k) (tys := [[0]]) (L_FnExactControlOf_ck k) ctx mixed Go.Proofs.Try.func6 (by kernel_rfl) (by kernel_rfl) (cutOK_of (l := []) (by kernel_rfl) trivial) fun x R h => by
    simp only [L_FnExactControlOf_f, L_FnExactControlOf, optK_bind, optK_bif, optK_pure, optK_none, optK_oc, optK_guardT, optK_map] at h
    refine hold_of h ?_
    kernel_rfl
def L_FnExactControlOf_en (k : Nat) : Entry D := entS L_FnExactControlOf_ar (L_FnExactControlOf_f k) L_FnExactControlOf_vr
theorem L_FnExactControlOf_eo (k : Nat) : EntryOK X 6 (L_FnExactControlOf_en k) := (L_FnExactControlOf_ok k).en rfl

end
end Go.Ytdninebapdohkaa
