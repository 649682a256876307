/- The machine computes the functions. Nothing is claimed here. -/
import Derived.Test.YtgdjicnefdnofaaDoorKf
import Derived.Test.YtgdjicnefdnofaaDoorShelf
import Derived.Shelf.Strings.SlTrimAscii
set_option linter.unusedVariables false
set_option linter.unusedSimpArgs false
set_option maxRecDepth 100000
namespace Go.YtgdjicnefdnofaaDoor
open Go Go.RowKit Go.Pv
noncomputable section

def L_szStringS_pl : Plan := ⟨[(0, [(0, some 9), (1, none)]), (1, [(0, some 9), (1, none)]), (2, [(0, some 9), (1, none), (11, none)]), (3, [(4, none)]), (4, [(0, some 9), (1, none), (5, none)]), (5, [(0, some 9), (1, none), (5, none), (15, none)]), (6, [(0, some 9), (1, none), (5, none)]), (7, [(0, some 9), (1, none), (5, none)]), (8, [(0, some 9), (1, none), (5, none), (26, none)]), (9, [(4, none)]), (10, [(4, none)])],
  [(0, [(1, none)]), (1, [(0, some 9), (1, none), (5, none)])],
  [(11, ([], [(0, some 9), (1, none)])), (15, ([(0, some 9), (1, none), (5, none)], [(1, none)])), (26, ([], [(0, some 9), (1, none), (5, none)]))]⟩
def L_szStringS_cl (k : Nat) : Calls' D := ⟨[], []⟩
theorem L_szStringS_ck (k : Nat) : CallsOK X (L_szStringS_cl k) := .nil cod
def L_szStringS_b0_L (x : (List (List UInt8)) × Int × Int × Unit) (o : Oc (Int) (Int)) (Q : Ex → VSt D → Prop) (R : VR D → Prop) : Prop := ocP o (fun v0 => Q .normal (mkSt ⟨[(1, .hole)], []⟩ [.int .i64 v0])) (fun w0 => R (.p (.c (.int .i64 w0))))
def L_szStringS_b0_cut (k : Nat) : Cut D := cutS ⟨[(0, .hole), (1, .hole), (5, .hole)], []⟩ [.kl 9, .ki .i64, .ki .i64] (fun (x : (List (List UInt8)) × Int × Int × Unit) => L_szStringS_b0 k k x.1 x.2.1 x.2.2.1) L_szStringS_b0_L
def L_szStringS_b0_cu (k : Nat) : Cuts D := ⟨[], []⟩
theorem L_szStringS_b0_ok (k : Nat) : CutFor X L_szStringS_pl k Go.Proofs.Tryd.f49.results.toList (L_szStringS_b0_cut k) (sub (bodyOf Go.Proofs.Tryd.f49) [1, 1, 1, 0, 1]) :=
  loopCut_s (X := X) (sg := [.kl 9, .ki .i64, .ki .i64]) (cu := L_szStringS_b0_cu k) (cl := L_szStringS_cl k) (tys := [[0]]) (id := 0) (c := sub (bodyOf Go.Proofs.Tryd.f49) [1, 1, 1, 0, 1, 0, 0]) (f := fun n => fun (x : (List (List UInt8)) × Int × Int × Unit) => L_szStringS_b0 k n x.1 x.2.1 x.2.2.1) (L_szStringS_ck k) (cutOK_of (l := []) (by kernel_rfl) trivial) (fun _ => rfl) (fun n x Q R h => by
    simp only [L_szStringS_b0, optK_bind, optK_bif, optK_pure, optK_none, optK_oc, optK_guardT, optK_map] at h
    refine hold_of h ?_
    kernel_rfl) (by kernel_rfl)
def L_szStringS_cu (k : Nat) : Cuts D := ⟨[(0, some (L_szStringS_b0_cut k))], []⟩
def L_szStringS_ar : List Ar := [.c (.kl 9), .c (.ki .i64)]
def L_szStringS_f (k : Nat) (x : TupA D L_szStringS_ar) : Option (Int) := L_szStringS k x.1 x.2.1
def L_szStringS_vr (r : Int) : VR D := .p (.c (.int .i64 r))
theorem L_szStringS_ok (k : Nat) : Does P X 49 L_szStringS_ar (L_szStringS_f k) L_szStringS_vr :=
  does_of (body := bodyOf Go.Proofs.Tryd.f49) (pl := L_szStringS_pl) (k := k) (cu := L_szStringS_cu k) (tys := [[0]]) (L_szStringS_ck k) ctx mixed Go.Proofs.Tryd.func49 (by kernel_rfl) (by kernel_rfl) (cutOK_of (l := [(L_szStringS_b0_cut k, sub (bodyOf Go.Proofs.Tryd.f49) [1, 1, 1, 0, 1])]) (by kernel_rfl) ⟨L_szStringS_b0_ok k, trivial⟩) fun x R h => by
    simp only [L_szStringS_f, L_szStringS, optK_bind, optK_bif, optK_pure, optK_none, optK_oc, optK_guardT, optK_map] at h
    refine hold_of h ?_
    kernel_rfl
def L_szStringS_en (k : Nat) : Entry D := entS L_szStringS_ar (L_szStringS_f k) L_szStringS_vr
theorem L_szStringS_eo (k : Nat) : EntryOK X 49 (L_szStringS_en k) := (L_szStringS_ok k).en rfl
def L_toStringS_pl : Plan := ⟨[(0, [(0, some 9)]), (1, [(0, some 9), (3, some 9)]), (2, [(0, some 9), (3, some 9), (4, none)]), (3, [(0, some 9), (3, some 9), (4, none), (11, none)]), (4, [(0, some 9), (3, some 9), (4, none)]), (5, [(0, some 9), (3, some 9), (4, none)]), (6, [(2, some 9)])],
  [(0, [(3, some 9)]), (1, [(0, some 9), (3, some 9), (4, none)])],
  [(11, ([(0, some 9), (3, some 9), (4, none)], [(3, some 9)]))]⟩
def L_toStringS_cl (k : Nat) : Calls' D := ⟨[], []⟩
theorem L_toStringS_ck (k : Nat) : CallsOK X (L_toStringS_cl k) := .nil cod
def L_toStringS_b0_L (x : (List (List UInt8)) × Int × (List (List UInt8)) × Unit) (o : (List (List UInt8))) (Q : Ex → VSt D → Prop) (R : VR D → Prop) : Prop := Q .normal (mkSt ⟨[(3, .ref 500003)], [(500003, .row)]⟩ [.sl 9 o])
def L_toStringS_b0_cut (k : Nat) : Cut D := cutS ⟨[(0, .hole), (3, .ref 500003), (4, .hole)], [(500003, .row)]⟩ [.kl 9, .ki .i64, .kl 9] (fun (x : (List (List UInt8)) × Int × (List (List UInt8)) × Unit) => L_toStringS_b0 k k x.1 x.2.1 x.2.2.1) L_toStringS_b0_L
def L_toStringS_b0_cu (k : Nat) : Cuts D := ⟨[], []⟩
theorem L_toStringS_b0_ok (k : Nat) : CutFor X L_toStringS_pl k Go.Proofs.Tryd.f51.results.toList (L_toStringS_b0_cut k) (sub (bodyOf Go.Proofs.Tryd.f51) [1, 1, 0, 1]) :=
  loopCut_s (X := X) (sg := [.kl 9, .ki .i64, .kl 9]) (cu := L_toStringS_b0_cu k) (cl := L_toStringS_cl k) (tys := [[9]]) (id := 0) (c := sub (bodyOf Go.Proofs.Tryd.f51) [1, 1, 0, 1, 0, 0]) (f := fun n => fun (x : (List (List UInt8)) × Int × (List (List UInt8)) × Unit) => L_toStringS_b0 k n x.1 x.2.1 x.2.2.1) (L_toStringS_ck k) (cutOK_of (l := []) (by kernel_rfl) trivial) (fun _ => rfl) (fun n x Q R h => by
    simp only [L_toStringS_b0, optK_bind, optK_bif, optK_pure, optK_none, optK_oc, optK_guardT, optK_map] at h
    refine hold_of h ?_
    kernel_rfl) (by kernel_rfl)
def L_toStringS_cu (k : Nat) : Cuts D := ⟨[(0, some (L_toStringS_b0_cut k))], []⟩
def L_toStringS_ar : List Ar := [.c (.kl 9)]
def L_toStringS_f (k : Nat) (x : TupA D L_toStringS_ar) : Option ((List (List UInt8))) := L_toStringS k x.1
def L_toStringS_vr (r : (List (List UInt8))) : VR D := .p (.c (.sl 9 r))
theorem L_toStringS_ok (k : Nat) : Does P X 51 L_toStringS_ar (L_toStringS_f k) L_toStringS_vr :=
  does_of (body := bodyOf Go.Proofs.Tryd.f51) (pl := L_toStringS_pl) (k := k) (cu := L_toStringS_cu k) (tys := [[9]]) (L_toStringS_ck k) ctx mixed Go.Proofs.Tryd.func51 (by kernel_rfl) (by kernel_rfl) (cutOK_of (l := [(L_toStringS_b0_cut k, sub (bodyOf Go.Proofs.Tryd.f51) [1, 1, 0, 1])]) (by kernel_rfl) ⟨L_toStringS_b0_ok k, trivial⟩) fun x R h => by
    simp only [L_toStringS_f, L_toStringS, optK_bind, optK_bif, optK_pure, optK_none, optK_oc, optK_guardT, optK_map] at h
    refine hold_of h ?_
    kernel_rfl
def L_toStringS_en (k : Nat) : Entry D := entS L_toStringS_ar (L_toStringS_f k) L_toStringS_vr
theorem L_toStringS_eo (k : Nat) : EntryOK X 51 (L_toStringS_en k) := (L_toStringS_ok k).en rfl
def S_l4Cut_pl : Plan := ⟨[(0, [(0, none), (1, none)]), (1, [(0, none), (1, none), (5, some 9)]), (2, [(0, none), (1, none), (5, some 9), (6, none)]), (3, [(0, none), (1, none), (5, some 9), (6, none), (7, none)]), (4, [(0, none), (1, none), (5, some 9), (6, none), (7, none), (8, none)]), (5, [(0, none), (1, none), (5, some 9), (6, none), (7, none), (8, none), (13, none)]), (6, [(0, none), (1, none), (5, some 9), (6, none), (7, none), (8, none)]), (7, [(0, none), (1, none), (5, some 9), (6, none), (7, none), (8, none), (16, none)]), (8, [(0, none), (1, none), (5, some 9), (6, none), (7, none), (8, none)]), (9, [(0, none), (1, none), (5, some 9), (6, none), (7, none), (8, none), (26, none)]), (10, [(0, none), (1, none), (5, some 9), (6, none), (7, none), (8, none)]), (11, [(0, none), (1, none), (5, some 9), (6, none), (7, none), (8, none), (33, none)]), (12, [(0, none), (1, none), (5, some 9), (7, none), (8, none)]), (13, [(0, none), (1, none), (5, some 9), (6, none), (7, none), (8, none)]), (14, [(4, some 9)])],
  [(0, [(0, none), (5, some 9), (6, none)]), (1, [(0, none), (1, none), (5, some 9), (6, none), (7, none), (8, none)]), (2, [(0, none), (1, none), (5, some 9), (6, none), (7, none), (8, none)])],
  [(13, ([(0, none), (1, none), (5, some 9), (6, none), (7, none), (8, none)], [(0, none), (5, some 9), (6, none)])), (16, ([(0, none), (1, none), (5, some 9), (6, none), (7, none), (8, none)], [(0, none), (1, none), (5, some 9), (6, none), (7, none), (8, none)])), (26, ([(0, none), (1, none), (5, some 9), (6, none), (7, none), (8, none)], [(0, none), (1, none), (5, some 9), (6, none), (7, none), (8, none)])), (33, ([(0, none), (1, none), (5, some 9), (6, none), (7, none), (8, none)], [(0, none), (1, none), (5, some 9), (6, none), (7, none), (8, none)]))]⟩
def S_l4Cut_cl (k : Nat) : Calls' D := ⟨[], []⟩
theorem S_l4Cut_ck (k : Nat) : CallsOK X (S_l4Cut_cl k) := .nil cod
def S_l4Cut_c33_L (x : (List UInt8) × Int × Int × Bool × Int × Bool × (List (List UInt8)) × Unit) (o : Int × (List (List UInt8))) (Q : Ex → VSt D → Prop) (R : VR D → Prop) : Prop := Q .normal (mkSt ⟨[(0, .hole), (1, .hole), (5, .ref 500005), (6, .hole), (7, .hole), (8, .hole)], [(500005, .row)]⟩ [.str x.1, .int .u8 x.2.1, .int .i64 o.1, .bool x.2.2.2.1, .int .i64 x.2.2.2.2.1, .sl 9 o.2])
def S_l4Cut_c33_cut (k : Nat) : Cut D := cutS ⟨[(0, .hole), (1, .hole), (5, .ref 500005), (6, .hole), (7, .hole), (8, .hole), (33, .hole)], [(500005, .row)]⟩ [.ks, .ki .u8, .ki .i64, .kb, .ki .i64, .kb, .kl 9] (fun (x : (List UInt8) × Int × Int × Bool × Int × Bool × (List (List UInt8)) × Unit) => S_l4Cut_c33 k x.1 x.2.1 x.2.2.1 x.2.2.2.1 x.2.2.2.2.1 x.2.2.2.2.2.1 x.2.2.2.2.2.2.1) S_l4Cut_c33_L
def S_l4Cut_c33_cu (k : Nat) : Cuts D := ⟨[], []⟩
theorem S_l4Cut_c33_ok (k : Nat) : CutFor X S_l4Cut_pl k Go.Proofs.Tryd.f112.results.toList (S_l4Cut_c33_cut k) (sub (bodyOf Go.Proofs.Tryd.f112) [1, 1, 1, 1, 0, 1, 0, 0, 1, 0, 0, 0, 1, 1, 1, 1, 1]) :=
  joinCut_s (X := X) (sg := [.ks, .ki .u8, .ki .i64, .kb, .ki .i64, .kb, .kl 9]) (cu := S_l4Cut_c33_cu k) (cl := S_l4Cut_cl k) (tys := [[9]]) (S_l4Cut_ck k) (cutOK_of (l := []) (by kernel_rfl) trivial) fun x Q R h => by
    simp only [S_l4Cut_c33, optK_bind, optK_bif, optK_pure, optK_none, optK_oc, optK_guardT, optK_map] at h
    refine hold_of h ?_
    kernel_rfl
def S_l4Cut_c26_L (x : (List UInt8) × Int × Int × Bool × Int × Bool × (List (List UInt8)) × Unit) (o : Int × Bool × (List (List UInt8))) (Q : Ex → VSt D → Prop) (R : VR D → Prop) : Prop := Q .normal (mkSt ⟨[(0, .hole), (1, .hole), (5, .ref 500005), (6, .hole), (7, .hole), (8, .hole)], [(500005, .row)]⟩ [.str x.1, .int .u8 x.2.1, .int .i64 o.1, .bool o.2.1, .int .i64 x.2.2.2.2.1, .sl 9 o.2.2])
def S_l4Cut_c26_cut (k : Nat) : Cut D := cutS ⟨[(0, .hole), (1, .hole), (5, .ref 500005), (6, .hole), (7, .hole), (8, .hole), (26, .hole)], [(500005, .row)]⟩ [.ks, .ki .u8, .ki .i64, .kb, .ki .i64, .kb, .kl 9] (fun (x : (List UInt8) × Int × Int × Bool × Int × Bool × (List (List UInt8)) × Unit) => S_l4Cut_c26 k x.1 x.2.1 x.2.2.1 x.2.2.2.1 x.2.2.2.2.1 x.2.2.2.2.2.1 x.2.2.2.2.2.2.1) S_l4Cut_c26_L
def S_l4Cut_c26_cu (k : Nat) : Cuts D := ⟨[], [(33, some (S_l4Cut_c33_cut k))]⟩
theorem S_l4Cut_c26_ok (k : Nat) : CutFor X S_l4Cut_pl k Go.Proofs.Tryd.f112.results.toList (S_l4Cut_c26_cut k) (sub (bodyOf Go.Proofs.Tryd.f112) [1, 1, 1, 1, 0, 1, 0, 0, 1, 0, 0, 0, 1, 1, 1]) :=
  joinCut_s (X := X) (sg := [.ks, .ki .u8, .ki .i64, .kb, .ki .i64, .kb, .kl 9]) (cu := S_l4Cut_c26_cu k) (cl := S_l4Cut_cl k) (tys := [[9]]) (S_l4Cut_ck k) (cutOK_of (l := [(S_l4Cut_c33_cut k, sub (bodyOf Go.Proofs.Tryd.f112) [1, 1, 1, 1, 0, 1, 0, 0, 1, 0, 0, 0, 1, 1, 1, 1, 1])]) (by kernel_rfl) ⟨S_l4Cut_c33_ok k, trivial⟩) fun x Q R h => by
    simp only [S_l4Cut_c26, optK_bind, optK_bif, optK_pure, optK_none, optK_oc, optK_guardT, optK_map] at h
    refine hold_of h ?_
    kernel_rfl
def S_l4Cut_c16_L (x : (List UInt8) × Int × Int × Bool × Int × Bool × (List (List UInt8)) × Unit) (o : Int × Bool × Int × (List (List UInt8))) (Q : Ex → VSt D → Prop) (R : VR D → Prop) : Prop := Q .normal (mkSt ⟨[(0, .hole), (1, .hole), (5, .ref 500005), (6, .hole), (7, .hole), (8, .hole)], [(500005, .row)]⟩ [.str x.1, .int .u8 x.2.1, .int .i64 o.1, .bool o.2.1, .int .i64 o.2.2.1, .sl 9 o.2.2.2])
def S_l4Cut_c16_cut (k : Nat) : Cut D := cutS ⟨[(0, .hole), (1, .hole), (5, .ref 500005), (6, .hole), (7, .hole), (8, .hole), (16, .hole)], [(500005, .row)]⟩ [.ks, .ki .u8, .ki .i64, .kb, .ki .i64, .kb, .kl 9] (fun (x : (List UInt8) × Int × Int × Bool × Int × Bool × (List (List UInt8)) × Unit) => S_l4Cut_c16 k x.1 x.2.1 x.2.2.1 x.2.2.2.1 x.2.2.2.2.1 x.2.2.2.2.2.1 x.2.2.2.2.2.2.1) S_l4Cut_c16_L
def S_l4Cut_c16_cu (k : Nat) : Cuts D := ⟨[], [(26, some (S_l4Cut_c26_cut k))]⟩
theorem S_l4Cut_c16_ok (k : Nat) : CutFor X S_l4Cut_pl k Go.Proofs.Tryd.f112.results.toList (S_l4Cut_c16_cut k) (sub (bodyOf Go.Proofs.Tryd.f112) [1, 1, 1, 1, 0, 1, 0, 0, 1, 0, 0, 0, 1]) :=
  joinCut_s (X := X) (sg := [.ks, .ki .u8, .ki .i64, .kb, .ki .i64, .kb, .kl 9]) (cu := S_l4Cut_c16_cu k) (cl := S_l4Cut_cl k) (tys := [[9]]) (S_l4Cut_ck k) (cutOK_of (l := [(S_l4Cut_c26_cut k, sub (bodyOf Go.Proofs.Tryd.f112) [1, 1, 1, 1, 0, 1, 0, 0, 1, 0, 0, 0, 1, 1, 1])]) (by kernel_rfl) ⟨S_l4Cut_c26_ok k, trivial⟩) fun x Q R h => by
    simp only [S_l4Cut_c16, optK_bind, optK_bif, optK_pure, optK_none, optK_oc, optK_guardT, optK_map] at h
    refine hold_of h ?_
    kernel_rfl
def S_l4Cut_b2_L (x : (List UInt8) × Int × Int × Bool × Int × (List (List UInt8)) × Unit) (o : Int × Bool × Int × (List (List UInt8))) (Q : Ex → VSt D → Prop) (R : VR D → Prop) : Prop := Q .normal (mkSt ⟨[(0, .hole), (1, .hole), (5, .ref 500005), (6, .hole), (7, .hole), (8, .hole)], [(500005, .row)]⟩ [.str x.1, .int .u8 x.2.1, .int .i64 o.1, .bool o.2.1, .int .i64 o.2.2.1, .sl 9 o.2.2.2])
def S_l4Cut_b2_cut (k : Nat) : Cut D := cutS ⟨[(0, .hole), (1, .hole), (5, .ref 500005), (6, .hole), (7, .hole), (8, .hole)], [(500005, .row)]⟩ [.ks, .ki .u8, .ki .i64, .kb, .ki .i64, .kl 9] (fun (x : (List UInt8) × Int × Int × Bool × Int × (List (List UInt8)) × Unit) => S_l4Cut_b2 k x.1 x.2.1 x.2.2.1 x.2.2.2.1 x.2.2.2.2.1 x.2.2.2.2.2.1) S_l4Cut_b2_L
def S_l4Cut_b2_cu (k : Nat) : Cuts D := ⟨[], [(16, some (S_l4Cut_c16_cut k))]⟩
theorem S_l4Cut_b2_ok (k : Nat) : CutFor X S_l4Cut_pl k Go.Proofs.Tryd.f112.results.toList (S_l4Cut_b2_cut k) (sub (bodyOf Go.Proofs.Tryd.f112) [1, 1, 1, 1, 0, 1, 0, 0, 1, 0, 0]) :=
  joinCut_s (X := X) (sg := [.ks, .ki .u8, .ki .i64, .kb, .ki .i64, .kl 9]) (cu := S_l4Cut_b2_cu k) (cl := S_l4Cut_cl k) (tys := [[9]]) (S_l4Cut_ck k) (cutOK_of (l := [(S_l4Cut_c16_cut k, sub (bodyOf Go.Proofs.Tryd.f112) [1, 1, 1, 1, 0, 1, 0, 0, 1, 0, 0, 0, 1])]) (by kernel_rfl) ⟨S_l4Cut_c16_ok k, trivial⟩) fun x Q R h => by
    simp only [S_l4Cut_b2, optK_bind, optK_bif, optK_pure, optK_none, optK_oc, optK_guardT, optK_map] at h
    refine hold_of h ?_
    kernel_rfl
def S_l4Cut_b1_L (x : (List UInt8) × Int × Int × Bool × Int × (List (List UInt8)) × Unit) (o : Int × Bool × Int × (List (List UInt8))) (Q : Ex → VSt D → Prop) (R : VR D → Prop) : Prop := Q .normal (mkSt ⟨[(0, .hole), (1, .hole), (5, .ref 500005), (6, .hole), (7, .hole), (8, .hole)], [(500005, .row)]⟩ [.str x.1, .int .u8 x.2.1, .int .i64 o.1, .bool o.2.1, .int .i64 o.2.2.1, .sl 9 o.2.2.2])
def S_l4Cut_b1_cut (k : Nat) : Cut D := cutS ⟨[(0, .hole), (1, .hole), (5, .ref 500005), (6, .hole), (7, .hole), (8, .hole)], [(500005, .row)]⟩ [.ks, .ki .u8, .ki .i64, .kb, .ki .i64, .kl 9] (fun (x : (List UInt8) × Int × Int × Bool × Int × (List (List UInt8)) × Unit) => S_l4Cut_b1 k x.1 x.2.1 x.2.2.1 x.2.2.2.1 x.2.2.2.2.1 x.2.2.2.2.2.1) S_l4Cut_b1_L
def S_l4Cut_b1_cu (k : Nat) : Cuts D := ⟨[(2, some (S_l4Cut_b2_cut k))], []⟩
theorem S_l4Cut_b1_ok (k : Nat) : CutFor X S_l4Cut_pl k Go.Proofs.Tryd.f112.results.toList (S_l4Cut_b1_cut k) (sub (bodyOf Go.Proofs.Tryd.f112) [1, 1, 1, 1, 0, 1, 0, 0, 1, 0]) :=
  joinCut_s (X := X) (sg := [.ks, .ki .u8, .ki .i64, .kb, .ki .i64, .kl 9]) (cu := S_l4Cut_b1_cu k) (cl := S_l4Cut_cl k) (tys := [[9]]) (S_l4Cut_ck k) (cutOK_of (l := [(S_l4Cut_b2_cut k, sub (bodyOf Go.Proofs.Tryd.f112) [1, 1, 1, 1, 0, 1, 0, 0, 1, 0, 0])]) (by kernel_rfl) ⟨S_l4Cut_b2_ok k, trivial⟩) fun x Q R h => by
    simp only [S_l4Cut_b1, optK_bind, optK_bif, optK_pure, optK_none, optK_oc, optK_guardT, optK_map] at h
    refine hold_of h ?_
    kernel_rfl
def S_l4Cut_b0_L (x : (List UInt8) × Int × Int × Bool × Int × (List (List UInt8)) × Unit) (o : Int × (List (List UInt8))) (Q : Ex → VSt D → Prop) (R : VR D → Prop) : Prop := Q .normal (mkSt ⟨[(0, .hole), (5, .ref 500005), (6, .hole)], [(500005, .row)]⟩ [.str x.1, .int .i64 o.1, .sl 9 o.2])
def S_l4Cut_b0_cut (k : Nat) : Cut D := cutS ⟨[(0, .hole), (1, .hole), (5, .ref 500005), (6, .hole), (7, .hole), (8, .hole)], [(500005, .row)]⟩ [.ks, .ki .u8, .ki .i64, .kb, .ki .i64, .kl 9] (fun (x : (List UInt8) × Int × Int × Bool × Int × (List (List UInt8)) × Unit) => S_l4Cut_b0 k k x.1 x.2.1 x.2.2.1 x.2.2.2.1 x.2.2.2.2.1 x.2.2.2.2.2.1) S_l4Cut_b0_L
def S_l4Cut_b0_cu (k : Nat) : Cuts D := ⟨[(1, some (S_l4Cut_b1_cut k))], []⟩
theorem S_l4Cut_b0_ok (k : Nat) : CutFor X S_l4Cut_pl k Go.Proofs.Tryd.f112.results.toList (S_l4Cut_b0_cut k) (sub (bodyOf Go.Proofs.Tryd.f112) [1, 1, 1, 1, 0, 1]) :=
  loopCut_s (X := X) (sg := [.ks, .ki .u8, .ki .i64, .kb, .ki .i64, .kl 9]) (cu := S_l4Cut_b0_cu k) (cl := S_l4Cut_cl k) (tys := [[9]]) (id := 0) (c := sub (bodyOf Go.Proofs.Tryd.f112) [1, 1, 1, 1, 0, 1, 0, 0]) (f := fun n => fun (x : (List UInt8) × Int × Int × Bool × Int × (List (List UInt8)) × Unit) => S_l4Cut_b0 k n x.1 x.2.1 x.2.2.1 x.2.2.2.1 x.2.2.2.2.1 x.2.2.2.2.2.1) (S_l4Cut_ck k) (cutOK_of (l := [(S_l4Cut_b1_cut k, sub (bodyOf Go.Proofs.Tryd.f112) [1, 1, 1, 1, 0, 1, 0, 0, 1, 0])]) (by kernel_rfl) ⟨S_l4Cut_b1_ok k, trivial⟩) (fun _ => rfl) (fun n x Q R h => by
    simp only [S_l4Cut_b0, optK_bind, optK_bif, optK_pure, optK_none, optK_oc, optK_guardT, optK_map] at h
    refine hold_of h ?_
    kernel_rfl) (by kernel_rfl)
def S_l4Cut_cu (k : Nat) : Cuts D := ⟨[(0, some (S_l4Cut_b0_cut k))], []⟩
def S_l4Cut_ar : List Ar := [.c (.ks), .c (.ki .u8)]
def S_l4Cut_f (k : Nat) (x : TupA D S_l4Cut_ar) : Option ((List (List UInt8))) := S_l4Cut k x.1 x.2.1
def S_l4Cut_vr (r : (List (List UInt8))) : VR D := .p (.c (.sl 9 r))
theorem S_l4Cut_ok (k : Nat) : Does P X 112 S_l4Cut_ar (S_l4Cut_f k) S_l4Cut_vr :=
  does_of (body := bodyOf Go.Proofs.Tryd.f112) (pl := S_l4Cut_pl) (k := k) (cu := S_l4Cut_cu k) (tys := [[9]]) (S_l4Cut_ck k) ctx mixed Go.Proofs.Tryd.func112 (by kernel_rfl) (by kernel_rfl) (cutOK_of (l := [(S_l4Cut_b0_cut k, sub (bodyOf Go.Proofs.Tryd.f112) [1, 1, 1, 1, 0, 1])]) (by kernel_rfl) ⟨S_l4Cut_b0_ok k, trivial⟩) fun x R h => by
    simp only [S_l4Cut_f, S_l4Cut, optK_bind, optK_bif, optK_pure, optK_none, optK_oc, optK_guardT, optK_map] at h
    refine hold_of h ?_
    kernel_rfl
def S_l4Cut_en (k : Nat) : Entry D := entS S_l4Cut_ar (S_l4Cut_f k) S_l4Cut_vr
theorem S_l4Cut_eo (k : Nat) : EntryOK X 112 (S_l4Cut_en k) := (S_l4Cut_ok k).en rfl
def S_l4Blank_pl : Plan := ⟨[(0, [(0, none)]), (1, [(2, none)])],
  [],
  []⟩
def S_l4Blank_cl (k : Nat) : Calls' D := ⟨[], []⟩
theorem S_l4Blank_ck (k : Nat) : CallsOK X (S_l4Blank_cl k) := .nil cod
def S_l4Blank_cu (k : Nat) : Cuts D := ⟨[], []⟩
def S_l4Blank_ar : List Ar := [.c (.ki .u8)]
def S_l4Blank_f (k : Nat) (x : TupA D S_l4Blank_ar) : Option (Bool) := S_l4Blank k x.1
def S_l4Blank_vr (r : Bool) : VR D := .p (.c (.bool r))
theorem S_l4Blank_ok (k : Nat) : Does P X 120 S_l4Blank_ar (S_l4Blank_f k) S_l4Blank_vr :=
  does_of (body := bodyOf Go.Proofs.Tryd.f120) (pl := S_l4Blank_pl) (k := k) (cu := S_l4Blank_cu k) (tys := [[0]]) (S_l4Blank_ck k) ctx mixed Go.Proofs.Tryd.func120 (by kernel_rfl) (by kernel_rfl) (cutOK_of (l := []) (by kernel_rfl) trivial) fun x R h => by
    simp only [S_l4Blank_f, S_l4Blank, optK_bind, optK_bif, optK_pure, optK_none, optK_oc, optK_guardT, optK_map] at h
    refine hold_of h ?_
    kernel_rfl
def S_l4Blank_en (k : Nat) : Entry D := entS S_l4Blank_ar (S_l4Blank_f k) S_l4Blank_vr
theorem S_l4Blank_eo (k : Nat) : EntryOK X 120 (S_l4Blank_en k) := (S_l4Blank_ok k).en rfl
def S_TrimText_pl : Plan := ⟨[(0, [(0, none)]), (1, [(0, none), (10, none)]), (2, [(0, none)]), (3, [(0, none), (23, none)]), (4, [(0, none)]), (5, [(2, none)])],
  [(0, [(0, none)]), (1, [(0, none)]), (2, [(0, none)]), (3, [(0, none)])],
  [(10, ([(0, none)], [(0, none)])), (23, ([(0, none)], [(0, none)]))]⟩
def S_TrimText_cl (k : Nat) : Calls' D := ⟨[(120, S_l4Blank_en k)], []⟩
theorem S_TrimText_ck (k : Nat) : CallsOK X (S_TrimText_cl k) := .cons (S_l4Blank_eo k) (.nil cod)
def S_TrimText_b0_L (x : (List UInt8) × Unit) (o : (List UInt8)) (Q : Ex → VSt D → Prop) (R : VR D → Prop) : Prop := Q .normal (mkSt ⟨[(0, .hole)], []⟩ [.str o])
def S_TrimText_b0_cut (k : Nat) : Cut D := cutS ⟨[(0, .hole)], []⟩ [.ks] (fun (x : (List UInt8) × Unit) => S_TrimText_b0 k k x.1) S_TrimText_b0_L
def S_TrimText_b0_cu (k : Nat) : Cuts D := ⟨[], []⟩
theorem S_TrimText_b0_ok (k : Nat) : CutFor X S_TrimText_pl k Go.Proofs.Tryd.f89.results.toList (S_TrimText_b0_cut k) (sub (bodyOf Go.Proofs.Tryd.f89) [1, 0]) :=
  loopCut_s (X := X) (sg := [.ks]) (cu := S_TrimText_b0_cu k) (cl := S_TrimText_cl k) (tys := [[0]]) (id := 0) (c := sub (bodyOf Go.Proofs.Tryd.f89) [1, 0, 0, 0]) (f := fun n => fun (x : (List UInt8) × Unit) => S_TrimText_b0 k n x.1) (S_TrimText_ck k) (cutOK_of (l := []) (by kernel_rfl) trivial) (fun _ => rfl) (fun n x Q R h => by
    simp only [S_TrimText_b0, optK_bind, optK_bif, optK_pure, optK_none, optK_oc, optK_guardT, optK_map] at h
    refine hold_of h ?_
    kernel_rfl) (by kernel_rfl)
def S_TrimText_b2_L (x : (List UInt8) × Unit) (o : (List UInt8)) (Q : Ex → VSt D → Prop) (R : VR D → Prop) : Prop := Q .normal (mkSt ⟨[(0, .hole)], []⟩ [.str o])
def S_TrimText_b2_cut (k : Nat) : Cut D := cutS ⟨[(0, .hole)], []⟩ [.ks] (fun (x : (List UInt8) × Unit) => S_TrimText_b2 k k x.1) S_TrimText_b2_L
def S_TrimText_b2_cu (k : Nat) : Cuts D := ⟨[], []⟩
theorem S_TrimText_b2_ok (k : Nat) : CutFor X S_TrimText_pl k Go.Proofs.Tryd.f89.results.toList (S_TrimText_b2_cut k) (sub (bodyOf Go.Proofs.Tryd.f89) [1, 1, 0]) :=
  loopCut_s (X := X) (sg := [.ks]) (cu := S_TrimText_b2_cu k) (cl := S_TrimText_cl k) (tys := [[0]]) (id := 2) (c := sub (bodyOf Go.Proofs.Tryd.f89) [1, 1, 0, 0, 0]) (f := fun n => fun (x : (List UInt8) × Unit) => S_TrimText_b2 k n x.1) (S_TrimText_ck k) (cutOK_of (l := []) (by kernel_rfl) trivial) (fun _ => rfl) (fun n x Q R h => by
    simp only [S_TrimText_b2, optK_bind, optK_bif, optK_pure, optK_none, optK_oc, optK_guardT, optK_map] at h
    refine hold_of h ?_
    kernel_rfl) (by kernel_rfl)
def S_TrimText_cu (k : Nat) : Cuts D := ⟨[(0, some (S_TrimText_b0_cut k)), (2, some (S_TrimText_b2_cut k))], []⟩
def S_TrimText_ar : List Ar := [.c (.ks)]
def S_TrimText_f (k : Nat) (x : TupA D S_TrimText_ar) : Option ((List UInt8)) := S_TrimText k x.1
def S_TrimText_vr (r : (List UInt8)) : VR D := .p (.c (.str r))
theorem S_TrimText_ok (k : Nat) : Does P X 89 S_TrimText_ar (S_TrimText_f k) S_TrimText_vr :=
  does_of (body := bodyOf Go.Proofs.Tryd.f89) (pl := S_TrimText_pl) (k := k) (cu := S_TrimText_cu k) (tys := [[0]]) (S_TrimText_ck k) ctx mixed Go.Proofs.Tryd.func89 (by kernel_rfl) (by kernel_rfl) (cutOK_of (l := [(S_TrimText_b0_cut k, sub (bodyOf Go.Proofs.Tryd.f89) [1, 0]), (S_TrimText_b2_cut k, sub (bodyOf Go.Proofs.Tryd.f89) [1, 1, 0])]) (by kernel_rfl) ⟨S_TrimText_b0_ok k, S_TrimText_b2_ok k, trivial⟩) fun x R h => by
    simp only [S_TrimText_f, S_TrimText, optK_bind, optK_bif, optK_pure, optK_none, optK_oc, optK_guardT, optK_map] at h
    refine hold_of h ?_
    kernel_rfl
def S_TrimText_en (k : Nat) : Entry D := entS S_TrimText_ar (S_TrimText_f k) S_TrimText_vr
theorem S_TrimText_eo (k : Nat) : EntryOK X 89 (S_TrimText_en k) := (S_TrimText_ok k).en rfl
def S_SplitList_pl : Plan := ⟨[(0, [(0, none)]), (1, [(3, some 9)]), (2, [(3, some 9), (4, some 9)]), (3, [(3, some 9), (4, some 9), (5, none)]), (4, [(3, some 9), (4, some 9), (5, none), (13, none)]), (5, [(3, some 9), (4, some 9), (5, none)]), (6, [(3, some 9), (4, some 9), (5, none), (6, none)]), (7, [(3, some 9), (4, some 9), (5, none), (6, none), (22, none)]), (8, [(3, some 9), (4, some 9), (5, none)]), (9, [(2, some 9)])],
  [(0, [(4, some 9)]), (1, [(3, some 9), (4, some 9), (5, none)])],
  [(13, ([(3, some 9), (4, some 9), (5, none)], [(4, some 9)])), (22, ([(3, some 9), (4, some 9), (5, none), (6, none)], [(3, some 9), (4, some 9), (5, none)]))]⟩
def S_SplitList_cl (k : Nat) : Calls' D := ⟨[(112, S_l4Cut_en k), (89, S_TrimText_en k)], []⟩
theorem S_SplitList_ck (k : Nat) : CallsOK X (S_SplitList_cl k) := .cons (S_l4Cut_eo k) (.cons (S_TrimText_eo k) (.nil cod))
def S_SplitList_c22_L (x : Int × (List UInt8) × Bool × (List (List UInt8)) × (List (List UInt8)) × Unit) (o : (List (List UInt8))) (Q : Ex → VSt D → Prop) (R : VR D → Prop) : Prop := Q .normal (mkSt ⟨[(3, .ref 500003), (4, .ref 500004), (5, .hole)], [(500003, .row), (500004, .row)]⟩ [.int .i64 x.1, .sl 9 x.2.2.2.1, .sl 9 o])
def S_SplitList_c22_cut (k : Nat) : Cut D := cutS ⟨[(3, .ref 500003), (4, .ref 500004), (5, .hole), (6, .hole), (22, .hole)], [(500003, .row), (500004, .row)]⟩ [.ki .i64, .ks, .kb, .kl 9, .kl 9] (fun (x : Int × (List UInt8) × Bool × (List (List UInt8)) × (List (List UInt8)) × Unit) => S_SplitList_c22 k x.1 x.2.1 x.2.2.1 x.2.2.2.1 x.2.2.2.2.1) S_SplitList_c22_L
def S_SplitList_c22_cu (k : Nat) : Cuts D := ⟨[], []⟩
theorem S_SplitList_c22_ok (k : Nat) : CutFor X S_SplitList_pl k Go.Proofs.Tryd.f69.results.toList (S_SplitList_c22_cut k) (sub (bodyOf Go.Proofs.Tryd.f69) [1, 1, 1, 0, 1, 0, 0, 1, 0, 0, 1, 1]) :=
  joinCut_s (X := X) (sg := [.ki .i64, .ks, .kb, .kl 9, .kl 9]) (cu := S_SplitList_c22_cu k) (cl := S_SplitList_cl k) (tys := [[9]]) (S_SplitList_ck k) (cutOK_of (l := []) (by kernel_rfl) trivial) fun x Q R h => by
    simp only [S_SplitList_c22, optK_bind, optK_bif, optK_pure, optK_none, optK_oc, optK_guardT, optK_map] at h
    refine hold_of h ?_
    kernel_rfl
def S_SplitList_b1_L (x : Int × (List (List UInt8)) × (List (List UInt8)) × Unit) (o : (List (List UInt8))) (Q : Ex → VSt D → Prop) (R : VR D → Prop) : Prop := Q .normal (mkSt ⟨[(3, .ref 500003), (4, .ref 500004), (5, .hole)], [(500003, .row), (500004, .row)]⟩ [.int .i64 x.1, .sl 9 x.2.1, .sl 9 o])
def S_SplitList_b1_cut (k : Nat) : Cut D := cutS ⟨[(3, .ref 500003), (4, .ref 500004), (5, .hole)], [(500003, .row), (500004, .row)]⟩ [.ki .i64, .kl 9, .kl 9] (fun (x : Int × (List (List UInt8)) × (List (List UInt8)) × Unit) => S_SplitList_b1 k x.1 x.2.1 x.2.2.1) S_SplitList_b1_L
def S_SplitList_b1_cu (k : Nat) : Cuts D := ⟨[], [(22, some (S_SplitList_c22_cut k))]⟩
theorem S_SplitList_b1_ok (k : Nat) : CutFor X S_SplitList_pl k Go.Proofs.Tryd.f69.results.toList (S_SplitList_b1_cut k) (sub (bodyOf Go.Proofs.Tryd.f69) [1, 1, 1, 0, 1, 0, 0, 1, 0]) :=
  joinCut_s (X := X) (sg := [.ki .i64, .kl 9, .kl 9]) (cu := S_SplitList_b1_cu k) (cl := S_SplitList_cl k) (tys := [[9]]) (S_SplitList_ck k) (cutOK_of (l := [(S_SplitList_c22_cut k, sub (bodyOf Go.Proofs.Tryd.f69) [1, 1, 1, 0, 1, 0, 0, 1, 0, 0, 1, 1])]) (by kernel_rfl) ⟨S_SplitList_c22_ok k, trivial⟩) fun x Q R h => by
    simp only [S_SplitList_b1, optK_bind, optK_bif, optK_pure, optK_none, optK_oc, optK_guardT, optK_map] at h
    refine hold_of h ?_
    kernel_rfl
def S_SplitList_b0_L (x : Int × (List (List UInt8)) × (List (List UInt8)) × Unit) (o : (List (List UInt8))) (Q : Ex → VSt D → Prop) (R : VR D → Prop) : Prop := Q .normal (mkSt ⟨[(4, .ref 500004)], [(500004, .row)]⟩ [.sl 9 o])
def S_SplitList_b0_cut (k : Nat) : Cut D := cutS ⟨[(3, .ref 500003), (4, .ref 500004), (5, .hole)], [(500003, .row), (500004, .row)]⟩ [.ki .i64, .kl 9, .kl 9] (fun (x : Int × (List (List UInt8)) × (List (List UInt8)) × Unit) => S_SplitList_b0 k k x.1 x.2.1 x.2.2.1) S_SplitList_b0_L
def S_SplitList_b0_cu (k : Nat) : Cuts D := ⟨[(1, some (S_SplitList_b1_cut k))], []⟩
theorem S_SplitList_b0_ok (k : Nat) : CutFor X S_SplitList_pl k Go.Proofs.Tryd.f69.results.toList (S_SplitList_b0_cut k) (sub (bodyOf Go.Proofs.Tryd.f69) [1, 1, 1, 0, 1]) :=
  loopCut_s (X := X) (sg := [.ki .i64, .kl 9, .kl 9]) (cu := S_SplitList_b0_cu k) (cl := S_SplitList_cl k) (tys := [[9]]) (id := 0) (c := sub (bodyOf Go.Proofs.Tryd.f69) [1, 1, 1, 0, 1, 0, 0]) (f := fun n => fun (x : Int × (List (List UInt8)) × (List (List UInt8)) × Unit) => S_SplitList_b0 k n x.1 x.2.1 x.2.2.1) (S_SplitList_ck k) (cutOK_of (l := [(S_SplitList_b1_cut k, sub (bodyOf Go.Proofs.Tryd.f69) [1, 1, 1, 0, 1, 0, 0, 1, 0])]) (by kernel_rfl) ⟨S_SplitList_b1_ok k, trivial⟩) (fun _ => rfl) (fun n x Q R h => by
    simp only [S_SplitList_b0, optK_bind, optK_bif, optK_pure, optK_none, optK_oc, optK_guardT, optK_map] at h
    refine hold_of h ?_
    kernel_rfl) (by kernel_rfl)
def S_SplitList_cu (k : Nat) : Cuts D := ⟨[(0, some (S_SplitList_b0_cut k))], []⟩
def S_SplitList_ar : List Ar := [.c (.ks)]
def S_SplitList_f (k : Nat) (x : TupA D S_SplitList_ar) : Option ((List (List UInt8))) := S_SplitList k x.1
def S_SplitList_vr (r : (List (List UInt8))) : VR D := .p (.c (.sl 9 r))
theorem S_SplitList_ok (k : Nat) : Does P X 69 S_SplitList_ar (S_SplitList_f k) S_SplitList_vr :=
  does_of (body := bodyOf Go.Proofs.Tryd.f69) (pl := S_SplitList_pl) (k := k) (cu := S_SplitList_cu k) (tys := [[9]]) (S_SplitList_ck k) ctx mixed Go.Proofs.Tryd.func69 (by kernel_rfl) (by kernel_rfl) (cutOK_of (l := [(S_SplitList_b0_cut k, sub (bodyOf Go.Proofs.Tryd.f69) [1, 1, 1, 0, 1])]) (by kernel_rfl) ⟨S_SplitList_b0_ok k, trivial⟩) fun x R h => by
    simp only [S_SplitList_f, S_SplitList, optK_bind, optK_bif, optK_pure, optK_none, optK_oc, optK_guardT, optK_map] at h
    refine hold_of h ?_
    kernel_rfl
def S_SplitList_en (k : Nat) : Entry D := entS S_SplitList_ar (S_SplitList_f k) S_SplitList_vr
theorem S_SplitList_eo (k : Nat) : EntryOK X 69 (S_SplitList_en k) := (S_SplitList_ok k).en rfl
def S_l12Split_pl : Plan := ⟨[(0, [(0, none), (1, none)]), (1, [(0, none), (1, none), (5, some 9)]), (2, [(0, none), (1, none), (5, some 9), (6, none)]), (3, [(0, none), (1, none), (5, some 9), (6, none), (7, none)]), (4, [(0, none), (1, none), (5, some 9), (6, none), (7, none), (12, none)]), (5, [(0, none), (1, none), (5, some 9), (6, none), (7, none)]), (6, [(0, none), (1, none), (5, some 9), (6, none), (7, none), (19, none)]), (7, [(0, none), (1, none), (5, some 9), (7, none)]), (8, [(0, none), (1, none), (5, some 9), (6, none), (7, none)]), (9, [(4, some 9)])],
  [(0, [(0, none), (5, some 9), (6, none)]), (1, [(0, none), (1, none), (5, some 9), (6, none), (7, none)])],
  [(12, ([(0, none), (1, none), (5, some 9), (6, none), (7, none)], [(0, none), (5, some 9), (6, none)])), (19, ([(0, none), (1, none), (5, some 9), (6, none), (7, none)], [(0, none), (1, none), (5, some 9), (6, none), (7, none)]))]⟩
def S_l12Split_cl (k : Nat) : Calls' D := ⟨[], []⟩
theorem S_l12Split_ck (k : Nat) : CallsOK X (S_l12Split_cl k) := .nil cod
def S_l12Split_c19_L (x : (List UInt8) × Int × Int × Int × Bool × (List (List UInt8)) × Unit) (o : Int × (List (List UInt8))) (Q : Ex → VSt D → Prop) (R : VR D → Prop) : Prop := Q .normal (mkSt ⟨[(0, .hole), (1, .hole), (5, .ref 500005), (6, .hole), (7, .hole)], [(500005, .row)]⟩ [.str x.1, .int .u8 x.2.1, .int .i64 o.1, .int .i64 x.2.2.2.1, .sl 9 o.2])
def S_l12Split_c19_cut (k : Nat) : Cut D := cutS ⟨[(0, .hole), (1, .hole), (5, .ref 500005), (6, .hole), (7, .hole), (19, .hole)], [(500005, .row)]⟩ [.ks, .ki .u8, .ki .i64, .ki .i64, .kb, .kl 9] (fun (x : (List UInt8) × Int × Int × Int × Bool × (List (List UInt8)) × Unit) => S_l12Split_c19 k x.1 x.2.1 x.2.2.1 x.2.2.2.1 x.2.2.2.2.1 x.2.2.2.2.2.1) S_l12Split_c19_L
def S_l12Split_c19_cu (k : Nat) : Cuts D := ⟨[], []⟩
theorem S_l12Split_c19_ok (k : Nat) : CutFor X S_l12Split_pl k Go.Proofs.Tryd.f88.results.toList (S_l12Split_c19_cut k) (sub (bodyOf Go.Proofs.Tryd.f88) [1, 1, 1, 0, 1, 0, 0, 1, 0, 0, 1]) :=
  joinCut_s (X := X) (sg := [.ks, .ki .u8, .ki .i64, .ki .i64, .kb, .kl 9]) (cu := S_l12Split_c19_cu k) (cl := S_l12Split_cl k) (tys := [[9]]) (S_l12Split_ck k) (cutOK_of (l := []) (by kernel_rfl) trivial) fun x Q R h => by
    simp only [S_l12Split_c19, optK_bind, optK_bif, optK_pure, optK_none, optK_oc, optK_guardT, optK_map] at h
    refine hold_of h ?_
    kernel_rfl
def S_l12Split_b1_L (x : (List UInt8) × Int × Int × Int × (List (List UInt8)) × Unit) (o : Int × (List (List UInt8))) (Q : Ex → VSt D → Prop) (R : VR D → Prop) : Prop := Q .normal (mkSt ⟨[(0, .hole), (1, .hole), (5, .ref 500005), (6, .hole), (7, .hole)], [(500005, .row)]⟩ [.str x.1, .int .u8 x.2.1, .int .i64 o.1, .int .i64 x.2.2.2.1, .sl 9 o.2])
def S_l12Split_b1_cut (k : Nat) : Cut D := cutS ⟨[(0, .hole), (1, .hole), (5, .ref 500005), (6, .hole), (7, .hole)], [(500005, .row)]⟩ [.ks, .ki .u8, .ki .i64, .ki .i64, .kl 9] (fun (x : (List UInt8) × Int × Int × Int × (List (List UInt8)) × Unit) => S_l12Split_b1 k x.1 x.2.1 x.2.2.1 x.2.2.2.1 x.2.2.2.2.1) S_l12Split_b1_L
def S_l12Split_b1_cu (k : Nat) : Cuts D := ⟨[], [(19, some (S_l12Split_c19_cut k))]⟩
theorem S_l12Split_b1_ok (k : Nat) : CutFor X S_l12Split_pl k Go.Proofs.Tryd.f88.results.toList (S_l12Split_b1_cut k) (sub (bodyOf Go.Proofs.Tryd.f88) [1, 1, 1, 0, 1, 0, 0, 1, 0]) :=
  joinCut_s (X := X) (sg := [.ks, .ki .u8, .ki .i64, .ki .i64, .kl 9]) (cu := S_l12Split_b1_cu k) (cl := S_l12Split_cl k) (tys := [[9]]) (S_l12Split_ck k) (cutOK_of (l := [(S_l12Split_c19_cut k, sub (bodyOf Go.Proofs.Tryd.f88) [1, 1, 1, 0, 1, 0, 0, 1, 0, 0, 1])]) (by kernel_rfl) ⟨S_l12Split_c19_ok k, trivial⟩) fun x Q R h => by
    simp only [S_l12Split_b1, optK_bind, optK_bif, optK_pure, optK_none, optK_oc, optK_guardT, optK_map] at h
    refine hold_of h ?_
    kernel_rfl
def S_l12Split_b0_L (x : (List UInt8) × Int × Int × Int × (List (List UInt8)) × Unit) (o : Int × (List (List UInt8))) (Q : Ex → VSt D → Prop) (R : VR D → Prop) : Prop := Q .normal (mkSt ⟨[(0, .hole), (5, .ref 500005), (6, .hole)], [(500005, .row)]⟩ [.str x.1, .int .i64 o.1, .sl 9 o.2])
def S_l12Split_b0_cut (k : Nat) : Cut D := cutS ⟨[(0, .hole), (1, .hole), (5, .ref 500005), (6, .hole), (7, .hole)], [(500005, .row)]⟩ [.ks, .ki .u8, .ki .i64, .ki .i64, .kl 9] (fun (x : (List UInt8) × Int × Int × Int × (List (List UInt8)) × Unit) => S_l12Split_b0 k k x.1 x.2.1 x.2.2.1 x.2.2.2.1 x.2.2.2.2.1) S_l12Split_b0_L
def S_l12Split_b0_cu (k : Nat) : Cuts D := ⟨[(1, some (S_l12Split_b1_cut k))], []⟩
theorem S_l12Split_b0_ok (k : Nat) : CutFor X S_l12Split_pl k Go.Proofs.Tryd.f88.results.toList (S_l12Split_b0_cut k) (sub (bodyOf Go.Proofs.Tryd.f88) [1, 1, 1, 0, 1]) :=
  loopCut_s (X := X) (sg := [.ks, .ki .u8, .ki .i64, .ki .i64, .kl 9]) (cu := S_l12Split_b0_cu k) (cl := S_l12Split_cl k) (tys := [[9]]) (id := 0) (c := sub (bodyOf Go.Proofs.Tryd.f88) [1, 1, 1, 0, 1, 0, 0]) (f := fun n => fun (x : (List UInt8) × Int × Int × Int × (List (List UInt8)) × Unit) => S_l12Split_b0 k n x.1 x.2.1 x.2.2.1 x.2.2.2.1 x.2.2.2.2.1) (S_l12Split_ck k) (cutOK_of (l := [(S_l12Split_b1_cut k, sub (bodyOf Go.Proofs.Tryd.f88) [1, 1, 1, 0, 1, 0, 0, 1, 0])]) (by kernel_rfl) ⟨S_l12Split_b1_ok k, trivial⟩) (fun _ => rfl) (fun n x Q R h => by
    simp only [S_l12Split_b0, optK_bind, optK_bif, optK_pure, optK_none, optK_oc, optK_guardT, optK_map] at h
    refine hold_of h ?_
    kernel_rfl) (by kernel_rfl)
def S_l12Split_cu (k : Nat) : Cuts D := ⟨[(0, some (S_l12Split_b0_cut k))], []⟩
def S_l12Split_ar : List Ar := [.c (.ks), .c (.ki .u8)]
def S_l12Split_f (k : Nat) (x : TupA D S_l12Split_ar) : Option ((List (List UInt8))) := S_l12Split k x.1 x.2.1
def S_l12Split_vr (r : (List (List UInt8))) : VR D := .p (.c (.sl 9 r))
theorem S_l12Split_ok (k : Nat) : Does P X 88 S_l12Split_ar (S_l12Split_f k) S_l12Split_vr :=
  does_of (body := bodyOf Go.Proofs.Tryd.f88) (pl := S_l12Split_pl) (k := k) (cu := S_l12Split_cu k) (tys := [[9]]) (S_l12Split_ck k) ctx mixed Go.Proofs.Tryd.func88 (by kernel_rfl) (by kernel_rfl) (cutOK_of (l := [(S_l12Split_b0_cut k, sub (bodyOf Go.Proofs.Tryd.f88) [1, 1, 1, 0, 1])]) (by kernel_rfl) ⟨S_l12Split_b0_ok k, trivial⟩) fun x R h => by
    simp only [S_l12Split_f, S_l12Split, optK_bind, optK_bif, optK_pure, optK_none, optK_oc, optK_guardT, optK_map] at h
    refine hold_of h ?_
    kernel_rfl
def S_l12Split_en (k : Nat) : Entry D := entS S_l12Split_ar (S_l12Split_f k) S_l12Split_vr
theorem S_l12Split_eo (k : Nat) : EntryOK X 88 (S_l12Split_en k) := (S_l12Split_ok k).en rfl
def S_l1In_pl : Plan := ⟨[(0, [(0, none), (1, none), (2, none)]), (1, [(6, none)])],
  [],
  []⟩
def S_l1In_cl (k : Nat) : Calls' D := ⟨[], []⟩
theorem S_l1In_ck (k : Nat) : CallsOK X (S_l1In_cl k) := .nil cod
def S_l1In_cu (k : Nat) : Cuts D := ⟨[], []⟩
def S_l1In_ar : List Ar := [.c (.ki .i64), .c (.ki .i64), .c (.ki .i64)]
def S_l1In_f (k : Nat) (x : TupA D S_l1In_ar) : Option (Bool) := S_l1In k x.1 x.2.1 x.2.2.1
def S_l1In_vr (r : Bool) : VR D := .p (.c (.bool r))
theorem S_l1In_ok (k : Nat) : Does P X 62 S_l1In_ar (S_l1In_f k) S_l1In_vr :=
  does_of (body := bodyOf Go.Proofs.Tryd.f62) (pl := S_l1In_pl) (k := k) (cu := S_l1In_cu k) (tys := [[0]]) (S_l1In_ck k) ctx mixed Go.Proofs.Tryd.func62 (by kernel_rfl) (by kernel_rfl) (cutOK_of (l := []) (by kernel_rfl) trivial) fun x R h => by
    simp only [S_l1In_f, S_l1In, optK_bind, optK_bif, optK_pure, optK_none, optK_oc, optK_guardT, optK_map] at h
    refine hold_of h ?_
    kernel_rfl
def S_l1In_en (k : Nat) : Entry D := entS S_l1In_ar (S_l1In_f k) S_l1In_vr
theorem S_l1In_eo (k : Nat) : EntryOK X 62 (S_l1In_en k) := (S_l1In_ok k).en rfl
def S_LowerText_pl : Plan := ⟨[(0, [(0, none)]), (1, [(3, some 5)]), (2, [(3, some 5), (4, none)]), (3, [(3, some 5), (4, none), (10, none)]), (4, [(3, some 5), (4, none)]), (5, [(3, some 5), (4, none), (18, none)]), (6, [(3, some 5), (4, none)]), (7, [(2, none)])],
  [(0, [(3, some 5)]), (1, [(3, some 5), (4, none)])],
  [(10, ([(3, some 5), (4, none)], [(3, some 5)])), (18, ([(3, some 5), (4, none)], [(3, some 5), (4, none)]))]⟩
def S_LowerText_cl (k : Nat) : Calls' D := ⟨[(62, S_l1In_en k)], []⟩
theorem S_LowerText_ck (k : Nat) : CallsOK X (S_LowerText_cl k) := .cons (S_l1In_eo k) (.nil cod)
def S_LowerText_c18_L (x : Int × Bool × (List Int) × Unit) (o : (List Int)) (Q : Ex → VSt D → Prop) (R : VR D → Prop) : Prop := Q .normal (mkSt ⟨[(3, .ref 500003), (4, .hole)], [(500003, .row)]⟩ [.int .i64 x.1, .sl 5 o])
def S_LowerText_c18_cut (k : Nat) : Cut D := cutS ⟨[(3, .ref 500003), (4, .hole), (18, .hole)], [(500003, .row)]⟩ [.ki .i64, .kb, .kl 5] (fun (x : Int × Bool × (List Int) × Unit) => S_LowerText_c18 k x.1 x.2.1 x.2.2.1) S_LowerText_c18_L
def S_LowerText_c18_cu (k : Nat) : Cuts D := ⟨[], []⟩
theorem S_LowerText_c18_ok (k : Nat) : CutFor X S_LowerText_pl k Go.Proofs.Tryd.f85.results.toList (S_LowerText_c18_cut k) (sub (bodyOf Go.Proofs.Tryd.f85) [1, 1, 0, 1, 0, 0, 1, 0, 0, 1]) :=
  joinCut_s (X := X) (sg := [.ki .i64, .kb, .kl 5]) (cu := S_LowerText_c18_cu k) (cl := S_LowerText_cl k) (tys := [[0]]) (S_LowerText_ck k) (cutOK_of (l := []) (by kernel_rfl) trivial) fun x Q R h => by
    simp only [S_LowerText_c18, optK_bind, optK_bif, optK_pure, optK_none, optK_oc, optK_guardT, optK_map] at h
    refine hold_of h ?_
    kernel_rfl
def S_LowerText_b1_L (x : Int × (List Int) × Unit) (o : (List Int)) (Q : Ex → VSt D → Prop) (R : VR D → Prop) : Prop := Q .normal (mkSt ⟨[(3, .ref 500003), (4, .hole)], [(500003, .row)]⟩ [.int .i64 x.1, .sl 5 o])
def S_LowerText_b1_cut (k : Nat) : Cut D := cutS ⟨[(3, .ref 500003), (4, .hole)], [(500003, .row)]⟩ [.ki .i64, .kl 5] (fun (x : Int × (List Int) × Unit) => S_LowerText_b1 k x.1 x.2.1) S_LowerText_b1_L
def S_LowerText_b1_cu (k : Nat) : Cuts D := ⟨[], [(18, some (S_LowerText_c18_cut k))]⟩
theorem S_LowerText_b1_ok (k : Nat) : CutFor X S_LowerText_pl k Go.Proofs.Tryd.f85.results.toList (S_LowerText_b1_cut k) (sub (bodyOf Go.Proofs.Tryd.f85) [1, 1, 0, 1, 0, 0, 1, 0]) :=
  joinCut_s (X := X) (sg := [.ki .i64, .kl 5]) (cu := S_LowerText_b1_cu k) (cl := S_LowerText_cl k) (tys := [[0]]) (S_LowerText_ck k) (cutOK_of (l := [(S_LowerText_c18_cut k, sub (bodyOf Go.Proofs.Tryd.f85) [1, 1, 0, 1, 0, 0, 1, 0, 0, 1])]) (by kernel_rfl) ⟨S_LowerText_c18_ok k, trivial⟩) fun x Q R h => by
    simp only [S_LowerText_b1, optK_bind, optK_bif, optK_pure, optK_none, optK_oc, optK_guardT, optK_map] at h
    refine hold_of h ?_
    kernel_rfl
def S_LowerText_b0_L (x : Int × (List Int) × Unit) (o : (List Int)) (Q : Ex → VSt D → Prop) (R : VR D → Prop) : Prop := Q .normal (mkSt ⟨[(3, .ref 500003)], [(500003, .row)]⟩ [.sl 5 o])
def S_LowerText_b0_cut (k : Nat) : Cut D := cutS ⟨[(3, .ref 500003), (4, .hole)], [(500003, .row)]⟩ [.ki .i64, .kl 5] (fun (x : Int × (List Int) × Unit) => S_LowerText_b0 k k x.1 x.2.1) S_LowerText_b0_L
def S_LowerText_b0_cu (k : Nat) : Cuts D := ⟨[(1, some (S_LowerText_b1_cut k))], []⟩
theorem S_LowerText_b0_ok (k : Nat) : CutFor X S_LowerText_pl k Go.Proofs.Tryd.f85.results.toList (S_LowerText_b0_cut k) (sub (bodyOf Go.Proofs.Tryd.f85) [1, 1, 0, 1]) :=
  loopCut_s (X := X) (sg := [.ki .i64, .kl 5]) (cu := S_LowerText_b0_cu k) (cl := S_LowerText_cl k) (tys := [[0]]) (id := 0) (c := sub (bodyOf Go.Proofs.Tryd.f85) [1, 1, 0, 1, 0, 0]) (f := fun n => fun (x : Int × (List Int) × Unit) => S_LowerText_b0 k n x.1 x.2.1) (S_LowerText_ck k) (cutOK_of (l := [(S_LowerText_b1_cut k, sub (bodyOf Go.Proofs.Tryd.f85) [1, 1, 0, 1, 0, 0, 1, 0])]) (by kernel_rfl) ⟨S_LowerText_b1_ok k, trivial⟩) (fun _ => rfl) (fun n x Q R h => by
    simp only [S_LowerText_b0, optK_bind, optK_bif, optK_pure, optK_none, optK_oc, optK_guardT, optK_map] at h
    refine hold_of h ?_
    kernel_rfl) (by kernel_rfl)
def S_LowerText_cu (k : Nat) : Cuts D := ⟨[(0, some (S_LowerText_b0_cut k))], []⟩
def S_LowerText_ar : List Ar := [.c (.ks)]
def S_LowerText_f (k : Nat) (x : TupA D S_LowerText_ar) : Option ((List UInt8)) := S_LowerText k x.1
def S_LowerText_vr (r : (List UInt8)) : VR D := .p (.c (.str r))
theorem S_LowerText_ok (k : Nat) : Does P X 85 S_LowerText_ar (S_LowerText_f k) S_LowerText_vr :=
  does_of (body := bodyOf Go.Proofs.Tryd.f85) (pl := S_LowerText_pl) (k := k) (cu := S_LowerText_cu k) (tys := [[0]]) (S_LowerText_ck k) ctx mixed Go.Proofs.Tryd.func85 (by kernel_rfl) (by kernel_rfl) (cutOK_of (l := [(S_LowerText_b0_cut k, sub (bodyOf Go.Proofs.Tryd.f85) [1, 1, 0, 1])]) (by kernel_rfl) ⟨S_LowerText_b0_ok k, trivial⟩) fun x R h => by
    simp only [S_LowerText_f, S_LowerText, optK_bind, optK_bif, optK_pure, optK_none, optK_oc, optK_guardT, optK_map] at h
    refine hold_of h ?_
    kernel_rfl
def S_LowerText_en (k : Nat) : Entry D := entS S_LowerText_ar (S_LowerText_f k) S_LowerText_vr
theorem S_LowerText_eo (k : Nat) : EntryOK X 85 (S_LowerText_en k) := (S_LowerText_ok k).en rfl
def S_SplitPair_pl : Plan := ⟨[(0, [(0, none)]), (1, [(0, none), (5, none)]), (2, [(0, none), (5, none), (9, none)]), (3, [(0, none), (5, none)]), (4, [(0, none), (5, none), (15, none)]), (5, [(2, none), (3, none), (4, none)]), (6, [(2, none), (3, none), (4, none)])],
  [(0, [(0, none)]), (1, [(0, none), (5, none)])],
  [(9, ([(0, none), (5, none)], [(0, none)])), (15, ([(0, none), (5, none)], [(0, none), (5, none)]))]⟩
def S_SplitPair_cl (k : Nat) : Calls' D := ⟨[(89, S_TrimText_en k)], []⟩
theorem S_SplitPair_ck (k : Nat) : CallsOK X (S_SplitPair_cl k) := .cons (S_TrimText_eo k) (.nil cod)
def S_SplitPair_b0_L (x : (List UInt8) × Int × Unit) (o : Oc (Unit) ((List UInt8) × (List UInt8) × Bool)) (Q : Ex → VSt D → Prop) (R : VR D → Prop) : Prop := ocP o (fun v0 => Q .normal (mkSt ⟨[(0, .hole)], []⟩ [.str x.1])) (fun w0 => R (.tup [.c (.str w0.1), .c (.str w0.2.1), .c (.bool w0.2.2)]))
def S_SplitPair_b0_cut (k : Nat) : Cut D := cutS ⟨[(0, .hole), (5, .hole)], []⟩ [.ks, .ki .i64] (fun (x : (List UInt8) × Int × Unit) => S_SplitPair_b0 k k x.1 x.2.1) S_SplitPair_b0_L
def S_SplitPair_b0_cu (k : Nat) : Cuts D := ⟨[], []⟩
theorem S_SplitPair_b0_ok (k : Nat) : CutFor X S_SplitPair_pl k Go.Proofs.Tryd.f90.results.toList (S_SplitPair_b0_cut k) (sub (bodyOf Go.Proofs.Tryd.f90) [1, 0, 1]) :=
  loopCut_s (X := X) (sg := [.ks, .ki .i64]) (cu := S_SplitPair_b0_cu k) (cl := S_SplitPair_cl k) (tys := [[0], [0], [0]]) (id := 0) (c := sub (bodyOf Go.Proofs.Tryd.f90) [1, 0, 1, 0, 0]) (f := fun n => fun (x : (List UInt8) × Int × Unit) => S_SplitPair_b0 k n x.1 x.2.1) (S_SplitPair_ck k) (cutOK_of (l := []) (by kernel_rfl) trivial) (fun _ => rfl) (fun n x Q R h => by
    simp only [S_SplitPair_b0, optK_bind, optK_bif, optK_pure, optK_none, optK_oc, optK_guardT, optK_map] at h
    refine hold_of h ?_
    kernel_rfl) (by kernel_rfl)
def S_SplitPair_cu (k : Nat) : Cuts D := ⟨[(0, some (S_SplitPair_b0_cut k))], []⟩
def S_SplitPair_ar : List Ar := [.c (.ks)]
def S_SplitPair_f (k : Nat) (x : TupA D S_SplitPair_ar) : Option ((List UInt8) × (List UInt8) × Bool) := S_SplitPair k x.1
def S_SplitPair_vr (r : (List UInt8) × (List UInt8) × Bool) : VR D := .tup [.c (.str r.1), .c (.str r.2.1), .c (.bool r.2.2)]
theorem S_SplitPair_ok (k : Nat) : Does P X 90 S_SplitPair_ar (S_SplitPair_f k) S_SplitPair_vr :=
  does_of (body := bodyOf Go.Proofs.Tryd.f90) (pl := S_SplitPair_pl) (k := k) (cu := S_SplitPair_cu k) (tys := [[0], [0], [0]]) (S_SplitPair_ck k) ctx mixed Go.Proofs.Tryd.func90 (by kernel_rfl) (by kernel_rfl) (cutOK_of (l := [(S_SplitPair_b0_cut k, sub (bodyOf Go.Proofs.Tryd.f90) [1, 0, 1])]) (by kernel_rfl) ⟨S_SplitPair_b0_ok k, trivial⟩) fun x R h => by
    simp only [S_SplitPair_f, S_SplitPair, optK_bind, optK_bif, optK_pure, optK_none, optK_oc, optK_guardT, optK_map] at h
    refine hold_of h ?_
    kernel_rfl
def S_SplitPair_en (k : Nat) : Entry D := entS S_SplitPair_ar (S_SplitPair_f k) S_SplitPair_vr
theorem S_SplitPair_eo (k : Nat) : EntryOK X 90 (S_SplitPair_en k) := (S_SplitPair_ok k).en rfl
def S_l13Weight_pl : Plan := ⟨[(0, [(0, none)]), (1, [(0, none), (33, none)]), (2, [(2, none)]), (3, [(0, none), (3, none)]), (4, [(0, none), (3, none), (4, none)]), (5, [(0, none), (3, none), (4, none), (5, none)]), (6, [(0, none), (3, none), (4, none), (5, none), (42, none)]), (7, [(0, none), (3, none), (4, none), (5, none)]), (8, [(0, none), (3, none), (4, none), (5, none), (50, none)]), (9, [(2, none)]), (10, [(0, none), (3, none), (4, none), (5, none)]), (11, [(0, none), (3, none), (4, none), (5, none)]), (12, [(3, none), (63, none)]), (13, [(2, none)]), (14, [(2, none)])],
  [(0, [(3, none)]), (1, [(0, none), (3, none), (4, none), (5, none)])],
  [(33, ([], [(0, none)])), (42, ([(0, none), (3, none), (4, none), (5, none)], [(3, none)])), (50, ([], [(0, none), (3, none), (4, none), (5, none)])), (63, ([], [(3, none)]))]⟩
def S_l13Weight_cl (k : Nat) : Calls' D := ⟨[(62, S_l1In_en k)], []⟩
theorem S_l13Weight_ck (k : Nat) : CallsOK X (S_l13Weight_cl k) := .cons (S_l1In_eo k) (.nil cod)
def S_l13Weight_b0_L (x : (List UInt8) × Int × Int × Int × Unit) (o : Oc (Int) (Int)) (Q : Ex → VSt D → Prop) (R : VR D → Prop) : Prop := ocP o (fun v0 => Q .normal (mkSt ⟨[(3, .hole)], []⟩ [.int .i64 v0])) (fun w0 => R (.p (.c (.int .i64 w0))))
def S_l13Weight_b0_cut (k : Nat) : Cut D := cutS ⟨[(0, .hole), (3, .hole), (4, .hole), (5, .hole)], []⟩ [.ks, .ki .i64, .ki .i64, .ki .i64] (fun (x : (List UInt8) × Int × Int × Int × Unit) => S_l13Weight_b0 k k x.1 x.2.1 x.2.2.1 x.2.2.2.1) S_l13Weight_b0_L
def S_l13Weight_b0_cu (k : Nat) : Cuts D := ⟨[], []⟩
theorem S_l13Weight_b0_ok (k : Nat) : CutFor X S_l13Weight_pl k Go.Proofs.Tryd.f91.results.toList (S_l13Weight_b0_cut k) (sub (bodyOf Go.Proofs.Tryd.f91) [1, 1, 1, 1, 0, 1]) :=
  loopCut_s (X := X) (sg := [.ks, .ki .i64, .ki .i64, .ki .i64]) (cu := S_l13Weight_b0_cu k) (cl := S_l13Weight_cl k) (tys := [[0]]) (id := 0) (c := sub (bodyOf Go.Proofs.Tryd.f91) [1, 1, 1, 1, 0, 1, 0, 0]) (f := fun n => fun (x : (List UInt8) × Int × Int × Int × Unit) => S_l13Weight_b0 k n x.1 x.2.1 x.2.2.1 x.2.2.2.1) (S_l13Weight_ck k) (cutOK_of (l := []) (by kernel_rfl) trivial) (fun _ => rfl) (fun n x Q R h => by
    simp only [S_l13Weight_b0, optK_bind, optK_bif, optK_pure, optK_none, optK_oc, optK_guardT, optK_map] at h
    refine hold_of h ?_
    kernel_rfl) (by kernel_rfl)
def S_l13Weight_cu (k : Nat) : Cuts D := ⟨[(0, some (S_l13Weight_b0_cut k))], []⟩
def S_l13Weight_ar : List Ar := [.c (.ks)]
def S_l13Weight_f (k : Nat) (x : TupA D S_l13Weight_ar) : Option (Int) := S_l13Weight k x.1
def S_l13Weight_vr (r : Int) : VR D := .p (.c (.int .i64 r))
theorem S_l13Weight_ok (k : Nat) : Does P X 91 S_l13Weight_ar (S_l13Weight_f k) S_l13Weight_vr :=
  does_of (body := bodyOf Go.Proofs.Tryd.f91) (pl := S_l13Weight_pl) (k := k) (cu := S_l13Weight_cu k) (tys := [[0]]) (S_l13Weight_ck k) ctx mixed Go.Proofs.Tryd.func91 (by kernel_rfl) (by kernel_rfl) (cutOK_of (l := [(S_l13Weight_b0_cut k, sub (bodyOf Go.Proofs.Tryd.f91) [1, 1, 1, 1, 0, 1])]) (by kernel_rfl) ⟨S_l13Weight_b0_ok k, trivial⟩) fun x R h => by
    simp only [S_l13Weight_f, S_l13Weight, optK_bind, optK_bif, optK_pure, optK_none, optK_oc, optK_guardT, optK_map] at h
    refine hold_of h ?_
    kernel_rfl
def S_l13Weight_en (k : Nat) : Entry D := entS S_l13Weight_ar (S_l13Weight_f k) S_l13Weight_vr
theorem S_l13Weight_eo (k : Nat) : EntryOK X 91 (S_l13Weight_en k) := (S_l13Weight_ok k).en rfl
def S_l4Letter_pl : Plan := ⟨[(0, [(0, none)]), (1, [(2, none)])],
  [],
  []⟩
def S_l4Letter_cl (k : Nat) : Calls' D := ⟨[(62, S_l1In_en k)], []⟩
theorem S_l4Letter_ck (k : Nat) : CallsOK X (S_l4Letter_cl k) := .cons (S_l1In_eo k) (.nil cod)
def S_l4Letter_cu (k : Nat) : Cuts D := ⟨[], []⟩
def S_l4Letter_ar : List Ar := [.c (.ki .u8)]
def S_l4Letter_f (k : Nat) (x : TupA D S_l4Letter_ar) : Option (Bool) := S_l4Letter k x.1
def S_l4Letter_vr (r : Bool) : VR D := .p (.c (.bool r))
theorem S_l4Letter_ok (k : Nat) : Does P X 149 S_l4Letter_ar (S_l4Letter_f k) S_l4Letter_vr :=
  does_of (body := bodyOf Go.Proofs.Tryd.f149) (pl := S_l4Letter_pl) (k := k) (cu := S_l4Letter_cu k) (tys := [[0]]) (S_l4Letter_ck k) ctx mixed Go.Proofs.Tryd.func149 (by kernel_rfl) (by kernel_rfl) (cutOK_of (l := []) (by kernel_rfl) trivial) fun x R h => by
    simp only [S_l4Letter_f, S_l4Letter, optK_bind, optK_bif, optK_pure, optK_none, optK_oc, optK_guardT, optK_map] at h
    refine hold_of h ?_
    kernel_rfl
def S_l4Letter_en (k : Nat) : Entry D := entS S_l4Letter_ar (S_l4Letter_f k) S_l4Letter_vr
theorem S_l4Letter_eo (k : Nat) : EntryOK X 149 (S_l4Letter_en k) := (S_l4Letter_ok k).en rfl
def S_l4Token_pl : Plan := ⟨[(0, [(0, none)]), (1, [(0, none), (3, none)]), (2, [(0, none), (3, none), (5, none)]), (3, [(0, none), (3, none)]), (4, [(0, none), (3, none), (11, none)]), (5, [(2, none)]), (6, [(2, none)])],
  [(0, [(0, none)]), (1, [(0, none), (3, none)])],
  [(5, ([(0, none), (3, none)], [(0, none)])), (11, ([], [(0, none), (3, none)]))]⟩
def S_l4Token_cl (k : Nat) : Calls' D := ⟨[(149, S_l4Letter_en k)], []⟩
theorem S_l4Token_ck (k : Nat) : CallsOK X (S_l4Token_cl k) := .cons (S_l4Letter_eo k) (.nil cod)
def S_l4Token_b0_L (x : Int × Int × Unit) (o : Oc (Unit) (Bool)) (Q : Ex → VSt D → Prop) (R : VR D → Prop) : Prop := ocP o (fun v0 => Q .normal (mkSt ⟨[(0, .hole)], []⟩ [.int .u8 x.1])) (fun w0 => R (.p (.c (.bool w0))))
def S_l4Token_b0_cut (k : Nat) : Cut D := cutS ⟨[(0, .hole), (3, .hole)], []⟩ [.ki .u8, .ki .i64] (fun (x : Int × Int × Unit) => S_l4Token_b0 k k x.1 x.2.1) S_l4Token_b0_L
def S_l4Token_b0_cu (k : Nat) : Cuts D := ⟨[], []⟩
theorem S_l4Token_b0_ok (k : Nat) : CutFor X S_l4Token_pl k Go.Proofs.Tryd.f118.results.toList (S_l4Token_b0_cut k) (sub (bodyOf Go.Proofs.Tryd.f118) [1, 0, 1]) :=
  loopCut_s (X := X) (sg := [.ki .u8, .ki .i64]) (cu := S_l4Token_b0_cu k) (cl := S_l4Token_cl k) (tys := [[0]]) (id := 0) (c := sub (bodyOf Go.Proofs.Tryd.f118) [1, 0, 1, 0, 0]) (f := fun n => fun (x : Int × Int × Unit) => S_l4Token_b0 k n x.1 x.2.1) (S_l4Token_ck k) (cutOK_of (l := []) (by kernel_rfl) trivial) (fun _ => rfl) (fun n x Q R h => by
    simp only [S_l4Token_b0, optK_bind, optK_bif, optK_pure, optK_none, optK_oc, optK_guardT, optK_map] at h
    refine hold_of h ?_
    kernel_rfl) (by kernel_rfl)
def S_l4Token_cu (k : Nat) : Cuts D := ⟨[(0, some (S_l4Token_b0_cut k))], []⟩
def S_l4Token_ar : List Ar := [.c (.ki .u8)]
def S_l4Token_f (k : Nat) (x : TupA D S_l4Token_ar) : Option (Bool) := S_l4Token k x.1
def S_l4Token_vr (r : Bool) : VR D := .p (.c (.bool r))
theorem S_l4Token_ok (k : Nat) : Does P X 118 S_l4Token_ar (S_l4Token_f k) S_l4Token_vr :=
  does_of (body := bodyOf Go.Proofs.Tryd.f118) (pl := S_l4Token_pl) (k := k) (cu := S_l4Token_cu k) (tys := [[0]]) (S_l4Token_ck k) ctx mixed Go.Proofs.Tryd.func118 (by kernel_rfl) (by kernel_rfl) (cutOK_of (l := [(S_l4Token_b0_cut k, sub (bodyOf Go.Proofs.Tryd.f118) [1, 0, 1])]) (by kernel_rfl) ⟨S_l4Token_b0_ok k, trivial⟩) fun x R h => by
    simp only [S_l4Token_f, S_l4Token, optK_bind, optK_bif, optK_pure, optK_none, optK_oc, optK_guardT, optK_map] at h
    refine hold_of h ?_
    kernel_rfl
def S_l4Token_en (k : Nat) : Entry D := entS S_l4Token_ar (S_l4Token_f k) S_l4Token_vr
theorem S_l4Token_eo (k : Nat) : EntryOK X 118 (S_l4Token_en k) := (S_l4Token_ok k).en rfl
def S_IsToken_pl : Plan := ⟨[(0, [(0, none)]), (1, [(0, none), (3, none)]), (2, [(0, none), (3, none), (7, none)]), (3, [(0, none), (3, none)]), (4, [(0, none), (3, none), (14, none)]), (5, [(2, none)]), (6, [(2, none)])],
  [(0, [(0, none)]), (1, [(0, none), (3, none)])],
  [(7, ([(0, none), (3, none)], [(0, none)])), (14, ([], [(0, none), (3, none)]))]⟩
def S_IsToken_cl (k : Nat) : Calls' D := ⟨[(118, S_l4Token_en k), (62, S_l1In_en k)], []⟩
theorem S_IsToken_ck (k : Nat) : CallsOK X (S_IsToken_cl k) := .cons (S_l4Token_eo k) (.cons (S_l1In_eo k) (.nil cod))
def S_IsToken_b0_L (x : (List UInt8) × Int × Unit) (o : Oc (Unit) (Bool)) (Q : Ex → VSt D → Prop) (R : VR D → Prop) : Prop := ocP o (fun v0 => Q .normal (mkSt ⟨[(0, .hole)], []⟩ [.str x.1])) (fun w0 => R (.p (.c (.bool w0))))
def S_IsToken_b0_cut (k : Nat) : Cut D := cutS ⟨[(0, .hole), (3, .hole)], []⟩ [.ks, .ki .i64] (fun (x : (List UInt8) × Int × Unit) => S_IsToken_b0 k k x.1 x.2.1) S_IsToken_b0_L
def S_IsToken_b0_cu (k : Nat) : Cuts D := ⟨[], []⟩
theorem S_IsToken_b0_ok (k : Nat) : CutFor X S_IsToken_pl k Go.Proofs.Tryd.f84.results.toList (S_IsToken_b0_cut k) (sub (bodyOf Go.Proofs.Tryd.f84) [1, 0, 1]) :=
  loopCut_s (X := X) (sg := [.ks, .ki .i64]) (cu := S_IsToken_b0_cu k) (cl := S_IsToken_cl k) (tys := [[0]]) (id := 0) (c := sub (bodyOf Go.Proofs.Tryd.f84) [1, 0, 1, 0, 0]) (f := fun n => fun (x : (List UInt8) × Int × Unit) => S_IsToken_b0 k n x.1 x.2.1) (S_IsToken_ck k) (cutOK_of (l := []) (by kernel_rfl) trivial) (fun _ => rfl) (fun n x Q R h => by
    simp only [S_IsToken_b0, optK_bind, optK_bif, optK_pure, optK_none, optK_oc, optK_guardT, optK_map] at h
    refine hold_of h ?_
    kernel_rfl) (by kernel_rfl)
def S_IsToken_cu (k : Nat) : Cuts D := ⟨[(0, some (S_IsToken_b0_cut k))], []⟩
def S_IsToken_ar : List Ar := [.c (.ks)]
def S_IsToken_f (k : Nat) (x : TupA D S_IsToken_ar) : Option (Bool) := S_IsToken k x.1
def S_IsToken_vr (r : Bool) : VR D := .p (.c (.bool r))
theorem S_IsToken_ok (k : Nat) : Does P X 84 S_IsToken_ar (S_IsToken_f k) S_IsToken_vr :=
  does_of (body := bodyOf Go.Proofs.Tryd.f84) (pl := S_IsToken_pl) (k := k) (cu := S_IsToken_cu k) (tys := [[0]]) (S_IsToken_ck k) ctx mixed Go.Proofs.Tryd.func84 (by kernel_rfl) (by kernel_rfl) (cutOK_of (l := [(S_IsToken_b0_cut k, sub (bodyOf Go.Proofs.Tryd.f84) [1, 0, 1])]) (by kernel_rfl) ⟨S_IsToken_b0_ok k, trivial⟩) fun x R h => by
    simp only [S_IsToken_f, S_IsToken, optK_bind, optK_bif, optK_pure, optK_none, optK_oc, optK_guardT, optK_map] at h
    refine hold_of h ?_
    kernel_rfl
def S_IsToken_en (k : Nat) : Entry D := entS S_IsToken_ar (S_IsToken_f k) S_IsToken_vr
theorem S_IsToken_eo (k : Nat) : EntryOK X 84 (S_IsToken_en k) := (S_IsToken_ok k).en rfl
def S_ParseQualities_pl : Plan := ⟨[(0, [(0, none)]), (1, [(3, some 9)]), (2, [(3, some 9), (4, some 51)]), (3, [(3, some 9), (4, some 51), (5, none)]), (4, [(3, some 9), (4, some 51), (5, none), (17, none)]), (5, [(3, some 9), (4, some 51), (5, none)]), (6, [(3, some 9), (4, some 51), (5, none), (6, some 9)]), (7, [(3, some 9), (4, some 51), (5, none), (6, some 9), (7, none)]), (8, [(3, some 9), (4, some 51), (5, none), (6, some 9), (7, none), (33, none)]), (9, [(3, some 9), (4, some 51), (5, none), (6, some 9), (7, none), (8, none), (9, none), (10, none)]), (10, [(3, some 9), (4, some 51), (5, none), (6, some 9), (7, none), (8, none), (10, none)]), (11, [(3, some 9), (4, some 51), (5, none), (7, none), (56, none)]), (12, [(3, some 9), (4, some 51), (5, none), (7, none)]), (13, [(3, some 9), (4, some 51), (5, none), (7, none), (65, none)]), (14, [(3, some 9), (4, some 51), (5, none)]), (15, [(2, some 51)])],
  [(0, [(4, some 51)]), (1, [(3, some 9), (4, some 51), (5, none)])],
  [(17, ([(3, some 9), (4, some 51), (5, none)], [(4, some 51)])), (33, ([(3, some 9), (4, some 51), (5, none), (6, some 9), (7, none)], [(3, some 9), (4, some 51), (5, none), (7, none)])), (56, ([(3, some 9), (4, some 51), (5, none), (7, none)], [(3, some 9), (4, some 51), (5, none), (7, none)])), (65, ([(3, some 9), (4, some 51), (5, none), (7, none)], [(3, some 9), (4, some 51), (5, none)]))]⟩
def S_ParseQualities_cl (k : Nat) : Calls' D := ⟨[(69, S_SplitList_en k), (88, S_l12Split_en k), (89, S_TrimText_en k), (85, S_LowerText_en k), (90, S_SplitPair_en k), (91, S_l13Weight_en k), (84, S_IsToken_en k)], []⟩
theorem S_ParseQualities_ck (k : Nat) : CallsOK X (S_ParseQualities_cl k) := .cons (S_SplitList_eo k) (.cons (S_l12Split_eo k) (.cons (S_TrimText_eo k) (.cons (S_LowerText_eo k) (.cons (S_SplitPair_eo k) (.cons (S_l13Weight_eo k) (.cons (S_IsToken_eo k) (.nil cod)))))))
def S_ParseQualities_c56_L (x : Int × Bool × (List (List UInt8)) × (List IQuality) × (List UInt8) × Int × Unit) (o : Int) (Q : Ex → VSt D → Prop) (R : VR D → Prop) : Prop := Q .normal (mkSt ⟨[(3, .ref 500003), (4, .ref 500004), (5, .hole), (7, .ptr 7 0)], [(500003, .row), (500004, .row), (7, .var [.hole, .hole])]⟩ [.int .i64 x.1, .sl 9 x.2.2.1, .sl 51 x.2.2.2.1, .str x.2.2.2.2.1, .int .i64 o])
def S_ParseQualities_c56_cut (k : Nat) : Cut D := cutS ⟨[(3, .ref 500003), (4, .ref 500004), (5, .hole), (7, .ptr 7 0), (56, .hole)], [(500003, .row), (500004, .row), (7, .var [.hole, .hole])]⟩ [.ki .i64, .kb, .kl 9, .kl 51, .ks, .ki .i64] (fun (x : Int × Bool × (List (List UInt8)) × (List IQuality) × (List UInt8) × Int × Unit) => S_ParseQualities_c56 k x.1 x.2.1 x.2.2.1 x.2.2.2.1 x.2.2.2.2.1 x.2.2.2.2.2.1) S_ParseQualities_c56_L
def S_ParseQualities_c56_cu (k : Nat) : Cuts D := ⟨[], []⟩
theorem S_ParseQualities_c56_ok (k : Nat) : CutFor X S_ParseQualities_pl k Go.Proofs.Tryd.f43.results.toList (S_ParseQualities_c56_cut k) (sub (bodyOf Go.Proofs.Tryd.f43) [1, 1, 1, 0, 1, 0, 0, 1, 0, 0, 1, 1, 0, 1, 0, 1, 1, 1]) :=
  joinCut_s (X := X) (sg := [.ki .i64, .kb, .kl 9, .kl 51, .ks, .ki .i64]) (cu := S_ParseQualities_c56_cu k) (cl := S_ParseQualities_cl k) (tys := [[51]]) (S_ParseQualities_ck k) (cutOK_of (l := []) (by kernel_rfl) trivial) fun x Q R h => by
    simp only [S_ParseQualities_c56, optK_bind, optK_bif, optK_pure, optK_none, optK_oc, optK_guardT, optK_map] at h
    refine hold_of h ?_
    kernel_rfl
def S_ParseQualities_c33_L (x : Int × Bool × (List (List UInt8)) × (List IQuality) × (List (List UInt8)) × (List UInt8) × Int × Unit) (o : Int) (Q : Ex → VSt D → Prop) (R : VR D → Prop) : Prop := Q .normal (mkSt ⟨[(3, .ref 500003), (4, .ref 500004), (5, .hole), (7, .ptr 7 0)], [(500003, .row), (500004, .row), (7, .var [.hole, .hole])]⟩ [.int .i64 x.1, .sl 9 x.2.2.1, .sl 51 x.2.2.2.1, .str x.2.2.2.2.2.1, .int .i64 o])
def S_ParseQualities_c33_cut (k : Nat) : Cut D := cutS ⟨[(3, .ref 500003), (4, .ref 500004), (5, .hole), (6, .ref 500006), (7, .ptr 7 0), (33, .hole)], [(500003, .row), (500004, .row), (500006, .row), (7, .var [.hole, .hole])]⟩ [.ki .i64, .kb, .kl 9, .kl 51, .kl 9, .ks, .ki .i64] (fun (x : Int × Bool × (List (List UInt8)) × (List IQuality) × (List (List UInt8)) × (List UInt8) × Int × Unit) => S_ParseQualities_c33 k x.1 x.2.1 x.2.2.1 x.2.2.2.1 x.2.2.2.2.1 x.2.2.2.2.2.1 x.2.2.2.2.2.2.1) S_ParseQualities_c33_L
def S_ParseQualities_c33_cu (k : Nat) : Cuts D := ⟨[], [(56, some (S_ParseQualities_c56_cut k))]⟩
theorem S_ParseQualities_c33_ok (k : Nat) : CutFor X S_ParseQualities_pl k Go.Proofs.Tryd.f43.results.toList (S_ParseQualities_c33_cut k) (sub (bodyOf Go.Proofs.Tryd.f43) [1, 1, 1, 0, 1, 0, 0, 1, 0, 0, 1, 1, 0, 1]) :=
  joinCut_s (X := X) (sg := [.ki .i64, .kb, .kl 9, .kl 51, .kl 9, .ks, .ki .i64]) (cu := S_ParseQualities_c33_cu k) (cl := S_ParseQualities_cl k) (tys := [[51]]) (S_ParseQualities_ck k) (cutOK_of (l := [(S_ParseQualities_c56_cut k, sub (bodyOf Go.Proofs.Tryd.f43) [1, 1, 1, 0, 1, 0, 0, 1, 0, 0, 1, 1, 0, 1, 0, 1, 1, 1])]) (by kernel_rfl) ⟨S_ParseQualities_c56_ok k, trivial⟩) fun x Q R h => by
    simp only [S_ParseQualities_c33, optK_bind, optK_bif, optK_pure, optK_none, optK_oc, optK_guardT, optK_map] at h
    refine hold_of h ?_
    kernel_rfl
def S_ParseQualities_c65_L (x : Int × Bool × (List (List UInt8)) × (List IQuality) × (List UInt8) × Int × Unit) (o : (List IQuality)) (Q : Ex → VSt D → Prop) (R : VR D → Prop) : Prop := Q .normal (mkSt ⟨[(3, .ref 500003), (4, .ref 500004), (5, .hole)], [(500003, .row), (500004, .row)]⟩ [.int .i64 x.1, .sl 9 x.2.2.1, .sl 51 o])
def S_ParseQualities_c65_cut (k : Nat) : Cut D := cutS ⟨[(3, .ref 500003), (4, .ref 500004), (5, .hole), (7, .ptr 7 0), (65, .hole)], [(500003, .row), (500004, .row), (7, .var [.hole, .hole])]⟩ [.ki .i64, .kb, .kl 9, .kl 51, .ks, .ki .i64] (fun (x : Int × Bool × (List (List UInt8)) × (List IQuality) × (List UInt8) × Int × Unit) => S_ParseQualities_c65 k x.1 x.2.1 x.2.2.1 x.2.2.2.1 x.2.2.2.2.1 x.2.2.2.2.2.1) S_ParseQualities_c65_L
def S_ParseQualities_c65_cu (k : Nat) : Cuts D := ⟨[], []⟩
theorem S_ParseQualities_c65_ok (k : Nat) : CutFor X S_ParseQualities_pl k Go.Proofs.Tryd.f43.results.toList (S_ParseQualities_c65_cut k) (sub (bodyOf Go.Proofs.Tryd.f43) [1, 1, 1, 0, 1, 0, 0, 1, 0, 0, 1, 1, 1, 1]) :=
  joinCut_s (X := X) (sg := [.ki .i64, .kb, .kl 9, .kl 51, .ks, .ki .i64]) (cu := S_ParseQualities_c65_cu k) (cl := S_ParseQualities_cl k) (tys := [[51]]) (S_ParseQualities_ck k) (cutOK_of (l := []) (by kernel_rfl) trivial) fun x Q R h => by
    simp only [S_ParseQualities_c65, optK_bind, optK_bif, optK_pure, optK_none, optK_oc, optK_guardT, optK_map] at h
    refine hold_of h ?_
    kernel_rfl
def S_ParseQualities_b1_L (x : Int × (List (List UInt8)) × (List IQuality) × Unit) (o : (List IQuality)) (Q : Ex → VSt D → Prop) (R : VR D → Prop) : Prop := Q .normal (mkSt ⟨[(3, .ref 500003), (4, .ref 500004), (5, .hole)], [(500003, .row), (500004, .row)]⟩ [.int .i64 x.1, .sl 9 x.2.1, .sl 51 o])
def S_ParseQualities_b1_cut (k : Nat) : Cut D := cutS ⟨[(3, .ref 500003), (4, .ref 500004), (5, .hole)], [(500003, .row), (500004, .row)]⟩ [.ki .i64, .kl 9, .kl 51] (fun (x : Int × (List (List UInt8)) × (List IQuality) × Unit) => S_ParseQualities_b1 k x.1 x.2.1 x.2.2.1) S_ParseQualities_b1_L
def S_ParseQualities_b1_cu (k : Nat) : Cuts D := ⟨[], [(33, some (S_ParseQualities_c33_cut k)), (65, some (S_ParseQualities_c65_cut k))]⟩
theorem S_ParseQualities_b1_ok (k : Nat) : CutFor X S_ParseQualities_pl k Go.Proofs.Tryd.f43.results.toList (S_ParseQualities_b1_cut k) (sub (bodyOf Go.Proofs.Tryd.f43) [1, 1, 1, 0, 1, 0, 0, 1, 0]) :=
  joinCut_s (X := X) (sg := [.ki .i64, .kl 9, .kl 51]) (cu := S_ParseQualities_b1_cu k) (cl := S_ParseQualities_cl k) (tys := [[51]]) (S_ParseQualities_ck k) (cutOK_of (l := [(S_ParseQualities_c33_cut k, sub (bodyOf Go.Proofs.Tryd.f43) [1, 1, 1, 0, 1, 0, 0, 1, 0, 0, 1, 1, 0, 1]), (S_ParseQualities_c65_cut k, sub (bodyOf Go.Proofs.Tryd.f43) [1, 1, 1, 0, 1, 0, 0, 1, 0, 0, 1, 1, 1, 1])]) (by kernel_rfl) ⟨S_ParseQualities_c33_ok k, S_ParseQualities_c65_ok k, trivial⟩) fun x Q R h => by
    simp only [S_ParseQualities_b1, optK_bind, optK_bif, optK_pure, optK_none, optK_oc, optK_guardT, optK_map] at h
    refine hold_of h ?_
    kernel_rfl
def S_ParseQualities_b0_L (x : Int × (List (List UInt8)) × (List IQuality) × Unit) (o : (List IQuality)) (Q : Ex → VSt D → Prop) (R : VR D → Prop) : Prop := Q .normal (mkSt ⟨[(4, .ref 500004)], [(500004, .row)]⟩ [.sl 51 o])
def S_ParseQualities_b0_cut (k : Nat) : Cut D := cutS ⟨[(3, .ref 500003), (4, .ref 500004), (5, .hole)], [(500003, .row), (500004, .row)]⟩ [.ki .i64, .kl 9, .kl 51] (fun (x : Int × (List (List UInt8)) × (List IQuality) × Unit) => S_ParseQualities_b0 k k x.1 x.2.1 x.2.2.1) S_ParseQualities_b0_L
def S_ParseQualities_b0_cu (k : Nat) : Cuts D := ⟨[(1, some (S_ParseQualities_b1_cut k))], []⟩
theorem S_ParseQualities_b0_ok (k : Nat) : CutFor X S_ParseQualities_pl k Go.Proofs.Tryd.f43.results.toList (S_ParseQualities_b0_cut k) (sub (bodyOf Go.Proofs.Tryd.f43) [1, 1, 1, 0, 1]) :=
  loopCut_s (X := X) (sg := [.ki .i64, .kl 9, .kl 51]) (cu := S_ParseQualities_b0_cu k) (cl := S_ParseQualities_cl k) (tys := [[51]]) (id := 0) (c := sub (bodyOf Go.Proofs.Tryd.f43) [1, 1, 1, 0, 1, 0, 0]) (f := fun n => fun (x : Int × (List (List UInt8)) × (List IQuality) × Unit) => S_ParseQualities_b0 k n x.1 x.2.1 x.2.2.1) (S_ParseQualities_ck k) (cutOK_of (l := [(S_ParseQualities_b1_cut k, sub (bodyOf Go.Proofs.Tryd.f43) [1, 1, 1, 0, 1, 0, 0, 1, 0])]) (by kernel_rfl) ⟨S_ParseQualities_b1_ok k, trivial⟩) (fun _ => rfl) (fun n x Q R h => by
    simp only [S_ParseQualities_b0, optK_bind, optK_bif, optK_pure, optK_none, optK_oc, optK_guardT, optK_map] at h
    refine hold_of h ?_
    kernel_rfl) (by kernel_rfl)
def S_ParseQualities_cu (k : Nat) : Cuts D := ⟨[(0, some (S_ParseQualities_b0_cut k))], []⟩
def S_ParseQualities_ar : List Ar := [.c (.ks)]
def S_ParseQualities_f (k : Nat) (x : TupA D S_ParseQualities_ar) : Option ((List IQuality)) := S_ParseQualities k x.1
def S_ParseQualities_vr (r : (List IQuality)) : VR D := .p (.c (.sl 51 r))
theorem S_ParseQualities_ok (k : Nat) : Does P X 43 S_ParseQualities_ar (S_ParseQualities_f k) S_ParseQualities_vr :=
  does_of (body := bodyOf Go.Proofs.Tryd.f43) (pl := S_ParseQualities_pl) (k := k) (cu := S_ParseQualities_cu k) (tys := [[51]]) (S_ParseQualities_ck k) ctx mixed Go.Proofs.Tryd.func43 (by kernel_rfl) (by kernel_rfl) (cutOK_of (l := [(S_ParseQualities_b0_cut k, sub (bodyOf Go.Proofs.Tryd.f43) [1, 1, 1, 0, 1])]) (by kernel_rfl) ⟨S_ParseQualities_b0_ok k, trivial⟩) fun x R h => by
    simp only [S_ParseQualities_f, S_ParseQualities, optK_bind, optK_bif, optK_pure, optK_none, optK_oc, optK_guardT, optK_map] at h
    refine hold_of h ?_
    kernel_rfl
def S_ParseQualities_en (k : Nat) : Entry D := entS S_ParseQualities_ar (S_ParseQualities_f k) S_ParseQualities_vr
theorem S_ParseQualities_eo (k : Nat) : EntryOK X 43 (S_ParseQualities_en k) := (S_ParseQualities_ok k).en rfl
def S_QualityOf_pl : Plan := ⟨[(0, [(0, some 51), (1, none)]), (1, [(0, some 51), (1, none), (5, none)]), (2, [(0, some 51), (1, none), (5, none), (6, none)]), (3, [(0, some 51), (1, none), (5, none), (6, none), (12, none)]), (4, [(0, some 51), (1, none), (5, none), (6, none)]), (5, [(0, some 51), (1, none), (5, none), (6, none), (20, none)]), (6, [(0, some 51), (1, none), (5, none), (6, none)]), (7, [(0, some 51), (1, none), (5, none), (7, none)]), (8, [(0, some 51), (1, none), (5, none), (7, none), (29, none)]), (9, [(0, some 51), (1, none), (5, none), (7, none)]), (10, [(0, some 51), (1, none), (5, none), (7, none), (38, none)]), (11, [(4, none)]), (12, [(4, none)])],
  [(0, [(0, some 51), (1, none), (5, none)]), (1, [(0, some 51), (1, none), (5, none), (6, none)]), (2, [(5, none)]), (3, [(0, some 51), (1, none), (5, none), (7, none)])],
  [(12, ([(0, some 51), (1, none), (5, none), (6, none)], [(0, some 51), (1, none), (5, none)])), (20, ([(0, some 51), (1, none), (6, none)], [(0, some 51), (1, none), (5, none), (6, none)])), (29, ([(0, some 51), (1, none), (5, none), (7, none)], [(5, none)])), (38, ([(0, some 51), (7, none)], [(0, some 51), (1, none), (5, none), (7, none)]))]⟩
def S_QualityOf_cl (k : Nat) : Calls' D := ⟨[], []⟩
theorem S_QualityOf_ck (k : Nat) : CallsOK X (S_QualityOf_cl k) := .nil cod
def S_QualityOf_c20_L (x : (List IQuality) × (List UInt8) × Int × Int × Bool × Unit) (o : Int) (Q : Ex → VSt D → Prop) (R : VR D → Prop) : Prop := Q .normal (mkSt ⟨[(0, .hole), (1, .hole), (5, .hole), (6, .hole)], []⟩ [.sl 51 x.1, .str x.2.1, .int .i64 o, .int .i64 x.2.2.2.1])
def S_QualityOf_c20_cut (k : Nat) : Cut D := cutS ⟨[(0, .hole), (1, .hole), (5, .hole), (6, .hole), (20, .hole)], []⟩ [.kl 51, .ks, .ki .i64, .ki .i64, .kb] (fun (x : (List IQuality) × (List UInt8) × Int × Int × Bool × Unit) => S_QualityOf_c20 k x.1 x.2.1 x.2.2.1 x.2.2.2.1 x.2.2.2.2.1) S_QualityOf_c20_L
def S_QualityOf_c20_cu (k : Nat) : Cuts D := ⟨[], []⟩
theorem S_QualityOf_c20_ok (k : Nat) : CutFor X S_QualityOf_pl k Go.Proofs.Tryd.f96.results.toList (S_QualityOf_c20_cut k) (sub (bodyOf Go.Proofs.Tryd.f96) [1, 1, 0, 1, 0, 0, 1, 0, 0, 1]) :=
  joinCut_s (X := X) (sg := [.kl 51, .ks, .ki .i64, .ki .i64, .kb]) (cu := S_QualityOf_c20_cu k) (cl := S_QualityOf_cl k) (tys := [[0]]) (S_QualityOf_ck k) (cutOK_of (l := []) (by kernel_rfl) trivial) fun x Q R h => by
    simp only [S_QualityOf_c20, optK_bind, optK_bif, optK_pure, optK_none, optK_oc, optK_guardT, optK_map] at h
    refine hold_of h ?_
    kernel_rfl
def S_QualityOf_b1_L (x : (List IQuality) × (List UInt8) × Int × Int × Unit) (o : Int) (Q : Ex → VSt D → Prop) (R : VR D → Prop) : Prop := Q .normal (mkSt ⟨[(0, .hole), (1, .hole), (5, .hole), (6, .hole)], []⟩ [.sl 51 x.1, .str x.2.1, .int .i64 o, .int .i64 x.2.2.2.1])
def S_QualityOf_b1_cut (k : Nat) : Cut D := cutS ⟨[(0, .hole), (1, .hole), (5, .hole), (6, .hole)], []⟩ [.kl 51, .ks, .ki .i64, .ki .i64] (fun (x : (List IQuality) × (List UInt8) × Int × Int × Unit) => S_QualityOf_b1 k x.1 x.2.1 x.2.2.1 x.2.2.2.1) S_QualityOf_b1_L
def S_QualityOf_b1_cu (k : Nat) : Cuts D := ⟨[], [(20, some (S_QualityOf_c20_cut k))]⟩
theorem S_QualityOf_b1_ok (k : Nat) : CutFor X S_QualityOf_pl k Go.Proofs.Tryd.f96.results.toList (S_QualityOf_b1_cut k) (sub (bodyOf Go.Proofs.Tryd.f96) [1, 1, 0, 1, 0, 0, 1, 0]) :=
  joinCut_s (X := X) (sg := [.kl 51, .ks, .ki .i64, .ki .i64]) (cu := S_QualityOf_b1_cu k) (cl := S_QualityOf_cl k) (tys := [[0]]) (S_QualityOf_ck k) (cutOK_of (l := [(S_QualityOf_c20_cut k, sub (bodyOf Go.Proofs.Tryd.f96) [1, 1, 0, 1, 0, 0, 1, 0, 0, 1])]) (by kernel_rfl) ⟨S_QualityOf_c20_ok k, trivial⟩) fun x Q R h => by
    simp only [S_QualityOf_b1, optK_bind, optK_bif, optK_pure, optK_none, optK_oc, optK_guardT, optK_map] at h
    refine hold_of h ?_
    kernel_rfl
def S_QualityOf_b0_L (x : (List IQuality) × (List UInt8) × Int × Int × Unit) (o : Int) (Q : Ex → VSt D → Prop) (R : VR D → Prop) : Prop := Q .normal (mkSt ⟨[(0, .hole), (1, .hole), (5, .hole)], []⟩ [.sl 51 x.1, .str x.2.1, .int .i64 o])
def S_QualityOf_b0_cut (k : Nat) : Cut D := cutS ⟨[(0, .hole), (1, .hole), (5, .hole), (6, .hole)], []⟩ [.kl 51, .ks, .ki .i64, .ki .i64] (fun (x : (List IQuality) × (List UInt8) × Int × Int × Unit) => S_QualityOf_b0 k k x.1 x.2.1 x.2.2.1 x.2.2.2.1) S_QualityOf_b0_L
def S_QualityOf_b0_cu (k : Nat) : Cuts D := ⟨[(1, some (S_QualityOf_b1_cut k))], []⟩
theorem S_QualityOf_b0_ok (k : Nat) : CutFor X S_QualityOf_pl k Go.Proofs.Tryd.f96.results.toList (S_QualityOf_b0_cut k) (sub (bodyOf Go.Proofs.Tryd.f96) [1, 1, 0, 1]) :=
  loopCut_s (X := X) (sg := [.kl 51, .ks, .ki .i64, .ki .i64]) (cu := S_QualityOf_b0_cu k) (cl := S_QualityOf_cl k) (tys := [[0]]) (id := 0) (c := sub (bodyOf Go.Proofs.Tryd.f96) [1, 1, 0, 1, 0, 0]) (f := fun n => fun (x : (List IQuality) × (List UInt8) × Int × Int × Unit) => S_QualityOf_b0 k n x.1 x.2.1 x.2.2.1 x.2.2.2.1) (S_QualityOf_ck k) (cutOK_of (l := [(S_QualityOf_b1_cut k, sub (bodyOf Go.Proofs.Tryd.f96) [1, 1, 0, 1, 0, 0, 1, 0])]) (by kernel_rfl) ⟨S_QualityOf_b1_ok k, trivial⟩) (fun _ => rfl) (fun n x Q R h => by
    simp only [S_QualityOf_b0, optK_bind, optK_bif, optK_pure, optK_none, optK_oc, optK_guardT, optK_map] at h
    refine hold_of h ?_
    kernel_rfl) (by kernel_rfl)
def S_QualityOf_b2_L (x : (List IQuality) × (List UInt8) × Int × Int × Unit) (o : Oc (Unit) (Int)) (Q : Ex → VSt D → Prop) (R : VR D → Prop) : Prop := ocP o (fun v0 => Q .normal (mkSt ⟨[(5, .hole)], []⟩ [.int .i64 x.2.2.1])) (fun w0 => R (.p (.c (.int .i64 w0))))
def S_QualityOf_b2_cut (k : Nat) : Cut D := cutS ⟨[(0, .hole), (1, .hole), (5, .hole), (7, .hole)], []⟩ [.kl 51, .ks, .ki .i64, .ki .i64] (fun (x : (List IQuality) × (List UInt8) × Int × Int × Unit) => S_QualityOf_b2 k k x.1 x.2.1 x.2.2.1 x.2.2.2.1) S_QualityOf_b2_L
def S_QualityOf_b2_cu (k : Nat) : Cuts D := ⟨[], []⟩
theorem S_QualityOf_b2_ok (k : Nat) : CutFor X S_QualityOf_pl k Go.Proofs.Tryd.f96.results.toList (S_QualityOf_b2_cut k) (sub (bodyOf Go.Proofs.Tryd.f96) [1, 1, 1, 0, 1]) :=
  loopCut_s (X := X) (sg := [.kl 51, .ks, .ki .i64, .ki .i64]) (cu := S_QualityOf_b2_cu k) (cl := S_QualityOf_cl k) (tys := [[0]]) (id := 2) (c := sub (bodyOf Go.Proofs.Tryd.f96) [1, 1, 1, 0, 1, 0, 0]) (f := fun n => fun (x : (List IQuality) × (List UInt8) × Int × Int × Unit) => S_QualityOf_b2 k n x.1 x.2.1 x.2.2.1 x.2.2.2.1) (S_QualityOf_ck k) (cutOK_of (l := []) (by kernel_rfl) trivial) (fun _ => rfl) (fun n x Q R h => by
    simp only [S_QualityOf_b2, optK_bind, optK_bif, optK_pure, optK_none, optK_oc, optK_guardT, optK_map] at h
    refine hold_of h ?_
    kernel_rfl) (by kernel_rfl)
def S_QualityOf_cu (k : Nat) : Cuts D := ⟨[(0, some (S_QualityOf_b0_cut k)), (2, some (S_QualityOf_b2_cut k))], []⟩
def S_QualityOf_ar : List Ar := [.c (.kl 51), .c (.ks)]
def S_QualityOf_f (k : Nat) (x : TupA D S_QualityOf_ar) : Option (Int) := S_QualityOf k x.1 x.2.1
def S_QualityOf_vr (r : Int) : VR D := .p (.c (.int .i64 r))
theorem S_QualityOf_ok (k : Nat) : Does P X 96 S_QualityOf_ar (S_QualityOf_f k) S_QualityOf_vr :=
  does_of (body := bodyOf Go.Proofs.Tryd.f96) (pl := S_QualityOf_pl) (k := k) (cu := S_QualityOf_cu k) (tys := [[0]]) (S_QualityOf_ck k) ctx mixed Go.Proofs.Tryd.func96 (by kernel_rfl) (by kernel_rfl) (cutOK_of (l := [(S_QualityOf_b0_cut k, sub (bodyOf Go.Proofs.Tryd.f96) [1, 1, 0, 1]), (S_QualityOf_b2_cut k, sub (bodyOf Go.Proofs.Tryd.f96) [1, 1, 1, 0, 1])]) (by kernel_rfl) ⟨S_QualityOf_b0_ok k, S_QualityOf_b2_ok k, trivial⟩) fun x R h => by
    simp only [S_QualityOf_f, S_QualityOf, optK_bind, optK_bif, optK_pure, optK_none, optK_oc, optK_guardT, optK_map] at h
    refine hold_of h ?_
    kernel_rfl
def S_QualityOf_en (k : Nat) : Entry D := entS S_QualityOf_ar (S_QualityOf_f k) S_QualityOf_vr
theorem S_QualityOf_eo (k : Nat) : EntryOK X 96 (S_QualityOf_en k) := (S_QualityOf_ok k).en rfl
def S_l1Word_pl : Plan := ⟨[(0, [(0, some 9), (1, none)]), (1, [(0, some 9), (1, none), (12, none)]), (2, [(4, none)]), (3, [(4, none)])],
  [],
  [(12, ([], [(0, some 9), (1, none)]))]⟩
def S_l1Word_cl (k : Nat) : Calls' D := ⟨[], []⟩
theorem S_l1Word_ck (k : Nat) : CallsOK X (S_l1Word_cl k) := .nil cod
def S_l1Word_cu (k : Nat) : Cuts D := ⟨[], []⟩
def S_l1Word_ar : List Ar := [.c (.kl 9), .c (.ki .i64)]
def S_l1Word_f (k : Nat) (x : TupA D S_l1Word_ar) : Option ((List UInt8)) := S_l1Word k x.1 x.2.1
def S_l1Word_vr (r : (List UInt8)) : VR D := .p (.c (.str r))
theorem S_l1Word_ok (k : Nat) : Does P X 97 S_l1Word_ar (S_l1Word_f k) S_l1Word_vr :=
  does_of (body := bodyOf Go.Proofs.Tryd.f97) (pl := S_l1Word_pl) (k := k) (cu := S_l1Word_cu k) (tys := [[0]]) (S_l1Word_ck k) ctx mixed Go.Proofs.Tryd.func97 (by kernel_rfl) (by kernel_rfl) (cutOK_of (l := []) (by kernel_rfl) trivial) fun x R h => by
    simp only [S_l1Word_f, S_l1Word, optK_bind, optK_bif, optK_pure, optK_none, optK_oc, optK_guardT, optK_map] at h
    refine hold_of h ?_
    kernel_rfl
def S_l1Word_en (k : Nat) : Entry D := entS S_l1Word_ar (S_l1Word_f k) S_l1Word_vr
theorem S_l1Word_eo (k : Nat) : EntryOK X 97 (S_l1Word_en k) := (S_l1Word_ok k).en rfl
def S_ChooseName_pl : Plan := ⟨[(0, [(0, some 9), (1, none)]), (1, [(0, some 9), (5, some 51)]), (2, [(0, some 9), (5, some 51), (6, none)]), (3, [(0, some 9), (5, some 51), (6, none), (7, none)]), (4, [(0, some 9), (5, some 51), (6, none), (7, none), (13, none)]), (5, [(0, some 9), (5, some 51), (6, none), (7, none)]), (6, [(0, some 9), (5, some 51), (6, none), (7, none), (28, none)]), (7, [(0, some 9), (5, some 51), (6, none), (7, none)]), (8, [(4, none)])],
  [(0, [(0, some 9), (6, none)]), (1, [(0, some 9), (5, some 51), (6, none), (7, none)])],
  [(13, ([(0, some 9), (5, some 51), (6, none), (7, none)], [(0, some 9), (6, none)])), (28, ([(0, some 9), (5, some 51), (7, none)], [(0, some 9), (5, some 51), (6, none), (7, none)]))]⟩
def S_ChooseName_cl (k : Nat) : Calls' D := ⟨[(43, S_ParseQualities_en k), (96, S_QualityOf_en k), (97, S_l1Word_en k)], []⟩
theorem S_ChooseName_ck (k : Nat) : CallsOK X (S_ChooseName_cl k) := .cons (S_ParseQualities_eo k) (.cons (S_QualityOf_eo k) (.cons (S_l1Word_eo k) (.nil cod)))
def S_ChooseName_c28_L (x : (List (List UInt8)) × Int × Int × Bool × (List IQuality) × Unit) (o : Int) (Q : Ex → VSt D → Prop) (R : VR D → Prop) : Prop := Q .normal (mkSt ⟨[(0, .hole), (5, .ref 500005), (6, .hole), (7, .hole)], [(500005, .row)]⟩ [.sl 9 x.1, .int .i64 o, .int .i64 x.2.2.1, .sl 51 x.2.2.2.2.1])
def S_ChooseName_c28_cut (k : Nat) : Cut D := cutS ⟨[(0, .hole), (5, .ref 500005), (6, .hole), (7, .hole), (28, .hole)], [(500005, .row)]⟩ [.kl 9, .ki .i64, .ki .i64, .kb, .kl 51] (fun (x : (List (List UInt8)) × Int × Int × Bool × (List IQuality) × Unit) => S_ChooseName_c28 k x.1 x.2.1 x.2.2.1 x.2.2.2.1 x.2.2.2.2.1) S_ChooseName_c28_L
def S_ChooseName_c28_cu (k : Nat) : Cuts D := ⟨[], []⟩
theorem S_ChooseName_c28_ok (k : Nat) : CutFor X S_ChooseName_pl k Go.Proofs.Tryd.f50.results.toList (S_ChooseName_c28_cut k) (sub (bodyOf Go.Proofs.Tryd.f50) [1, 1, 1, 0, 1, 0, 0, 1, 0, 0, 1]) :=
  joinCut_s (X := X) (sg := [.kl 9, .ki .i64, .ki .i64, .kb, .kl 51]) (cu := S_ChooseName_c28_cu k) (cl := S_ChooseName_cl k) (tys := [[0]]) (S_ChooseName_ck k) (cutOK_of (l := []) (by kernel_rfl) trivial) fun x Q R h => by
    simp only [S_ChooseName_c28, optK_bind, optK_bif, optK_pure, optK_none, optK_oc, optK_guardT, optK_map] at h
    refine hold_of h ?_
    kernel_rfl
def S_ChooseName_b1_L (x : (List (List UInt8)) × Int × Int × (List IQuality) × Unit) (o : Int) (Q : Ex → VSt D → Prop) (R : VR D → Prop) : Prop := Q .normal (mkSt ⟨[(0, .hole), (5, .ref 500005), (6, .hole), (7, .hole)], [(500005, .row)]⟩ [.sl 9 x.1, .int .i64 o, .int .i64 x.2.2.1, .sl 51 x.2.2.2.1])
def S_ChooseName_b1_cut (k : Nat) : Cut D := cutS ⟨[(0, .hole), (5, .ref 500005), (6, .hole), (7, .hole)], [(500005, .row)]⟩ [.kl 9, .ki .i64, .ki .i64, .kl 51] (fun (x : (List (List UInt8)) × Int × Int × (List IQuality) × Unit) => S_ChooseName_b1 k x.1 x.2.1 x.2.2.1 x.2.2.2.1) S_ChooseName_b1_L
def S_ChooseName_b1_cu (k : Nat) : Cuts D := ⟨[], [(28, some (S_ChooseName_c28_cut k))]⟩
theorem S_ChooseName_b1_ok (k : Nat) : CutFor X S_ChooseName_pl k Go.Proofs.Tryd.f50.results.toList (S_ChooseName_b1_cut k) (sub (bodyOf Go.Proofs.Tryd.f50) [1, 1, 1, 0, 1, 0, 0, 1, 0]) :=
  joinCut_s (X := X) (sg := [.kl 9, .ki .i64, .ki .i64, .kl 51]) (cu := S_ChooseName_b1_cu k) (cl := S_ChooseName_cl k) (tys := [[0]]) (S_ChooseName_ck k) (cutOK_of (l := [(S_ChooseName_c28_cut k, sub (bodyOf Go.Proofs.Tryd.f50) [1, 1, 1, 0, 1, 0, 0, 1, 0, 0, 1])]) (by kernel_rfl) ⟨S_ChooseName_c28_ok k, trivial⟩) fun x Q R h => by
    simp only [S_ChooseName_b1, optK_bind, optK_bif, optK_pure, optK_none, optK_oc, optK_guardT, optK_map] at h
    refine hold_of h ?_
    kernel_rfl
def S_ChooseName_b0_L (x : (List (List UInt8)) × Int × Int × (List IQuality) × Unit) (o : Int) (Q : Ex → VSt D → Prop) (R : VR D → Prop) : Prop := Q .normal (mkSt ⟨[(0, .hole), (6, .hole)], []⟩ [.sl 9 x.1, .int .i64 o])
def S_ChooseName_b0_cut (k : Nat) : Cut D := cutS ⟨[(0, .hole), (5, .ref 500005), (6, .hole), (7, .hole)], [(500005, .row)]⟩ [.kl 9, .ki .i64, .ki .i64, .kl 51] (fun (x : (List (List UInt8)) × Int × Int × (List IQuality) × Unit) => S_ChooseName_b0 k k x.1 x.2.1 x.2.2.1 x.2.2.2.1) S_ChooseName_b0_L
def S_ChooseName_b0_cu (k : Nat) : Cuts D := ⟨[(1, some (S_ChooseName_b1_cut k))], []⟩
theorem S_ChooseName_b0_ok (k : Nat) : CutFor X S_ChooseName_pl k Go.Proofs.Tryd.f50.results.toList (S_ChooseName_b0_cut k) (sub (bodyOf Go.Proofs.Tryd.f50) [1, 1, 1, 0, 1]) :=
  loopCut_s (X := X) (sg := [.kl 9, .ki .i64, .ki .i64, .kl 51]) (cu := S_ChooseName_b0_cu k) (cl := S_ChooseName_cl k) (tys := [[0]]) (id := 0) (c := sub (bodyOf Go.Proofs.Tryd.f50) [1, 1, 1, 0, 1, 0, 0]) (f := fun n => fun (x : (List (List UInt8)) × Int × Int × (List IQuality) × Unit) => S_ChooseName_b0 k n x.1 x.2.1 x.2.2.1 x.2.2.2.1) (S_ChooseName_ck k) (cutOK_of (l := [(S_ChooseName_b1_cut k, sub (bodyOf Go.Proofs.Tryd.f50) [1, 1, 1, 0, 1, 0, 0, 1, 0])]) (by kernel_rfl) ⟨S_ChooseName_b1_ok k, trivial⟩) (fun _ => rfl) (fun n x Q R h => by
    simp only [S_ChooseName_b0, optK_bind, optK_bif, optK_pure, optK_none, optK_oc, optK_guardT, optK_map] at h
    refine hold_of h ?_
    kernel_rfl) (by kernel_rfl)
def S_ChooseName_cu (k : Nat) : Cuts D := ⟨[(0, some (S_ChooseName_b0_cut k))], []⟩
def S_ChooseName_ar : List Ar := [.c (.kl 9), .c (.ks)]
def S_ChooseName_f (k : Nat) (x : TupA D S_ChooseName_ar) : Option ((List UInt8)) := S_ChooseName k x.1 x.2.1
def S_ChooseName_vr (r : (List UInt8)) : VR D := .p (.c (.str r))
theorem S_ChooseName_ok (k : Nat) : Does P X 50 S_ChooseName_ar (S_ChooseName_f k) S_ChooseName_vr :=
  does_of (body := bodyOf Go.Proofs.Tryd.f50) (pl := S_ChooseName_pl) (k := k) (cu := S_ChooseName_cu k) (tys := [[0]]) (S_ChooseName_ck k) ctx mixed Go.Proofs.Tryd.func50 (by kernel_rfl) (by kernel_rfl) (cutOK_of (l := [(S_ChooseName_b0_cut k, sub (bodyOf Go.Proofs.Tryd.f50) [1, 1, 1, 0, 1])]) (by kernel_rfl) ⟨S_ChooseName_b0_ok k, trivial⟩) fun x R h => by
    simp only [S_ChooseName_f, S_ChooseName, optK_bind, optK_bif, optK_pure, optK_none, optK_oc, optK_guardT, optK_map] at h
    refine hold_of h ?_
    kernel_rfl
def S_ChooseName_en (k : Nat) : Entry D := entS S_ChooseName_ar (S_ChooseName_f k) S_ChooseName_vr
theorem S_ChooseName_eo (k : Nat) : EntryOK X 50 (S_ChooseName_en k) := (S_ChooseName_ok k).en rfl
def strings_Trim_ar : List Ar := [.c (.ks), .c (.ks)]
def strings_Trim_f (k : Nat) (x : TupA D strings_Trim_ar) : Option ((List UInt8)) := strings_Trim k x.1 x.2.1
def strings_Trim_vr (r : (List UInt8)) : VR D := .p (.c (.str r))
theorem strings_Trim_ok (k : Nat) : Does P X 114 strings_Trim_ar (strings_Trim_f k) strings_Trim_vr := does_trim ⟨Go.Proofs.Tryd.f114, Go.Proofs.Tryd.func114, by kernel_rfl, by kernel_rfl⟩ (fun s cs w hg h1 h2 h3 => Go.Proofs.Any.strings_Trim_laid Go.Proofs.Tryd.lays160 (by kernel_rfl) s cs w h1 h2 h3)
def strings_Trim_en (k : Nat) : Entry D := entS strings_Trim_ar (strings_Trim_f k) strings_Trim_vr
theorem strings_Trim_eo (k : Nat) : EntryOK X 114 (strings_Trim_en k) := (strings_Trim_ok k).en rfl
def I_TrimText_pl : Plan := ⟨[(0, [(0, none)]), (1, [(2, none)])],
  [],
  []⟩
def I_TrimText_cl (k : Nat) : Calls' D := ⟨[(114, strings_Trim_en k)], []⟩
theorem I_TrimText_ck (k : Nat) : CallsOK X (I_TrimText_cl k) := .cons (strings_Trim_eo k) (.nil cod)
def I_TrimText_cu (k : Nat) : Cuts D := ⟨[], []⟩
def I_TrimText_ar : List Ar := [.c (.ks)]
def I_TrimText_f (k : Nat) (x : TupA D I_TrimText_ar) : Option ((List UInt8)) := I_TrimText k x.1
def I_TrimText_vr (r : (List UInt8)) : VR D := .p (.c (.str r))
theorem I_TrimText_ok (k : Nat) : Does P X 76 I_TrimText_ar (I_TrimText_f k) I_TrimText_vr :=
  does_of (body := bodyOf Go.Proofs.Tryd.f76) (pl := I_TrimText_pl) (k := k) (cu := I_TrimText_cu k) (tys := [[0]]) (I_TrimText_ck k) ctx mixed Go.Proofs.Tryd.func76 (by kernel_rfl) (by kernel_rfl) (cutOK_of (l := []) (by kernel_rfl) trivial) fun x R h => by
    simp only [I_TrimText_f, I_TrimText, optK_bind, optK_bif, optK_pure, optK_none, optK_oc, optK_guardT, optK_map] at h
    refine hold_of h ?_
    kernel_rfl
def I_TrimText_en (k : Nat) : Entry D := entS I_TrimText_ar (I_TrimText_f k) I_TrimText_vr
theorem I_TrimText_eo (k : Nat) : EntryOK X 76 (I_TrimText_en k) := (I_TrimText_ok k).en rfl
def I_SplitList_pl : Plan := ⟨[(0, [(0, none)]), (1, [(0, none), (3, some 9)]), (2, [(0, none), (3, some 9), (4, none)]), (3, [(0, none), (3, some 9), (4, none), (5, none)]), (4, [(0, none), (3, some 9), (4, none), (5, none), (6, none)]), (5, [(0, none), (3, some 9), (4, none), (5, none), (6, none), (13, none)]), (6, [(0, none), (3, some 9), (4, none), (5, none), (6, none)]), (7, [(0, none), (3, some 9), (4, none), (5, none), (6, none), (28, none)]), (8, [(0, none), (3, some 9), (4, none), (5, none), (6, none), (32, none)]), (9, [(0, none), (3, some 9), (4, none), (5, none), (6, none)]), (10, [(0, none), (3, some 9), (4, none), (5, none), (6, none), (41, none)]), (11, [(0, none), (3, some 9), (4, none), (5, none), (6, none)]), (12, [(0, none), (3, some 9), (5, none), (6, none), (7, none)]), (13, [(0, none), (3, some 9), (5, none), (6, none), (7, none), (53, none)]), (14, [(0, none), (3, some 9), (5, none), (6, none)]), (15, [(0, none), (3, some 9), (4, none), (5, none), (6, none)]), (16, [(0, none), (3, some 9), (4, none), (63, none)]), (17, [(3, some 9), (8, none)]), (18, [(3, some 9), (8, none), (69, none)]), (19, [(3, some 9)]), (20, [(2, some 9)])],
  [(0, [(0, none), (3, some 9), (4, none)]), (1, [(0, none), (3, some 9), (4, none), (5, none), (6, none)])],
  [(13, ([(0, none), (3, some 9), (4, none), (5, none), (6, none)], [(0, none), (3, some 9), (4, none)])), (28, ([(0, none), (3, some 9), (4, none), (5, none), (6, none)], [(0, none), (3, some 9), (4, none), (5, none), (6, none)])), (32, ([(0, none), (3, some 9), (4, none), (5, none), (6, none)], [(0, none), (3, some 9), (4, none), (5, none), (6, none)])), (41, ([(0, none), (3, some 9), (4, none), (5, none), (6, none)], [(0, none), (3, some 9), (4, none), (5, none), (6, none)])), (53, ([(0, none), (3, some 9), (5, none), (6, none), (7, none)], [(0, none), (3, some 9), (5, none), (6, none)])), (63, ([(0, none), (3, some 9), (4, none)], [(3, some 9)])), (69, ([(3, some 9), (8, none)], [(3, some 9)]))]⟩
def I_SplitList_cl (k : Nat) : Calls' D := ⟨[(76, I_TrimText_en k)], []⟩
theorem I_SplitList_ck (k : Nat) : CallsOK X (I_SplitList_cl k) := .cons (I_TrimText_eo k) (.nil cod)
def I_SplitList_c32_L (x : (List UInt8) × Int × Bool × Int × Bool × (List (List UInt8)) × Unit) (o : Bool) (Q : Ex → VSt D → Prop) (R : VR D → Prop) : Prop := Q .normal (mkSt ⟨[(0, .hole), (3, .ref 500003), (4, .hole), (5, .hole), (6, .hole)], [(500003, .row)]⟩ [.str x.1, .int .i64 x.2.1, .bool o, .int .i64 x.2.2.2.1, .sl 9 x.2.2.2.2.2.1])
def I_SplitList_c32_cut (k : Nat) : Cut D := cutS ⟨[(0, .hole), (3, .ref 500003), (4, .hole), (5, .hole), (6, .hole), (32, .hole)], [(500003, .row)]⟩ [.ks, .ki .i64, .kb, .ki .i64, .kb, .kl 9] (fun (x : (List UInt8) × Int × Bool × Int × Bool × (List (List UInt8)) × Unit) => I_SplitList_c32 k x.1 x.2.1 x.2.2.1 x.2.2.2.1 x.2.2.2.2.1 x.2.2.2.2.2.1) I_SplitList_c32_L
def I_SplitList_c32_cu (k : Nat) : Cuts D := ⟨[], []⟩
theorem I_SplitList_c32_ok (k : Nat) : CutFor X I_SplitList_pl k Go.Proofs.Tryd.f73.results.toList (I_SplitList_c32_cut k) (sub (bodyOf Go.Proofs.Tryd.f73) [1, 1, 1, 1, 0, 1, 0, 0, 1, 0, 0, 0, 1, 0, 0, 1]) :=
  joinCut_s (X := X) (sg := [.ks, .ki .i64, .kb, .ki .i64, .kb, .kl 9]) (cu := I_SplitList_c32_cu k) (cl := I_SplitList_cl k) (tys := [[9]]) (I_SplitList_ck k) (cutOK_of (l := []) (by kernel_rfl) trivial) fun x Q R h => by
    simp only [I_SplitList_c32, optK_bind, optK_bif, optK_pure, optK_none, optK_oc, optK_guardT, optK_map] at h
    refine hold_of h ?_
    kernel_rfl
def I_SplitList_c41_L (x : (List UInt8) × Int × Bool × Int × Bool × (List (List UInt8)) × Unit) (o : Int) (Q : Ex → VSt D → Prop) (R : VR D → Prop) : Prop := Q .normal (mkSt ⟨[(0, .hole), (3, .ref 500003), (4, .hole), (5, .hole), (6, .hole)], [(500003, .row)]⟩ [.str x.1, .int .i64 x.2.1, .bool x.2.2.1, .int .i64 o, .sl 9 x.2.2.2.2.2.1])
def I_SplitList_c41_cut (k : Nat) : Cut D := cutS ⟨[(0, .hole), (3, .ref 500003), (4, .hole), (5, .hole), (6, .hole), (41, .hole)], [(500003, .row)]⟩ [.ks, .ki .i64, .kb, .ki .i64, .kb, .kl 9] (fun (x : (List UInt8) × Int × Bool × Int × Bool × (List (List UInt8)) × Unit) => I_SplitList_c41 k x.1 x.2.1 x.2.2.1 x.2.2.2.1 x.2.2.2.2.1 x.2.2.2.2.2.1) I_SplitList_c41_L
def I_SplitList_c41_cu (k : Nat) : Cuts D := ⟨[], []⟩
theorem I_SplitList_c41_ok (k : Nat) : CutFor X I_SplitList_pl k Go.Proofs.Tryd.f73.results.toList (I_SplitList_c41_cut k) (sub (bodyOf Go.Proofs.Tryd.f73) [1, 1, 1, 1, 0, 1, 0, 0, 1, 0, 0, 0, 1, 0, 1, 0, 1]) :=
  joinCut_s (X := X) (sg := [.ks, .ki .i64, .kb, .ki .i64, .kb, .kl 9]) (cu := I_SplitList_c41_cu k) (cl := I_SplitList_cl k) (tys := [[9]]) (I_SplitList_ck k) (cutOK_of (l := []) (by kernel_rfl) trivial) fun x Q R h => by
    simp only [I_SplitList_c41, optK_bind, optK_bif, optK_pure, optK_none, optK_oc, optK_guardT, optK_map] at h
    refine hold_of h ?_
    kernel_rfl
def I_SplitList_c53_L (x : (List UInt8) × Bool × Int × (List UInt8) × Bool × (List (List UInt8)) × Unit) (o : (List (List UInt8))) (Q : Ex → VSt D → Prop) (R : VR D → Prop) : Prop := Q .normal (mkSt ⟨[(0, .hole), (3, .ref 500003), (5, .hole), (6, .hole)], [(500003, .row)]⟩ [.str x.1, .bool x.2.1, .int .i64 x.2.2.1, .sl 9 o])
def I_SplitList_c53_cut (k : Nat) : Cut D := cutS ⟨[(0, .hole), (3, .ref 500003), (5, .hole), (6, .hole), (7, .hole), (53, .hole)], [(500003, .row)]⟩ [.ks, .kb, .ki .i64, .ks, .kb, .kl 9] (fun (x : (List UInt8) × Bool × Int × (List UInt8) × Bool × (List (List UInt8)) × Unit) => I_SplitList_c53 k x.1 x.2.1 x.2.2.1 x.2.2.2.1 x.2.2.2.2.1 x.2.2.2.2.2.1) I_SplitList_c53_L
def I_SplitList_c53_cu (k : Nat) : Cuts D := ⟨[], []⟩
theorem I_SplitList_c53_ok (k : Nat) : CutFor X I_SplitList_pl k Go.Proofs.Tryd.f73.results.toList (I_SplitList_c53_cut k) (sub (bodyOf Go.Proofs.Tryd.f73) [1, 1, 1, 1, 0, 1, 0, 0, 1, 0, 0, 1, 0, 1, 1]) :=
  joinCut_s (X := X) (sg := [.ks, .kb, .ki .i64, .ks, .kb, .kl 9]) (cu := I_SplitList_c53_cu k) (cl := I_SplitList_cl k) (tys := [[9]]) (I_SplitList_ck k) (cutOK_of (l := []) (by kernel_rfl) trivial) fun x Q R h => by
    simp only [I_SplitList_c53, optK_bind, optK_bif, optK_pure, optK_none, optK_oc, optK_guardT, optK_map] at h
    refine hold_of h ?_
    kernel_rfl
def I_SplitList_b1_L (x : (List UInt8) × Int × Bool × Int × (List (List UInt8)) × Unit) (o : Int × Bool × Int × (List (List UInt8))) (Q : Ex → VSt D → Prop) (R : VR D → Prop) : Prop := Q .normal (mkSt ⟨[(0, .hole), (3, .ref 500003), (4, .hole), (5, .hole), (6, .hole)], [(500003, .row)]⟩ [.str x.1, .int .i64 o.1, .bool o.2.1, .int .i64 o.2.2.1, .sl 9 o.2.2.2])
def I_SplitList_b1_cut (k : Nat) : Cut D := cutS ⟨[(0, .hole), (3, .ref 500003), (4, .hole), (5, .hole), (6, .hole)], [(500003, .row)]⟩ [.ks, .ki .i64, .kb, .ki .i64, .kl 9] (fun (x : (List UInt8) × Int × Bool × Int × (List (List UInt8)) × Unit) => I_SplitList_b1 k x.1 x.2.1 x.2.2.1 x.2.2.2.1 x.2.2.2.2.1) I_SplitList_b1_L
def I_SplitList_b1_cu (k : Nat) : Cuts D := ⟨[], [(32, some (I_SplitList_c32_cut k)), (41, some (I_SplitList_c41_cut k)), (53, some (I_SplitList_c53_cut k))]⟩
theorem I_SplitList_b1_ok (k : Nat) : CutFor X I_SplitList_pl k Go.Proofs.Tryd.f73.results.toList (I_SplitList_b1_cut k) (sub (bodyOf Go.Proofs.Tryd.f73) [1, 1, 1, 1, 0, 1, 0, 0, 1, 0]) :=
  joinCut_s (X := X) (sg := [.ks, .ki .i64, .kb, .ki .i64, .kl 9]) (cu := I_SplitList_b1_cu k) (cl := I_SplitList_cl k) (tys := [[9]]) (I_SplitList_ck k) (cutOK_of (l := [(I_SplitList_c32_cut k, sub (bodyOf Go.Proofs.Tryd.f73) [1, 1, 1, 1, 0, 1, 0, 0, 1, 0, 0, 0, 1, 0, 0, 1]), (I_SplitList_c41_cut k, sub (bodyOf Go.Proofs.Tryd.f73) [1, 1, 1, 1, 0, 1, 0, 0, 1, 0, 0, 0, 1, 0, 1, 0, 1]), (I_SplitList_c53_cut k, sub (bodyOf Go.Proofs.Tryd.f73) [1, 1, 1, 1, 0, 1, 0, 0, 1, 0, 0, 1, 0, 1, 1])]) (by kernel_rfl) ⟨I_SplitList_c32_ok k, I_SplitList_c41_ok k, I_SplitList_c53_ok k, trivial⟩) fun x Q R h => by
    simp only [I_SplitList_b1, optK_bind, optK_bif, optK_pure, optK_none, optK_oc, optK_guardT, optK_map] at h
    refine hold_of h ?_
    kernel_rfl
def I_SplitList_b0_L (x : (List UInt8) × Int × Bool × Int × (List (List UInt8)) × Unit) (o : Int × (List (List UInt8))) (Q : Ex → VSt D → Prop) (R : VR D → Prop) : Prop := Q .normal (mkSt ⟨[(0, .hole), (3, .ref 500003), (4, .hole)], [(500003, .row)]⟩ [.str x.1, .int .i64 o.1, .sl 9 o.2])
def I_SplitList_b0_cut (k : Nat) : Cut D := cutS ⟨[(0, .hole), (3, .ref 500003), (4, .hole), (5, .hole), (6, .hole)], [(500003, .row)]⟩ [.ks, .ki .i64, .kb, .ki .i64, .kl 9] (fun (x : (List UInt8) × Int × Bool × Int × (List (List UInt8)) × Unit) => I_SplitList_b0 k k x.1 x.2.1 x.2.2.1 x.2.2.2.1 x.2.2.2.2.1) I_SplitList_b0_L
def I_SplitList_b0_cu (k : Nat) : Cuts D := ⟨[(1, some (I_SplitList_b1_cut k))], []⟩
theorem I_SplitList_b0_ok (k : Nat) : CutFor X I_SplitList_pl k Go.Proofs.Tryd.f73.results.toList (I_SplitList_b0_cut k) (sub (bodyOf Go.Proofs.Tryd.f73) [1, 1, 1, 1, 0, 1]) :=
  loopCut_s (X := X) (sg := [.ks, .ki .i64, .kb, .ki .i64, .kl 9]) (cu := I_SplitList_b0_cu k) (cl := I_SplitList_cl k) (tys := [[9]]) (id := 0) (c := sub (bodyOf Go.Proofs.Tryd.f73) [1, 1, 1, 1, 0, 1, 0, 0]) (f := fun n => fun (x : (List UInt8) × Int × Bool × Int × (List (List UInt8)) × Unit) => I_SplitList_b0 k n x.1 x.2.1 x.2.2.1 x.2.2.2.1 x.2.2.2.2.1) (I_SplitList_ck k) (cutOK_of (l := [(I_SplitList_b1_cut k, sub (bodyOf Go.Proofs.Tryd.f73) [1, 1, 1, 1, 0, 1, 0, 0, 1, 0])]) (by kernel_rfl) ⟨I_SplitList_b1_ok k, trivial⟩) (fun _ => rfl) (fun n x Q R h => by
    simp only [I_SplitList_b0, optK_bind, optK_bif, optK_pure, optK_none, optK_oc, optK_guardT, optK_map] at h
    refine hold_of h ?_
    kernel_rfl) (by kernel_rfl)
def I_SplitList_c69_L (x : (List UInt8) × Bool × (List (List UInt8)) × Unit) (o : (List (List UInt8))) (Q : Ex → VSt D → Prop) (R : VR D → Prop) : Prop := Q .normal (mkSt ⟨[(3, .ref 500003)], [(500003, .row)]⟩ [.sl 9 o])
def I_SplitList_c69_cut (k : Nat) : Cut D := cutS ⟨[(3, .ref 500003), (8, .hole), (69, .hole)], [(500003, .row)]⟩ [.ks, .kb, .kl 9] (fun (x : (List UInt8) × Bool × (List (List UInt8)) × Unit) => I_SplitList_c69 k x.1 x.2.1 x.2.2.1) I_SplitList_c69_L
def I_SplitList_c69_cu (k : Nat) : Cuts D := ⟨[], []⟩
theorem I_SplitList_c69_ok (k : Nat) : CutFor X I_SplitList_pl k Go.Proofs.Tryd.f73.results.toList (I_SplitList_c69_cut k) (sub (bodyOf Go.Proofs.Tryd.f73) [1, 1, 1, 1, 1, 0, 1, 0, 1, 1]) :=
  joinCut_s (X := X) (sg := [.ks, .kb, .kl 9]) (cu := I_SplitList_c69_cu k) (cl := I_SplitList_cl k) (tys := [[9]]) (I_SplitList_ck k) (cutOK_of (l := []) (by kernel_rfl) trivial) fun x Q R h => by
    simp only [I_SplitList_c69, optK_bind, optK_bif, optK_pure, optK_none, optK_oc, optK_guardT, optK_map] at h
    refine hold_of h ?_
    kernel_rfl
def I_SplitList_c63_L (x : (List UInt8) × Int × Bool × (List (List UInt8)) × Unit) (o : (List (List UInt8))) (Q : Ex → VSt D → Prop) (R : VR D → Prop) : Prop := Q .normal (mkSt ⟨[(3, .ref 500003)], [(500003, .row)]⟩ [.sl 9 o])
def I_SplitList_c63_cut (k : Nat) : Cut D := cutS ⟨[(0, .hole), (3, .ref 500003), (4, .hole), (63, .hole)], [(500003, .row)]⟩ [.ks, .ki .i64, .kb, .kl 9] (fun (x : (List UInt8) × Int × Bool × (List (List UInt8)) × Unit) => I_SplitList_c63 k x.1 x.2.1 x.2.2.1 x.2.2.2.1) I_SplitList_c63_L
def I_SplitList_c63_cu (k : Nat) : Cuts D := ⟨[], [(69, some (I_SplitList_c69_cut k))]⟩
theorem I_SplitList_c63_ok (k : Nat) : CutFor X I_SplitList_pl k Go.Proofs.Tryd.f73.results.toList (I_SplitList_c63_cut k) (sub (bodyOf Go.Proofs.Tryd.f73) [1, 1, 1, 1, 1, 0, 1]) :=
  joinCut_s (X := X) (sg := [.ks, .ki .i64, .kb, .kl 9]) (cu := I_SplitList_c63_cu k) (cl := I_SplitList_cl k) (tys := [[9]]) (I_SplitList_ck k) (cutOK_of (l := [(I_SplitList_c69_cut k, sub (bodyOf Go.Proofs.Tryd.f73) [1, 1, 1, 1, 1, 0, 1, 0, 1, 1])]) (by kernel_rfl) ⟨I_SplitList_c69_ok k, trivial⟩) fun x Q R h => by
    simp only [I_SplitList_c63, optK_bind, optK_bif, optK_pure, optK_none, optK_oc, optK_guardT, optK_map] at h
    refine hold_of h ?_
    kernel_rfl
def I_SplitList_cu (k : Nat) : Cuts D := ⟨[(0, some (I_SplitList_b0_cut k))], [(63, some (I_SplitList_c63_cut k))]⟩
def I_SplitList_ar : List Ar := [.c (.ks)]
def I_SplitList_f (k : Nat) (x : TupA D I_SplitList_ar) : Option ((List (List UInt8))) := I_SplitList k x.1
def I_SplitList_vr (r : (List (List UInt8))) : VR D := .p (.c (.sl 9 r))
theorem I_SplitList_ok (k : Nat) : Does P X 73 I_SplitList_ar (I_SplitList_f k) I_SplitList_vr :=
  does_of (body := bodyOf Go.Proofs.Tryd.f73) (pl := I_SplitList_pl) (k := k) (cu := I_SplitList_cu k) (tys := [[9]]) (I_SplitList_ck k) ctx mixed Go.Proofs.Tryd.func73 (by kernel_rfl) (by kernel_rfl) (cutOK_of (l := [(I_SplitList_b0_cut k, sub (bodyOf Go.Proofs.Tryd.f73) [1, 1, 1, 1, 0, 1]), (I_SplitList_c63_cut k, sub (bodyOf Go.Proofs.Tryd.f73) [1, 1, 1, 1, 1, 0, 1])]) (by kernel_rfl) ⟨I_SplitList_b0_ok k, I_SplitList_c63_ok k, trivial⟩) fun x R h => by
    simp only [I_SplitList_f, I_SplitList, optK_bind, optK_bif, optK_pure, optK_none, optK_oc, optK_guardT, optK_map] at h
    refine hold_of h ?_
    kernel_rfl
def I_SplitList_en (k : Nat) : Entry D := entS I_SplitList_ar (I_SplitList_f k) I_SplitList_vr
theorem I_SplitList_eo (k : Nat) : EntryOK X 73 (I_SplitList_en k) := (I_SplitList_ok k).en rfl
def strings_Split_ar : List Ar := [.c (.ks), .c (.ks)]
def strings_Split_f (k : Nat) (x : TupA D strings_Split_ar) : Option ((List (List UInt8))) := strings_Split k x.1 x.2.1
def strings_Split_vr (r : (List (List UInt8))) : VR D := .p (.c (.sl 9 r))
theorem strings_Split_ok (k : Nat) : Does P X 74 strings_Split_ar (strings_Split_f k) strings_Split_vr := does_split (P := P) (D := D) (X := X) (el := 9) ⟨Go.Proofs.Tryd.f74, Go.Proofs.Tryd.func74, by kernel_rfl, by kernel_rfl⟩ (fun (s : List UInt8) => s) (fun l s => splitO l s) (fun _ => rfl) (by kernel_rfl) (fun l s => (split_id l s).symm) (fun s sep w hg h1 h2 => let ⟨m, hm⟩ := hg; Go.Proofs.Tryd.strings_Split s sep m w h1 hm h2) (fun s sep h => Go.Lib.splitB_all sep h 0 _ s rfl)
def strings_Split_en (k : Nat) : Entry D := entS strings_Split_ar (strings_Split_f k) strings_Split_vr
theorem strings_Split_eo (k : Nat) : EntryOK X 74 (strings_Split_en k) := (strings_Split_ok k).en rfl
def I_LowerText_pl : Plan := ⟨[(0, [(0, none)]), (1, [(3, some 5)]), (2, [(3, some 5), (8, some 5), (9, none), (10, none)]), (3, [(3, some 5), (8, some 5), (9, none), (10, none), (11, none)]), (4, [(3, some 5), (4, none), (5, none), (8, some 5), (9, none), (10, none)]), (5, [(3, some 5), (4, none), (5, none), (8, some 5), (9, none), (10, none), (20, none)]), (6, [(3, some 5), (8, some 5), (9, none), (10, none)]), (7, [(3, some 5), (8, some 5), (9, none), (10, none)]), (8, [(2, none)])],
  [(0, [(3, some 5)]), (1, [(3, some 5), (8, some 5), (9, none), (10, none)])],
  [(11, ([(3, some 5), (8, some 5), (9, none), (10, none)], [(3, some 5)])), (20, ([(3, some 5), (4, none), (5, none), (8, some 5), (9, none), (10, none)], [(3, some 5), (8, some 5), (9, none), (10, none)]))]⟩
def I_LowerText_cl (k : Nat) : Calls' D := ⟨[], []⟩
theorem I_LowerText_ck (k : Nat) : CallsOK X (I_LowerText_cl k) := .nil cod
def I_LowerText_c20_L (x : Int × Int × Int × Int × Bool × (List Int) × Unit) (o : (List Int)) (Q : Ex → VSt D → Prop) (R : VR D → Prop) : Prop := Q .normal (mkSt ⟨[(3, .ref 500008), (8, .ref 500008), (9, .hole), (10, .hole)], [(500008, .row)]⟩ [.int .i64 x.2.2.1, .int .i64 x.2.2.2.1, .sl 5 o])
def I_LowerText_c20_cut (k : Nat) : Cut D := cutS ⟨[(3, .ref 500008), (4, .hole), (5, .hole), (8, .ref 500008), (9, .hole), (10, .hole), (20, .hole)], [(500008, .row)]⟩ [.ki .i64, .ki .u8, .ki .i64, .ki .i64, .kb, .kl 5] (fun (x : Int × Int × Int × Int × Bool × (List Int) × Unit) => I_LowerText_c20 k x.1 x.2.1 x.2.2.1 x.2.2.2.1 x.2.2.2.2.1 x.2.2.2.2.2.1) I_LowerText_c20_L
def I_LowerText_c20_cu (k : Nat) : Cuts D := ⟨[], []⟩
theorem I_LowerText_c20_ok (k : Nat) : CutFor X I_LowerText_pl k Go.Proofs.Tryd.f75.results.toList (I_LowerText_c20_cut k) (sub (bodyOf Go.Proofs.Tryd.f75) [1, 1, 0, 1, 0, 0, 1, 1, 0, 0, 1, 1]) :=
  joinCut_s (X := X) (sg := [.ki .i64, .ki .u8, .ki .i64, .ki .i64, .kb, .kl 5]) (cu := I_LowerText_c20_cu k) (cl := I_LowerText_cl k) (tys := [[0]]) (I_LowerText_ck k) (cutOK_of (l := []) (by kernel_rfl) trivial) fun x Q R h => by
    simp only [I_LowerText_c20, optK_bind, optK_bif, optK_pure, optK_none, optK_oc, optK_guardT, optK_map] at h
    refine hold_of h ?_
    kernel_rfl
def I_LowerText_b1_L (x : Int × Int × (List Int) × Unit) (o : (List Int)) (Q : Ex → VSt D → Prop) (R : VR D → Prop) : Prop := Q .normal (mkSt ⟨[(3, .ref 500008), (8, .ref 500008), (9, .hole), (10, .hole)], [(500008, .row)]⟩ [.int .i64 x.1, .int .i64 x.2.1, .sl 5 o])
def I_LowerText_b1_cut (k : Nat) : Cut D := cutS ⟨[(3, .ref 500008), (8, .ref 500008), (9, .hole), (10, .hole)], [(500008, .row)]⟩ [.ki .i64, .ki .i64, .kl 5] (fun (x : Int × Int × (List Int) × Unit) => I_LowerText_b1 k x.1 x.2.1 x.2.2.1) I_LowerText_b1_L
def I_LowerText_b1_cu (k : Nat) : Cuts D := ⟨[], [(20, some (I_LowerText_c20_cut k))]⟩
theorem I_LowerText_b1_ok (k : Nat) : CutFor X I_LowerText_pl k Go.Proofs.Tryd.f75.results.toList (I_LowerText_b1_cut k) (sub (bodyOf Go.Proofs.Tryd.f75) [1, 1, 0, 1, 0, 0, 1, 1, 0]) :=
  joinCut_s (X := X) (sg := [.ki .i64, .ki .i64, .kl 5]) (cu := I_LowerText_b1_cu k) (cl := I_LowerText_cl k) (tys := [[0]]) (I_LowerText_ck k) (cutOK_of (l := [(I_LowerText_c20_cut k, sub (bodyOf Go.Proofs.Tryd.f75) [1, 1, 0, 1, 0, 0, 1, 1, 0, 0, 1, 1])]) (by kernel_rfl) ⟨I_LowerText_c20_ok k, trivial⟩) fun x Q R h => by
    simp only [I_LowerText_b1, optK_bind, optK_bif, optK_pure, optK_none, optK_oc, optK_guardT, optK_map] at h
    refine hold_of h ?_
    kernel_rfl
def I_LowerText_b0_L (x : Int × Int × (List Int) × Unit) (o : (List Int)) (Q : Ex → VSt D → Prop) (R : VR D → Prop) : Prop := Q .normal (mkSt ⟨[(3, .ref 500003)], [(500003, .row)]⟩ [.sl 5 o])
def I_LowerText_b0_cut (k : Nat) : Cut D := cutS ⟨[(3, .ref 500008), (8, .ref 500008), (9, .hole), (10, .hole)], [(500008, .row)]⟩ [.ki .i64, .ki .i64, .kl 5] (fun (x : Int × Int × (List Int) × Unit) => I_LowerText_b0 k k x.1 x.2.1 x.2.2.1) I_LowerText_b0_L
def I_LowerText_b0_cu (k : Nat) : Cuts D := ⟨[(1, some (I_LowerText_b1_cut k))], []⟩
theorem I_LowerText_b0_ok (k : Nat) : CutFor X I_LowerText_pl k Go.Proofs.Tryd.f75.results.toList (I_LowerText_b0_cut k) (sub (bodyOf Go.Proofs.Tryd.f75) [1, 1, 0, 1]) :=
  loopCut_s (X := X) (sg := [.ki .i64, .ki .i64, .kl 5]) (cu := I_LowerText_b0_cu k) (cl := I_LowerText_cl k) (tys := [[0]]) (id := 0) (c := sub (bodyOf Go.Proofs.Tryd.f75) [1, 1, 0, 1, 0, 0]) (f := fun n => fun (x : Int × Int × (List Int) × Unit) => I_LowerText_b0 k n x.1 x.2.1 x.2.2.1) (I_LowerText_ck k) (cutOK_of (l := [(I_LowerText_b1_cut k, sub (bodyOf Go.Proofs.Tryd.f75) [1, 1, 0, 1, 0, 0, 1, 1, 0])]) (by kernel_rfl) ⟨I_LowerText_b1_ok k, trivial⟩) (fun _ => rfl) (fun n x Q R h => by
    simp only [I_LowerText_b0, optK_bind, optK_bif, optK_pure, optK_none, optK_oc, optK_guardT, optK_map] at h
    refine hold_of h ?_
    kernel_rfl) (by kernel_rfl)
def I_LowerText_cu (k : Nat) : Cuts D := ⟨[(0, some (I_LowerText_b0_cut k))], []⟩
def I_LowerText_ar : List Ar := [.c (.ks)]
def I_LowerText_f (k : Nat) (x : TupA D I_LowerText_ar) : Option ((List UInt8)) := I_LowerText k x.1
def I_LowerText_vr (r : (List UInt8)) : VR D := .p (.c (.str r))
theorem I_LowerText_ok (k : Nat) : Does P X 75 I_LowerText_ar (I_LowerText_f k) I_LowerText_vr :=
  does_of (body := bodyOf Go.Proofs.Tryd.f75) (pl := I_LowerText_pl) (k := k) (cu := I_LowerText_cu k) (tys := [[0]]) (I_LowerText_ck k) ctx mixed Go.Proofs.Tryd.func75 (by kernel_rfl) (by kernel_rfl) (cutOK_of (l := [(I_LowerText_b0_cut k, sub (bodyOf Go.Proofs.Tryd.f75) [1, 1, 0, 1])]) (by kernel_rfl) ⟨I_LowerText_b0_ok k, trivial⟩) fun x R h => by
    simp only [I_LowerText_f, I_LowerText, optK_bind, optK_bif, optK_pure, optK_none, optK_oc, optK_guardT, optK_map] at h
    refine hold_of h ?_
    kernel_rfl
def I_LowerText_en (k : Nat) : Entry D := entS I_LowerText_ar (I_LowerText_f k) I_LowerText_vr
theorem I_LowerText_eo (k : Nat) : EntryOK X 75 (I_LowerText_en k) := (I_LowerText_ok k).en rfl
def strings_IndexByte_ar : List Ar := [.c (.ks), .c (.ki .u8)]
def strings_IndexByte_f (k : Nat) (x : TupA D strings_IndexByte_ar) : Option (Int) := strings_IndexByte k x.1 x.2.1
def strings_IndexByte_vr (r : Int) : VR D := .p (.c (.int .i64 r))
theorem strings_IndexByte_ok (k : Nat) : Does P X 116 strings_IndexByte_ar (strings_IndexByte_f k) strings_IndexByte_vr := does_indexByte ⟨Go.Proofs.Tryd.f116, Go.Proofs.Tryd.func116, by kernel_rfl, by kernel_rfl⟩ (fun s c w hg => Go.Proofs.Tryd.strings_IndexByte s c w)
def strings_IndexByte_en (k : Nat) : Entry D := entS strings_IndexByte_ar (strings_IndexByte_f k) strings_IndexByte_vr
theorem strings_IndexByte_eo (k : Nat) : EntryOK X 116 (strings_IndexByte_en k) := (strings_IndexByte_ok k).en rfl
def I_isTokenByte_pl : Plan := ⟨[(0, [(0, none)]), (1, [(2, none)])],
  [],
  []⟩
def I_isTokenByte_cl (k : Nat) : Calls' D := ⟨[(116, strings_IndexByte_en k)], []⟩
theorem I_isTokenByte_ck (k : Nat) : CallsOK X (I_isTokenByte_cl k) := .cons (strings_IndexByte_eo k) (.nil cod)
def I_isTokenByte_cu (k : Nat) : Cuts D := ⟨[], []⟩
def I_isTokenByte_ar : List Ar := [.c (.ki .u8)]
def I_isTokenByte_f (k : Nat) (x : TupA D I_isTokenByte_ar) : Option (Bool) := I_isTokenByte k x.1
def I_isTokenByte_vr (r : Bool) : VR D := .p (.c (.bool r))
theorem I_isTokenByte_ok (k : Nat) : Does P X 81 I_isTokenByte_ar (I_isTokenByte_f k) I_isTokenByte_vr :=
  does_of (body := bodyOf Go.Proofs.Tryd.f81) (pl := I_isTokenByte_pl) (k := k) (cu := I_isTokenByte_cu k) (tys := [[0]]) (I_isTokenByte_ck k) ctx mixed Go.Proofs.Tryd.func81 (by kernel_rfl) (by kernel_rfl) (cutOK_of (l := []) (by kernel_rfl) trivial) fun x R h => by
    simp only [I_isTokenByte_f, I_isTokenByte, optK_bind, optK_bif, optK_pure, optK_none, optK_oc, optK_guardT, optK_map] at h
    refine hold_of h ?_
    kernel_rfl
def I_isTokenByte_en (k : Nat) : Entry D := entS I_isTokenByte_ar (I_isTokenByte_f k) I_isTokenByte_vr
theorem I_isTokenByte_eo (k : Nat) : EntryOK X 81 (I_isTokenByte_en k) := (I_isTokenByte_ok k).en rfl
def I_inRange_pl : Plan := ⟨[(0, [(0, none), (1, none), (2, none)]), (1, [(6, none)])],
  [],
  []⟩
def I_inRange_cl (k : Nat) : Calls' D := ⟨[], []⟩
theorem I_inRange_ck (k : Nat) : CallsOK X (I_inRange_cl k) := .nil cod
def I_inRange_cu (k : Nat) : Cuts D := ⟨[], []⟩
def I_inRange_ar : List Ar := [.c (.ki .i64), .c (.ki .i64), .c (.ki .i64)]
def I_inRange_f (k : Nat) (x : TupA D I_inRange_ar) : Option (Bool) := I_inRange k x.1 x.2.1 x.2.2.1
def I_inRange_vr (r : Bool) : VR D := .p (.c (.bool r))
theorem I_inRange_ok (k : Nat) : Does P X 64 I_inRange_ar (I_inRange_f k) I_inRange_vr :=
  does_of (body := bodyOf Go.Proofs.Tryd.f64) (pl := I_inRange_pl) (k := k) (cu := I_inRange_cu k) (tys := [[0]]) (I_inRange_ck k) ctx mixed Go.Proofs.Tryd.func64 (by kernel_rfl) (by kernel_rfl) (cutOK_of (l := []) (by kernel_rfl) trivial) fun x R h => by
    simp only [I_inRange_f, I_inRange, optK_bind, optK_bif, optK_pure, optK_none, optK_oc, optK_guardT, optK_map] at h
    refine hold_of h ?_
    kernel_rfl
def I_inRange_en (k : Nat) : Entry D := entS I_inRange_ar (I_inRange_f k) I_inRange_vr
theorem I_inRange_eo (k : Nat) : EntryOK X 64 (I_inRange_en k) := (I_inRange_ok k).en rfl
def I_IsToken_pl : Plan := ⟨[(0, [(0, none)]), (1, [(0, none), (5, none), (6, none)]), (2, [(0, none), (5, none), (6, none), (7, none)]), (3, [(0, none), (3, none), (5, none), (6, none)]), (4, [(0, none), (5, none), (6, none), (13, none)]), (5, [(2, none)]), (6, [(0, none), (5, none), (6, none)]), (7, [(2, none)])],
  [(0, [(0, none)]), (1, [(0, none), (5, none), (6, none)])],
  [(7, ([(0, none), (5, none), (6, none)], [(0, none)])), (13, ([], [(0, none), (5, none), (6, none)]))]⟩
def I_IsToken_cl (k : Nat) : Calls' D := ⟨[(81, I_isTokenByte_en k), (64, I_inRange_en k)], []⟩
theorem I_IsToken_ck (k : Nat) : CallsOK X (I_IsToken_cl k) := .cons (I_isTokenByte_eo k) (.cons (I_inRange_eo k) (.nil cod))
def I_IsToken_b0_L (x : (List UInt8) × Int × Int × Unit) (o : Oc (Unit) (Bool)) (Q : Ex → VSt D → Prop) (R : VR D → Prop) : Prop := ocP o (fun v0 => Q .normal (mkSt ⟨[(0, .hole)], []⟩ [.str x.1])) (fun w0 => R (.p (.c (.bool w0))))
def I_IsToken_b0_cut (k : Nat) : Cut D := cutS ⟨[(0, .hole), (5, .hole), (6, .hole)], []⟩ [.ks, .ki .i64, .ki .i64] (fun (x : (List UInt8) × Int × Int × Unit) => I_IsToken_b0 k k x.1 x.2.1 x.2.2.1) I_IsToken_b0_L
def I_IsToken_b0_cu (k : Nat) : Cuts D := ⟨[], []⟩
theorem I_IsToken_b0_ok (k : Nat) : CutFor X I_IsToken_pl k Go.Proofs.Tryd.f31.results.toList (I_IsToken_b0_cut k) (sub (bodyOf Go.Proofs.Tryd.f31) [1, 0, 1]) :=
  loopCut_s (X := X) (sg := [.ks, .ki .i64, .ki .i64]) (cu := I_IsToken_b0_cu k) (cl := I_IsToken_cl k) (tys := [[0]]) (id := 0) (c := sub (bodyOf Go.Proofs.Tryd.f31) [1, 0, 1, 0, 0]) (f := fun n => fun (x : (List UInt8) × Int × Int × Unit) => I_IsToken_b0 k n x.1 x.2.1 x.2.2.1) (I_IsToken_ck k) (cutOK_of (l := []) (by kernel_rfl) trivial) (fun _ => rfl) (fun n x Q R h => by
    simp only [I_IsToken_b0, optK_bind, optK_bif, optK_pure, optK_none, optK_oc, optK_guardT, optK_map] at h
    refine hold_of h ?_
    kernel_rfl) (by kernel_rfl)
def I_IsToken_cu (k : Nat) : Cuts D := ⟨[(0, some (I_IsToken_b0_cut k))], []⟩
def I_IsToken_ar : List Ar := [.c (.ks)]
def I_IsToken_f (k : Nat) (x : TupA D I_IsToken_ar) : Option (Bool) := I_IsToken k x.1
def I_IsToken_vr (r : Bool) : VR D := .p (.c (.bool r))
theorem I_IsToken_ok (k : Nat) : Does P X 31 I_IsToken_ar (I_IsToken_f k) I_IsToken_vr :=
  does_of (body := bodyOf Go.Proofs.Tryd.f31) (pl := I_IsToken_pl) (k := k) (cu := I_IsToken_cu k) (tys := [[0]]) (I_IsToken_ck k) ctx mixed Go.Proofs.Tryd.func31 (by kernel_rfl) (by kernel_rfl) (cutOK_of (l := [(I_IsToken_b0_cut k, sub (bodyOf Go.Proofs.Tryd.f31) [1, 0, 1])]) (by kernel_rfl) ⟨I_IsToken_b0_ok k, trivial⟩) fun x R h => by
    simp only [I_IsToken_f, I_IsToken, optK_bind, optK_bif, optK_pure, optK_none, optK_oc, optK_guardT, optK_map] at h
    refine hold_of h ?_
    kernel_rfl
def I_IsToken_en (k : Nat) : Entry D := entS I_IsToken_ar (I_IsToken_f k) I_IsToken_vr
theorem I_IsToken_eo (k : Nat) : EntryOK X 31 (I_IsToken_en k) := (I_IsToken_ok k).en rfl
def strings_Cut_ar : List Ar := [.c (.ks), .c (.ks)]
def strings_Cut_f (k : Nat) (x : TupA D strings_Cut_ar) : Option ((List UInt8) × (List UInt8) × Bool) := strings_Cut k x.1 x.2.1
def strings_Cut_vr (r : (List UInt8) × (List UInt8) × Bool) : VR D := .tup [.c (.str r.1), .c (.str r.2.1), .c (.bool r.2.2)]
theorem strings_Cut_ok (k : Nat) : Does P X 115 strings_Cut_ar (strings_Cut_f k) strings_Cut_vr := does_cut ⟨Go.Proofs.Tryd.f115, Go.Proofs.Tryd.func115, by kernel_rfl, by kernel_rfl⟩ (fun s sep w hg hs => let ⟨m, hm⟩ := hg; Go.Proofs.Tryd.strings_Cut s sep m w hs hm)
def strings_Cut_en (k : Nat) : Entry D := entS strings_Cut_ar (strings_Cut_f k) strings_Cut_vr
theorem strings_Cut_eo (k : Nat) : EntryOK X 115 (strings_Cut_en k) := (strings_Cut_ok k).en rfl
def I_SplitPair_pl : Plan := ⟨[(0, [(0, none)]), (1, [(5, none), (6, none), (7, none)]), (2, [(2, none), (3, none), (4, none)])],
  [],
  []⟩
def I_SplitPair_cl (k : Nat) : Calls' D := ⟨[(115, strings_Cut_en k), (76, I_TrimText_en k)], []⟩
theorem I_SplitPair_ck (k : Nat) : CallsOK X (I_SplitPair_cl k) := .cons (strings_Cut_eo k) (.cons (I_TrimText_eo k) (.nil cod))
def I_SplitPair_cu (k : Nat) : Cuts D := ⟨[], []⟩
def I_SplitPair_ar : List Ar := [.c (.ks)]
def I_SplitPair_f (k : Nat) (x : TupA D I_SplitPair_ar) : Option ((List UInt8) × (List UInt8) × Bool) := I_SplitPair k x.1
def I_SplitPair_vr (r : (List UInt8) × (List UInt8) × Bool) : VR D := .tup [.c (.str r.1), .c (.str r.2.1), .c (.bool r.2.2)]
theorem I_SplitPair_ok (k : Nat) : Does P X 77 I_SplitPair_ar (I_SplitPair_f k) I_SplitPair_vr :=
  does_of (body := bodyOf Go.Proofs.Tryd.f77) (pl := I_SplitPair_pl) (k := k) (cu := I_SplitPair_cu k) (tys := [[0], [0], [0]]) (I_SplitPair_ck k) ctx mixed Go.Proofs.Tryd.func77 (by kernel_rfl) (by kernel_rfl) (cutOK_of (l := []) (by kernel_rfl) trivial) fun x R h => by
    simp only [I_SplitPair_f, I_SplitPair, optK_bind, optK_bif, optK_pure, optK_none, optK_oc, optK_guardT, optK_map] at h
    refine hold_of h ?_
    kernel_rfl
def I_SplitPair_en (k : Nat) : Entry D := entS I_SplitPair_ar (I_SplitPair_f k) I_SplitPair_vr
theorem I_SplitPair_eo (k : Nat) : EntryOK X 77 (I_SplitPair_en k) := (I_SplitPair_ok k).en rfl
def I_weightIn_pl : Plan := ⟨[(0, [(0, none)]), (1, [(4, none), (5, none)]), (2, [(4, none), (5, none), (27, none)]), (3, [(2, none), (3, none)]), (4, [(5, none), (7, none)]), (5, [(5, none), (7, none), (8, none)]), (6, [(7, none), (8, none), (34, some 5), (35, none), (36, none)]), (7, [(7, none), (8, none), (34, some 5), (35, none), (36, none), (37, none)]), (8, [(7, none), (8, none), (10, none), (34, some 5), (35, none), (36, none)]), (9, [(7, none), (8, none), (10, none), (34, some 5), (35, none), (36, none), (45, none)]), (10, [(2, none), (3, none)]), (11, [(7, none), (8, none), (34, some 5), (35, none), (36, none)]), (12, [(7, none), (8, none), (34, some 5), (35, none), (36, none)]), (13, [(7, none), (8, none), (34, some 5), (35, none), (36, none)]), (14, [(2, none), (3, none)])],
  [(0, [(7, none)]), (1, [(7, none), (8, none), (34, some 5), (35, none), (36, none)])],
  [(27, ([], [(4, none), (5, none)])), (37, ([(7, none), (8, none), (34, some 5), (35, none), (36, none)], [(7, none)])), (45, ([], [(7, none), (8, none), (10, none), (34, some 5), (35, none), (36, none)]))]⟩
def I_weightIn_cl (k : Nat) : Calls' D := ⟨[(115, strings_Cut_en k)], []⟩
theorem I_weightIn_ck (k : Nat) : CallsOK X (I_weightIn_cl k) := .cons (strings_Cut_eo k) (.nil cod)
def I_weightIn_b0_L (x : Int × Int × Int × Int × (List Int) × Unit) (o : Oc (Int) (Int × Bool)) (Q : Ex → VSt D → Prop) (R : VR D → Prop) : Prop := ocP o (fun v0 => Q .normal (mkSt ⟨[(7, .hole)], []⟩ [.int .i64 v0])) (fun w0 => R (.tup [.c (.int .i64 w0.1), .c (.bool w0.2)]))
def I_weightIn_b0_cut (k : Nat) : Cut D := cutS ⟨[(7, .hole), (8, .hole), (34, .ref 500034), (35, .hole), (36, .hole)], [(500034, .row)]⟩ [.ki .i64, .ki .i64, .ki .i64, .ki .i64, .kl 5] (fun (x : Int × Int × Int × Int × (List Int) × Unit) => I_weightIn_b0 k k x.1 x.2.1 x.2.2.1 x.2.2.2.1 x.2.2.2.2.1) I_weightIn_b0_L
def I_weightIn_b0_cu (k : Nat) : Cuts D := ⟨[], []⟩
theorem I_weightIn_b0_ok (k : Nat) : CutFor X I_weightIn_pl k Go.Proofs.Tryd.f78.results.toList (I_weightIn_b0_cut k) (sub (bodyOf Go.Proofs.Tryd.f78) [1, 1, 1, 1, 1, 0, 1]) :=
  loopCut_s (X := X) (sg := [.ki .i64, .ki .i64, .ki .i64, .ki .i64, .kl 5]) (cu := I_weightIn_b0_cu k) (cl := I_weightIn_cl k) (tys := [[0], [0]]) (id := 0) (c := sub (bodyOf Go.Proofs.Tryd.f78) [1, 1, 1, 1, 1, 0, 1, 0, 0]) (f := fun n => fun (x : Int × Int × Int × Int × (List Int) × Unit) => I_weightIn_b0 k n x.1 x.2.1 x.2.2.1 x.2.2.2.1 x.2.2.2.2.1) (I_weightIn_ck k) (cutOK_of (l := []) (by kernel_rfl) trivial) (fun _ => rfl) (fun n x Q R h => by
    simp only [I_weightIn_b0, optK_bind, optK_bif, optK_pure, optK_none, optK_oc, optK_guardT, optK_map] at h
    refine hold_of h ?_
    kernel_rfl) (by kernel_rfl)
def I_weightIn_cu (k : Nat) : Cuts D := ⟨[(0, some (I_weightIn_b0_cut k))], []⟩
def I_weightIn_ar : List Ar := [.c (.ks)]
def I_weightIn_f (k : Nat) (x : TupA D I_weightIn_ar) : Option (Int × Bool) := I_weightIn k x.1
def I_weightIn_vr (r : Int × Bool) : VR D := .tup [.c (.int .i64 r.1), .c (.bool r.2)]
theorem I_weightIn_ok (k : Nat) : Does P X 78 I_weightIn_ar (I_weightIn_f k) I_weightIn_vr :=
  does_of (body := bodyOf Go.Proofs.Tryd.f78) (pl := I_weightIn_pl) (k := k) (cu := I_weightIn_cu k) (tys := [[0], [0]]) (I_weightIn_ck k) ctx mixed Go.Proofs.Tryd.func78 (by kernel_rfl) (by kernel_rfl) (cutOK_of (l := [(I_weightIn_b0_cut k, sub (bodyOf Go.Proofs.Tryd.f78) [1, 1, 1, 1, 1, 0, 1])]) (by kernel_rfl) ⟨I_weightIn_b0_ok k, trivial⟩) fun x R h => by
    simp only [I_weightIn_f, I_weightIn, optK_bind, optK_bif, optK_pure, optK_none, optK_oc, optK_guardT, optK_map] at h
    refine hold_of h ?_
    kernel_rfl
def I_weightIn_en (k : Nat) : Entry D := entS I_weightIn_ar (I_weightIn_f k) I_weightIn_vr
theorem I_weightIn_eo (k : Nat) : EntryOK X 78 (I_weightIn_en k) := (I_weightIn_ok k).en rfl
def I_ParseQualities_pl : Plan := ⟨[(0, [(0, none)]), (1, [(0, none), (3, some 51)]), (2, [(3, some 51), (16, some 9), (17, none), (18, none)]), (3, [(3, some 51), (16, some 9), (17, none), (18, none), (19, none)]), (4, [(3, some 51), (5, none), (16, some 9), (17, none), (18, none)]), (5, [(3, some 51), (6, some 9), (16, some 9), (17, none), (18, none)]), (6, [(3, some 51), (6, some 9), (7, none), (16, some 9), (17, none), (18, none)]), (7, [(3, some 51), (6, some 9), (7, none), (8, none), (16, some 9), (17, none), (18, none)]), (8, [(3, some 51), (6, some 9), (7, none), (8, none), (16, some 9), (17, none), (18, none), (40, none)]), (9, [(3, some 51), (7, none), (8, none), (9, none), (10, none), (11, none), (16, some 9), (17, none), (18, none)]), (10, [(3, some 51), (7, none), (8, none), (9, none), (11, none), (12, none), (13, none), (16, some 9), (17, none), (18, none)]), (11, [(3, some 51), (7, none), (8, none), (9, none), (11, none), (13, none), (16, some 9), (17, none), (18, none)]), (12, [(3, some 51), (7, none), (8, none), (16, some 9), (17, none), (18, none)]), (13, [(3, some 51), (7, none), (16, some 9), (17, none), (18, none), (71, none)]), (14, [(3, some 51), (16, some 9), (17, none), (18, none)]), (15, [(3, some 51), (16, some 9), (17, none), (18, none)]), (16, [(2, some 51)])],
  [(0, [(3, some 51)]), (1, [(3, some 51), (16, some 9), (17, none), (18, none)])],
  [(19, ([(3, some 51), (16, some 9), (17, none), (18, none)], [(3, some 51)])), (40, ([(3, some 51), (6, some 9), (7, none), (8, none), (16, some 9), (17, none), (18, none)], [(3, some 51), (7, none), (8, none), (16, some 9), (17, none), (18, none)])), (71, ([(3, some 51), (7, none), (16, some 9), (17, none), (18, none)], [(3, some 51), (16, some 9), (17, none), (18, none)]))]⟩
def I_ParseQualities_cl (k : Nat) : Calls' D := ⟨[(73, I_SplitList_en k), (74, strings_Split_en k), (76, I_TrimText_en k), (75, I_LowerText_en k), (31, I_IsToken_en k), (77, I_SplitPair_en k), (78, I_weightIn_en k)], []⟩
theorem I_ParseQualities_ck (k : Nat) : CallsOK X (I_ParseQualities_cl k) := .cons (I_SplitList_eo k) (.cons (strings_Split_eo k) (.cons (I_TrimText_eo k) (.cons (I_LowerText_eo k) (.cons (I_IsToken_eo k) (.cons (I_SplitPair_eo k) (.cons (I_weightIn_eo k) (.nil cod)))))))
def I_ParseQualities_c40_L (x : Bool × Int × Int × Bool × (List IQuality) × (List (List UInt8)) × (List UInt8) × Int × (List (List UInt8)) × Unit) (o : Bool × Int) (Q : Ex → VSt D → Prop) (R : VR D → Prop) : Prop := Q .normal (mkSt ⟨[(3, .ref 500003), (7, .ptr 7 0), (8, .hole), (16, .ref 500016), (17, .hole), (18, .hole)], [(500003, .row), (7, .var [.hole, .hole]), (500016, .row)]⟩ [.bool o.1, .int .i64 x.2.1, .int .i64 x.2.2.1, .sl 51 x.2.2.2.2.1, .str x.2.2.2.2.2.2.1, .int .i64 o.2, .sl 9 x.2.2.2.2.2.2.2.2.1])
def I_ParseQualities_c40_cut (k : Nat) : Cut D := cutS ⟨[(3, .ref 500003), (6, .ref 500006), (7, .ptr 7 0), (8, .hole), (16, .ref 500016), (17, .hole), (18, .hole), (40, .hole)], [(500003, .row), (500006, .row), (7, .var [.hole, .hole]), (500016, .row)]⟩ [.kb, .ki .i64, .ki .i64, .kb, .kl 51, .kl 9, .ks, .ki .i64, .kl 9] (fun (x : Bool × Int × Int × Bool × (List IQuality) × (List (List UInt8)) × (List UInt8) × Int × (List (List UInt8)) × Unit) => I_ParseQualities_c40 k x.1 x.2.1 x.2.2.1 x.2.2.2.1 x.2.2.2.2.1 x.2.2.2.2.2.1 x.2.2.2.2.2.2.1 x.2.2.2.2.2.2.2.1 x.2.2.2.2.2.2.2.2.1) I_ParseQualities_c40_L
def I_ParseQualities_c40_cu (k : Nat) : Cuts D := ⟨[], []⟩
theorem I_ParseQualities_c40_ok (k : Nat) : CutFor X I_ParseQualities_pl k Go.Proofs.Tryd.f29.results.toList (I_ParseQualities_c40_cut k) (sub (bodyOf Go.Proofs.Tryd.f29) [1, 1, 0, 1, 0, 0, 1, 1, 0, 0, 1, 1, 1, 1, 0, 1]) :=
  joinCut_s (X := X) (sg := [.kb, .ki .i64, .ki .i64, .kb, .kl 51, .kl 9, .ks, .ki .i64, .kl 9]) (cu := I_ParseQualities_c40_cu k) (cl := I_ParseQualities_cl k) (tys := [[51]]) (I_ParseQualities_ck k) (cutOK_of (l := []) (by kernel_rfl) trivial) fun x Q R h => by
    simp only [I_ParseQualities_c40, optK_bind, optK_bif, optK_pure, optK_none, optK_oc, optK_guardT, optK_map] at h
    refine hold_of h ?_
    kernel_rfl
def I_ParseQualities_c71_L (x : Int × Int × Bool × (List IQuality) × (List UInt8) × Int × (List (List UInt8)) × Unit) (o : (List IQuality)) (Q : Ex → VSt D → Prop) (R : VR D → Prop) : Prop := Q .normal (mkSt ⟨[(3, .ref 500003), (16, .ref 500016), (17, .hole), (18, .hole)], [(500003, .row), (500016, .row)]⟩ [.int .i64 x.1, .int .i64 x.2.1, .sl 51 o, .sl 9 x.2.2.2.2.2.2.1])
def I_ParseQualities_c71_cut (k : Nat) : Cut D := cutS ⟨[(3, .ref 500003), (7, .ptr 7 0), (16, .ref 500016), (17, .hole), (18, .hole), (71, .hole)], [(500003, .row), (7, .var [.hole, .hole]), (500016, .row)]⟩ [.ki .i64, .ki .i64, .kb, .kl 51, .ks, .ki .i64, .kl 9] (fun (x : Int × Int × Bool × (List IQuality) × (List UInt8) × Int × (List (List UInt8)) × Unit) => I_ParseQualities_c71 k x.1 x.2.1 x.2.2.1 x.2.2.2.1 x.2.2.2.2.1 x.2.2.2.2.2.1 x.2.2.2.2.2.2.1) I_ParseQualities_c71_L
def I_ParseQualities_c71_cu (k : Nat) : Cuts D := ⟨[], []⟩
theorem I_ParseQualities_c71_ok (k : Nat) : CutFor X I_ParseQualities_pl k Go.Proofs.Tryd.f29.results.toList (I_ParseQualities_c71_cut k) (sub (bodyOf Go.Proofs.Tryd.f29) [1, 1, 0, 1, 0, 0, 1, 1, 0, 0, 1, 1, 1, 1, 1, 1]) :=
  joinCut_s (X := X) (sg := [.ki .i64, .ki .i64, .kb, .kl 51, .ks, .ki .i64, .kl 9]) (cu := I_ParseQualities_c71_cu k) (cl := I_ParseQualities_cl k) (tys := [[51]]) (I_ParseQualities_ck k) (cutOK_of (l := []) (by kernel_rfl) trivial) fun x Q R h => by
    simp only [I_ParseQualities_c71, optK_bind, optK_bif, optK_pure, optK_none, optK_oc, optK_guardT, optK_map] at h
    refine hold_of h ?_
    kernel_rfl
def I_ParseQualities_b1_L (x : Int × Int × (List IQuality) × (List (List UInt8)) × Unit) (o : (List IQuality)) (Q : Ex → VSt D → Prop) (R : VR D → Prop) : Prop := Q .normal (mkSt ⟨[(3, .ref 500003), (16, .ref 500016), (17, .hole), (18, .hole)], [(500003, .row), (500016, .row)]⟩ [.int .i64 x.1, .int .i64 x.2.1, .sl 51 o, .sl 9 x.2.2.2.1])
def I_ParseQualities_b1_cut (k : Nat) : Cut D := cutS ⟨[(3, .ref 500003), (16, .ref 500016), (17, .hole), (18, .hole)], [(500003, .row), (500016, .row)]⟩ [.ki .i64, .ki .i64, .kl 51, .kl 9] (fun (x : Int × Int × (List IQuality) × (List (List UInt8)) × Unit) => I_ParseQualities_b1 k x.1 x.2.1 x.2.2.1 x.2.2.2.1) I_ParseQualities_b1_L
def I_ParseQualities_b1_cu (k : Nat) : Cuts D := ⟨[], [(40, some (I_ParseQualities_c40_cut k)), (71, some (I_ParseQualities_c71_cut k))]⟩
theorem I_ParseQualities_b1_ok (k : Nat) : CutFor X I_ParseQualities_pl k Go.Proofs.Tryd.f29.results.toList (I_ParseQualities_b1_cut k) (sub (bodyOf Go.Proofs.Tryd.f29) [1, 1, 0, 1, 0, 0, 1, 1, 0]) :=
  joinCut_s (X := X) (sg := [.ki .i64, .ki .i64, .kl 51, .kl 9]) (cu := I_ParseQualities_b1_cu k) (cl := I_ParseQualities_cl k) (tys := [[51]]) (I_ParseQualities_ck k) (cutOK_of (l := [(I_ParseQualities_c40_cut k, sub (bodyOf Go.Proofs.Tryd.f29) [1, 1, 0, 1, 0, 0, 1, 1, 0, 0, 1, 1, 1, 1, 0, 1]), (I_ParseQualities_c71_cut k, sub (bodyOf Go.Proofs.Tryd.f29) [1, 1, 0, 1, 0, 0, 1, 1, 0, 0, 1, 1, 1, 1, 1, 1])]) (by kernel_rfl) ⟨I_ParseQualities_c40_ok k, I_ParseQualities_c71_ok k, trivial⟩) fun x Q R h => by
    simp only [I_ParseQualities_b1, optK_bind, optK_bif, optK_pure, optK_none, optK_oc, optK_guardT, optK_map] at h
    refine hold_of h ?_
    kernel_rfl
def I_ParseQualities_b0_L (x : Int × Int × (List IQuality) × (List (List UInt8)) × Unit) (o : (List IQuality)) (Q : Ex → VSt D → Prop) (R : VR D → Prop) : Prop := Q .normal (mkSt ⟨[(3, .ref 500003)], [(500003, .row)]⟩ [.sl 51 o])
def I_ParseQualities_b0_cut (k : Nat) : Cut D := cutS ⟨[(3, .ref 500003), (16, .ref 500016), (17, .hole), (18, .hole)], [(500003, .row), (500016, .row)]⟩ [.ki .i64, .ki .i64, .kl 51, .kl 9] (fun (x : Int × Int × (List IQuality) × (List (List UInt8)) × Unit) => I_ParseQualities_b0 k k x.1 x.2.1 x.2.2.1 x.2.2.2.1) I_ParseQualities_b0_L
def I_ParseQualities_b0_cu (k : Nat) : Cuts D := ⟨[(1, some (I_ParseQualities_b1_cut k))], []⟩
theorem I_ParseQualities_b0_ok (k : Nat) : CutFor X I_ParseQualities_pl k Go.Proofs.Tryd.f29.results.toList (I_ParseQualities_b0_cut k) (sub (bodyOf Go.Proofs.Tryd.f29) [1, 1, 0, 1]) :=
  loopCut_s (X := X) (sg := [.ki .i64, .ki .i64, .kl 51, .kl 9]) (cu := I_ParseQualities_b0_cu k) (cl := I_ParseQualities_cl k) (tys := [[51]]) (id := 0) (c := sub (bodyOf Go.Proofs.Tryd.f29) [1, 1, 0, 1, 0, 0]) (f := fun n => fun (x : Int × Int × (List IQuality) × (List (List UInt8)) × Unit) => I_ParseQualities_b0 k n x.1 x.2.1 x.2.2.1 x.2.2.2.1) (I_ParseQualities_ck k) (cutOK_of (l := [(I_ParseQualities_b1_cut k, sub (bodyOf Go.Proofs.Tryd.f29) [1, 1, 0, 1, 0, 0, 1, 1, 0])]) (by kernel_rfl) ⟨I_ParseQualities_b1_ok k, trivial⟩) (fun _ => rfl) (fun n x Q R h => by
    simp only [I_ParseQualities_b0, optK_bind, optK_bif, optK_pure, optK_none, optK_oc, optK_guardT, optK_map] at h
    refine hold_of h ?_
    kernel_rfl) (by kernel_rfl)
def I_ParseQualities_cu (k : Nat) : Cuts D := ⟨[(0, some (I_ParseQualities_b0_cut k))], []⟩
def I_ParseQualities_ar : List Ar := [.c (.ks)]
def I_ParseQualities_f (k : Nat) (x : TupA D I_ParseQualities_ar) : Option ((List IQuality)) := I_ParseQualities k x.1
def I_ParseQualities_vr (r : (List IQuality)) : VR D := .p (.c (.sl 51 r))
theorem I_ParseQualities_ok (k : Nat) : Does P X 29 I_ParseQualities_ar (I_ParseQualities_f k) I_ParseQualities_vr :=
  does_of (body := bodyOf Go.Proofs.Tryd.f29) (pl := I_ParseQualities_pl) (k := k) (cu := I_ParseQualities_cu k) (tys := [[51]]) (I_ParseQualities_ck k) ctx mixed Go.Proofs.Tryd.func29 (by kernel_rfl) (by kernel_rfl) (cutOK_of (l := [(I_ParseQualities_b0_cut k, sub (bodyOf Go.Proofs.Tryd.f29) [1, 1, 0, 1])]) (by kernel_rfl) ⟨I_ParseQualities_b0_ok k, trivial⟩) fun x R h => by
    simp only [I_ParseQualities_f, I_ParseQualities, optK_bind, optK_bif, optK_pure, optK_none, optK_oc, optK_guardT, optK_map] at h
    refine hold_of h ?_
    kernel_rfl
def I_ParseQualities_en (k : Nat) : Entry D := entS I_ParseQualities_ar (I_ParseQualities_f k) I_ParseQualities_vr
theorem I_ParseQualities_eo (k : Nat) : EntryOK X 29 (I_ParseQualities_en k) := (I_ParseQualities_ok k).en rfl
def I_QualityOf_pl : Plan := ⟨[(0, [(0, some 51), (1, none)]), (1, [(0, some 51), (10, some 9), (11, none), (12, none)]), (2, [(0, some 51), (10, some 9), (11, none), (12, none), (13, none)]), (3, [(0, some 51), (6, none), (10, some 9), (11, none), (12, none)]), (4, [(0, some 51), (6, none), (10, some 9), (11, none), (12, none), (16, some 51), (17, none), (18, none)]), (5, [(0, some 51), (6, none), (10, some 9), (11, none), (12, none), (16, some 51), (17, none), (18, none), (19, none)]), (6, [(0, some 51), (6, none), (8, none), (10, some 9), (11, none), (12, none), (16, some 51), (17, none), (18, none)]), (7, [(0, some 51), (6, none), (8, none), (10, some 9), (11, none), (12, none), (16, some 51), (17, none), (18, none), (25, none)]), (8, [(4, none)]), (9, [(0, some 51), (6, none), (10, some 9), (11, none), (12, none), (16, some 51), (17, none), (18, none)]), (10, [(0, some 51), (10, some 9), (11, none), (12, none)]), (11, [(4, none)])],
  [(0, []), (1, [(0, some 51), (10, some 9), (11, none), (12, none)]), (2, [(0, some 51), (10, some 9), (11, none), (12, none)]), (3, [(0, some 51), (6, none), (10, some 9), (11, none), (12, none), (16, some 51), (17, none), (18, none)])],
  [(13, ([(0, some 51), (10, some 9), (11, none), (12, none)], [])), (19, ([(0, some 51), (6, none), (10, some 9), (11, none), (12, none), (16, some 51), (17, none), (18, none)], [(0, some 51), (10, some 9), (11, none), (12, none)])), (25, ([(8, none)], [(0, some 51), (6, none), (10, some 9), (11, none), (12, none), (16, some 51), (17, none), (18, none)]))]⟩
def I_QualityOf_cl (k : Nat) : Calls' D := ⟨[], []⟩
theorem I_QualityOf_ck (k : Nat) : CallsOK X (I_QualityOf_cl k) := .nil cod
def I_QualityOf_b2_L (x : (List IQuality) × (List UInt8) × Int × Int × (List IQuality) × Int × Int × (List (List UInt8)) × Unit) (o : Oc (Unit) (Int)) (Q : Ex → VSt D → Prop) (R : VR D → Prop) : Prop := ocP o (fun v0 => Q .normal (mkSt ⟨[(0, .hole), (10, .ref 500010), (11, .hole), (12, .hole)], [(500010, .row)]⟩ [.sl 51 x.1, .int .i64 x.2.2.1, .int .i64 x.2.2.2.1, .sl 9 x.2.2.2.2.2.2.2.1])) (fun w0 => R (.p (.c (.int .i64 w0))))
def I_QualityOf_b2_cut (k : Nat) : Cut D := cutS ⟨[(0, .hole), (6, .hole), (10, .ref 500010), (11, .hole), (12, .hole), (16, .hole), (17, .hole), (18, .hole)], [(500010, .row)]⟩ [.kl 51, .ks, .ki .i64, .ki .i64, .kl 51, .ki .i64, .ki .i64, .kl 9] (fun (x : (List IQuality) × (List UInt8) × Int × Int × (List IQuality) × Int × Int × (List (List UInt8)) × Unit) => I_QualityOf_b2 k k x.1 x.2.1 x.2.2.1 x.2.2.2.1 x.2.2.2.2.1 x.2.2.2.2.2.1 x.2.2.2.2.2.2.1 x.2.2.2.2.2.2.2.1) I_QualityOf_b2_L
def I_QualityOf_b2_cu (k : Nat) : Cuts D := ⟨[], []⟩
theorem I_QualityOf_b2_ok (k : Nat) : CutFor X I_QualityOf_pl k Go.Proofs.Tryd.f34.results.toList (I_QualityOf_b2_cut k) (sub (bodyOf Go.Proofs.Tryd.f34) [1, 0, 1, 0, 0, 1, 1, 0, 0, 1, 1]) :=
  loopCut_s (X := X) (sg := [.kl 51, .ks, .ki .i64, .ki .i64, .kl 51, .ki .i64, .ki .i64, .kl 9]) (cu := I_QualityOf_b2_cu k) (cl := I_QualityOf_cl k) (tys := [[0]]) (id := 2) (c := sub (bodyOf Go.Proofs.Tryd.f34) [1, 0, 1, 0, 0, 1, 1, 0, 0, 1, 1, 0, 0]) (f := fun n => fun (x : (List IQuality) × (List UInt8) × Int × Int × (List IQuality) × Int × Int × (List (List UInt8)) × Unit) => I_QualityOf_b2 k n x.1 x.2.1 x.2.2.1 x.2.2.2.1 x.2.2.2.2.1 x.2.2.2.2.2.1 x.2.2.2.2.2.2.1 x.2.2.2.2.2.2.2.1) (I_QualityOf_ck k) (cutOK_of (l := []) (by kernel_rfl) trivial) (fun _ => rfl) (fun n x Q R h => by
    simp only [I_QualityOf_b2, optK_bind, optK_bif, optK_pure, optK_none, optK_oc, optK_guardT, optK_map] at h
    refine hold_of h ?_
    kernel_rfl) (by kernel_rfl)
def I_QualityOf_b0_L (x : (List IQuality) × Int × Int × (List (List UInt8)) × Unit) (o : Oc (Unit) (Int)) (Q : Ex → VSt D → Prop) (R : VR D → Prop) : Prop := ocP o (fun v0 => Q .normal (mkSt ⟨[], []⟩ [])) (fun w0 => R (.p (.c (.int .i64 w0))))
def I_QualityOf_b0_cut (k : Nat) : Cut D := cutS ⟨[(0, .hole), (10, .ref 500010), (11, .hole), (12, .hole)], [(500010, .row)]⟩ [.kl 51, .ki .i64, .ki .i64, .kl 9] (fun (x : (List IQuality) × Int × Int × (List (List UInt8)) × Unit) => I_QualityOf_b0 k k x.1 x.2.1 x.2.2.1 x.2.2.2.1) I_QualityOf_b0_L
def I_QualityOf_b0_cu (k : Nat) : Cuts D := ⟨[(2, some (I_QualityOf_b2_cut k))], []⟩
theorem I_QualityOf_b0_ok (k : Nat) : CutFor X I_QualityOf_pl k Go.Proofs.Tryd.f34.results.toList (I_QualityOf_b0_cut k) (sub (bodyOf Go.Proofs.Tryd.f34) [1, 0, 1]) :=
  loopCut_s (X := X) (sg := [.kl 51, .ki .i64, .ki .i64, .kl 9]) (cu := I_QualityOf_b0_cu k) (cl := I_QualityOf_cl k) (tys := [[0]]) (id := 0) (c := sub (bodyOf Go.Proofs.Tryd.f34) [1, 0, 1, 0, 0]) (f := fun n => fun (x : (List IQuality) × Int × Int × (List (List UInt8)) × Unit) => I_QualityOf_b0 k n x.1 x.2.1 x.2.2.1 x.2.2.2.1) (I_QualityOf_ck k) (cutOK_of (l := [(I_QualityOf_b2_cut k, sub (bodyOf Go.Proofs.Tryd.f34) [1, 0, 1, 0, 0, 1, 1, 0, 0, 1, 1])]) (by kernel_rfl) ⟨I_QualityOf_b2_ok k, trivial⟩) (fun _ => rfl) (fun n x Q R h => by
    simp only [I_QualityOf_b0, optK_bind, optK_bif, optK_pure, optK_none, optK_oc, optK_guardT, optK_map] at h
    refine hold_of h ?_
    kernel_rfl) (by kernel_rfl)
def I_QualityOf_cu (k : Nat) : Cuts D := ⟨[(0, some (I_QualityOf_b0_cut k))], []⟩
def I_QualityOf_ar : List Ar := [.c (.kl 51), .c (.ks)]
def I_QualityOf_f (k : Nat) (x : TupA D I_QualityOf_ar) : Option (Int) := I_QualityOf k x.1 x.2.1
def I_QualityOf_vr (r : Int) : VR D := .p (.c (.int .i64 r))
theorem I_QualityOf_ok (k : Nat) : Does P X 34 I_QualityOf_ar (I_QualityOf_f k) I_QualityOf_vr :=
  does_of (body := bodyOf Go.Proofs.Tryd.f34) (pl := I_QualityOf_pl) (k := k) (cu := I_QualityOf_cu k) (tys := [[0]]) (I_QualityOf_ck k) ctx mixed Go.Proofs.Tryd.func34 (by kernel_rfl) (by kernel_rfl) (cutOK_of (l := [(I_QualityOf_b0_cut k, sub (bodyOf Go.Proofs.Tryd.f34) [1, 0, 1])]) (by kernel_rfl) ⟨I_QualityOf_b0_ok k, trivial⟩) fun x R h => by
    simp only [I_QualityOf_f, I_QualityOf, optK_bind, optK_bif, optK_pure, optK_none, optK_oc, optK_guardT, optK_map] at h
    refine hold_of h ?_
    kernel_rfl
def I_QualityOf_en (k : Nat) : Entry D := entS I_QualityOf_ar (I_QualityOf_f k) I_QualityOf_vr
theorem I_QualityOf_eo (k : Nat) : EntryOK X 34 (I_QualityOf_en k) := (I_QualityOf_ok k).en rfl
def I_ChooseName_pl : Plan := ⟨[(0, [(0, some 9), (1, none)]), (1, [(0, some 9), (5, some 51)]), (2, [(0, some 9), (5, some 51), (6, none)]), (3, [(5, some 51), (6, none), (11, some 9), (12, none), (13, none)]), (4, [(5, some 51), (6, none), (11, some 9), (12, none), (13, none), (14, none)]), (5, [(5, some 51), (6, none), (7, none), (8, none), (11, some 9), (12, none), (13, none)]), (6, [(5, some 51), (6, none), (8, none), (11, some 9), (12, none), (13, none), (28, none)]), (7, [(5, some 51), (6, none), (11, some 9), (12, none), (13, none)]), (8, [(5, some 51), (6, none), (11, some 9), (12, none), (13, none)]), (9, [(4, none)])],
  [(0, [(6, none)]), (1, [(5, some 51), (6, none), (11, some 9), (12, none), (13, none)])],
  [(14, ([(5, some 51), (6, none), (11, some 9), (12, none), (13, none)], [(6, none)])), (28, ([(5, some 51), (8, none), (11, some 9), (12, none), (13, none)], [(5, some 51), (6, none), (11, some 9), (12, none), (13, none)]))]⟩
def I_ChooseName_cl (k : Nat) : Calls' D := ⟨[(29, I_ParseQualities_en k), (34, I_QualityOf_en k)], []⟩
theorem I_ChooseName_ck (k : Nat) : CallsOK X (I_ChooseName_cl k) := .cons (I_ParseQualities_eo k) (.cons (I_QualityOf_eo k) (.nil cod))
def I_ChooseName_c28_L (x : (List UInt8) × (List UInt8) × (List (List UInt8)) × Int × Int × Bool × (List IQuality) × Unit) (o : (List UInt8)) (Q : Ex → VSt D → Prop) (R : VR D → Prop) : Prop := Q .normal (mkSt ⟨[(5, .ref 500005), (6, .hole), (11, .hole), (12, .hole), (13, .hole)], [(500005, .row)]⟩ [.str o, .sl 9 x.2.2.1, .int .i64 x.2.2.2.1, .int .i64 x.2.2.2.2.1, .sl 51 x.2.2.2.2.2.2.1])
def I_ChooseName_c28_cut (k : Nat) : Cut D := cutS ⟨[(5, .ref 500005), (6, .hole), (8, .hole), (11, .hole), (12, .hole), (13, .hole), (28, .hole)], [(500005, .row)]⟩ [.ks, .ks, .kl 9, .ki .i64, .ki .i64, .kb, .kl 51] (fun (x : (List UInt8) × (List UInt8) × (List (List UInt8)) × Int × Int × Bool × (List IQuality) × Unit) => I_ChooseName_c28 k x.1 x.2.1 x.2.2.1 x.2.2.2.1 x.2.2.2.2.1 x.2.2.2.2.2.1 x.2.2.2.2.2.2.1) I_ChooseName_c28_L
def I_ChooseName_c28_cu (k : Nat) : Cuts D := ⟨[], []⟩
theorem I_ChooseName_c28_ok (k : Nat) : CutFor X I_ChooseName_pl k Go.Proofs.Tryd.f33.results.toList (I_ChooseName_c28_cut k) (sub (bodyOf Go.Proofs.Tryd.f33) [1, 1, 1, 0, 1, 0, 0, 1, 1, 0, 0, 1, 1]) :=
  joinCut_s (X := X) (sg := [.ks, .ks, .kl 9, .ki .i64, .ki .i64, .kb, .kl 51]) (cu := I_ChooseName_c28_cu k) (cl := I_ChooseName_cl k) (tys := [[0]]) (I_ChooseName_ck k) (cutOK_of (l := []) (by kernel_rfl) trivial) fun x Q R h => by
    simp only [I_ChooseName_c28, optK_bind, optK_bif, optK_pure, optK_none, optK_oc, optK_guardT, optK_map] at h
    refine hold_of h ?_
    kernel_rfl
def I_ChooseName_b1_L (x : (List UInt8) × (List (List UInt8)) × Int × Int × (List IQuality) × Unit) (o : (List UInt8)) (Q : Ex → VSt D → Prop) (R : VR D → Prop) : Prop := Q .normal (mkSt ⟨[(5, .ref 500005), (6, .hole), (11, .hole), (12, .hole), (13, .hole)], [(500005, .row)]⟩ [.str o, .sl 9 x.2.1, .int .i64 x.2.2.1, .int .i64 x.2.2.2.1, .sl 51 x.2.2.2.2.1])
def I_ChooseName_b1_cut (k : Nat) : Cut D := cutS ⟨[(5, .ref 500005), (6, .hole), (11, .hole), (12, .hole), (13, .hole)], [(500005, .row)]⟩ [.ks, .kl 9, .ki .i64, .ki .i64, .kl 51] (fun (x : (List UInt8) × (List (List UInt8)) × Int × Int × (List IQuality) × Unit) => I_ChooseName_b1 k x.1 x.2.1 x.2.2.1 x.2.2.2.1 x.2.2.2.2.1) I_ChooseName_b1_L
def I_ChooseName_b1_cu (k : Nat) : Cuts D := ⟨[], [(28, some (I_ChooseName_c28_cut k))]⟩
theorem I_ChooseName_b1_ok (k : Nat) : CutFor X I_ChooseName_pl k Go.Proofs.Tryd.f33.results.toList (I_ChooseName_b1_cut k) (sub (bodyOf Go.Proofs.Tryd.f33) [1, 1, 1, 0, 1, 0, 0, 1, 1, 0]) :=
  joinCut_s (X := X) (sg := [.ks, .kl 9, .ki .i64, .ki .i64, .kl 51]) (cu := I_ChooseName_b1_cu k) (cl := I_ChooseName_cl k) (tys := [[0]]) (I_ChooseName_ck k) (cutOK_of (l := [(I_ChooseName_c28_cut k, sub (bodyOf Go.Proofs.Tryd.f33) [1, 1, 1, 0, 1, 0, 0, 1, 1, 0, 0, 1, 1])]) (by kernel_rfl) ⟨I_ChooseName_c28_ok k, trivial⟩) fun x Q R h => by
    simp only [I_ChooseName_b1, optK_bind, optK_bif, optK_pure, optK_none, optK_oc, optK_guardT, optK_map] at h
    refine hold_of h ?_
    kernel_rfl
def I_ChooseName_b0_L (x : (List UInt8) × (List (List UInt8)) × Int × Int × (List IQuality) × Unit) (o : (List UInt8)) (Q : Ex → VSt D → Prop) (R : VR D → Prop) : Prop := Q .normal (mkSt ⟨[(6, .hole)], []⟩ [.str o])
def I_ChooseName_b0_cut (k : Nat) : Cut D := cutS ⟨[(5, .ref 500005), (6, .hole), (11, .hole), (12, .hole), (13, .hole)], [(500005, .row)]⟩ [.ks, .kl 9, .ki .i64, .ki .i64, .kl 51] (fun (x : (List UInt8) × (List (List UInt8)) × Int × Int × (List IQuality) × Unit) => I_ChooseName_b0 k k x.1 x.2.1 x.2.2.1 x.2.2.2.1 x.2.2.2.2.1) I_ChooseName_b0_L
def I_ChooseName_b0_cu (k : Nat) : Cuts D := ⟨[(1, some (I_ChooseName_b1_cut k))], []⟩
theorem I_ChooseName_b0_ok (k : Nat) : CutFor X I_ChooseName_pl k Go.Proofs.Tryd.f33.results.toList (I_ChooseName_b0_cut k) (sub (bodyOf Go.Proofs.Tryd.f33) [1, 1, 1, 0, 1]) :=
  loopCut_s (X := X) (sg := [.ks, .kl 9, .ki .i64, .ki .i64, .kl 51]) (cu := I_ChooseName_b0_cu k) (cl := I_ChooseName_cl k) (tys := [[0]]) (id := 0) (c := sub (bodyOf Go.Proofs.Tryd.f33) [1, 1, 1, 0, 1, 0, 0]) (f := fun n => fun (x : (List UInt8) × (List (List UInt8)) × Int × Int × (List IQuality) × Unit) => I_ChooseName_b0 k n x.1 x.2.1 x.2.2.1 x.2.2.2.1 x.2.2.2.2.1) (I_ChooseName_ck k) (cutOK_of (l := [(I_ChooseName_b1_cut k, sub (bodyOf Go.Proofs.Tryd.f33) [1, 1, 1, 0, 1, 0, 0, 1, 1, 0])]) (by kernel_rfl) ⟨I_ChooseName_b1_ok k, trivial⟩) (fun _ => rfl) (fun n x Q R h => by
    simp only [I_ChooseName_b0, optK_bind, optK_bif, optK_pure, optK_none, optK_oc, optK_guardT, optK_map] at h
    refine hold_of h ?_
    kernel_rfl) (by kernel_rfl)
def I_ChooseName_cu (k : Nat) : Cuts D := ⟨[(0, some (I_ChooseName_b0_cut k))], []⟩
def I_ChooseName_ar : List Ar := [.c (.kl 9), .c (.ks)]
def I_ChooseName_f (k : Nat) (x : TupA D I_ChooseName_ar) : Option ((List UInt8)) := I_ChooseName k x.1 x.2.1
def I_ChooseName_vr (r : (List UInt8)) : VR D := .p (.c (.str r))
theorem I_ChooseName_ok (k : Nat) : Does P X 33 I_ChooseName_ar (I_ChooseName_f k) I_ChooseName_vr :=
  does_of (body := bodyOf Go.Proofs.Tryd.f33) (pl := I_ChooseName_pl) (k := k) (cu := I_ChooseName_cu k) (tys := [[0]]) (I_ChooseName_ck k) ctx mixed Go.Proofs.Tryd.func33 (by kernel_rfl) (by kernel_rfl) (cutOK_of (l := [(I_ChooseName_b0_cut k, sub (bodyOf Go.Proofs.Tryd.f33) [1, 1, 1, 0, 1])]) (by kernel_rfl) ⟨I_ChooseName_b0_ok k, trivial⟩) fun x R h => by
    simp only [I_ChooseName_f, I_ChooseName, optK_bind, optK_bif, optK_pure, optK_none, optK_oc, optK_guardT, optK_map] at h
    refine hold_of h ?_
    kernel_rfl
def I_ChooseName_en (k : Nat) : Entry D := entS I_ChooseName_ar (I_ChooseName_f k) I_ChooseName_vr
theorem I_ChooseName_eo (k : Nat) : EntryOK X 33 (I_ChooseName_en k) := (I_ChooseName_ok k).en rfl
def L_eqStringS_pl : Plan := ⟨[(0, [(0, some 9), (1, some 9)]), (1, [(0, some 9), (1, some 9), (10, none)]), (2, [(4, none)]), (3, [(0, some 9), (1, some 9), (5, none)]), (4, [(0, some 9), (1, some 9), (5, none), (14, none)]), (5, [(0, some 9), (1, some 9), (5, none)]), (6, [(0, some 9), (1, some 9), (5, none), (25, none)]), (7, [(4, none)]), (8, [(4, none)])],
  [(0, []), (1, [(0, some 9), (1, some 9), (5, none)])],
  [(10, ([], [(0, some 9), (1, some 9)])), (14, ([(0, some 9), (1, some 9), (5, none)], [])), (25, ([], [(0, some 9), (1, some 9), (5, none)]))]⟩
def L_eqStringS_cl (k : Nat) : Calls' D := ⟨[], []⟩
theorem L_eqStringS_ck (k : Nat) : CallsOK X (L_eqStringS_cl k) := .nil cod
def L_eqStringS_b0_L (x : (List (List UInt8)) × (List (List UInt8)) × Int × Unit) (o : Oc (Unit) (Bool)) (Q : Ex → VSt D → Prop) (R : VR D → Prop) : Prop := ocP o (fun v0 => Q .normal (mkSt ⟨[], []⟩ [])) (fun w0 => R (.p (.c (.bool w0))))
def L_eqStringS_b0_cut (k : Nat) : Cut D := cutS ⟨[(0, .hole), (1, .hole), (5, .hole)], []⟩ [.kl 9, .kl 9, .ki .i64] (fun (x : (List (List UInt8)) × (List (List UInt8)) × Int × Unit) => L_eqStringS_b0 k k x.1 x.2.1 x.2.2.1) L_eqStringS_b0_L
def L_eqStringS_b0_cu (k : Nat) : Cuts D := ⟨[], []⟩
theorem L_eqStringS_b0_ok (k : Nat) : CutFor X L_eqStringS_pl k Go.Proofs.Tryd.f39.results.toList (L_eqStringS_b0_cut k) (sub (bodyOf Go.Proofs.Tryd.f39) [1, 1, 0, 1]) :=
  loopCut_s (X := X) (sg := [.kl 9, .kl 9, .ki .i64]) (cu := L_eqStringS_b0_cu k) (cl := L_eqStringS_cl k) (tys := [[0]]) (id := 0) (c := sub (bodyOf Go.Proofs.Tryd.f39) [1, 1, 0, 1, 0, 0]) (f := fun n => fun (x : (List (List UInt8)) × (List (List UInt8)) × Int × Unit) => L_eqStringS_b0 k n x.1 x.2.1 x.2.2.1) (L_eqStringS_ck k) (cutOK_of (l := []) (by kernel_rfl) trivial) (fun _ => rfl) (fun n x Q R h => by
    simp only [L_eqStringS_b0, optK_bind, optK_bif, optK_pure, optK_none, optK_oc, optK_guardT, optK_map] at h
    refine hold_of h ?_
    kernel_rfl) (by kernel_rfl)
def L_eqStringS_cu (k : Nat) : Cuts D := ⟨[(0, some (L_eqStringS_b0_cut k))], []⟩
def L_eqStringS_ar : List Ar := [.c (.kl 9), .c (.kl 9)]
def L_eqStringS_f (k : Nat) (x : TupA D L_eqStringS_ar) : Option (Bool) := L_eqStringS k x.1 x.2.1
def L_eqStringS_vr (r : Bool) : VR D := .p (.c (.bool r))
theorem L_eqStringS_ok (k : Nat) : Does P X 39 L_eqStringS_ar (L_eqStringS_f k) L_eqStringS_vr :=
  does_of (body := bodyOf Go.Proofs.Tryd.f39) (pl := L_eqStringS_pl) (k := k) (cu := L_eqStringS_cu k) (tys := [[0]]) (L_eqStringS_ck k) ctx mixed Go.Proofs.Tryd.func39 (by kernel_rfl) (by kernel_rfl) (cutOK_of (l := [(L_eqStringS_b0_cut k, sub (bodyOf Go.Proofs.Tryd.f39) [1, 1, 0, 1])]) (by kernel_rfl) ⟨L_eqStringS_b0_ok k, trivial⟩) fun x R h => by
    simp only [L_eqStringS_f, L_eqStringS, optK_bind, optK_bif, optK_pure, optK_none, optK_oc, optK_guardT, optK_map] at h
    refine hold_of h ?_
    kernel_rfl
def L_eqStringS_en (k : Nat) : Entry D := entS L_eqStringS_ar (L_eqStringS_f k) L_eqStringS_vr
theorem L_eqStringS_eo (k : Nat) : EntryOK X 39 (L_eqStringS_en k) := (L_eqStringS_ok k).en rfl
def L_FnExactChooseName_pl : Plan := ⟨[(0, [(0, some 9), (1, none)]), (1, [(0, some 9), (1, none), (11, none)]), (2, [(4, none)]), (3, [(0, some 9), (1, none), (5, none)]), (4, [(0, some 9), (1, none), (5, none)]), (5, [(0, some 9), (1, none), (16, none)]), (6, [(4, none)]), (7, [(0, some 9), (1, none), (6, none)]), (8, [(0, some 9), (1, none), (6, none), (7, some 9)]), (9, [(0, some 9), (6, none), (7, some 9), (8, none)]), (10, [(0, some 9), (7, some 9), (28, none)]), (11, [(4, none)]), (12, [(33, none)]), (13, [(4, none)]), (14, [(4, none)])],
  [],
  [(11, ([], [(0, some 9), (1, none)])), (16, ([], [(0, some 9), (1, none)])), (28, ([], [(0, some 9), (7, some 9)])), (33, ([], []))]⟩
def L_FnExactChooseName_cl (k : Nat) : Calls' D := ⟨[(49, L_szStringS_en k), (51, L_toStringS_en k), (50, S_ChooseName_en k), (33, I_ChooseName_en k), (39, L_eqStringS_en k)], []⟩
theorem L_FnExactChooseName_ck (k : Nat) : CallsOK X (L_FnExactChooseName_cl k) := .cons (L_szStringS_eo k) (.cons (L_toStringS_eo k) (.cons (S_ChooseName_eo k) (.cons (I_ChooseName_eo k) (.cons (L_eqStringS_eo k) (.nil cod)))))
def L_FnExactChooseName_cu (k : Nat) : Cuts D := ⟨[], []⟩
def L_FnExactChooseName_ar : List Ar := [.c (.kl 9), .c (.ks)]
def L_FnExactChooseName_f (k : Nat) (x : TupA D L_FnExactChooseName_ar) : Option (Bool) := L_FnExactChooseName k x.1 x.2.1
def L_FnExactChooseName_vr (r : Bool) : VR D := .p (.c (.bool r))
theorem L_FnExactChooseName_ok (k : Nat) : Does P X 10 L_FnExactChooseName_ar (L_FnExactChooseName_f k) L_FnExactChooseName_vr :=
  does_of (body := bodyOf Go.Proofs.Tryd.f10) (pl := L_FnExactChooseName_pl) (k := k) (cu := L_FnExactChooseName_cu k) (tys := [[0]]) (L_FnExactChooseName_ck k) ctx mixed Go.Proofs.Tryd.func10 (by kernel_rfl) (by kernel_rfl) (cutOK_of (l := []) (by kernel_rfl) trivial) fun x R h => by
    simp only [L_FnExactChooseName_f, L_FnExactChooseName, optK_bind, optK_bif, optK_pure, optK_none, optK_oc, optK_guardT, optK_map] at h
    refine hold_of h ?_
    kernel_rfl
def L_FnExactChooseName_en (k : Nat) : Entry D := entS L_FnExactChooseName_ar (L_FnExactChooseName_f k) L_FnExactChooseName_vr
theorem L_FnExactChooseName_eo (k : Nat) : EntryOK X 10 (L_FnExactChooseName_en k) := (L_FnExactChooseName_ok k).en rfl

end
end Go.YtgdjicnefdnofaaDoor
