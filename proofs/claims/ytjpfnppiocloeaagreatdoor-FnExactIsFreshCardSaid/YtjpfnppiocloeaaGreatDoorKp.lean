/- The machine computes the functions. Nothing is claimed here. -/
import Derived.Test.YtjpfnppiocloeaaGreatDoorKf
import Derived.Test.YtjpfnppiocloeaaGreatDoorShelf
import Derived.Shelf.Strings.SlTrimAscii
set_option linter.unusedVariables false
set_option linter.unusedSimpArgs false
set_option maxRecDepth 100000
namespace Go.YtjpfnppiocloeaaGreatDoor
open Go Go.RowKit Go.Pv
noncomputable section

def z0 : Plan := ⟨[(0, [(1, none), (2, none)]), (1, [(1, none), (2, none)]), (2, [(1, none), (2, none), (11, none)]), (3, [(4, none)]), (4, [(1, none)]), (5, [(1, none), (18, none)]), (6, [(4, none)]), (7, [(4, none)])],
  [],
  [(11, ([], [(1, none), (2, none)])), (18, ([], [(1, none)]))]⟩
def z1 (k : Nat) : Calls' D := ⟨[], [], [], [], []⟩
theorem z2 (k : Nat) : CallsOK X (z1 k) := .nil cod
def z3 (k : Nat) : Cuts D := ⟨[], []⟩
def z4 : List Ar := [.a [.ks, .ks], .c (.ki .i64)]
def z5 (k : Nat) (x : TupA D z4) : Option (Int) := L_szField k (⟨x.1.1, x.1.2.1⟩ : LField) x.2.1
def z6 (r : Int) : VR D := .p (.c (.int .i64 r))
theorem z7 (k : Nat) : Does P X 73 z4 (z5 k) z6 :=
  does_of (body := bodyOf Go.Proofs.Tryz.f73) (pl := z0) (k := k) (cu := z3 k) (tys := [[0]]) (z2 k) ctx mixed Go.Proofs.Tryz.func73 (by kernel_rfl) (by kernel_rfl) (cutOK_of (l := []) (by kernel_rfl) trivial) fun x R h => by
    simp only [z5, L_szField, optK_bind, optK_bif, optK_pure, optK_none, optK_oc, optK_guardT, optK_map] at h
    refine hold_of h ?_
    kernel_rfl
def z8 (k : Nat) : Entry D := entS z4 (z5 k) z6
theorem z9 (k : Nat) : EntryOK X 73 (z8 k) := (z7 k).en rfl
def za : Plan := ⟨[(0, [(0, some 100), (1, none)]), (1, [(0, some 100), (1, none)]), (2, [(0, some 100), (1, none), (11, none)]), (3, [(4, none)]), (4, [(0, some 100), (1, none), (5, none)]), (5, [(0, some 100), (1, none), (5, none), (15, none)]), (6, [(0, some 100), (1, none), (5, none)]), (7, [(0, some 100), (1, none), (5, none)]), (8, [(0, some 100), (1, none), (5, none), (25, none)]), (9, [(4, none)]), (10, [(4, none)])],
  [(0, [(1, none)]), (1, [(0, some 100), (1, none), (5, none)])],
  [(11, ([], [(0, some 100), (1, none)])), (15, ([(0, some 100), (1, none), (5, none)], [(1, none)])), (25, ([], [(0, some 100), (1, none), (5, none)]))]⟩
def zb (k : Nat) : Calls' D := ⟨[(73, z8 k)], [], [], [], []⟩
theorem zc (k : Nat) : CallsOK X (zb k) := .cons (z9 k) (.nil cod)
def zd (x : (List LField) × Int × Int × Unit) (o : Oc (Int) (Int)) (Q : Ex → VSt D → Prop) (R : VR D → Prop) : Prop := ocP o (fun v0 => Q .normal (mkSt ⟨[(1, .hole)], []⟩ [.int .i64 v0])) (fun w0 => R (.p (.c (.int .i64 w0))))
def ze (k : Nat) : Cut D := cutS ⟨[(0, .hole), (1, .hole), (5, .hole)], []⟩ [.kl 100, .ki .i64, .ki .i64] (fun (x : (List LField) × Int × Int × Unit) => L_szFieldS_b0 k k x.1 x.2.1 x.2.2.1) zd
def zf (k : Nat) : Cuts D := ⟨[], []⟩
theorem zg (k : Nat) : CutFor X za k Go.Proofs.Tryz.f33.results.toList (ze k) (sub (bodyOf Go.Proofs.Tryz.f33) [1, 1, 1, 0, 1]) :=
  loopCut_s (X := X) (sg := [.kl 100, .ki .i64, .ki .i64]) (cu := zf k) (cl := zb k) (tys := [[0]]) (id := 0) (c := sub (bodyOf Go.Proofs.Tryz.f33) [1, 1, 1, 0, 1, 0, 0]) (f := fun n => fun (x : (List LField) × Int × Int × Unit) => L_szFieldS_b0 k n x.1 x.2.1 x.2.2.1) (zc k) (cutOK_of (l := []) (by kernel_rfl) trivial) (fun _ => rfl) (fun n x Q R h => by
    simp only [L_szFieldS_b0, optK_bind, optK_bif, optK_pure, optK_none, optK_oc, optK_guardT, optK_map] at h
    refine hold_of h ?_
    kernel_rfl) (by kernel_rfl)
def zh (k : Nat) : Cuts D := ⟨[(0, some (ze k))], []⟩
def zi : List Ar := [.c (.kl 100), .c (.ki .i64)]
def zj (k : Nat) (x : TupA D zi) : Option (Int) := L_szFieldS k x.1 x.2.1
def zk (r : Int) : VR D := .p (.c (.int .i64 r))
theorem zl (k : Nat) : Does P X 33 zi (zj k) zk :=
  does_of (body := bodyOf Go.Proofs.Tryz.f33) (pl := za) (k := k) (cu := zh k) (tys := [[0]]) (zc k) ctx mixed Go.Proofs.Tryz.func33 (by kernel_rfl) (by kernel_rfl) (cutOK_of (l := [(ze k, sub (bodyOf Go.Proofs.Tryz.f33) [1, 1, 1, 0, 1])]) (by kernel_rfl) ⟨zg k, trivial⟩) fun x R h => by
    simp only [zj, L_szFieldS, optK_bind, optK_bif, optK_pure, optK_none, optK_oc, optK_guardT, optK_map] at h
    refine hold_of h ?_
    kernel_rfl
def zm (k : Nat) : Entry D := entS zi (zj k) zk
theorem zn (k : Nat) : EntryOK X 33 (zm k) := (zl k).en rfl
def zo : Plan := ⟨[(0, [(1, none), (2, none)]), (1, [(1, none), (2, none)]), (2, [(1, none), (2, none), (10, none)]), (3, [(4, none)]), (4, [(1, none)]), (5, [(1, none), (17, none)]), (6, [(4, none)]), (7, [(4, none)])],
  [],
  [(10, ([], [(1, none), (2, none)])), (17, ([], [(1, none)]))]⟩
def zp (k : Nat) : Calls' D := ⟨[(33, zm k)], [], [], [], []⟩
theorem zq (k : Nat) : CallsOK X (zp k) := .cons (zn k) (.nil cod)
def zr (k : Nat) : Cuts D := ⟨[], []⟩
def zs : List Ar := [.a [.ki .i64, .kl 100, .ks], .c (.ki .i64)]
def zt (k : Nat) (x : TupA D zs) : Option (Int) := L_szResponse k (⟨x.1.1, x.1.2.1, x.1.2.2.1⟩ : LResponse) x.2.1
def zu (r : Int) : VR D := .p (.c (.int .i64 r))
theorem zv (k : Nat) : Does P X 20 zs (zt k) zu :=
  does_of (body := bodyOf Go.Proofs.Tryz.f20) (pl := zo) (k := k) (cu := zr k) (tys := [[0]]) (zq k) ctx mixed Go.Proofs.Tryz.func20 (by kernel_rfl) (by kernel_rfl) (cutOK_of (l := []) (by kernel_rfl) trivial) fun x R h => by
    simp only [zt, L_szResponse, optK_bind, optK_bif, optK_pure, optK_none, optK_oc, optK_guardT, optK_map] at h
    refine hold_of h ?_
    kernel_rfl
def zw (k : Nat) : Entry D := entS zs (zt k) zu
theorem zx (k : Nat) : EntryOK X 20 (zw k) := (zv k).en rfl
def zy : Plan := ⟨[(0, [(1, none), (2, none)]), (1, [(1, none), (2, none), (3, none)]), (2, [(1, none), (2, none), (3, none)]), (3, [(2, none), (3, none)]), (4, [(2, none)])],
  [],
  []⟩
def zz (k : Nat) : Calls' D := ⟨[], [], [], [], []⟩
theorem z10 (k : Nat) : CallsOK X (zz k) := .nil cod
def z11 (k : Nat) : Cuts D := ⟨[], []⟩
def z12 : List Ar := [.a [.ks, .ks]]
def z13 (k : Nat) (x : TupA D z12) : Option (IField) := L_toField k (⟨x.1.1, x.1.2.1⟩ : LField)
def z14 (r : IField) : VR D := .p (.agg [.str r.Name, .str r.Value])
theorem z15 (k : Nat) : Does P X 81 z12 (z13 k) z14 :=
  does_of (body := bodyOf Go.Proofs.Tryz.f81) (pl := zy) (k := k) (cu := z11 k) (tys := [[0, 0]]) (z10 k) ctx mixed Go.Proofs.Tryz.func81 (by kernel_rfl) (by kernel_rfl) (cutOK_of (l := []) (by kernel_rfl) trivial) fun x R h => by
    simp only [z13, L_toField, optK_bind, optK_bif, optK_pure, optK_none, optK_oc, optK_guardT, optK_map] at h
    refine hold_of h ?_
    kernel_rfl
def z16 (k : Nat) : Entry D := entS z12 (z13 k) z14
theorem z17 (k : Nat) : EntryOK X 81 (z16 k) := (z15 k).en rfl
def z18 : Plan := ⟨[(0, [(0, some 100)]), (1, [(0, some 100), (3, some 107)]), (2, [(0, some 100), (3, some 107), (4, none)]), (3, [(0, some 100), (3, some 107), (4, none), (11, none)]), (4, [(0, some 100), (3, some 107), (4, none)]), (5, [(0, some 100), (3, some 107), (4, none)]), (6, [(2, some 107)])],
  [(0, [(3, some 107)]), (1, [(0, some 100), (3, some 107), (4, none)])],
  [(11, ([(0, some 100), (3, some 107), (4, none)], [(3, some 107)]))]⟩
def z19 (k : Nat) : Calls' D := ⟨[(81, z16 k)], [], [], [], []⟩
theorem z1a (k : Nat) : CallsOK X (z19 k) := .cons (z17 k) (.nil cod)
def z1b (x : (List LField) × Int × (List IField) × Unit) (o : (List IField)) (Q : Ex → VSt D → Prop) (R : VR D → Prop) : Prop := Q .normal (mkSt ⟨[(3, .ref 500003)], [(500003, .row)]⟩ [.sl 107 o])
def z1c (k : Nat) : Cut D := cutS ⟨[(0, .hole), (3, .ref 500003), (4, .hole)], [(500003, .row)]⟩ [.kl 100, .ki .i64, .kl 107] (fun (x : (List LField) × Int × (List IField) × Unit) => L_toFieldS_b0 k k x.1 x.2.1 x.2.2.1) z1b
def z1d (k : Nat) : Cuts D := ⟨[], []⟩
theorem z1e (k : Nat) : CutFor X z18 k Go.Proofs.Tryz.f36.results.toList (z1c k) (sub (bodyOf Go.Proofs.Tryz.f36) [1, 1, 0, 1]) :=
  loopCut_s (X := X) (sg := [.kl 100, .ki .i64, .kl 107]) (cu := z1d k) (cl := z19 k) (tys := [[107]]) (id := 0) (c := sub (bodyOf Go.Proofs.Tryz.f36) [1, 1, 0, 1, 0, 0]) (f := fun n => fun (x : (List LField) × Int × (List IField) × Unit) => L_toFieldS_b0 k n x.1 x.2.1 x.2.2.1) (z1a k) (cutOK_of (l := []) (by kernel_rfl) trivial) (fun _ => rfl) (fun n x Q R h => by
    simp only [L_toFieldS_b0, optK_bind, optK_bif, optK_pure, optK_none, optK_oc, optK_guardT, optK_map] at h
    refine hold_of h ?_
    kernel_rfl) (by kernel_rfl)
def z1f (k : Nat) : Cuts D := ⟨[(0, some (z1c k))], []⟩
def z1g : List Ar := [.c (.kl 100)]
def z1h (k : Nat) (x : TupA D z1g) : Option ((List IField)) := L_toFieldS k x.1
def z1i (r : (List IField)) : VR D := .p (.c (.sl 107 r))
theorem z1j (k : Nat) : Does P X 36 z1g (z1h k) z1i :=
  does_of (body := bodyOf Go.Proofs.Tryz.f36) (pl := z18) (k := k) (cu := z1f k) (tys := [[107]]) (z1a k) ctx mixed Go.Proofs.Tryz.func36 (by kernel_rfl) (by kernel_rfl) (cutOK_of (l := [(z1c k, sub (bodyOf Go.Proofs.Tryz.f36) [1, 1, 0, 1])]) (by kernel_rfl) ⟨z1e k, trivial⟩) fun x R h => by
    simp only [z1h, L_toFieldS, optK_bind, optK_bif, optK_pure, optK_none, optK_oc, optK_guardT, optK_map] at h
    refine hold_of h ?_
    kernel_rfl
def z1k (k : Nat) : Entry D := entS z1g (z1h k) z1i
theorem z1l (k : Nat) : EntryOK X 36 (z1k k) := (z1j k).en rfl
def z1m : Plan := ⟨[(0, [(1, none), (2, none)]), (1, [(1, none), (2, none), (3, none)]), (2, [(1, none), (2, none), (3, none)]), (3, [(1, none), (2, none), (3, none)]), (4, [(2, none), (3, none)]), (5, [(2, none)])],
  [],
  []⟩
def z1n (k : Nat) : Calls' D := ⟨[(36, z1k k)], [], [], [], []⟩
theorem z1o (k : Nat) : CallsOK X (z1n k) := .cons (z1l k) (.nil cod)
def z1p (k : Nat) : Cuts D := ⟨[], []⟩
def z1q : List Ar := [.a [.ki .i64, .kl 100, .ks]]
def z1r (k : Nat) (x : TupA D z1q) : Option (IResponse) := L_toResponse k (⟨x.1.1, x.1.2.1, x.1.2.2.1⟩ : LResponse)
def z1s (r : IResponse) : VR D := .p (.agg [.int .i64 r.Code, .sl 107 r.Fields, .str r.Body])
theorem z1t (k : Nat) : Does P X 22 z1q (z1r k) z1s :=
  does_of (body := bodyOf Go.Proofs.Tryz.f22) (pl := z1m) (k := k) (cu := z1p k) (tys := [[0, 107, 0]]) (z1o k) ctx mixed Go.Proofs.Tryz.func22 (by kernel_rfl) (by kernel_rfl) (cutOK_of (l := []) (by kernel_rfl) trivial) fun x R h => by
    simp only [z1r, L_toResponse, optK_bind, optK_bif, optK_pure, optK_none, optK_oc, optK_guardT, optK_map] at h
    refine hold_of h ?_
    kernel_rfl
def z1u (k : Nat) : Entry D := entS z1q (z1r k) z1s
theorem z1v (k : Nat) : EntryOK X 22 (z1u k) := (z1t k).en rfl
def z1w : Plan := ⟨[(0, [(0, some 9)]), (1, [(0, some 9), (3, none)]), (2, [(0, some 9), (3, none), (4, none)]), (3, [(0, some 9), (3, none), (4, none), (8, none)]), (4, [(0, some 9), (3, none), (4, none)]), (5, [(0, some 9), (3, none), (4, none), (12, none)]), (6, [(0, some 9), (3, none), (4, none)]), (7, [(0, some 9), (3, none), (4, none)]), (8, [(2, none)])],
  [(0, [(3, none)]), (1, [(0, some 9), (3, none), (4, none)])],
  [(8, ([(0, some 9), (3, none), (4, none)], [(3, none)])), (12, ([(0, some 9), (3, none), (4, none)], [(0, some 9), (3, none), (4, none)]))]⟩
def z1x (k : Nat) : Calls' D := ⟨[], [], [], [], []⟩
theorem z1y (k : Nat) : CallsOK X (z1x k) := .nil cod
def z1z (x : (List (List UInt8)) × (List UInt8) × Int × Bool × Unit) (o : (List UInt8)) (Q : Ex → VSt D → Prop) (R : VR D → Prop) : Prop := Q .normal (mkSt ⟨[(0, .hole), (3, .hole), (4, .hole)], []⟩ [.sl 9 x.1, .str o, .int .i64 x.2.2.1])
def z20 (k : Nat) : Cut D := cutS ⟨[(0, .hole), (3, .hole), (4, .hole), (12, .hole)], []⟩ [.kl 9, .ks, .ki .i64, .kb] (fun (x : (List (List UInt8)) × (List UInt8) × Int × Bool × Unit) => S_JoinList_c12 k x.1 x.2.1 x.2.2.1 x.2.2.2.1) z1z
def z21 (k : Nat) : Cuts D := ⟨[], []⟩
theorem z22 (k : Nat) : CutFor X z1w k Go.Proofs.Tryz.f117.results.toList (z20 k) (sub (bodyOf Go.Proofs.Tryz.f117) [1, 1, 0, 1, 0, 0, 1, 0, 0, 0, 1]) :=
  joinCut_s (X := X) (sg := [.kl 9, .ks, .ki .i64, .kb]) (cu := z21 k) (cl := z1x k) (tys := [[0]]) (z1y k) (cutOK_of (l := []) (by kernel_rfl) trivial) fun x Q R h => by
    simp only [S_JoinList_c12, optK_bind, optK_bif, optK_pure, optK_none, optK_oc, optK_guardT, optK_map] at h
    refine hold_of h ?_
    kernel_rfl
def z23 (x : (List (List UInt8)) × (List UInt8) × Int × Unit) (o : (List UInt8)) (Q : Ex → VSt D → Prop) (R : VR D → Prop) : Prop := Q .normal (mkSt ⟨[(0, .hole), (3, .hole), (4, .hole)], []⟩ [.sl 9 x.1, .str o, .int .i64 x.2.2.1])
def z24 (k : Nat) : Cut D := cutS ⟨[(0, .hole), (3, .hole), (4, .hole)], []⟩ [.kl 9, .ks, .ki .i64] (fun (x : (List (List UInt8)) × (List UInt8) × Int × Unit) => S_JoinList_b1 k x.1 x.2.1 x.2.2.1) z23
def z25 (k : Nat) : Cuts D := ⟨[], [(12, some (z20 k))]⟩
theorem z26 (k : Nat) : CutFor X z1w k Go.Proofs.Tryz.f117.results.toList (z24 k) (sub (bodyOf Go.Proofs.Tryz.f117) [1, 1, 0, 1, 0, 0, 1, 0]) :=
  joinCut_s (X := X) (sg := [.kl 9, .ks, .ki .i64]) (cu := z25 k) (cl := z1x k) (tys := [[0]]) (z1y k) (cutOK_of (l := [(z20 k, sub (bodyOf Go.Proofs.Tryz.f117) [1, 1, 0, 1, 0, 0, 1, 0, 0, 0, 1])]) (by kernel_rfl) ⟨z22 k, trivial⟩) fun x Q R h => by
    simp only [S_JoinList_b1, optK_bind, optK_bif, optK_pure, optK_none, optK_oc, optK_guardT, optK_map] at h
    refine hold_of h ?_
    kernel_rfl
def z27 (x : (List (List UInt8)) × (List UInt8) × Int × Unit) (o : (List UInt8)) (Q : Ex → VSt D → Prop) (R : VR D → Prop) : Prop := Q .normal (mkSt ⟨[(3, .hole)], []⟩ [.str o])
def z28 (k : Nat) : Cut D := cutS ⟨[(0, .hole), (3, .hole), (4, .hole)], []⟩ [.kl 9, .ks, .ki .i64] (fun (x : (List (List UInt8)) × (List UInt8) × Int × Unit) => S_JoinList_b0 k k x.1 x.2.1 x.2.2.1) z27
def z29 (k : Nat) : Cuts D := ⟨[(1, some (z24 k))], []⟩
theorem z2a (k : Nat) : CutFor X z1w k Go.Proofs.Tryz.f117.results.toList (z28 k) (sub (bodyOf Go.Proofs.Tryz.f117) [1, 1, 0, 1]) :=
  loopCut_s (X := X) (sg := [.kl 9, .ks, .ki .i64]) (cu := z29 k) (cl := z1x k) (tys := [[0]]) (id := 0) (c := sub (bodyOf Go.Proofs.Tryz.f117) [1, 1, 0, 1, 0, 0]) (f := fun n => fun (x : (List (List UInt8)) × (List UInt8) × Int × Unit) => S_JoinList_b0 k n x.1 x.2.1 x.2.2.1) (z1y k) (cutOK_of (l := [(z24 k, sub (bodyOf Go.Proofs.Tryz.f117) [1, 1, 0, 1, 0, 0, 1, 0])]) (by kernel_rfl) ⟨z26 k, trivial⟩) (fun _ => rfl) (fun n x Q R h => by
    simp only [S_JoinList_b0, optK_bind, optK_bif, optK_pure, optK_none, optK_oc, optK_guardT, optK_map] at h
    refine hold_of h ?_
    kernel_rfl) (by kernel_rfl)
def z2b (k : Nat) : Cuts D := ⟨[(0, some (z28 k))], []⟩
def z2c : List Ar := [.c (.kl 9)]
def z2d (k : Nat) (x : TupA D z2c) : Option ((List UInt8)) := S_JoinList k x.1
def z2e (r : (List UInt8)) : VR D := .p (.c (.str r))
theorem z2f (k : Nat) : Does P X 117 z2c (z2d k) z2e :=
  does_of (body := bodyOf Go.Proofs.Tryz.f117) (pl := z1w) (k := k) (cu := z2b k) (tys := [[0]]) (z1y k) ctx mixed Go.Proofs.Tryz.func117 (by kernel_rfl) (by kernel_rfl) (cutOK_of (l := [(z28 k, sub (bodyOf Go.Proofs.Tryz.f117) [1, 1, 0, 1])]) (by kernel_rfl) ⟨z2a k, trivial⟩) fun x R h => by
    simp only [z2d, S_JoinList, optK_bind, optK_bif, optK_pure, optK_none, optK_oc, optK_guardT, optK_map] at h
    refine hold_of h ?_
    kernel_rfl
def z2g (k : Nat) : Entry D := entS z2c (z2d k) z2e
theorem z2h (k : Nat) : EntryOK X 117 (z2g k) := (z2f k).en rfl
def z2i : Plan := ⟨[(0, [(0, some 107), (1, none)]), (1, [(0, some 107), (1, none), (6, some 9)]), (2, [(0, some 107), (1, none), (6, some 9), (7, none)]), (3, [(0, some 107), (1, none), (6, some 9), (7, none), (12, none)]), (4, [(0, some 107), (1, none), (6, some 9), (7, none)]), (5, [(0, some 107), (1, none), (6, some 9), (7, none), (21, none)]), (6, [(0, some 107), (1, none), (6, some 9), (7, none)]), (7, [(4, none), (5, none)])],
  [(0, [(6, some 9)]), (1, [(0, some 107), (1, none), (6, some 9), (7, none)])],
  [(12, ([(0, some 107), (1, none), (6, some 9), (7, none)], [(6, some 9)])), (21, ([(0, some 107), (1, none), (6, some 9), (7, none)], [(0, some 107), (1, none), (6, some 9), (7, none)]))]⟩
def z2j (k : Nat) : Calls' D := ⟨[(117, z2g k)], [], [], [], []⟩
theorem z2k (k : Nat) : CallsOK X (z2j k) := .cons (z2h k) (.nil cod)
def z2l (x : (List IField) × (List UInt8) × Int × Bool × (List (List UInt8)) × Unit) (o : (List (List UInt8))) (Q : Ex → VSt D → Prop) (R : VR D → Prop) : Prop := Q .normal (mkSt ⟨[(0, .hole), (1, .hole), (6, .ref 500006), (7, .hole)], [(500006, .row)]⟩ [.sl 107 x.1, .str x.2.1, .int .i64 x.2.2.1, .sl 9 o])
def z2m (k : Nat) : Cut D := cutS ⟨[(0, .hole), (1, .hole), (6, .ref 500006), (7, .hole), (21, .hole)], [(500006, .row)]⟩ [.kl 107, .ks, .ki .i64, .kb, .kl 9] (fun (x : (List IField) × (List UInt8) × Int × Bool × (List (List UInt8)) × Unit) => S_GetField_c21 k x.1 x.2.1 x.2.2.1 x.2.2.2.1 x.2.2.2.2.1) z2l
def z2n (k : Nat) : Cuts D := ⟨[], []⟩
theorem z2o (k : Nat) : CutFor X z2i k Go.Proofs.Tryz.f54.results.toList (z2m k) (sub (bodyOf Go.Proofs.Tryz.f54) [1, 1, 0, 1, 0, 0, 1, 0, 0, 1]) :=
  joinCut_s (X := X) (sg := [.kl 107, .ks, .ki .i64, .kb, .kl 9]) (cu := z2n k) (cl := z2j k) (tys := [[0], [0]]) (z2k k) (cutOK_of (l := []) (by kernel_rfl) trivial) fun x Q R h => by
    simp only [S_GetField_c21, optK_bind, optK_bif, optK_pure, optK_none, optK_oc, optK_guardT, optK_map] at h
    refine hold_of h ?_
    kernel_rfl
def z2p (x : (List IField) × (List UInt8) × Int × (List (List UInt8)) × Unit) (o : (List (List UInt8))) (Q : Ex → VSt D → Prop) (R : VR D → Prop) : Prop := Q .normal (mkSt ⟨[(0, .hole), (1, .hole), (6, .ref 500006), (7, .hole)], [(500006, .row)]⟩ [.sl 107 x.1, .str x.2.1, .int .i64 x.2.2.1, .sl 9 o])
def z2q (k : Nat) : Cut D := cutS ⟨[(0, .hole), (1, .hole), (6, .ref 500006), (7, .hole)], [(500006, .row)]⟩ [.kl 107, .ks, .ki .i64, .kl 9] (fun (x : (List IField) × (List UInt8) × Int × (List (List UInt8)) × Unit) => S_GetField_b1 k x.1 x.2.1 x.2.2.1 x.2.2.2.1) z2p
def z2r (k : Nat) : Cuts D := ⟨[], [(21, some (z2m k))]⟩
theorem z2s (k : Nat) : CutFor X z2i k Go.Proofs.Tryz.f54.results.toList (z2q k) (sub (bodyOf Go.Proofs.Tryz.f54) [1, 1, 0, 1, 0, 0, 1, 0]) :=
  joinCut_s (X := X) (sg := [.kl 107, .ks, .ki .i64, .kl 9]) (cu := z2r k) (cl := z2j k) (tys := [[0], [0]]) (z2k k) (cutOK_of (l := [(z2m k, sub (bodyOf Go.Proofs.Tryz.f54) [1, 1, 0, 1, 0, 0, 1, 0, 0, 1])]) (by kernel_rfl) ⟨z2o k, trivial⟩) fun x Q R h => by
    simp only [S_GetField_b1, optK_bind, optK_bif, optK_pure, optK_none, optK_oc, optK_guardT, optK_map] at h
    refine hold_of h ?_
    kernel_rfl
def z2t (x : (List IField) × (List UInt8) × Int × (List (List UInt8)) × Unit) (o : (List (List UInt8))) (Q : Ex → VSt D → Prop) (R : VR D → Prop) : Prop := Q .normal (mkSt ⟨[(6, .ref 500006)], [(500006, .row)]⟩ [.sl 9 o])
def z2u (k : Nat) : Cut D := cutS ⟨[(0, .hole), (1, .hole), (6, .ref 500006), (7, .hole)], [(500006, .row)]⟩ [.kl 107, .ks, .ki .i64, .kl 9] (fun (x : (List IField) × (List UInt8) × Int × (List (List UInt8)) × Unit) => S_GetField_b0 k k x.1 x.2.1 x.2.2.1 x.2.2.2.1) z2t
def z2v (k : Nat) : Cuts D := ⟨[(1, some (z2q k))], []⟩
theorem z2w (k : Nat) : CutFor X z2i k Go.Proofs.Tryz.f54.results.toList (z2u k) (sub (bodyOf Go.Proofs.Tryz.f54) [1, 1, 0, 1]) :=
  loopCut_s (X := X) (sg := [.kl 107, .ks, .ki .i64, .kl 9]) (cu := z2v k) (cl := z2j k) (tys := [[0], [0]]) (id := 0) (c := sub (bodyOf Go.Proofs.Tryz.f54) [1, 1, 0, 1, 0, 0]) (f := fun n => fun (x : (List IField) × (List UInt8) × Int × (List (List UInt8)) × Unit) => S_GetField_b0 k n x.1 x.2.1 x.2.2.1 x.2.2.2.1) (z2k k) (cutOK_of (l := [(z2q k, sub (bodyOf Go.Proofs.Tryz.f54) [1, 1, 0, 1, 0, 0, 1, 0])]) (by kernel_rfl) ⟨z2s k, trivial⟩) (fun _ => rfl) (fun n x Q R h => by
    simp only [S_GetField_b0, optK_bind, optK_bif, optK_pure, optK_none, optK_oc, optK_guardT, optK_map] at h
    refine hold_of h ?_
    kernel_rfl) (by kernel_rfl)
def z2x (k : Nat) : Cuts D := ⟨[(0, some (z2u k))], []⟩
def z2y : List Ar := [.c (.kl 107), .c (.ks)]
def z2z (k : Nat) (x : TupA D z2y) : Option ((List UInt8) × Bool) := S_GetField k x.1 x.2.1
def z30 (r : (List UInt8) × Bool) : VR D := .tup [.c (.str r.1), .c (.bool r.2)]
theorem z31 (k : Nat) : Does P X 54 z2y (z2z k) z30 :=
  does_of (body := bodyOf Go.Proofs.Tryz.f54) (pl := z2i) (k := k) (cu := z2x k) (tys := [[0], [0]]) (z2k k) ctx mixed Go.Proofs.Tryz.func54 (by kernel_rfl) (by kernel_rfl) (cutOK_of (l := [(z2u k, sub (bodyOf Go.Proofs.Tryz.f54) [1, 1, 0, 1])]) (by kernel_rfl) ⟨z2w k, trivial⟩) fun x R h => by
    simp only [z2z, S_GetField, optK_bind, optK_bif, optK_pure, optK_none, optK_oc, optK_guardT, optK_map] at h
    refine hold_of h ?_
    kernel_rfl
def z32 (k : Nat) : Entry D := entS z2y (z2z k) z30
theorem z33 (k : Nat) : EntryOK X 54 (z32 k) := (z31 k).en rfl
def z34 : Plan := ⟨[(0, [(0, some 107), (1, none)]), (1, [(5, none)]), (2, [(4, none)])],
  [],
  []⟩
def z35 (k : Nat) : Calls' D := ⟨[(54, z32 k)], [], [], [], []⟩
theorem z36 (k : Nat) : CallsOK X (z35 k) := .cons (z33 k) (.nil cod)
def z37 (k : Nat) : Cuts D := ⟨[], []⟩
def z38 : List Ar := [.c (.kl 107), .c (.ks)]
def z39 (k : Nat) (x : TupA D z38) : Option ((List UInt8)) := S_l5Get k x.1 x.2.1
def z3a (r : (List UInt8)) : VR D := .p (.c (.str r))
theorem z3b (k : Nat) : Does P X 50 z38 (z39 k) z3a :=
  does_of (body := bodyOf Go.Proofs.Tryz.f50) (pl := z34) (k := k) (cu := z37 k) (tys := [[0]]) (z36 k) ctx mixed Go.Proofs.Tryz.func50 (by kernel_rfl) (by kernel_rfl) (cutOK_of (l := []) (by kernel_rfl) trivial) fun x R h => by
    simp only [z39, S_l5Get, optK_bind, optK_bif, optK_pure, optK_none, optK_oc, optK_guardT, optK_map] at h
    refine hold_of h ?_
    kernel_rfl
def z3c (k : Nat) : Entry D := entS z38 (z39 k) z3a
theorem z3d (k : Nat) : EntryOK X 50 (z3c k) := (z3b k).en rfl
def z3e : Plan := ⟨[(0, [(0, none), (1, none)]), (1, [(0, none), (1, none), (5, some 9)]), (2, [(0, none), (1, none), (5, some 9), (6, none)]), (3, [(0, none), (1, none), (5, some 9), (6, none), (7, none)]), (4, [(0, none), (1, none), (5, some 9), (6, none), (7, none), (8, none)]), (5, [(0, none), (1, none), (5, some 9), (6, none), (7, none), (8, none), (13, none)]), (6, [(0, none), (1, none), (5, some 9), (6, none), (7, none), (8, none)]), (7, [(0, none), (1, none), (5, some 9), (6, none), (7, none), (8, none), (16, none)]), (8, [(0, none), (1, none), (5, some 9), (6, none), (7, none), (8, none)]), (9, [(0, none), (1, none), (5, some 9), (6, none), (7, none), (8, none), (26, none)]), (10, [(0, none), (1, none), (5, some 9), (6, none), (7, none), (8, none)]), (11, [(0, none), (1, none), (5, some 9), (6, none), (7, none), (8, none), (33, none)]), (12, [(0, none), (1, none), (5, some 9), (7, none), (8, none)]), (13, [(0, none), (1, none), (5, some 9), (6, none), (7, none), (8, none)]), (14, [(4, some 9)])],
  [(0, [(0, none), (5, some 9), (6, none)]), (1, [(0, none), (1, none), (5, some 9), (6, none), (7, none), (8, none)]), (2, [(0, none), (1, none), (5, some 9), (6, none), (7, none), (8, none)])],
  [(13, ([(0, none), (1, none), (5, some 9), (6, none), (7, none), (8, none)], [(0, none), (5, some 9), (6, none)])), (16, ([(0, none), (1, none), (5, some 9), (6, none), (7, none), (8, none)], [(0, none), (1, none), (5, some 9), (6, none), (7, none), (8, none)])), (26, ([(0, none), (1, none), (5, some 9), (6, none), (7, none), (8, none)], [(0, none), (1, none), (5, some 9), (6, none), (7, none), (8, none)])), (33, ([(0, none), (1, none), (5, some 9), (6, none), (7, none), (8, none)], [(0, none), (1, none), (5, some 9), (6, none), (7, none), (8, none)]))]⟩
def z3f (k : Nat) : Calls' D := ⟨[], [], [], [], []⟩
theorem z3g (k : Nat) : CallsOK X (z3f k) := .nil cod
def z3h (x : (List UInt8) × Int × Int × Bool × Int × Bool × (List (List UInt8)) × Unit) (o : Int × (List (List UInt8))) (Q : Ex → VSt D → Prop) (R : VR D → Prop) : Prop := Q .normal (mkSt ⟨[(0, .hole), (1, .hole), (5, .ref 500005), (6, .hole), (7, .hole), (8, .hole)], [(500005, .row)]⟩ [.str x.1, .int .u8 x.2.1, .int .i64 o.1, .bool x.2.2.2.1, .int .i64 x.2.2.2.2.1, .sl 9 o.2])
def z3i (k : Nat) : Cut D := cutS ⟨[(0, .hole), (1, .hole), (5, .ref 500005), (6, .hole), (7, .hole), (8, .hole), (33, .hole)], [(500005, .row)]⟩ [.ks, .ki .u8, .ki .i64, .kb, .ki .i64, .kb, .kl 9] (fun (x : (List UInt8) × Int × Int × Bool × Int × Bool × (List (List UInt8)) × Unit) => S_l4Cut_c33 k x.1 x.2.1 x.2.2.1 x.2.2.2.1 x.2.2.2.2.1 x.2.2.2.2.2.1 x.2.2.2.2.2.2.1) z3h
def z3j (k : Nat) : Cuts D := ⟨[], []⟩
theorem z3k (k : Nat) : CutFor X z3e k Go.Proofs.Tryz.f238.results.toList (z3i k) (sub (bodyOf Go.Proofs.Tryz.f238) [1, 1, 1, 1, 0, 1, 0, 0, 1, 0, 0, 0, 1, 1, 1, 1, 1]) :=
  joinCut_s (X := X) (sg := [.ks, .ki .u8, .ki .i64, .kb, .ki .i64, .kb, .kl 9]) (cu := z3j k) (cl := z3f k) (tys := [[9]]) (z3g k) (cutOK_of (l := []) (by kernel_rfl) trivial) fun x Q R h => by
    simp only [S_l4Cut_c33, optK_bind, optK_bif, optK_pure, optK_none, optK_oc, optK_guardT, optK_map] at h
    refine hold_of h ?_
    kernel_rfl
def z3l (x : (List UInt8) × Int × Int × Bool × Int × Bool × (List (List UInt8)) × Unit) (o : Int × Bool × (List (List UInt8))) (Q : Ex → VSt D → Prop) (R : VR D → Prop) : Prop := Q .normal (mkSt ⟨[(0, .hole), (1, .hole), (5, .ref 500005), (6, .hole), (7, .hole), (8, .hole)], [(500005, .row)]⟩ [.str x.1, .int .u8 x.2.1, .int .i64 o.1, .bool o.2.1, .int .i64 x.2.2.2.2.1, .sl 9 o.2.2])
def z3m (k : Nat) : Cut D := cutS ⟨[(0, .hole), (1, .hole), (5, .ref 500005), (6, .hole), (7, .hole), (8, .hole), (26, .hole)], [(500005, .row)]⟩ [.ks, .ki .u8, .ki .i64, .kb, .ki .i64, .kb, .kl 9] (fun (x : (List UInt8) × Int × Int × Bool × Int × Bool × (List (List UInt8)) × Unit) => S_l4Cut_c26 k x.1 x.2.1 x.2.2.1 x.2.2.2.1 x.2.2.2.2.1 x.2.2.2.2.2.1 x.2.2.2.2.2.2.1) z3l
def z3n (k : Nat) : Cuts D := ⟨[], [(33, some (z3i k))]⟩
theorem z3o (k : Nat) : CutFor X z3e k Go.Proofs.Tryz.f238.results.toList (z3m k) (sub (bodyOf Go.Proofs.Tryz.f238) [1, 1, 1, 1, 0, 1, 0, 0, 1, 0, 0, 0, 1, 1, 1]) :=
  joinCut_s (X := X) (sg := [.ks, .ki .u8, .ki .i64, .kb, .ki .i64, .kb, .kl 9]) (cu := z3n k) (cl := z3f k) (tys := [[9]]) (z3g k) (cutOK_of (l := [(z3i k, sub (bodyOf Go.Proofs.Tryz.f238) [1, 1, 1, 1, 0, 1, 0, 0, 1, 0, 0, 0, 1, 1, 1, 1, 1])]) (by kernel_rfl) ⟨z3k k, trivial⟩) fun x Q R h => by
    simp only [S_l4Cut_c26, optK_bind, optK_bif, optK_pure, optK_none, optK_oc, optK_guardT, optK_map] at h
    refine hold_of h ?_
    kernel_rfl
def z3p (x : (List UInt8) × Int × Int × Bool × Int × Bool × (List (List UInt8)) × Unit) (o : Int × Bool × Int × (List (List UInt8))) (Q : Ex → VSt D → Prop) (R : VR D → Prop) : Prop := Q .normal (mkSt ⟨[(0, .hole), (1, .hole), (5, .ref 500005), (6, .hole), (7, .hole), (8, .hole)], [(500005, .row)]⟩ [.str x.1, .int .u8 x.2.1, .int .i64 o.1, .bool o.2.1, .int .i64 o.2.2.1, .sl 9 o.2.2.2])
def z3q (k : Nat) : Cut D := cutS ⟨[(0, .hole), (1, .hole), (5, .ref 500005), (6, .hole), (7, .hole), (8, .hole), (16, .hole)], [(500005, .row)]⟩ [.ks, .ki .u8, .ki .i64, .kb, .ki .i64, .kb, .kl 9] (fun (x : (List UInt8) × Int × Int × Bool × Int × Bool × (List (List UInt8)) × Unit) => S_l4Cut_c16 k x.1 x.2.1 x.2.2.1 x.2.2.2.1 x.2.2.2.2.1 x.2.2.2.2.2.1 x.2.2.2.2.2.2.1) z3p
def z3r (k : Nat) : Cuts D := ⟨[], [(26, some (z3m k))]⟩
theorem z3s (k : Nat) : CutFor X z3e k Go.Proofs.Tryz.f238.results.toList (z3q k) (sub (bodyOf Go.Proofs.Tryz.f238) [1, 1, 1, 1, 0, 1, 0, 0, 1, 0, 0, 0, 1]) :=
  joinCut_s (X := X) (sg := [.ks, .ki .u8, .ki .i64, .kb, .ki .i64, .kb, .kl 9]) (cu := z3r k) (cl := z3f k) (tys := [[9]]) (z3g k) (cutOK_of (l := [(z3m k, sub (bodyOf Go.Proofs.Tryz.f238) [1, 1, 1, 1, 0, 1, 0, 0, 1, 0, 0, 0, 1, 1, 1])]) (by kernel_rfl) ⟨z3o k, trivial⟩) fun x Q R h => by
    simp only [S_l4Cut_c16, optK_bind, optK_bif, optK_pure, optK_none, optK_oc, optK_guardT, optK_map] at h
    refine hold_of h ?_
    kernel_rfl
def z3t (x : (List UInt8) × Int × Int × Bool × Int × (List (List UInt8)) × Unit) (o : Int × Bool × Int × (List (List UInt8))) (Q : Ex → VSt D → Prop) (R : VR D → Prop) : Prop := Q .normal (mkSt ⟨[(0, .hole), (1, .hole), (5, .ref 500005), (6, .hole), (7, .hole), (8, .hole)], [(500005, .row)]⟩ [.str x.1, .int .u8 x.2.1, .int .i64 o.1, .bool o.2.1, .int .i64 o.2.2.1, .sl 9 o.2.2.2])
def z3u (k : Nat) : Cut D := cutS ⟨[(0, .hole), (1, .hole), (5, .ref 500005), (6, .hole), (7, .hole), (8, .hole)], [(500005, .row)]⟩ [.ks, .ki .u8, .ki .i64, .kb, .ki .i64, .kl 9] (fun (x : (List UInt8) × Int × Int × Bool × Int × (List (List UInt8)) × Unit) => S_l4Cut_b2 k x.1 x.2.1 x.2.2.1 x.2.2.2.1 x.2.2.2.2.1 x.2.2.2.2.2.1) z3t
def z3v (k : Nat) : Cuts D := ⟨[], [(16, some (z3q k))]⟩
theorem z3w (k : Nat) : CutFor X z3e k Go.Proofs.Tryz.f238.results.toList (z3u k) (sub (bodyOf Go.Proofs.Tryz.f238) [1, 1, 1, 1, 0, 1, 0, 0, 1, 0, 0]) :=
  joinCut_s (X := X) (sg := [.ks, .ki .u8, .ki .i64, .kb, .ki .i64, .kl 9]) (cu := z3v k) (cl := z3f k) (tys := [[9]]) (z3g k) (cutOK_of (l := [(z3q k, sub (bodyOf Go.Proofs.Tryz.f238) [1, 1, 1, 1, 0, 1, 0, 0, 1, 0, 0, 0, 1])]) (by kernel_rfl) ⟨z3s k, trivial⟩) fun x Q R h => by
    simp only [S_l4Cut_b2, optK_bind, optK_bif, optK_pure, optK_none, optK_oc, optK_guardT, optK_map] at h
    refine hold_of h ?_
    kernel_rfl
def z3x (x : (List UInt8) × Int × Int × Bool × Int × (List (List UInt8)) × Unit) (o : Int × Bool × Int × (List (List UInt8))) (Q : Ex → VSt D → Prop) (R : VR D → Prop) : Prop := Q .normal (mkSt ⟨[(0, .hole), (1, .hole), (5, .ref 500005), (6, .hole), (7, .hole), (8, .hole)], [(500005, .row)]⟩ [.str x.1, .int .u8 x.2.1, .int .i64 o.1, .bool o.2.1, .int .i64 o.2.2.1, .sl 9 o.2.2.2])
def z3y (k : Nat) : Cut D := cutS ⟨[(0, .hole), (1, .hole), (5, .ref 500005), (6, .hole), (7, .hole), (8, .hole)], [(500005, .row)]⟩ [.ks, .ki .u8, .ki .i64, .kb, .ki .i64, .kl 9] (fun (x : (List UInt8) × Int × Int × Bool × Int × (List (List UInt8)) × Unit) => S_l4Cut_b1 k x.1 x.2.1 x.2.2.1 x.2.2.2.1 x.2.2.2.2.1 x.2.2.2.2.2.1) z3x
def z3z (k : Nat) : Cuts D := ⟨[(2, some (z3u k))], []⟩
theorem z40 (k : Nat) : CutFor X z3e k Go.Proofs.Tryz.f238.results.toList (z3y k) (sub (bodyOf Go.Proofs.Tryz.f238) [1, 1, 1, 1, 0, 1, 0, 0, 1, 0]) :=
  joinCut_s (X := X) (sg := [.ks, .ki .u8, .ki .i64, .kb, .ki .i64, .kl 9]) (cu := z3z k) (cl := z3f k) (tys := [[9]]) (z3g k) (cutOK_of (l := [(z3u k, sub (bodyOf Go.Proofs.Tryz.f238) [1, 1, 1, 1, 0, 1, 0, 0, 1, 0, 0])]) (by kernel_rfl) ⟨z3w k, trivial⟩) fun x Q R h => by
    simp only [S_l4Cut_b1, optK_bind, optK_bif, optK_pure, optK_none, optK_oc, optK_guardT, optK_map] at h
    refine hold_of h ?_
    kernel_rfl
def z41 (x : (List UInt8) × Int × Int × Bool × Int × (List (List UInt8)) × Unit) (o : Int × (List (List UInt8))) (Q : Ex → VSt D → Prop) (R : VR D → Prop) : Prop := Q .normal (mkSt ⟨[(0, .hole), (5, .ref 500005), (6, .hole)], [(500005, .row)]⟩ [.str x.1, .int .i64 o.1, .sl 9 o.2])
def z42 (k : Nat) : Cut D := cutS ⟨[(0, .hole), (1, .hole), (5, .ref 500005), (6, .hole), (7, .hole), (8, .hole)], [(500005, .row)]⟩ [.ks, .ki .u8, .ki .i64, .kb, .ki .i64, .kl 9] (fun (x : (List UInt8) × Int × Int × Bool × Int × (List (List UInt8)) × Unit) => S_l4Cut_b0 k k x.1 x.2.1 x.2.2.1 x.2.2.2.1 x.2.2.2.2.1 x.2.2.2.2.2.1) z41
def z43 (k : Nat) : Cuts D := ⟨[(1, some (z3y k))], []⟩
theorem z44 (k : Nat) : CutFor X z3e k Go.Proofs.Tryz.f238.results.toList (z42 k) (sub (bodyOf Go.Proofs.Tryz.f238) [1, 1, 1, 1, 0, 1]) :=
  loopCut_s (X := X) (sg := [.ks, .ki .u8, .ki .i64, .kb, .ki .i64, .kl 9]) (cu := z43 k) (cl := z3f k) (tys := [[9]]) (id := 0) (c := sub (bodyOf Go.Proofs.Tryz.f238) [1, 1, 1, 1, 0, 1, 0, 0]) (f := fun n => fun (x : (List UInt8) × Int × Int × Bool × Int × (List (List UInt8)) × Unit) => S_l4Cut_b0 k n x.1 x.2.1 x.2.2.1 x.2.2.2.1 x.2.2.2.2.1 x.2.2.2.2.2.1) (z3g k) (cutOK_of (l := [(z3y k, sub (bodyOf Go.Proofs.Tryz.f238) [1, 1, 1, 1, 0, 1, 0, 0, 1, 0])]) (by kernel_rfl) ⟨z40 k, trivial⟩) (fun _ => rfl) (fun n x Q R h => by
    simp only [S_l4Cut_b0, optK_bind, optK_bif, optK_pure, optK_none, optK_oc, optK_guardT, optK_map] at h
    refine hold_of h ?_
    kernel_rfl) (by kernel_rfl)
def z45 (k : Nat) : Cuts D := ⟨[(0, some (z42 k))], []⟩
def z46 : List Ar := [.c (.ks), .c (.ki .u8)]
def z47 (k : Nat) (x : TupA D z46) : Option ((List (List UInt8))) := S_l4Cut k x.1 x.2.1
def z48 (r : (List (List UInt8))) : VR D := .p (.c (.sl 9 r))
theorem z49 (k : Nat) : Does P X 238 z46 (z47 k) z48 :=
  does_of (body := bodyOf Go.Proofs.Tryz.f238) (pl := z3e) (k := k) (cu := z45 k) (tys := [[9]]) (z3g k) ctx mixed Go.Proofs.Tryz.func238 (by kernel_rfl) (by kernel_rfl) (cutOK_of (l := [(z42 k, sub (bodyOf Go.Proofs.Tryz.f238) [1, 1, 1, 1, 0, 1])]) (by kernel_rfl) ⟨z44 k, trivial⟩) fun x R h => by
    simp only [z47, S_l4Cut, optK_bind, optK_bif, optK_pure, optK_none, optK_oc, optK_guardT, optK_map] at h
    refine hold_of h ?_
    kernel_rfl
def z4a (k : Nat) : Entry D := entS z46 (z47 k) z48
theorem z4b (k : Nat) : EntryOK X 238 (z4a k) := (z49 k).en rfl
def z4c : Plan := ⟨[(0, [(0, none)]), (1, [(2, none)])],
  [],
  []⟩
def z4d (k : Nat) : Calls' D := ⟨[], [], [], [], []⟩
theorem z4e (k : Nat) : CallsOK X (z4d k) := .nil cod
def z4f (k : Nat) : Cuts D := ⟨[], []⟩
def z4g : List Ar := [.c (.ki .u8)]
def z4h (k : Nat) (x : TupA D z4g) : Option (Bool) := S_l4Blank k x.1
def z4i (r : Bool) : VR D := .p (.c (.bool r))
theorem z4j (k : Nat) : Does P X 223 z4g (z4h k) z4i :=
  does_of (body := bodyOf Go.Proofs.Tryz.f223) (pl := z4c) (k := k) (cu := z4f k) (tys := [[0]]) (z4e k) ctx mixed Go.Proofs.Tryz.func223 (by kernel_rfl) (by kernel_rfl) (cutOK_of (l := []) (by kernel_rfl) trivial) fun x R h => by
    simp only [z4h, S_l4Blank, optK_bind, optK_bif, optK_pure, optK_none, optK_oc, optK_guardT, optK_map] at h
    refine hold_of h ?_
    kernel_rfl
def z4k (k : Nat) : Entry D := entS z4g (z4h k) z4i
theorem z4l (k : Nat) : EntryOK X 223 (z4k k) := (z4j k).en rfl
def z4m : Plan := ⟨[(0, [(0, none)]), (1, [(0, none), (10, none)]), (2, [(0, none)]), (3, [(0, none), (23, none)]), (4, [(0, none)]), (5, [(2, none)])],
  [(0, [(0, none)]), (1, [(0, none)]), (2, [(0, none)]), (3, [(0, none)])],
  [(10, ([(0, none)], [(0, none)])), (23, ([(0, none)], [(0, none)]))]⟩
def z4n (k : Nat) : Calls' D := ⟨[(223, z4k k)], [], [], [], []⟩
theorem z4o (k : Nat) : CallsOK X (z4n k) := .cons (z4l k) (.nil cod)
def z4p (x : (List UInt8) × Unit) (o : (List UInt8)) (Q : Ex → VSt D → Prop) (R : VR D → Prop) : Prop := Q .normal (mkSt ⟨[(0, .hole)], []⟩ [.str o])
def z4q (k : Nat) : Cut D := cutS ⟨[(0, .hole)], []⟩ [.ks] (fun (x : (List UInt8) × Unit) => S_TrimText_b0 k k x.1) z4p
def z4r (k : Nat) : Cuts D := ⟨[], []⟩
theorem z4s (k : Nat) : CutFor X z4m k Go.Proofs.Tryz.f159.results.toList (z4q k) (sub (bodyOf Go.Proofs.Tryz.f159) [1, 0]) :=
  loopCut_s (X := X) (sg := [.ks]) (cu := z4r k) (cl := z4n k) (tys := [[0]]) (id := 0) (c := sub (bodyOf Go.Proofs.Tryz.f159) [1, 0, 0, 0]) (f := fun n => fun (x : (List UInt8) × Unit) => S_TrimText_b0 k n x.1) (z4o k) (cutOK_of (l := []) (by kernel_rfl) trivial) (fun _ => rfl) (fun n x Q R h => by
    simp only [S_TrimText_b0, optK_bind, optK_bif, optK_pure, optK_none, optK_oc, optK_guardT, optK_map] at h
    refine hold_of h ?_
    kernel_rfl) (by kernel_rfl)
def z4t (x : (List UInt8) × Unit) (o : (List UInt8)) (Q : Ex → VSt D → Prop) (R : VR D → Prop) : Prop := Q .normal (mkSt ⟨[(0, .hole)], []⟩ [.str o])
def z4u (k : Nat) : Cut D := cutS ⟨[(0, .hole)], []⟩ [.ks] (fun (x : (List UInt8) × Unit) => S_TrimText_b2 k k x.1) z4t
def z4v (k : Nat) : Cuts D := ⟨[], []⟩
theorem z4w (k : Nat) : CutFor X z4m k Go.Proofs.Tryz.f159.results.toList (z4u k) (sub (bodyOf Go.Proofs.Tryz.f159) [1, 1, 0]) :=
  loopCut_s (X := X) (sg := [.ks]) (cu := z4v k) (cl := z4n k) (tys := [[0]]) (id := 2) (c := sub (bodyOf Go.Proofs.Tryz.f159) [1, 1, 0, 0, 0]) (f := fun n => fun (x : (List UInt8) × Unit) => S_TrimText_b2 k n x.1) (z4o k) (cutOK_of (l := []) (by kernel_rfl) trivial) (fun _ => rfl) (fun n x Q R h => by
    simp only [S_TrimText_b2, optK_bind, optK_bif, optK_pure, optK_none, optK_oc, optK_guardT, optK_map] at h
    refine hold_of h ?_
    kernel_rfl) (by kernel_rfl)
def z4x (k : Nat) : Cuts D := ⟨[(0, some (z4q k)), (2, some (z4u k))], []⟩
def z4y : List Ar := [.c (.ks)]
def z4z (k : Nat) (x : TupA D z4y) : Option ((List UInt8)) := S_TrimText k x.1
def z50 (r : (List UInt8)) : VR D := .p (.c (.str r))
theorem z51 (k : Nat) : Does P X 159 z4y (z4z k) z50 :=
  does_of (body := bodyOf Go.Proofs.Tryz.f159) (pl := z4m) (k := k) (cu := z4x k) (tys := [[0]]) (z4o k) ctx mixed Go.Proofs.Tryz.func159 (by kernel_rfl) (by kernel_rfl) (cutOK_of (l := [(z4q k, sub (bodyOf Go.Proofs.Tryz.f159) [1, 0]), (z4u k, sub (bodyOf Go.Proofs.Tryz.f159) [1, 1, 0])]) (by kernel_rfl) ⟨z4s k, z4w k, trivial⟩) fun x R h => by
    simp only [z4z, S_TrimText, optK_bind, optK_bif, optK_pure, optK_none, optK_oc, optK_guardT, optK_map] at h
    refine hold_of h ?_
    kernel_rfl
def z52 (k : Nat) : Entry D := entS z4y (z4z k) z50
theorem z53 (k : Nat) : EntryOK X 159 (z52 k) := (z51 k).en rfl
def z54 : Plan := ⟨[(0, [(0, none)]), (1, [(3, some 9)]), (2, [(3, some 9), (4, some 9)]), (3, [(3, some 9), (4, some 9), (5, none)]), (4, [(3, some 9), (4, some 9), (5, none), (13, none)]), (5, [(3, some 9), (4, some 9), (5, none)]), (6, [(3, some 9), (4, some 9), (5, none), (6, none)]), (7, [(3, some 9), (4, some 9), (5, none), (6, none), (22, none)]), (8, [(3, some 9), (4, some 9), (5, none)]), (9, [(2, some 9)])],
  [(0, [(4, some 9)]), (1, [(3, some 9), (4, some 9), (5, none)])],
  [(13, ([(3, some 9), (4, some 9), (5, none)], [(4, some 9)])), (22, ([(3, some 9), (4, some 9), (5, none), (6, none)], [(3, some 9), (4, some 9), (5, none)]))]⟩
def z55 (k : Nat) : Calls' D := ⟨[(238, z4a k), (159, z52 k)], [], [], [], []⟩
theorem z56 (k : Nat) : CallsOK X (z55 k) := .cons (z4b k) (.cons (z53 k) (.nil cod))
def z57 (x : Int × (List UInt8) × Bool × (List (List UInt8)) × (List (List UInt8)) × Unit) (o : (List (List UInt8))) (Q : Ex → VSt D → Prop) (R : VR D → Prop) : Prop := Q .normal (mkSt ⟨[(3, .ref 500003), (4, .ref 500004), (5, .hole)], [(500003, .row), (500004, .row)]⟩ [.int .i64 x.1, .sl 9 x.2.2.2.1, .sl 9 o])
def z58 (k : Nat) : Cut D := cutS ⟨[(3, .ref 500003), (4, .ref 500004), (5, .hole), (6, .hole), (22, .hole)], [(500003, .row), (500004, .row)]⟩ [.ki .i64, .ks, .kb, .kl 9, .kl 9] (fun (x : Int × (List UInt8) × Bool × (List (List UInt8)) × (List (List UInt8)) × Unit) => S_SplitList_c22 k x.1 x.2.1 x.2.2.1 x.2.2.2.1 x.2.2.2.2.1) z57
def z59 (k : Nat) : Cuts D := ⟨[], []⟩
theorem z5a (k : Nat) : CutFor X z54 k Go.Proofs.Tryz.f193.results.toList (z58 k) (sub (bodyOf Go.Proofs.Tryz.f193) [1, 1, 1, 0, 1, 0, 0, 1, 0, 0, 1, 1]) :=
  joinCut_s (X := X) (sg := [.ki .i64, .ks, .kb, .kl 9, .kl 9]) (cu := z59 k) (cl := z55 k) (tys := [[9]]) (z56 k) (cutOK_of (l := []) (by kernel_rfl) trivial) fun x Q R h => by
    simp only [S_SplitList_c22, optK_bind, optK_bif, optK_pure, optK_none, optK_oc, optK_guardT, optK_map] at h
    refine hold_of h ?_
    kernel_rfl
def z5b (x : Int × (List (List UInt8)) × (List (List UInt8)) × Unit) (o : (List (List UInt8))) (Q : Ex → VSt D → Prop) (R : VR D → Prop) : Prop := Q .normal (mkSt ⟨[(3, .ref 500003), (4, .ref 500004), (5, .hole)], [(500003, .row), (500004, .row)]⟩ [.int .i64 x.1, .sl 9 x.2.1, .sl 9 o])
def z5c (k : Nat) : Cut D := cutS ⟨[(3, .ref 500003), (4, .ref 500004), (5, .hole)], [(500003, .row), (500004, .row)]⟩ [.ki .i64, .kl 9, .kl 9] (fun (x : Int × (List (List UInt8)) × (List (List UInt8)) × Unit) => S_SplitList_b1 k x.1 x.2.1 x.2.2.1) z5b
def z5d (k : Nat) : Cuts D := ⟨[], [(22, some (z58 k))]⟩
theorem z5e (k : Nat) : CutFor X z54 k Go.Proofs.Tryz.f193.results.toList (z5c k) (sub (bodyOf Go.Proofs.Tryz.f193) [1, 1, 1, 0, 1, 0, 0, 1, 0]) :=
  joinCut_s (X := X) (sg := [.ki .i64, .kl 9, .kl 9]) (cu := z5d k) (cl := z55 k) (tys := [[9]]) (z56 k) (cutOK_of (l := [(z58 k, sub (bodyOf Go.Proofs.Tryz.f193) [1, 1, 1, 0, 1, 0, 0, 1, 0, 0, 1, 1])]) (by kernel_rfl) ⟨z5a k, trivial⟩) fun x Q R h => by
    simp only [S_SplitList_b1, optK_bind, optK_bif, optK_pure, optK_none, optK_oc, optK_guardT, optK_map] at h
    refine hold_of h ?_
    kernel_rfl
def z5f (x : Int × (List (List UInt8)) × (List (List UInt8)) × Unit) (o : (List (List UInt8))) (Q : Ex → VSt D → Prop) (R : VR D → Prop) : Prop := Q .normal (mkSt ⟨[(4, .ref 500004)], [(500004, .row)]⟩ [.sl 9 o])
def z5g (k : Nat) : Cut D := cutS ⟨[(3, .ref 500003), (4, .ref 500004), (5, .hole)], [(500003, .row), (500004, .row)]⟩ [.ki .i64, .kl 9, .kl 9] (fun (x : Int × (List (List UInt8)) × (List (List UInt8)) × Unit) => S_SplitList_b0 k k x.1 x.2.1 x.2.2.1) z5f
def z5h (k : Nat) : Cuts D := ⟨[(1, some (z5c k))], []⟩
theorem z5i (k : Nat) : CutFor X z54 k Go.Proofs.Tryz.f193.results.toList (z5g k) (sub (bodyOf Go.Proofs.Tryz.f193) [1, 1, 1, 0, 1]) :=
  loopCut_s (X := X) (sg := [.ki .i64, .kl 9, .kl 9]) (cu := z5h k) (cl := z55 k) (tys := [[9]]) (id := 0) (c := sub (bodyOf Go.Proofs.Tryz.f193) [1, 1, 1, 0, 1, 0, 0]) (f := fun n => fun (x : Int × (List (List UInt8)) × (List (List UInt8)) × Unit) => S_SplitList_b0 k n x.1 x.2.1 x.2.2.1) (z56 k) (cutOK_of (l := [(z5c k, sub (bodyOf Go.Proofs.Tryz.f193) [1, 1, 1, 0, 1, 0, 0, 1, 0])]) (by kernel_rfl) ⟨z5e k, trivial⟩) (fun _ => rfl) (fun n x Q R h => by
    simp only [S_SplitList_b0, optK_bind, optK_bif, optK_pure, optK_none, optK_oc, optK_guardT, optK_map] at h
    refine hold_of h ?_
    kernel_rfl) (by kernel_rfl)
def z5j (k : Nat) : Cuts D := ⟨[(0, some (z5g k))], []⟩
def z5k : List Ar := [.c (.ks)]
def z5l (k : Nat) (x : TupA D z5k) : Option ((List (List UInt8))) := S_SplitList k x.1
def z5m (r : (List (List UInt8))) : VR D := .p (.c (.sl 9 r))
theorem z5n (k : Nat) : Does P X 193 z5k (z5l k) z5m :=
  does_of (body := bodyOf Go.Proofs.Tryz.f193) (pl := z54) (k := k) (cu := z5j k) (tys := [[9]]) (z56 k) ctx mixed Go.Proofs.Tryz.func193 (by kernel_rfl) (by kernel_rfl) (cutOK_of (l := [(z5g k, sub (bodyOf Go.Proofs.Tryz.f193) [1, 1, 1, 0, 1])]) (by kernel_rfl) ⟨z5i k, trivial⟩) fun x R h => by
    simp only [z5l, S_SplitList, optK_bind, optK_bif, optK_pure, optK_none, optK_oc, optK_guardT, optK_map] at h
    refine hold_of h ?_
    kernel_rfl
def z5o (k : Nat) : Entry D := entS z5k (z5l k) z5m
theorem z5p (k : Nat) : EntryOK X 193 (z5o k) := (z5n k).en rfl
def z5q : Plan := ⟨[(0, [(0, none)]), (1, [(0, none), (5, none)]), (2, [(0, none), (5, none), (9, none)]), (3, [(0, none), (5, none)]), (4, [(0, none), (5, none), (15, none)]), (5, [(2, none), (3, none), (4, none)]), (6, [(2, none), (3, none), (4, none)])],
  [(0, [(0, none)]), (1, [(0, none), (5, none)])],
  [(9, ([(0, none), (5, none)], [(0, none)])), (15, ([(0, none), (5, none)], [(0, none), (5, none)]))]⟩
def z5r (k : Nat) : Calls' D := ⟨[(159, z52 k)], [], [], [], []⟩
theorem z5s (k : Nat) : CallsOK X (z5r k) := .cons (z53 k) (.nil cod)
def z5t (x : (List UInt8) × Int × Unit) (o : Oc (Unit) ((List UInt8) × (List UInt8) × Bool)) (Q : Ex → VSt D → Prop) (R : VR D → Prop) : Prop := ocP o (fun v0 => Q .normal (mkSt ⟨[(0, .hole)], []⟩ [.str x.1])) (fun w0 => R (.tup [.c (.str w0.1), .c (.str w0.2.1), .c (.bool w0.2.2)]))
def z5u (k : Nat) : Cut D := cutS ⟨[(0, .hole), (5, .hole)], []⟩ [.ks, .ki .i64] (fun (x : (List UInt8) × Int × Unit) => S_SplitPair_b0 k k x.1 x.2.1) z5t
def z5v (k : Nat) : Cuts D := ⟨[], []⟩
theorem z5w (k : Nat) : CutFor X z5q k Go.Proofs.Tryz.f194.results.toList (z5u k) (sub (bodyOf Go.Proofs.Tryz.f194) [1, 0, 1]) :=
  loopCut_s (X := X) (sg := [.ks, .ki .i64]) (cu := z5v k) (cl := z5r k) (tys := [[0], [0], [0]]) (id := 0) (c := sub (bodyOf Go.Proofs.Tryz.f194) [1, 0, 1, 0, 0]) (f := fun n => fun (x : (List UInt8) × Int × Unit) => S_SplitPair_b0 k n x.1 x.2.1) (z5s k) (cutOK_of (l := []) (by kernel_rfl) trivial) (fun _ => rfl) (fun n x Q R h => by
    simp only [S_SplitPair_b0, optK_bind, optK_bif, optK_pure, optK_none, optK_oc, optK_guardT, optK_map] at h
    refine hold_of h ?_
    kernel_rfl) (by kernel_rfl)
def z5x (k : Nat) : Cuts D := ⟨[(0, some (z5u k))], []⟩
def z5y : List Ar := [.c (.ks)]
def z5z (k : Nat) (x : TupA D z5y) : Option ((List UInt8) × (List UInt8) × Bool) := S_SplitPair k x.1
def z60 (r : (List UInt8) × (List UInt8) × Bool) : VR D := .tup [.c (.str r.1), .c (.str r.2.1), .c (.bool r.2.2)]
theorem z61 (k : Nat) : Does P X 194 z5y (z5z k) z60 :=
  does_of (body := bodyOf Go.Proofs.Tryz.f194) (pl := z5q) (k := k) (cu := z5x k) (tys := [[0], [0], [0]]) (z5s k) ctx mixed Go.Proofs.Tryz.func194 (by kernel_rfl) (by kernel_rfl) (cutOK_of (l := [(z5u k, sub (bodyOf Go.Proofs.Tryz.f194) [1, 0, 1])]) (by kernel_rfl) ⟨z5w k, trivial⟩) fun x R h => by
    simp only [z5z, S_SplitPair, optK_bind, optK_bif, optK_pure, optK_none, optK_oc, optK_guardT, optK_map] at h
    refine hold_of h ?_
    kernel_rfl
def z62 (k : Nat) : Entry D := entS z5y (z5z k) z60
theorem z63 (k : Nat) : EntryOK X 194 (z62 k) := (z61 k).en rfl
def z64 : Plan := ⟨[(0, [(0, none), (1, none), (2, none)]), (1, [(6, none)])],
  [],
  []⟩
def z65 (k : Nat) : Calls' D := ⟨[], [], [], [], []⟩
theorem z66 (k : Nat) : CallsOK X (z65 k) := .nil cod
def z67 (k : Nat) : Cuts D := ⟨[], []⟩
def z68 : List Ar := [.c (.ki .i64), .c (.ki .i64), .c (.ki .i64)]
def z69 (k : Nat) (x : TupA D z68) : Option (Bool) := S_l1In k x.1 x.2.1 x.2.2.1
def z6a (r : Bool) : VR D := .p (.c (.bool r))
theorem z6b (k : Nat) : Does P X 78 z68 (z69 k) z6a :=
  does_of (body := bodyOf Go.Proofs.Tryz.f78) (pl := z64) (k := k) (cu := z67 k) (tys := [[0]]) (z66 k) ctx mixed Go.Proofs.Tryz.func78 (by kernel_rfl) (by kernel_rfl) (cutOK_of (l := []) (by kernel_rfl) trivial) fun x R h => by
    simp only [z69, S_l1In, optK_bind, optK_bif, optK_pure, optK_none, optK_oc, optK_guardT, optK_map] at h
    refine hold_of h ?_
    kernel_rfl
def z6c (k : Nat) : Entry D := entS z68 (z69 k) z6a
theorem z6d (k : Nat) : EntryOK X 78 (z6c k) := (z6b k).en rfl
def z6e : Plan := ⟨[(0, [(0, none)]), (1, [(3, some 5)]), (2, [(3, some 5), (4, none)]), (3, [(3, some 5), (4, none), (10, none)]), (4, [(3, some 5), (4, none)]), (5, [(3, some 5), (4, none), (18, none)]), (6, [(3, some 5), (4, none)]), (7, [(2, none)])],
  [(0, [(3, some 5)]), (1, [(3, some 5), (4, none)])],
  [(10, ([(3, some 5), (4, none)], [(3, some 5)])), (18, ([(3, some 5), (4, none)], [(3, some 5), (4, none)]))]⟩
def z6f (k : Nat) : Calls' D := ⟨[(78, z6c k)], [], [], [], []⟩
theorem z6g (k : Nat) : CallsOK X (z6f k) := .cons (z6d k) (.nil cod)
def z6h (x : Int × Bool × (List Int) × Unit) (o : (List Int)) (Q : Ex → VSt D → Prop) (R : VR D → Prop) : Prop := Q .normal (mkSt ⟨[(3, .ref 500003), (4, .hole)], [(500003, .row)]⟩ [.int .i64 x.1, .sl 5 o])
def z6i (k : Nat) : Cut D := cutS ⟨[(3, .ref 500003), (4, .hole), (18, .hole)], [(500003, .row)]⟩ [.ki .i64, .kb, .kl 5] (fun (x : Int × Bool × (List Int) × Unit) => S_LowerText_c18 k x.1 x.2.1 x.2.2.1) z6h
def z6j (k : Nat) : Cuts D := ⟨[], []⟩
theorem z6k (k : Nat) : CutFor X z6e k Go.Proofs.Tryz.f158.results.toList (z6i k) (sub (bodyOf Go.Proofs.Tryz.f158) [1, 1, 0, 1, 0, 0, 1, 0, 0, 1]) :=
  joinCut_s (X := X) (sg := [.ki .i64, .kb, .kl 5]) (cu := z6j k) (cl := z6f k) (tys := [[0]]) (z6g k) (cutOK_of (l := []) (by kernel_rfl) trivial) fun x Q R h => by
    simp only [S_LowerText_c18, optK_bind, optK_bif, optK_pure, optK_none, optK_oc, optK_guardT, optK_map] at h
    refine hold_of h ?_
    kernel_rfl
def z6l (x : Int × (List Int) × Unit) (o : (List Int)) (Q : Ex → VSt D → Prop) (R : VR D → Prop) : Prop := Q .normal (mkSt ⟨[(3, .ref 500003), (4, .hole)], [(500003, .row)]⟩ [.int .i64 x.1, .sl 5 o])
def z6m (k : Nat) : Cut D := cutS ⟨[(3, .ref 500003), (4, .hole)], [(500003, .row)]⟩ [.ki .i64, .kl 5] (fun (x : Int × (List Int) × Unit) => S_LowerText_b1 k x.1 x.2.1) z6l
def z6n (k : Nat) : Cuts D := ⟨[], [(18, some (z6i k))]⟩
theorem z6o (k : Nat) : CutFor X z6e k Go.Proofs.Tryz.f158.results.toList (z6m k) (sub (bodyOf Go.Proofs.Tryz.f158) [1, 1, 0, 1, 0, 0, 1, 0]) :=
  joinCut_s (X := X) (sg := [.ki .i64, .kl 5]) (cu := z6n k) (cl := z6f k) (tys := [[0]]) (z6g k) (cutOK_of (l := [(z6i k, sub (bodyOf Go.Proofs.Tryz.f158) [1, 1, 0, 1, 0, 0, 1, 0, 0, 1])]) (by kernel_rfl) ⟨z6k k, trivial⟩) fun x Q R h => by
    simp only [S_LowerText_b1, optK_bind, optK_bif, optK_pure, optK_none, optK_oc, optK_guardT, optK_map] at h
    refine hold_of h ?_
    kernel_rfl
def z6p (x : Int × (List Int) × Unit) (o : (List Int)) (Q : Ex → VSt D → Prop) (R : VR D → Prop) : Prop := Q .normal (mkSt ⟨[(3, .ref 500003)], [(500003, .row)]⟩ [.sl 5 o])
def z6q (k : Nat) : Cut D := cutS ⟨[(3, .ref 500003), (4, .hole)], [(500003, .row)]⟩ [.ki .i64, .kl 5] (fun (x : Int × (List Int) × Unit) => S_LowerText_b0 k k x.1 x.2.1) z6p
def z6r (k : Nat) : Cuts D := ⟨[(1, some (z6m k))], []⟩
theorem z6s (k : Nat) : CutFor X z6e k Go.Proofs.Tryz.f158.results.toList (z6q k) (sub (bodyOf Go.Proofs.Tryz.f158) [1, 1, 0, 1]) :=
  loopCut_s (X := X) (sg := [.ki .i64, .kl 5]) (cu := z6r k) (cl := z6f k) (tys := [[0]]) (id := 0) (c := sub (bodyOf Go.Proofs.Tryz.f158) [1, 1, 0, 1, 0, 0]) (f := fun n => fun (x : Int × (List Int) × Unit) => S_LowerText_b0 k n x.1 x.2.1) (z6g k) (cutOK_of (l := [(z6m k, sub (bodyOf Go.Proofs.Tryz.f158) [1, 1, 0, 1, 0, 0, 1, 0])]) (by kernel_rfl) ⟨z6o k, trivial⟩) (fun _ => rfl) (fun n x Q R h => by
    simp only [S_LowerText_b0, optK_bind, optK_bif, optK_pure, optK_none, optK_oc, optK_guardT, optK_map] at h
    refine hold_of h ?_
    kernel_rfl) (by kernel_rfl)
def z6t (k : Nat) : Cuts D := ⟨[(0, some (z6q k))], []⟩
def z6u : List Ar := [.c (.ks)]
def z6v (k : Nat) (x : TupA D z6u) : Option ((List UInt8)) := S_LowerText k x.1
def z6w (r : (List UInt8)) : VR D := .p (.c (.str r))
theorem z6x (k : Nat) : Does P X 158 z6u (z6v k) z6w :=
  does_of (body := bodyOf Go.Proofs.Tryz.f158) (pl := z6e) (k := k) (cu := z6t k) (tys := [[0]]) (z6g k) ctx mixed Go.Proofs.Tryz.func158 (by kernel_rfl) (by kernel_rfl) (cutOK_of (l := [(z6q k, sub (bodyOf Go.Proofs.Tryz.f158) [1, 1, 0, 1])]) (by kernel_rfl) ⟨z6s k, trivial⟩) fun x R h => by
    simp only [z6v, S_LowerText, optK_bind, optK_bif, optK_pure, optK_none, optK_oc, optK_guardT, optK_map] at h
    refine hold_of h ?_
    kernel_rfl
def z6y (k : Nat) : Entry D := entS z6u (z6v k) z6w
theorem z6z (k : Nat) : EntryOK X 158 (z6y k) := (z6x k).en rfl
def z70 : Plan := ⟨[(0, [(0, none)]), (1, [(0, none), (4, some 5)]), (2, [(0, none), (4, some 5), (5, none)]), (3, [(0, none), (4, some 5), (5, none), (10, none)]), (4, [(0, none), (4, some 5), (5, none)]), (5, [(0, none), (4, some 5), (5, none)]), (6, [(0, none), (4, some 5), (5, none), (19, none)]), (7, [(2, none), (3, none)]), (8, [(0, none), (4, some 5), (5, none), (36, none)]), (9, [(0, none), (4, some 5), (5, none)]), (10, [(0, none), (4, some 5), (5, none)]), (11, [(2, none), (3, none)])],
  [(0, [(4, some 5)]), (1, [(0, none), (4, some 5), (5, none)]), (2, [(0, none), (4, some 5), (5, none)])],
  [(10, ([(0, none), (4, some 5), (5, none)], [(4, some 5)])), (19, ([(0, none), (4, some 5), (5, none)], [(0, none), (4, some 5), (5, none)])), (36, ([(0, none), (4, some 5), (5, none)], [(0, none), (4, some 5), (5, none)]))]⟩
def z71 (k : Nat) : Calls' D := ⟨[], [], [], [], []⟩
theorem z72 (k : Nat) : CallsOK X (z71 k) := .nil cod
def z73 (x : (List UInt8) × Int × Bool × (List Int) × Unit) (o : Int × (List Int)) (Q : Ex → VSt D → Prop) (R : VR D → Prop) : Prop := Q .normal (mkSt ⟨[(0, .hole), (4, .ref 500004), (5, .hole)], [(500004, .row)]⟩ [.str x.1, .int .i64 o.1, .sl 5 o.2])
def z74 (k : Nat) : Cut D := cutS ⟨[(0, .hole), (4, .ref 500004), (5, .hole), (36, .hole)], [(500004, .row)]⟩ [.ks, .ki .i64, .kb, .kl 5] (fun (x : (List UInt8) × Int × Bool × (List Int) × Unit) => S_UnquoteText_c36 k x.1 x.2.1 x.2.2.1 x.2.2.2.1) z73
def z75 (k : Nat) : Cuts D := ⟨[], []⟩
theorem z76 (k : Nat) : CutFor X z70 k Go.Proofs.Tryz.f195.results.toList (z74 k) (sub (bodyOf Go.Proofs.Tryz.f195) [1, 1, 0, 1, 0, 0, 1, 0, 0, 0, 1, 1, 1]) :=
  joinCut_s (X := X) (sg := [.ks, .ki .i64, .kb, .kl 5]) (cu := z75 k) (cl := z71 k) (tys := [[0], [0]]) (z72 k) (cutOK_of (l := []) (by kernel_rfl) trivial) fun x Q R h => by
    simp only [S_UnquoteText_c36, optK_bind, optK_bif, optK_pure, optK_none, optK_oc, optK_guardT, optK_map] at h
    refine hold_of h ?_
    kernel_rfl
def z77 (x : (List UInt8) × Int × Bool × (List Int) × Unit) (o : Oc (Int × (List Int)) ((List UInt8) × Bool)) (Q : Ex → VSt D → Prop) (R : VR D → Prop) : Prop := ocP o (fun v0 => Q .normal (mkSt ⟨[(0, .hole), (4, .ref 500004), (5, .hole)], [(500004, .row)]⟩ [.str x.1, .int .i64 v0.1, .sl 5 v0.2])) (fun w0 => R (.tup [.c (.str w0.1), .c (.bool w0.2)]))
def z78 (k : Nat) : Cut D := cutS ⟨[(0, .hole), (4, .ref 500004), (5, .hole), (19, .hole)], [(500004, .row)]⟩ [.ks, .ki .i64, .kb, .kl 5] (fun (x : (List UInt8) × Int × Bool × (List Int) × Unit) => S_UnquoteText_c19 k x.1 x.2.1 x.2.2.1 x.2.2.2.1) z77
def z79 (k : Nat) : Cuts D := ⟨[], [(36, some (z74 k))]⟩
theorem z7a (k : Nat) : CutFor X z70 k Go.Proofs.Tryz.f195.results.toList (z78 k) (sub (bodyOf Go.Proofs.Tryz.f195) [1, 1, 0, 1, 0, 0, 1, 0, 0, 0, 1]) :=
  joinCut_s (X := X) (sg := [.ks, .ki .i64, .kb, .kl 5]) (cu := z79 k) (cl := z71 k) (tys := [[0], [0]]) (z72 k) (cutOK_of (l := [(z74 k, sub (bodyOf Go.Proofs.Tryz.f195) [1, 1, 0, 1, 0, 0, 1, 0, 0, 0, 1, 1, 1])]) (by kernel_rfl) ⟨z76 k, trivial⟩) fun x Q R h => by
    simp only [S_UnquoteText_c19, optK_bind, optK_bif, optK_pure, optK_none, optK_oc, optK_guardT, optK_map] at h
    refine hold_of h ?_
    kernel_rfl
def z7b (x : (List UInt8) × Int × (List Int) × Unit) (o : Oc (Int × (List Int)) ((List UInt8) × Bool)) (Q : Ex → VSt D → Prop) (R : VR D → Prop) : Prop := ocP o (fun v0 => Q .normal (mkSt ⟨[(0, .hole), (4, .ref 500004), (5, .hole)], [(500004, .row)]⟩ [.str x.1, .int .i64 v0.1, .sl 5 v0.2])) (fun w0 => R (.tup [.c (.str w0.1), .c (.bool w0.2)]))
def z7c (k : Nat) : Cut D := cutS ⟨[(0, .hole), (4, .ref 500004), (5, .hole)], [(500004, .row)]⟩ [.ks, .ki .i64, .kl 5] (fun (x : (List UInt8) × Int × (List Int) × Unit) => S_UnquoteText_b2 k x.1 x.2.1 x.2.2.1) z7b
def z7d (k : Nat) : Cuts D := ⟨[], [(19, some (z78 k))]⟩
theorem z7e (k : Nat) : CutFor X z70 k Go.Proofs.Tryz.f195.results.toList (z7c k) (sub (bodyOf Go.Proofs.Tryz.f195) [1, 1, 0, 1, 0, 0, 1, 0, 0]) :=
  joinCut_s (X := X) (sg := [.ks, .ki .i64, .kl 5]) (cu := z7d k) (cl := z71 k) (tys := [[0], [0]]) (z72 k) (cutOK_of (l := [(z78 k, sub (bodyOf Go.Proofs.Tryz.f195) [1, 1, 0, 1, 0, 0, 1, 0, 0, 0, 1])]) (by kernel_rfl) ⟨z7a k, trivial⟩) fun x Q R h => by
    simp only [S_UnquoteText_b2, optK_bind, optK_bif, optK_pure, optK_none, optK_oc, optK_guardT, optK_map] at h
    refine hold_of h ?_
    kernel_rfl
def z7f (x : (List UInt8) × Int × (List Int) × Unit) (o : Oc (Int × (List Int)) ((List UInt8) × Bool)) (Q : Ex → VSt D → Prop) (R : VR D → Prop) : Prop := ocP o (fun v0 => Q .normal (mkSt ⟨[(0, .hole), (4, .ref 500004), (5, .hole)], [(500004, .row)]⟩ [.str x.1, .int .i64 v0.1, .sl 5 v0.2])) (fun w0 => R (.tup [.c (.str w0.1), .c (.bool w0.2)]))
def z7g (k : Nat) : Cut D := cutS ⟨[(0, .hole), (4, .ref 500004), (5, .hole)], [(500004, .row)]⟩ [.ks, .ki .i64, .kl 5] (fun (x : (List UInt8) × Int × (List Int) × Unit) => S_UnquoteText_b1 k x.1 x.2.1 x.2.2.1) z7f
def z7h (k : Nat) : Cuts D := ⟨[(2, some (z7c k))], []⟩
theorem z7i (k : Nat) : CutFor X z70 k Go.Proofs.Tryz.f195.results.toList (z7g k) (sub (bodyOf Go.Proofs.Tryz.f195) [1, 1, 0, 1, 0, 0, 1, 0]) :=
  joinCut_s (X := X) (sg := [.ks, .ki .i64, .kl 5]) (cu := z7h k) (cl := z71 k) (tys := [[0], [0]]) (z72 k) (cutOK_of (l := [(z7c k, sub (bodyOf Go.Proofs.Tryz.f195) [1, 1, 0, 1, 0, 0, 1, 0, 0])]) (by kernel_rfl) ⟨z7e k, trivial⟩) fun x Q R h => by
    simp only [S_UnquoteText_b1, optK_bind, optK_bif, optK_pure, optK_none, optK_oc, optK_guardT, optK_map] at h
    refine hold_of h ?_
    kernel_rfl
def z7j (x : (List UInt8) × Int × (List Int) × Unit) (o : Oc ((List Int)) ((List UInt8) × Bool)) (Q : Ex → VSt D → Prop) (R : VR D → Prop) : Prop := ocP o (fun v0 => Q .normal (mkSt ⟨[(4, .ref 500004)], [(500004, .row)]⟩ [.sl 5 v0])) (fun w0 => R (.tup [.c (.str w0.1), .c (.bool w0.2)]))
def z7k (k : Nat) : Cut D := cutS ⟨[(0, .hole), (4, .ref 500004), (5, .hole)], [(500004, .row)]⟩ [.ks, .ki .i64, .kl 5] (fun (x : (List UInt8) × Int × (List Int) × Unit) => S_UnquoteText_b0 k k x.1 x.2.1 x.2.2.1) z7j
def z7l (k : Nat) : Cuts D := ⟨[(1, some (z7g k))], []⟩
theorem z7m (k : Nat) : CutFor X z70 k Go.Proofs.Tryz.f195.results.toList (z7k k) (sub (bodyOf Go.Proofs.Tryz.f195) [1, 1, 0, 1]) :=
  loopCut_s (X := X) (sg := [.ks, .ki .i64, .kl 5]) (cu := z7l k) (cl := z71 k) (tys := [[0], [0]]) (id := 0) (c := sub (bodyOf Go.Proofs.Tryz.f195) [1, 1, 0, 1, 0, 0]) (f := fun n => fun (x : (List UInt8) × Int × (List Int) × Unit) => S_UnquoteText_b0 k n x.1 x.2.1 x.2.2.1) (z72 k) (cutOK_of (l := [(z7g k, sub (bodyOf Go.Proofs.Tryz.f195) [1, 1, 0, 1, 0, 0, 1, 0])]) (by kernel_rfl) ⟨z7i k, trivial⟩) (fun _ => rfl) (fun n x Q R h => by
    simp only [S_UnquoteText_b0, optK_bind, optK_bif, optK_pure, optK_none, optK_oc, optK_guardT, optK_map] at h
    refine hold_of h ?_
    kernel_rfl) (by kernel_rfl)
def z7n (k : Nat) : Cuts D := ⟨[(0, some (z7k k))], []⟩
def z7o : List Ar := [.c (.ks)]
def z7p (k : Nat) (x : TupA D z7o) : Option ((List UInt8) × Bool) := S_UnquoteText k x.1
def z7q (r : (List UInt8) × Bool) : VR D := .tup [.c (.str r.1), .c (.bool r.2)]
theorem z7r (k : Nat) : Does P X 195 z7o (z7p k) z7q :=
  does_of (body := bodyOf Go.Proofs.Tryz.f195) (pl := z70) (k := k) (cu := z7n k) (tys := [[0], [0]]) (z72 k) ctx mixed Go.Proofs.Tryz.func195 (by kernel_rfl) (by kernel_rfl) (cutOK_of (l := [(z7k k, sub (bodyOf Go.Proofs.Tryz.f195) [1, 1, 0, 1])]) (by kernel_rfl) ⟨z7m k, trivial⟩) fun x R h => by
    simp only [z7p, S_UnquoteText, optK_bind, optK_bif, optK_pure, optK_none, optK_oc, optK_guardT, optK_map] at h
    refine hold_of h ?_
    kernel_rfl
def z7s (k : Nat) : Entry D := entS z7o (z7p k) z7q
theorem z7t (k : Nat) : EntryOK X 195 (z7s k) := (z7r k).en rfl
def z7u : Plan := ⟨[(0, [(0, none)]), (1, [(2, none)])],
  [],
  []⟩
def z7v (k : Nat) : Calls' D := ⟨[(78, z6c k)], [], [], [], []⟩
theorem z7w (k : Nat) : CallsOK X (z7v k) := .cons (z6d k) (.nil cod)
def z7x (k : Nat) : Cuts D := ⟨[], []⟩
def z7y : List Ar := [.c (.ki .u8)]
def z7z (k : Nat) (x : TupA D z7y) : Option (Bool) := S_l4Letter k x.1
def z80 (r : Bool) : VR D := .p (.c (.bool r))
theorem z81 (k : Nat) : Does P X 137 z7y (z7z k) z80 :=
  does_of (body := bodyOf Go.Proofs.Tryz.f137) (pl := z7u) (k := k) (cu := z7x k) (tys := [[0]]) (z7w k) ctx mixed Go.Proofs.Tryz.func137 (by kernel_rfl) (by kernel_rfl) (cutOK_of (l := []) (by kernel_rfl) trivial) fun x R h => by
    simp only [z7z, S_l4Letter, optK_bind, optK_bif, optK_pure, optK_none, optK_oc, optK_guardT, optK_map] at h
    refine hold_of h ?_
    kernel_rfl
def z82 (k : Nat) : Entry D := entS z7y (z7z k) z80
theorem z83 (k : Nat) : EntryOK X 137 (z82 k) := (z81 k).en rfl
def z84 : Plan := ⟨[(0, [(0, none)]), (1, [(0, none), (3, none)]), (2, [(0, none), (3, none), (5, none)]), (3, [(0, none), (3, none)]), (4, [(0, none), (3, none), (11, none)]), (5, [(2, none)]), (6, [(2, none)])],
  [(0, [(0, none)]), (1, [(0, none), (3, none)])],
  [(5, ([(0, none), (3, none)], [(0, none)])), (11, ([], [(0, none), (3, none)]))]⟩
def z85 (k : Nat) : Calls' D := ⟨[(137, z82 k)], [], [], [], []⟩
theorem z86 (k : Nat) : CallsOK X (z85 k) := .cons (z83 k) (.nil cod)
def z87 (x : Int × Int × Unit) (o : Oc (Unit) (Bool)) (Q : Ex → VSt D → Prop) (R : VR D → Prop) : Prop := ocP o (fun v0 => Q .normal (mkSt ⟨[(0, .hole)], []⟩ [.int .u8 x.1])) (fun w0 => R (.p (.c (.bool w0))))
def z88 (k : Nat) : Cut D := cutS ⟨[(0, .hole), (3, .hole)], []⟩ [.ki .u8, .ki .i64] (fun (x : Int × Int × Unit) => S_l4Token_b0 k k x.1 x.2.1) z87
def z89 (k : Nat) : Cuts D := ⟨[], []⟩
theorem z8a (k : Nat) : CutFor X z84 k Go.Proofs.Tryz.f139.results.toList (z88 k) (sub (bodyOf Go.Proofs.Tryz.f139) [1, 0, 1]) :=
  loopCut_s (X := X) (sg := [.ki .u8, .ki .i64]) (cu := z89 k) (cl := z85 k) (tys := [[0]]) (id := 0) (c := sub (bodyOf Go.Proofs.Tryz.f139) [1, 0, 1, 0, 0]) (f := fun n => fun (x : Int × Int × Unit) => S_l4Token_b0 k n x.1 x.2.1) (z86 k) (cutOK_of (l := []) (by kernel_rfl) trivial) (fun _ => rfl) (fun n x Q R h => by
    simp only [S_l4Token_b0, optK_bind, optK_bif, optK_pure, optK_none, optK_oc, optK_guardT, optK_map] at h
    refine hold_of h ?_
    kernel_rfl) (by kernel_rfl)
def z8b (k : Nat) : Cuts D := ⟨[(0, some (z88 k))], []⟩
def z8c : List Ar := [.c (.ki .u8)]
def z8d (k : Nat) (x : TupA D z8c) : Option (Bool) := S_l4Token k x.1
def z8e (r : Bool) : VR D := .p (.c (.bool r))
theorem z8f (k : Nat) : Does P X 139 z8c (z8d k) z8e :=
  does_of (body := bodyOf Go.Proofs.Tryz.f139) (pl := z84) (k := k) (cu := z8b k) (tys := [[0]]) (z86 k) ctx mixed Go.Proofs.Tryz.func139 (by kernel_rfl) (by kernel_rfl) (cutOK_of (l := [(z88 k, sub (bodyOf Go.Proofs.Tryz.f139) [1, 0, 1])]) (by kernel_rfl) ⟨z8a k, trivial⟩) fun x R h => by
    simp only [z8d, S_l4Token, optK_bind, optK_bif, optK_pure, optK_none, optK_oc, optK_guardT, optK_map] at h
    refine hold_of h ?_
    kernel_rfl
def z8g (k : Nat) : Entry D := entS z8c (z8d k) z8e
theorem z8h (k : Nat) : EntryOK X 139 (z8g k) := (z8f k).en rfl
def z8i : Plan := ⟨[(0, [(0, none)]), (1, [(0, none), (3, none)]), (2, [(0, none), (3, none), (7, none)]), (3, [(0, none), (3, none)]), (4, [(0, none), (3, none), (14, none)]), (5, [(2, none)]), (6, [(2, none)])],
  [(0, [(0, none)]), (1, [(0, none), (3, none)])],
  [(7, ([(0, none), (3, none)], [(0, none)])), (14, ([], [(0, none), (3, none)]))]⟩
def z8j (k : Nat) : Calls' D := ⟨[(139, z8g k), (78, z6c k)], [], [], [], []⟩
theorem z8k (k : Nat) : CallsOK X (z8j k) := .cons (z8h k) (.cons (z6d k) (.nil cod))
def z8l (x : (List UInt8) × Int × Unit) (o : Oc (Unit) (Bool)) (Q : Ex → VSt D → Prop) (R : VR D → Prop) : Prop := ocP o (fun v0 => Q .normal (mkSt ⟨[(0, .hole)], []⟩ [.str x.1])) (fun w0 => R (.p (.c (.bool w0))))
def z8m (k : Nat) : Cut D := cutS ⟨[(0, .hole), (3, .hole)], []⟩ [.ks, .ki .i64] (fun (x : (List UInt8) × Int × Unit) => S_IsToken_b0 k k x.1 x.2.1) z8l
def z8n (k : Nat) : Cuts D := ⟨[], []⟩
theorem z8o (k : Nat) : CutFor X z8i k Go.Proofs.Tryz.f79.results.toList (z8m k) (sub (bodyOf Go.Proofs.Tryz.f79) [1, 0, 1]) :=
  loopCut_s (X := X) (sg := [.ks, .ki .i64]) (cu := z8n k) (cl := z8j k) (tys := [[0]]) (id := 0) (c := sub (bodyOf Go.Proofs.Tryz.f79) [1, 0, 1, 0, 0]) (f := fun n => fun (x : (List UInt8) × Int × Unit) => S_IsToken_b0 k n x.1 x.2.1) (z8k k) (cutOK_of (l := []) (by kernel_rfl) trivial) (fun _ => rfl) (fun n x Q R h => by
    simp only [S_IsToken_b0, optK_bind, optK_bif, optK_pure, optK_none, optK_oc, optK_guardT, optK_map] at h
    refine hold_of h ?_
    kernel_rfl) (by kernel_rfl)
def z8p (k : Nat) : Cuts D := ⟨[(0, some (z8m k))], []⟩
def z8q : List Ar := [.c (.ks)]
def z8r (k : Nat) (x : TupA D z8q) : Option (Bool) := S_IsToken k x.1
def z8s (r : Bool) : VR D := .p (.c (.bool r))
theorem z8t (k : Nat) : Does P X 79 z8q (z8r k) z8s :=
  does_of (body := bodyOf Go.Proofs.Tryz.f79) (pl := z8i) (k := k) (cu := z8p k) (tys := [[0]]) (z8k k) ctx mixed Go.Proofs.Tryz.func79 (by kernel_rfl) (by kernel_rfl) (cutOK_of (l := [(z8m k, sub (bodyOf Go.Proofs.Tryz.f79) [1, 0, 1])]) (by kernel_rfl) ⟨z8o k, trivial⟩) fun x R h => by
    simp only [z8r, S_IsToken, optK_bind, optK_bif, optK_pure, optK_none, optK_oc, optK_guardT, optK_map] at h
    refine hold_of h ?_
    kernel_rfl
def z8u (k : Nat) : Entry D := entS z8q (z8r k) z8s
theorem z8v (k : Nat) : EntryOK X 79 (z8u k) := (z8t k).en rfl
def z8w : Plan := ⟨[(0, [(0, none)]), (1, [(3, some 9)]), (2, [(3, some 9), (4, some 140)]), (3, [(3, some 9), (4, some 140), (5, none)]), (4, [(3, some 9), (4, some 140), (5, none), (18, none)]), (5, [(3, some 9), (4, some 140), (5, none)]), (6, [(3, some 9), (4, some 140), (5, none), (6, none), (7, none), (8, none)]), (7, [(3, some 9), (4, some 140), (5, none), (7, none), (8, none), (9, none)]), (8, [(3, some 9), (4, some 140), (5, none), (7, none), (8, none), (9, none), (45, none)]), (9, [(3, some 9), (4, some 140), (5, none), (9, none), (10, none), (11, none)]), (10, [(3, some 9), (4, some 140), (5, none), (9, none), (10, none), (52, none)]), (11, [(3, some 9), (4, some 140), (5, none), (9, none)]), (12, [(3, some 9), (4, some 140), (5, none), (9, none), (60, none)]), (13, [(3, some 9), (4, some 140), (5, none), (9, none), (63, none)]), (14, [(3, some 9), (4, some 140), (5, none)]), (15, [(2, some 140)])],
  [(0, [(4, some 140)]), (1, [(3, some 9), (4, some 140), (5, none)])],
  [(18, ([(3, some 9), (4, some 140), (5, none)], [(4, some 140)])), (45, ([(3, some 9), (4, some 140), (5, none), (7, none), (9, none)], [(3, some 9), (4, some 140), (5, none), (7, none), (8, none), (9, none)])), (52, ([(3, some 9), (4, some 140), (5, none)], [(3, some 9), (4, some 140), (5, none), (9, none), (10, none)])), (60, ([(3, some 9), (4, some 140), (5, none)], [(3, some 9), (4, some 140), (5, none), (9, none)])), (63, ([(3, some 9), (4, some 140), (5, none), (9, none)], [(3, some 9), (4, some 140), (5, none)]))]⟩
def z8x (k : Nat) : Calls' D := ⟨[(193, z5o k), (194, z62 k), (158, z6y k), (195, z7s k), (79, z8u k)], [], [], [], []⟩
theorem z8y (k : Nat) : CallsOK X (z8x k) := .cons (z5p k) (.cons (z63 k) (.cons (z6z k) (.cons (z7t k) (.cons (z8v k) (.nil cod)))))
def z8z (x : Int × (List UInt8) × Bool × Bool × (List (List UInt8)) × (List IDirective) × (List UInt8) × (List UInt8) × Bool × Unit) (o : Oc ((List UInt8)) (Unit)) (Q : Ex → VSt D → Prop) (R : VR D → Prop) : Prop := ocP o (fun v0 => Q .normal (mkSt ⟨[(3, .ref 500003), (4, .ref 500004), (5, .hole), (9, .ptr 9 0)], [(500003, .row), (500004, .row), (9, .var [.hole, .hole, .hole])]⟩ [.int .i64 x.1, .sl 9 x.2.2.2.2.1, .sl 140 x.2.2.2.2.2.1, .str x.2.2.2.2.2.2.1, .str v0, .bool x.2.2.2.2.2.2.2.2.1])) (fun w0 => Q (.exit 1) (mkSt ⟨[(3, .ref 500003), (4, .ref 500004), (5, .hole)], [(500003, .row), (500004, .row)]⟩ [.int .i64 x.1, .sl 9 x.2.2.2.2.1, .sl 140 x.2.2.2.2.2.1]))
def z90 (k : Nat) : Cut D := cutS ⟨[(3, .ref 500003), (4, .ref 500004), (5, .hole), (7, .hole), (8, .hole), (9, .ptr 9 0), (45, .hole)], [(500003, .row), (500004, .row), (9, .var [.hole, .hole, .hole])]⟩ [.ki .i64, .ks, .kb, .kb, .kl 9, .kl 140, .ks, .ks, .kb] (fun (x : Int × (List UInt8) × Bool × Bool × (List (List UInt8)) × (List IDirective) × (List UInt8) × (List UInt8) × Bool × Unit) => S_ParseDirectives_c45 k x.1 x.2.1 x.2.2.1 x.2.2.2.1 x.2.2.2.2.1 x.2.2.2.2.2.1 x.2.2.2.2.2.2.1 x.2.2.2.2.2.2.2.1 x.2.2.2.2.2.2.2.2.1) z8z
def z91 (k : Nat) : Cuts D := ⟨[], []⟩
theorem z92 (k : Nat) : CutFor X z8w k Go.Proofs.Tryz.f130.results.toList (z90 k) (sub (bodyOf Go.Proofs.Tryz.f130) [1, 1, 1, 0, 1, 0, 0, 1, 0, 0, 1, 1, 0, 1]) :=
  joinCut_s (X := X) (sg := [.ki .i64, .ks, .kb, .kb, .kl 9, .kl 140, .ks, .ks, .kb]) (cu := z91 k) (cl := z8x k) (tys := [[140]]) (z8y k) (cutOK_of (l := []) (by kernel_rfl) trivial) fun x Q R h => by
    simp only [S_ParseDirectives_c45, optK_bind, optK_bif, optK_pure, optK_none, optK_oc, optK_guardT, optK_map] at h
    refine hold_of h ?_
    kernel_rfl
def z93 (x : Int × Bool × (List (List UInt8)) × (List IDirective) × (List UInt8) × (List UInt8) × Bool × Unit) (o : (List IDirective)) (Q : Ex → VSt D → Prop) (R : VR D → Prop) : Prop := Q .normal (mkSt ⟨[(3, .ref 500003), (4, .ref 500004), (5, .hole)], [(500003, .row), (500004, .row)]⟩ [.int .i64 x.1, .sl 9 x.2.2.1, .sl 140 o])
def z94 (k : Nat) : Cut D := cutS ⟨[(3, .ref 500003), (4, .ref 500004), (5, .hole), (9, .ptr 9 0), (63, .hole)], [(500003, .row), (500004, .row), (9, .var [.hole, .hole, .hole])]⟩ [.ki .i64, .kb, .kl 9, .kl 140, .ks, .ks, .kb] (fun (x : Int × Bool × (List (List UInt8)) × (List IDirective) × (List UInt8) × (List UInt8) × Bool × Unit) => S_ParseDirectives_c63 k x.1 x.2.1 x.2.2.1 x.2.2.2.1 x.2.2.2.2.1 x.2.2.2.2.2.1 x.2.2.2.2.2.2.1) z93
def z95 (k : Nat) : Cuts D := ⟨[], []⟩
theorem z96 (k : Nat) : CutFor X z8w k Go.Proofs.Tryz.f130.results.toList (z94 k) (sub (bodyOf Go.Proofs.Tryz.f130) [1, 1, 1, 0, 1, 0, 0, 1, 0, 0, 1, 1, 1, 1]) :=
  joinCut_s (X := X) (sg := [.ki .i64, .kb, .kl 9, .kl 140, .ks, .ks, .kb]) (cu := z95 k) (cl := z8x k) (tys := [[140]]) (z8y k) (cutOK_of (l := []) (by kernel_rfl) trivial) fun x Q R h => by
    simp only [S_ParseDirectives_c63, optK_bind, optK_bif, optK_pure, optK_none, optK_oc, optK_guardT, optK_map] at h
    refine hold_of h ?_
    kernel_rfl
def z97 (x : Int × (List (List UInt8)) × (List IDirective) × Unit) (o : (List IDirective)) (Q : Ex → VSt D → Prop) (R : VR D → Prop) : Prop := Q .normal (mkSt ⟨[(3, .ref 500003), (4, .ref 500004), (5, .hole)], [(500003, .row), (500004, .row)]⟩ [.int .i64 x.1, .sl 9 x.2.1, .sl 140 o])
def z98 (k : Nat) : Cut D := cutS ⟨[(3, .ref 500003), (4, .ref 500004), (5, .hole)], [(500003, .row), (500004, .row)]⟩ [.ki .i64, .kl 9, .kl 140] (fun (x : Int × (List (List UInt8)) × (List IDirective) × Unit) => S_ParseDirectives_b1 k x.1 x.2.1 x.2.2.1) z97
def z99 (k : Nat) : Cuts D := ⟨[], [(45, some (z90 k)), (63, some (z94 k))]⟩
theorem z9a (k : Nat) : CutFor X z8w k Go.Proofs.Tryz.f130.results.toList (z98 k) (sub (bodyOf Go.Proofs.Tryz.f130) [1, 1, 1, 0, 1, 0, 0, 1, 0]) :=
  joinCut_s (X := X) (sg := [.ki .i64, .kl 9, .kl 140]) (cu := z99 k) (cl := z8x k) (tys := [[140]]) (z8y k) (cutOK_of (l := [(z90 k, sub (bodyOf Go.Proofs.Tryz.f130) [1, 1, 1, 0, 1, 0, 0, 1, 0, 0, 1, 1, 0, 1]), (z94 k, sub (bodyOf Go.Proofs.Tryz.f130) [1, 1, 1, 0, 1, 0, 0, 1, 0, 0, 1, 1, 1, 1])]) (by kernel_rfl) ⟨z92 k, z96 k, trivial⟩) fun x Q R h => by
    simp only [S_ParseDirectives_b1, optK_bind, optK_bif, optK_pure, optK_none, optK_oc, optK_guardT, optK_map] at h
    refine hold_of h ?_
    kernel_rfl
def z9b (x : Int × (List (List UInt8)) × (List IDirective) × Unit) (o : (List IDirective)) (Q : Ex → VSt D → Prop) (R : VR D → Prop) : Prop := Q .normal (mkSt ⟨[(4, .ref 500004)], [(500004, .row)]⟩ [.sl 140 o])
def z9c (k : Nat) : Cut D := cutS ⟨[(3, .ref 500003), (4, .ref 500004), (5, .hole)], [(500003, .row), (500004, .row)]⟩ [.ki .i64, .kl 9, .kl 140] (fun (x : Int × (List (List UInt8)) × (List IDirective) × Unit) => S_ParseDirectives_b0 k k x.1 x.2.1 x.2.2.1) z9b
def z9d (k : Nat) : Cuts D := ⟨[(1, some (z98 k))], []⟩
theorem z9e (k : Nat) : CutFor X z8w k Go.Proofs.Tryz.f130.results.toList (z9c k) (sub (bodyOf Go.Proofs.Tryz.f130) [1, 1, 1, 0, 1]) :=
  loopCut_s (X := X) (sg := [.ki .i64, .kl 9, .kl 140]) (cu := z9d k) (cl := z8x k) (tys := [[140]]) (id := 0) (c := sub (bodyOf Go.Proofs.Tryz.f130) [1, 1, 1, 0, 1, 0, 0]) (f := fun n => fun (x : Int × (List (List UInt8)) × (List IDirective) × Unit) => S_ParseDirectives_b0 k n x.1 x.2.1 x.2.2.1) (z8y k) (cutOK_of (l := [(z98 k, sub (bodyOf Go.Proofs.Tryz.f130) [1, 1, 1, 0, 1, 0, 0, 1, 0])]) (by kernel_rfl) ⟨z9a k, trivial⟩) (fun _ => rfl) (fun n x Q R h => by
    simp only [S_ParseDirectives_b0, optK_bind, optK_bif, optK_pure, optK_none, optK_oc, optK_guardT, optK_map] at h
    refine hold_of h ?_
    kernel_rfl) (by kernel_rfl)
def z9f (k : Nat) : Cuts D := ⟨[(0, some (z9c k))], []⟩
def z9g : List Ar := [.c (.ks)]
def z9h (k : Nat) (x : TupA D z9g) : Option ((List IDirective)) := S_ParseDirectives k x.1
def z9i (r : (List IDirective)) : VR D := .p (.c (.sl 140 r))
theorem z9j (k : Nat) : Does P X 130 z9g (z9h k) z9i :=
  does_of (body := bodyOf Go.Proofs.Tryz.f130) (pl := z8w) (k := k) (cu := z9f k) (tys := [[140]]) (z8y k) ctx mixed Go.Proofs.Tryz.func130 (by kernel_rfl) (by kernel_rfl) (cutOK_of (l := [(z9c k, sub (bodyOf Go.Proofs.Tryz.f130) [1, 1, 1, 0, 1])]) (by kernel_rfl) ⟨z9e k, trivial⟩) fun x R h => by
    simp only [z9h, S_ParseDirectives, optK_bind, optK_bif, optK_pure, optK_none, optK_oc, optK_guardT, optK_map] at h
    refine hold_of h ?_
    kernel_rfl
def z9k (k : Nat) : Entry D := entS z9g (z9h k) z9i
theorem z9l (k : Nat) : EntryOK X 130 (z9k k) := (z9j k).en rfl
def z9m : Plan := ⟨[(0, [(0, some 107)]), (1, [(2, some 140)])],
  [],
  []⟩
def z9n (k : Nat) : Calls' D := ⟨[(50, z3c k), (130, z9k k)], [], [], [], []⟩
theorem z9o (k : Nat) : CallsOK X (z9n k) := .cons (z3d k) (.cons (z9l k) (.nil cod))
def z9p (k : Nat) : Cuts D := ⟨[], []⟩
def z9q : List Ar := [.c (.kl 107)]
def z9r (k : Nat) (x : TupA D z9q) : Option ((List IDirective)) := S_l19Rules k x.1
def z9s (r : (List IDirective)) : VR D := .p (.c (.sl 140 r))
theorem z9t (k : Nat) : Does P X 68 z9q (z9r k) z9s :=
  does_of (body := bodyOf Go.Proofs.Tryz.f68) (pl := z9m) (k := k) (cu := z9p k) (tys := [[140]]) (z9o k) ctx mixed Go.Proofs.Tryz.func68 (by kernel_rfl) (by kernel_rfl) (cutOK_of (l := []) (by kernel_rfl) trivial) fun x R h => by
    simp only [z9r, S_l19Rules, optK_bind, optK_bif, optK_pure, optK_none, optK_oc, optK_guardT, optK_map] at h
    refine hold_of h ?_
    kernel_rfl
def z9u (k : Nat) : Entry D := entS z9q (z9r k) z9s
theorem z9v (k : Nat) : EntryOK X 68 (z9u k) := (z9t k).en rfl
def z9w : Plan := ⟨[(0, [(0, some 140), (1, none)]), (1, [(0, some 140), (1, none), (5, none)]), (2, [(0, some 140), (1, none), (5, none), (9, none)]), (3, [(0, some 140), (1, none), (5, none)]), (4, [(0, some 140), (1, none), (5, none), (18, none)]), (5, [(4, none)]), (6, [(4, none)])],
  [(0, []), (1, [(0, some 140), (1, none), (5, none)])],
  [(9, ([(0, some 140), (1, none), (5, none)], [])), (18, ([(5, none)], [(0, some 140), (1, none), (5, none)]))]⟩
def z9x (k : Nat) : Calls' D := ⟨[], [], [], [], []⟩
theorem z9y (k : Nat) : CallsOK X (z9x k) := .nil cod
def z9z (x : (List IDirective) × (List UInt8) × Int × Unit) (o : Oc (Unit) (Int)) (Q : Ex → VSt D → Prop) (R : VR D → Prop) : Prop := ocP o (fun v0 => Q .normal (mkSt ⟨[], []⟩ [])) (fun w0 => R (.p (.c (.int .i64 w0))))
def za0 (k : Nat) : Cut D := cutS ⟨[(0, .hole), (1, .hole), (5, .hole)], []⟩ [.kl 140, .ks, .ki .i64] (fun (x : (List IDirective) × (List UInt8) × Int × Unit) => S_FindDirective_b0 k k x.1 x.2.1 x.2.2.1) z9z
def za1 (k : Nat) : Cuts D := ⟨[], []⟩
theorem za2 (k : Nat) : CutFor X z9w k Go.Proofs.Tryz.f131.results.toList (za0 k) (sub (bodyOf Go.Proofs.Tryz.f131) [1, 0, 1]) :=
  loopCut_s (X := X) (sg := [.kl 140, .ks, .ki .i64]) (cu := za1 k) (cl := z9x k) (tys := [[0]]) (id := 0) (c := sub (bodyOf Go.Proofs.Tryz.f131) [1, 0, 1, 0, 0]) (f := fun n => fun (x : (List IDirective) × (List UInt8) × Int × Unit) => S_FindDirective_b0 k n x.1 x.2.1 x.2.2.1) (z9y k) (cutOK_of (l := []) (by kernel_rfl) trivial) (fun _ => rfl) (fun n x Q R h => by
    simp only [S_FindDirective_b0, optK_bind, optK_bif, optK_pure, optK_none, optK_oc, optK_guardT, optK_map] at h
    refine hold_of h ?_
    kernel_rfl) (by kernel_rfl)
def za3 (k : Nat) : Cuts D := ⟨[(0, some (za0 k))], []⟩
def za4 : List Ar := [.c (.kl 140), .c (.ks)]
def za5 (k : Nat) (x : TupA D za4) : Option (Int) := S_FindDirective k x.1 x.2.1
def za6 (r : Int) : VR D := .p (.c (.int .i64 r))
theorem za7 (k : Nat) : Does P X 131 za4 (za5 k) za6 :=
  does_of (body := bodyOf Go.Proofs.Tryz.f131) (pl := z9w) (k := k) (cu := za3 k) (tys := [[0]]) (z9y k) ctx mixed Go.Proofs.Tryz.func131 (by kernel_rfl) (by kernel_rfl) (cutOK_of (l := [(za0 k, sub (bodyOf Go.Proofs.Tryz.f131) [1, 0, 1])]) (by kernel_rfl) ⟨za2 k, trivial⟩) fun x R h => by
    simp only [za5, S_FindDirective, optK_bind, optK_bif, optK_pure, optK_none, optK_oc, optK_guardT, optK_map] at h
    refine hold_of h ?_
    kernel_rfl
def za8 (k : Nat) : Entry D := entS za4 (za5 k) za6
theorem za9 (k : Nat) : EntryOK X 131 (za8 k) := (za7 k).en rfl
def zaa : Plan := ⟨[(0, [(0, none), (1, none)]), (1, [(0, none), (1, none), (7, none)]), (2, [(4, none)]), (3, [(4, none)])],
  [],
  [(7, ([(1, none)], [(0, none)]))]⟩
def zab (k : Nat) : Calls' D := ⟨[], [], [], [], []⟩
theorem zac (k : Nat) : CallsOK X (zab k) := .nil cod
def zad (k : Nat) : Cuts D := ⟨[], []⟩
def zae : List Ar := [.c (.ki .i64), .c (.ki .i64)]
def zaf (k : Nat) (x : TupA D zae) : Option (Int) := S_Min k x.1 x.2.1
def zag (r : Int) : VR D := .p (.c (.int .i64 r))
theorem zah (k : Nat) : Does P X 51 zae (zaf k) zag :=
  does_of (body := bodyOf Go.Proofs.Tryz.f51) (pl := zaa) (k := k) (cu := zad k) (tys := [[0]]) (zac k) ctx mixed Go.Proofs.Tryz.func51 (by kernel_rfl) (by kernel_rfl) (cutOK_of (l := []) (by kernel_rfl) trivial) fun x R h => by
    simp only [zaf, S_Min, optK_bind, optK_bif, optK_pure, optK_none, optK_oc, optK_guardT, optK_map] at h
    refine hold_of h ?_
    kernel_rfl
def zai (k : Nat) : Entry D := entS zae (zaf k) zag
theorem zaj (k : Nat) : EntryOK X 51 (zai k) := (zah k).en rfl
def zak : Plan := ⟨[(0, [(0, some 140), (1, none)]), (1, [(0, some 140), (6, none)]), (2, [(0, some 140), (6, none), (14, none)]), (3, [(4, none), (5, none)]), (4, [(0, some 140), (6, none), (7, none)]), (5, [(7, none), (8, none)]), (6, [(7, none), (8, none), (9, none)]), (7, [(7, none), (8, none), (9, none), (23, none)]), (8, [(7, none), (8, none), (9, none)]), (9, [(7, none), (8, none), (9, none), (31, none)]), (10, [(4, none), (5, none)]), (11, [(7, none), (8, none), (9, none)]), (12, [(4, none), (5, none)])],
  [(0, [(7, none)]), (1, [(7, none), (8, none), (9, none)])],
  [(14, ([], [(0, some 140), (6, none)])), (23, ([(7, none), (8, none), (9, none)], [(7, none)])), (31, ([], [(7, none), (8, none), (9, none)]))]⟩
def zal (k : Nat) : Calls' D := ⟨[(131, za8 k), (78, z6c k), (51, zai k)], [], [], [], []⟩
theorem zam (k : Nat) : CallsOK X (zal k) := .cons (za9 k) (.cons (z6d k) (.cons (zaj k) (.nil cod)))
def zan (x : Int × (List UInt8) × Int × Unit) (o : Oc (Int) (Int × Bool)) (Q : Ex → VSt D → Prop) (R : VR D → Prop) : Prop := ocP o (fun v0 => Q .normal (mkSt ⟨[(7, .hole)], []⟩ [.int .i64 v0])) (fun w0 => R (.tup [.c (.int .i64 w0.1), .c (.bool w0.2)]))
def zao (k : Nat) : Cut D := cutS ⟨[(7, .hole), (8, .hole), (9, .hole)], []⟩ [.ki .i64, .ks, .ki .i64] (fun (x : Int × (List UInt8) × Int × Unit) => S_SecondsOf_b0 k k x.1 x.2.1 x.2.2.1) zan
def zap (k : Nat) : Cuts D := ⟨[], []⟩
theorem zaq (k : Nat) : CutFor X zak k Go.Proofs.Tryz.f69.results.toList (zao k) (sub (bodyOf Go.Proofs.Tryz.f69) [1, 1, 1, 1, 1, 0, 1]) :=
  loopCut_s (X := X) (sg := [.ki .i64, .ks, .ki .i64]) (cu := zap k) (cl := zal k) (tys := [[0], [0]]) (id := 0) (c := sub (bodyOf Go.Proofs.Tryz.f69) [1, 1, 1, 1, 1, 0, 1, 0, 0]) (f := fun n => fun (x : Int × (List UInt8) × Int × Unit) => S_SecondsOf_b0 k n x.1 x.2.1 x.2.2.1) (zam k) (cutOK_of (l := []) (by kernel_rfl) trivial) (fun _ => rfl) (fun n x Q R h => by
    simp only [S_SecondsOf_b0, optK_bind, optK_bif, optK_pure, optK_none, optK_oc, optK_guardT, optK_map] at h
    refine hold_of h ?_
    kernel_rfl) (by kernel_rfl)
def zar (k : Nat) : Cuts D := ⟨[(0, some (zao k))], []⟩
def zas : List Ar := [.c (.kl 140), .c (.ks)]
def zat (k : Nat) (x : TupA D zas) : Option (Int × Bool) := S_SecondsOf k x.1 x.2.1
def zau (r : Int × Bool) : VR D := .tup [.c (.int .i64 r.1), .c (.bool r.2)]
theorem zav (k : Nat) : Does P X 69 zas (zat k) zau :=
  does_of (body := bodyOf Go.Proofs.Tryz.f69) (pl := zak) (k := k) (cu := zar k) (tys := [[0], [0]]) (zam k) ctx mixed Go.Proofs.Tryz.func69 (by kernel_rfl) (by kernel_rfl) (cutOK_of (l := [(zao k, sub (bodyOf Go.Proofs.Tryz.f69) [1, 1, 1, 1, 1, 0, 1])]) (by kernel_rfl) ⟨zaq k, trivial⟩) fun x R h => by
    simp only [zat, S_SecondsOf, optK_bind, optK_bif, optK_pure, optK_none, optK_oc, optK_guardT, optK_map] at h
    refine hold_of h ?_
    kernel_rfl
def zaw (k : Nat) : Entry D := entS zas (zat k) zau
theorem zax (k : Nat) : EntryOK X 69 (zaw k) := (zav k).en rfl
def zay : Plan := ⟨[(0, [(0, none), (1, none)]), (1, [(0, none), (1, none), (30, none)]), (2, [(4, none)]), (3, [(4, none)])],
  [],
  [(30, ([], [(0, none), (1, none)]))]⟩
def zaz (k : Nat) : Calls' D := ⟨[(78, z6c k)], [], [], [], []⟩
theorem zb0 (k : Nat) : CallsOK X (zaz k) := .cons (z6d k) (.nil cod)
def zb1 (k : Nat) : Cuts D := ⟨[], []⟩
def zb2 : List Ar := [.c (.ks), .c (.ki .i64)]
def zb3 (k : Nat) (x : TupA D zb2) : Option (Int) := S_l3Two k x.1 x.2.1
def zb4 (r : Int) : VR D := .p (.c (.int .i64 r))
theorem zb5 (k : Nat) : Does P X 112 zb2 (zb3 k) zb4 :=
  does_of (body := bodyOf Go.Proofs.Tryz.f112) (pl := zay) (k := k) (cu := zb1 k) (tys := [[0]]) (zb0 k) ctx mixed Go.Proofs.Tryz.func112 (by kernel_rfl) (by kernel_rfl) (cutOK_of (l := []) (by kernel_rfl) trivial) fun x R h => by
    simp only [zb3, S_l3Two, optK_bind, optK_bif, optK_pure, optK_none, optK_oc, optK_guardT, optK_map] at h
    refine hold_of h ?_
    kernel_rfl
def zb6 (k : Nat) : Entry D := entS zb2 (zb3 k) zb4
theorem zb7 (k : Nat) : EntryOK X 112 (zb6 k) := (zb5 k).en rfl
def zb8 : Plan := ⟨[(0, []), (1, [(0, some 9)])],
  [],
  []⟩
def zb9 (k : Nat) : Calls' D := ⟨[], [], [], [], []⟩
theorem zba (k : Nat) : CallsOK X (zb9 k) := .nil cod
def zbb (k : Nat) : Cuts D := ⟨[], []⟩
def zbc : List Ar := []
def zbd (k : Nat) (x : TupA D zbc) : Option ((List (List UInt8))) := S_l3Months k 
def zbe (r : (List (List UInt8))) : VR D := .p (.c (.sl 9 r))
theorem zbf (k : Nat) : Does P X 168 zbc (zbd k) zbe :=
  does_of (body := bodyOf Go.Proofs.Tryz.f168) (pl := zb8) (k := k) (cu := zbb k) (tys := [[9]]) (zba k) ctx mixed Go.Proofs.Tryz.func168 (by kernel_rfl) (by kernel_rfl) (cutOK_of (l := []) (by kernel_rfl) trivial) fun x R h => by
    simp only [zbd, S_l3Months, optK_bind, optK_bif, optK_pure, optK_none, optK_oc, optK_guardT, optK_map] at h
    refine hold_of h ?_
    kernel_rfl
def zbg (k : Nat) : Entry D := entS zbc (zbd k) zbe
theorem zbh (k : Nat) : EntryOK X 168 (zbg k) := (zbf k).en rfl
def zbi : Plan := ⟨[(0, [(0, none), (1, none)]), (1, [(0, none), (1, none), (5, some 9)]), (2, [(0, none), (1, none), (5, some 9), (6, none)]), (3, [(0, none), (1, none), (5, some 9), (6, none), (9, none)]), (4, [(0, none), (1, none), (5, some 9), (6, none)]), (5, [(0, none), (1, none), (5, some 9), (6, none), (32, none)]), (6, [(4, none)]), (7, [(4, none)])],
  [(0, []), (1, [(0, none), (1, none), (5, some 9), (6, none)])],
  [(9, ([(0, none), (1, none), (5, some 9), (6, none)], [])), (32, ([(6, none)], [(0, none), (1, none), (5, some 9), (6, none)]))]⟩
def zbj (k : Nat) : Calls' D := ⟨[(168, zbg k)], [], [], [], []⟩
theorem zbk (k : Nat) : CallsOK X (zbj k) := .cons (zbh k) (.nil cod)
def zbl (x : (List UInt8) × Int × Int × (List (List UInt8)) × Unit) (o : Oc (Unit) (Int)) (Q : Ex → VSt D → Prop) (R : VR D → Prop) : Prop := ocP o (fun v0 => Q .normal (mkSt ⟨[], []⟩ [])) (fun w0 => R (.p (.c (.int .i64 w0))))
def zbm (k : Nat) : Cut D := cutS ⟨[(0, .hole), (1, .hole), (5, .ref 500005), (6, .hole)], [(500005, .row)]⟩ [.ks, .ki .i64, .ki .i64, .kl 9] (fun (x : (List UInt8) × Int × Int × (List (List UInt8)) × Unit) => S_l3Month_b0 k k x.1 x.2.1 x.2.2.1 x.2.2.2.1) zbl
def zbn (k : Nat) : Cuts D := ⟨[], []⟩
theorem zbo (k : Nat) : CutFor X zbi k Go.Proofs.Tryz.f113.results.toList (zbm k) (sub (bodyOf Go.Proofs.Tryz.f113) [1, 1, 0, 1]) :=
  loopCut_s (X := X) (sg := [.ks, .ki .i64, .ki .i64, .kl 9]) (cu := zbn k) (cl := zbj k) (tys := [[0]]) (id := 0) (c := sub (bodyOf Go.Proofs.Tryz.f113) [1, 1, 0, 1, 0, 0]) (f := fun n => fun (x : (List UInt8) × Int × Int × (List (List UInt8)) × Unit) => S_l3Month_b0 k n x.1 x.2.1 x.2.2.1 x.2.2.2.1) (zbk k) (cutOK_of (l := []) (by kernel_rfl) trivial) (fun _ => rfl) (fun n x Q R h => by
    simp only [S_l3Month_b0, optK_bind, optK_bif, optK_pure, optK_none, optK_oc, optK_guardT, optK_map] at h
    refine hold_of h ?_
    kernel_rfl) (by kernel_rfl)
def zbp (k : Nat) : Cuts D := ⟨[(0, some (zbm k))], []⟩
def zbq : List Ar := [.c (.ks), .c (.ki .i64)]
def zbr (k : Nat) (x : TupA D zbq) : Option (Int) := S_l3Month k x.1 x.2.1
def zbs (r : Int) : VR D := .p (.c (.int .i64 r))
theorem zbt (k : Nat) : Does P X 113 zbq (zbr k) zbs :=
  does_of (body := bodyOf Go.Proofs.Tryz.f113) (pl := zbi) (k := k) (cu := zbp k) (tys := [[0]]) (zbk k) ctx mixed Go.Proofs.Tryz.func113 (by kernel_rfl) (by kernel_rfl) (cutOK_of (l := [(zbm k, sub (bodyOf Go.Proofs.Tryz.f113) [1, 1, 0, 1])]) (by kernel_rfl) ⟨zbo k, trivial⟩) fun x R h => by
    simp only [zbr, S_l3Month, optK_bind, optK_bif, optK_pure, optK_none, optK_oc, optK_guardT, optK_map] at h
    refine hold_of h ?_
    kernel_rfl
def zbu (k : Nat) : Entry D := entS zbq (zbr k) zbs
theorem zbv (k : Nat) : EntryOK X 113 (zbu k) := (zbt k).en rfl
def zbw : Plan := ⟨[(0, [(0, none), (1, none)]), (1, [(0, none), (1, none), (7, none)]), (2, [(4, none)]), (3, [(4, none)])],
  [],
  [(7, ([], [(0, none), (1, none)]))]⟩
def zbx (k : Nat) : Calls' D := ⟨[(78, z6c k)], [], [], [], []⟩
theorem zby (k : Nat) : CallsOK X (zbx k) := .cons (z6d k) (.nil cod)
def zbz (k : Nat) : Cuts D := ⟨[], []⟩
def zc0 : List Ar := [.c (.ki .i64), .c (.ki .i64)]
def zc1 (k : Nat) (x : TupA D zc0) : Option (Int) := S_Mod k x.1 x.2.1
def zc2 (r : Int) : VR D := .p (.c (.int .i64 r))
theorem zc3 (k : Nat) : Does P X 226 zc0 (zc1 k) zc2 :=
  does_of (body := bodyOf Go.Proofs.Tryz.f226) (pl := zbw) (k := k) (cu := zbz k) (tys := [[0]]) (zby k) ctx mixed Go.Proofs.Tryz.func226 (by kernel_rfl) (by kernel_rfl) (cutOK_of (l := []) (by kernel_rfl) trivial) fun x R h => by
    simp only [zc1, S_Mod, optK_bind, optK_bif, optK_pure, optK_none, optK_oc, optK_guardT, optK_map] at h
    refine hold_of h ?_
    kernel_rfl
def zc4 (k : Nat) : Entry D := entS zc0 (zc1 k) zc2
theorem zc5 (k : Nat) : EntryOK X 226 (zc4 k) := (zc3 k).en rfl
def zc6 : Plan := ⟨[(0, [(0, none)]), (1, [(2, none)])],
  [],
  []⟩
def zc7 (k : Nat) : Calls' D := ⟨[(226, zc4 k)], [], [], [], []⟩
theorem zc8 (k : Nat) : CallsOK X (zc7 k) := .cons (zc5 k) (.nil cod)
def zc9 (k : Nat) : Cuts D := ⟨[], []⟩
def zca : List Ar := [.c (.ki .i64)]
def zcb (k : Nat) (x : TupA D zca) : Option (Bool) := S_IsLeap k x.1
def zcc (r : Bool) : VR D := .p (.c (.bool r))
theorem zcd (k : Nat) : Does P X 170 zca (zcb k) zcc :=
  does_of (body := bodyOf Go.Proofs.Tryz.f170) (pl := zc6) (k := k) (cu := zc9 k) (tys := [[0]]) (zc8 k) ctx mixed Go.Proofs.Tryz.func170 (by kernel_rfl) (by kernel_rfl) (cutOK_of (l := []) (by kernel_rfl) trivial) fun x R h => by
    simp only [zcb, S_IsLeap, optK_bind, optK_bif, optK_pure, optK_none, optK_oc, optK_guardT, optK_map] at h
    refine hold_of h ?_
    kernel_rfl
def zce (k : Nat) : Entry D := entS zca (zcb k) zcc
theorem zcf (k : Nat) : EntryOK X 170 (zce k) := (zcd k).en rfl
def zcg : Plan := ⟨[(0, [(0, none), (1, none)]), (1, [(1, none), (10, none)]), (2, [(4, none)]), (3, [(4, none)])],
  [],
  [(10, ([], [(1, none)]))]⟩
def zch (k : Nat) : Calls' D := ⟨[(170, zce k)], [], [], [], []⟩
theorem zci (k : Nat) : CallsOK X (zch k) := .cons (zcf k) (.nil cod)
def zcj (k : Nat) : Cuts D := ⟨[], []⟩
def zck : List Ar := [.c (.ki .i64), .c (.ki .i64)]
def zcl (k : Nat) (x : TupA D zck) : Option (Int) := S_l3Long k x.1 x.2.1
def zcm (r : Int) : VR D := .p (.c (.int .i64 r))
theorem zcn (k : Nat) : Does P X 169 zck (zcl k) zcm :=
  does_of (body := bodyOf Go.Proofs.Tryz.f169) (pl := zcg) (k := k) (cu := zcj k) (tys := [[0]]) (zci k) ctx mixed Go.Proofs.Tryz.func169 (by kernel_rfl) (by kernel_rfl) (cutOK_of (l := []) (by kernel_rfl) trivial) fun x R h => by
    simp only [zcl, S_l3Long, optK_bind, optK_bif, optK_pure, optK_none, optK_oc, optK_guardT, optK_map] at h
    refine hold_of h ?_
    kernel_rfl
def zco (k : Nat) : Entry D := entS zck (zcl k) zcm
theorem zcp (k : Nat) : EntryOK X 169 (zco k) := (zcn k).en rfl
def zcq : Plan := ⟨[(0, [(0, none), (1, none), (2, none)]), (1, [(0, none), (1, none), (2, none), (25, none)]), (2, [(6, none)]), (3, [(0, none), (1, none), (7, none)]), (4, [(0, none), (1, none), (7, none), (8, none)]), (5, [(0, none), (1, none), (7, none), (8, none), (30, none)]), (6, [(0, none), (1, none), (7, none), (8, none)]), (7, [(0, none), (1, none), (7, none), (8, none)]), (8, [(0, none), (1, none), (7, none), (8, none), (36, none)]), (9, [(0, none), (1, none), (7, none), (8, none)]), (10, [(0, none), (1, none), (7, none), (9, none)]), (11, [(0, none), (1, none), (7, none), (9, none), (41, none)]), (12, [(0, none), (1, none), (7, none), (9, none)]), (13, [(0, none), (1, none), (7, none), (9, none)]), (14, [(6, none)])],
  [(0, [(0, none), (1, none), (7, none)]), (1, [(0, none), (1, none), (7, none), (8, none)]), (2, [(7, none)]), (3, [(0, none), (1, none), (7, none), (9, none)])],
  [(25, ([], [(0, none), (1, none), (2, none)])), (30, ([(0, none), (1, none), (7, none), (8, none)], [(0, none), (1, none), (7, none)])), (36, ([(0, none), (1, none), (7, none), (8, none)], [(0, none), (1, none), (7, none), (8, none)])), (41, ([(0, none), (1, none), (7, none), (9, none)], [(7, none)]))]⟩
def zcr (k : Nat) : Calls' D := ⟨[(78, z6c k), (169, zco k), (170, zce k)], [], [], [], []⟩
theorem zcs (k : Nat) : CallsOK X (zcr k) := .cons (z6d k) (.cons (zcp k) (.cons (zcf k) (.nil cod)))
def zct (x : Int × Int × Int × Int × Bool × Unit) (o : Int) (Q : Ex → VSt D → Prop) (R : VR D → Prop) : Prop := Q .normal (mkSt ⟨[(0, .hole), (1, .hole), (7, .hole), (8, .hole)], []⟩ [.int .i64 x.1, .int .i64 x.2.1, .int .i64 o, .int .i64 x.2.2.2.1])
def zcu (k : Nat) : Cut D := cutS ⟨[(0, .hole), (1, .hole), (7, .hole), (8, .hole), (36, .hole)], []⟩ [.ki .i64, .ki .i64, .ki .i64, .ki .i64, .kb] (fun (x : Int × Int × Int × Int × Bool × Unit) => S_DaysOf_c36 k x.1 x.2.1 x.2.2.1 x.2.2.2.1 x.2.2.2.2.1) zct
def zcv (k : Nat) : Cuts D := ⟨[], []⟩
theorem zcw (k : Nat) : CutFor X zcq k Go.Proofs.Tryz.f114.results.toList (zcu k) (sub (bodyOf Go.Proofs.Tryz.f114) [1, 1, 1, 0, 1, 0, 0, 1, 0, 0, 1, 1]) :=
  joinCut_s (X := X) (sg := [.ki .i64, .ki .i64, .ki .i64, .ki .i64, .kb]) (cu := zcv k) (cl := zcr k) (tys := [[0]]) (zcs k) (cutOK_of (l := []) (by kernel_rfl) trivial) fun x Q R h => by
    simp only [S_DaysOf_c36, optK_bind, optK_bif, optK_pure, optK_none, optK_oc, optK_guardT, optK_map] at h
    refine hold_of h ?_
    kernel_rfl
def zcx (x : Int × Int × Int × Int × Unit) (o : Int) (Q : Ex → VSt D → Prop) (R : VR D → Prop) : Prop := Q .normal (mkSt ⟨[(0, .hole), (1, .hole), (7, .hole), (8, .hole)], []⟩ [.int .i64 x.1, .int .i64 x.2.1, .int .i64 o, .int .i64 x.2.2.2.1])
def zcy (k : Nat) : Cut D := cutS ⟨[(0, .hole), (1, .hole), (7, .hole), (8, .hole)], []⟩ [.ki .i64, .ki .i64, .ki .i64, .ki .i64] (fun (x : Int × Int × Int × Int × Unit) => S_DaysOf_b1 k x.1 x.2.1 x.2.2.1 x.2.2.2.1) zcx
def zcz (k : Nat) : Cuts D := ⟨[], [(36, some (zcu k))]⟩
theorem zd0 (k : Nat) : CutFor X zcq k Go.Proofs.Tryz.f114.results.toList (zcy k) (sub (bodyOf Go.Proofs.Tryz.f114) [1, 1, 1, 0, 1, 0, 0, 1, 0]) :=
  joinCut_s (X := X) (sg := [.ki .i64, .ki .i64, .ki .i64, .ki .i64]) (cu := zcz k) (cl := zcr k) (tys := [[0]]) (zcs k) (cutOK_of (l := [(zcu k, sub (bodyOf Go.Proofs.Tryz.f114) [1, 1, 1, 0, 1, 0, 0, 1, 0, 0, 1, 1])]) (by kernel_rfl) ⟨zcw k, trivial⟩) fun x Q R h => by
    simp only [S_DaysOf_b1, optK_bind, optK_bif, optK_pure, optK_none, optK_oc, optK_guardT, optK_map] at h
    refine hold_of h ?_
    kernel_rfl
def zd1 (x : Int × Int × Int × Int × Unit) (o : Int) (Q : Ex → VSt D → Prop) (R : VR D → Prop) : Prop := Q .normal (mkSt ⟨[(0, .hole), (1, .hole), (7, .hole)], []⟩ [.int .i64 x.1, .int .i64 x.2.1, .int .i64 o])
def zd2 (k : Nat) : Cut D := cutS ⟨[(0, .hole), (1, .hole), (7, .hole), (8, .hole)], []⟩ [.ki .i64, .ki .i64, .ki .i64, .ki .i64] (fun (x : Int × Int × Int × Int × Unit) => S_DaysOf_b0 k k x.1 x.2.1 x.2.2.1 x.2.2.2.1) zd1
def zd3 (k : Nat) : Cuts D := ⟨[(1, some (zcy k))], []⟩
theorem zd4 (k : Nat) : CutFor X zcq k Go.Proofs.Tryz.f114.results.toList (zd2 k) (sub (bodyOf Go.Proofs.Tryz.f114) [1, 1, 1, 0, 1]) :=
  loopCut_s (X := X) (sg := [.ki .i64, .ki .i64, .ki .i64, .ki .i64]) (cu := zd3 k) (cl := zcr k) (tys := [[0]]) (id := 0) (c := sub (bodyOf Go.Proofs.Tryz.f114) [1, 1, 1, 0, 1, 0, 0]) (f := fun n => fun (x : Int × Int × Int × Int × Unit) => S_DaysOf_b0 k n x.1 x.2.1 x.2.2.1 x.2.2.2.1) (zcs k) (cutOK_of (l := [(zcy k, sub (bodyOf Go.Proofs.Tryz.f114) [1, 1, 1, 0, 1, 0, 0, 1, 0])]) (by kernel_rfl) ⟨zd0 k, trivial⟩) (fun _ => rfl) (fun n x Q R h => by
    simp only [S_DaysOf_b0, optK_bind, optK_bif, optK_pure, optK_none, optK_oc, optK_guardT, optK_map] at h
    refine hold_of h ?_
    kernel_rfl) (by kernel_rfl)
def zd5 (x : Int × Int × Int × Int × Unit) (o : Int) (Q : Ex → VSt D → Prop) (R : VR D → Prop) : Prop := Q .normal (mkSt ⟨[(7, .hole)], []⟩ [.int .i64 o])
def zd6 (k : Nat) : Cut D := cutS ⟨[(0, .hole), (1, .hole), (7, .hole), (9, .hole)], []⟩ [.ki .i64, .ki .i64, .ki .i64, .ki .i64] (fun (x : Int × Int × Int × Int × Unit) => S_DaysOf_b2 k k x.1 x.2.1 x.2.2.1 x.2.2.2.1) zd5
def zd7 (k : Nat) : Cuts D := ⟨[], []⟩
theorem zd8 (k : Nat) : CutFor X zcq k Go.Proofs.Tryz.f114.results.toList (zd6 k) (sub (bodyOf Go.Proofs.Tryz.f114) [1, 1, 1, 1, 0, 1]) :=
  loopCut_s (X := X) (sg := [.ki .i64, .ki .i64, .ki .i64, .ki .i64]) (cu := zd7 k) (cl := zcr k) (tys := [[0]]) (id := 2) (c := sub (bodyOf Go.Proofs.Tryz.f114) [1, 1, 1, 1, 0, 1, 0, 0]) (f := fun n => fun (x : Int × Int × Int × Int × Unit) => S_DaysOf_b2 k n x.1 x.2.1 x.2.2.1 x.2.2.2.1) (zcs k) (cutOK_of (l := []) (by kernel_rfl) trivial) (fun _ => rfl) (fun n x Q R h => by
    simp only [S_DaysOf_b2, optK_bind, optK_bif, optK_pure, optK_none, optK_oc, optK_guardT, optK_map] at h
    refine hold_of h ?_
    kernel_rfl) (by kernel_rfl)
def zd9 (k : Nat) : Cuts D := ⟨[(0, some (zd2 k)), (2, some (zd6 k))], []⟩
def zda : List Ar := [.c (.ki .i64), .c (.ki .i64), .c (.ki .i64)]
def zdb (k : Nat) (x : TupA D zda) : Option (Int) := S_DaysOf k x.1 x.2.1 x.2.2.1
def zdc (r : Int) : VR D := .p (.c (.int .i64 r))
theorem zdd (k : Nat) : Does P X 114 zda (zdb k) zdc :=
  does_of (body := bodyOf Go.Proofs.Tryz.f114) (pl := zcq) (k := k) (cu := zd9 k) (tys := [[0]]) (zcs k) ctx mixed Go.Proofs.Tryz.func114 (by kernel_rfl) (by kernel_rfl) (cutOK_of (l := [(zd2 k, sub (bodyOf Go.Proofs.Tryz.f114) [1, 1, 1, 0, 1]), (zd6 k, sub (bodyOf Go.Proofs.Tryz.f114) [1, 1, 1, 1, 0, 1])]) (by kernel_rfl) ⟨zd4 k, zd8 k, trivial⟩) fun x R h => by
    simp only [zdb, S_DaysOf, optK_bind, optK_bif, optK_pure, optK_none, optK_oc, optK_guardT, optK_map] at h
    refine hold_of h ?_
    kernel_rfl
def zde (k : Nat) : Entry D := entS zda (zdb k) zdc
theorem zdf (k : Nat) : EntryOK X 114 (zde k) := (zdd k).en rfl
def zdg : Plan := ⟨[(0, [(0, none)]), (1, [(0, none), (10, none)]), (2, [(2, none), (3, none), (4, none)]), (3, [(0, none), (5, none)]), (4, [(0, none), (5, none), (6, none)]), (5, [(0, none), (5, none), (6, none), (12, none)]), (6, [(0, none), (5, none), (6, none)]), (7, [(0, none), (5, none), (6, none), (15, none)]), (8, [(0, none), (5, none)]), (9, [(0, none), (5, none)]), (10, [(0, none), (5, none), (7, none)]), (11, [(0, none), (5, none), (7, none), (25, none)]), (12, [(0, none), (5, none), (7, none)]), (13, [(0, none), (5, none), (7, none)]), (14, [(2, none), (3, none), (4, none)])],
  [(0, [(0, none), (5, none)]), (1, [(0, none), (5, none)]), (2, [(0, none), (5, none), (7, none)]), (3, [(0, none), (5, none), (7, none)])],
  [(10, ([], [(0, none)])), (12, ([(0, none), (5, none)], [(0, none), (5, none), (6, none)])), (15, ([(0, none), (5, none)], [(0, none), (5, none), (6, none)])), (25, ([(0, none), (5, none), (7, none)], [(0, none), (5, none), (7, none)]))]⟩
def zdh (k : Nat) : Calls' D := ⟨[(78, z6c k), (170, zce k), (169, zco k)], [], [], [], []⟩
theorem zdi (k : Nat) : CallsOK X (zdh k) := .cons (z6d k) (.cons (zcf k) (.cons (zcp k) (.nil cod)))
def zdj (x : Int × Int × Int × Bool × Unit) (o : Int) (Q : Ex → VSt D → Prop) (R : VR D → Prop) : Prop := Q .normal (mkSt ⟨[(0, .hole), (5, .hole), (6, .hole)], []⟩ [.int .i64 x.1, .int .i64 x.2.1, .int .i64 o])
def zdk (k : Nat) : Cut D := cutS ⟨[(0, .hole), (5, .hole), (6, .hole), (12, .hole)], []⟩ [.ki .i64, .ki .i64, .ki .i64, .kb] (fun (x : Int × Int × Int × Bool × Unit) => S_CivilOf_c12 k x.1 x.2.1 x.2.2.1 x.2.2.2.1) zdj
def zdl (k : Nat) : Cuts D := ⟨[], []⟩
theorem zdm (k : Nat) : CutFor X zdg k Go.Proofs.Tryz.f171.results.toList (zdk k) (sub (bodyOf Go.Proofs.Tryz.f171) [1, 1, 1, 0, 0, 0, 0, 1, 0, 1]) :=
  joinCut_s (X := X) (sg := [.ki .i64, .ki .i64, .ki .i64, .kb]) (cu := zdl k) (cl := zdh k) (tys := [[0], [0], [0]]) (zdi k) (cutOK_of (l := []) (by kernel_rfl) trivial) fun x Q R h => by
    simp only [S_CivilOf_c12, optK_bind, optK_bif, optK_pure, optK_none, optK_oc, optK_guardT, optK_map] at h
    refine hold_of h ?_
    kernel_rfl
def zdn (x : Int × Int × Unit) (o : Oc (Int × Int) (Unit)) (Q : Ex → VSt D → Prop) (R : VR D → Prop) : Prop := ocP o (fun v0 => Q .normal (mkSt ⟨[(0, .hole), (5, .hole)], []⟩ [.int .i64 v0.1, .int .i64 v0.2])) (fun w0 => Q (.exit 0) (mkSt ⟨[(0, .hole), (5, .hole)], []⟩ [.int .i64 x.1, .int .i64 x.2.1]))
def zdo (k : Nat) : Cut D := cutS ⟨[(0, .hole), (5, .hole)], []⟩ [.ki .i64, .ki .i64] (fun (x : Int × Int × Unit) => S_CivilOf_b1 k x.1 x.2.1) zdn
def zdp (k : Nat) : Cuts D := ⟨[], [(12, some (zdk k))]⟩
theorem zdq (k : Nat) : CutFor X zdg k Go.Proofs.Tryz.f171.results.toList (zdo k) (sub (bodyOf Go.Proofs.Tryz.f171) [1, 1, 1, 0, 0, 0]) :=
  joinCut_s (X := X) (sg := [.ki .i64, .ki .i64]) (cu := zdp k) (cl := zdh k) (tys := [[0], [0], [0]]) (zdi k) (cutOK_of (l := [(zdk k, sub (bodyOf Go.Proofs.Tryz.f171) [1, 1, 1, 0, 0, 0, 0, 1, 0, 1])]) (by kernel_rfl) ⟨zdm k, trivial⟩) fun x Q R h => by
    simp only [S_CivilOf_b1, optK_bind, optK_bif, optK_pure, optK_none, optK_oc, optK_guardT, optK_map] at h
    refine hold_of h ?_
    kernel_rfl
def zdr (x : Int × Int × Unit) (o : Int × Int) (Q : Ex → VSt D → Prop) (R : VR D → Prop) : Prop := Q .normal (mkSt ⟨[(0, .hole), (5, .hole)], []⟩ [.int .i64 o.1, .int .i64 o.2])
def zds (k : Nat) : Cut D := cutS ⟨[(0, .hole), (5, .hole)], []⟩ [.ki .i64, .ki .i64] (fun (x : Int × Int × Unit) => S_CivilOf_b0 k k x.1 x.2.1) zdr
def zdt (k : Nat) : Cuts D := ⟨[(1, some (zdo k))], []⟩
theorem zdu (k : Nat) : CutFor X zdg k Go.Proofs.Tryz.f171.results.toList (zds k) (sub (bodyOf Go.Proofs.Tryz.f171) [1, 1, 1, 0]) :=
  loopCut_s (X := X) (sg := [.ki .i64, .ki .i64]) (cu := zdt k) (cl := zdh k) (tys := [[0], [0], [0]]) (id := 0) (c := sub (bodyOf Go.Proofs.Tryz.f171) [1, 1, 1, 0, 0, 0]) (f := fun n => fun (x : Int × Int × Unit) => S_CivilOf_b0 k n x.1 x.2.1) (zdi k) (cutOK_of (l := [(zdo k, sub (bodyOf Go.Proofs.Tryz.f171) [1, 1, 1, 0, 0, 0])]) (by kernel_rfl) ⟨zdq k, trivial⟩) (fun _ => rfl) (fun n x Q R h => by
    simp only [S_CivilOf_b0, optK_bind, optK_bif, optK_pure, optK_none, optK_oc, optK_guardT, optK_map] at h
    refine hold_of h ?_
    kernel_rfl) (by kernel_rfl)
def zdv (x : Int × Int × Int × Unit) (o : Int × Int) (Q : Ex → VSt D → Prop) (R : VR D → Prop) : Prop := Q .normal (mkSt ⟨[(0, .hole), (5, .hole), (7, .hole)], []⟩ [.int .i64 o.1, .int .i64 x.2.1, .int .i64 o.2])
def zdw (k : Nat) : Cut D := cutS ⟨[(0, .hole), (5, .hole), (7, .hole)], []⟩ [.ki .i64, .ki .i64, .ki .i64] (fun (x : Int × Int × Int × Unit) => S_CivilOf_b2 k k x.1 x.2.1 x.2.2.1) zdv
def zdx (k : Nat) : Cuts D := ⟨[], []⟩
theorem zdy (k : Nat) : CutFor X zdg k Go.Proofs.Tryz.f171.results.toList (zdw k) (sub (bodyOf Go.Proofs.Tryz.f171) [1, 1, 1, 1, 1, 0]) :=
  loopCut_s (X := X) (sg := [.ki .i64, .ki .i64, .ki .i64]) (cu := zdx k) (cl := zdh k) (tys := [[0], [0], [0]]) (id := 2) (c := sub (bodyOf Go.Proofs.Tryz.f171) [1, 1, 1, 1, 1, 0, 0, 0]) (f := fun n => fun (x : Int × Int × Int × Unit) => S_CivilOf_b2 k n x.1 x.2.1 x.2.2.1) (zdi k) (cutOK_of (l := []) (by kernel_rfl) trivial) (fun _ => rfl) (fun n x Q R h => by
    simp only [S_CivilOf_b2, optK_bind, optK_bif, optK_pure, optK_none, optK_oc, optK_guardT, optK_map] at h
    refine hold_of h ?_
    kernel_rfl) (by kernel_rfl)
def zdz (k : Nat) : Cuts D := ⟨[(0, some (zds k)), (2, some (zdw k))], []⟩
def ze0 : List Ar := [.c (.ki .i64)]
def ze1 (k : Nat) (x : TupA D ze0) : Option (Int × Int × Int) := S_CivilOf k x.1
def ze2 (r : Int × Int × Int) : VR D := .tup [.c (.int .i64 r.1), .c (.int .i64 r.2.1), .c (.int .i64 r.2.2)]
theorem ze3 (k : Nat) : Does P X 171 ze0 (ze1 k) ze2 :=
  does_of (body := bodyOf Go.Proofs.Tryz.f171) (pl := zdg) (k := k) (cu := zdz k) (tys := [[0], [0], [0]]) (zdi k) ctx mixed Go.Proofs.Tryz.func171 (by kernel_rfl) (by kernel_rfl) (cutOK_of (l := [(zds k, sub (bodyOf Go.Proofs.Tryz.f171) [1, 1, 1, 0]), (zdw k, sub (bodyOf Go.Proofs.Tryz.f171) [1, 1, 1, 1, 1, 0])]) (by kernel_rfl) ⟨zdu k, zdy k, trivial⟩) fun x R h => by
    simp only [ze1, S_CivilOf, optK_bind, optK_bif, optK_pure, optK_none, optK_oc, optK_guardT, optK_map] at h
    refine hold_of h ?_
    kernel_rfl
def ze4 (k : Nat) : Entry D := entS ze0 (ze1 k) ze2
theorem ze5 (k : Nat) : EntryOK X 171 (ze4 k) := (ze3 k).en rfl
def ze6 : Plan := ⟨[(0, []), (1, [(0, some 9)])],
  [],
  []⟩
def ze7 (k : Nat) : Calls' D := ⟨[], [], [], [], []⟩
theorem ze8 (k : Nat) : CallsOK X (ze7 k) := .nil cod
def ze9 (k : Nat) : Cuts D := ⟨[], []⟩
def zea : List Ar := []
def zeb (k : Nat) (x : TupA D zea) : Option ((List (List UInt8))) := S_l3Days k 
def zec (r : (List (List UInt8))) : VR D := .p (.c (.sl 9 r))
theorem zed (k : Nat) : Does P X 172 zea (zeb k) zec :=
  does_of (body := bodyOf Go.Proofs.Tryz.f172) (pl := ze6) (k := k) (cu := ze9 k) (tys := [[9]]) (ze8 k) ctx mixed Go.Proofs.Tryz.func172 (by kernel_rfl) (by kernel_rfl) (cutOK_of (l := []) (by kernel_rfl) trivial) fun x R h => by
    simp only [zeb, S_l3Days, optK_bind, optK_bif, optK_pure, optK_none, optK_oc, optK_guardT, optK_map] at h
    refine hold_of h ?_
    kernel_rfl
def zee (k : Nat) : Entry D := entS zea (zeb k) zec
theorem zef (k : Nat) : EntryOK X 172 (zee k) := (zed k).en rfl
def zeg : Plan := ⟨[(0, [(0, none)]), (1, [(2, none)])],
  [],
  []⟩
def zeh (k : Nat) : Calls' D := ⟨[(226, zc4 k)], [], [], [], []⟩
theorem zei (k : Nat) : CallsOK X (zeh k) := .cons (zc5 k) (.nil cod)
def zej (k : Nat) : Cuts D := ⟨[], []⟩
def zek : List Ar := [.c (.ki .i64)]
def zel (k : Nat) (x : TupA D zek) : Option (Int) := S_WeekdayOf k x.1
def zem (r : Int) : VR D := .p (.c (.int .i64 r))
theorem zen (k : Nat) : Does P X 173 zek (zel k) zem :=
  does_of (body := bodyOf Go.Proofs.Tryz.f173) (pl := zeg) (k := k) (cu := zej k) (tys := [[0]]) (zei k) ctx mixed Go.Proofs.Tryz.func173 (by kernel_rfl) (by kernel_rfl) (cutOK_of (l := []) (by kernel_rfl) trivial) fun x R h => by
    simp only [zel, S_WeekdayOf, optK_bind, optK_bif, optK_pure, optK_none, optK_oc, optK_guardT, optK_map] at h
    refine hold_of h ?_
    kernel_rfl
def zeo (k : Nat) : Entry D := entS zek (zel k) zem
theorem zep (k : Nat) : EntryOK X 173 (zeo k) := (zen k).en rfl
def zeq : Plan := ⟨[(0, [(0, none), (1, none)]), (1, [(0, none), (1, none), (7, none)]), (2, [(4, none)]), (3, [(4, none)])],
  [],
  [(7, ([(1, none)], [(0, none)]))]⟩
def zer (k : Nat) : Calls' D := ⟨[], [], [], [], []⟩
theorem zes (k : Nat) : CallsOK X (zer k) := .nil cod
def zet (k : Nat) : Cuts D := ⟨[], []⟩
def zeu : List Ar := [.c (.ki .i64), .c (.ki .i64)]
def zev (k : Nat) (x : TupA D zeu) : Option (Int) := S_Max k x.1 x.2.1
def zew (r : Int) : VR D := .p (.c (.int .i64 r))
theorem zex (k : Nat) : Does P X 48 zeu (zev k) zew :=
  does_of (body := bodyOf Go.Proofs.Tryz.f48) (pl := zeq) (k := k) (cu := zet k) (tys := [[0]]) (zes k) ctx mixed Go.Proofs.Tryz.func48 (by kernel_rfl) (by kernel_rfl) (cutOK_of (l := []) (by kernel_rfl) trivial) fun x R h => by
    simp only [zev, S_Max, optK_bind, optK_bif, optK_pure, optK_none, optK_oc, optK_guardT, optK_map] at h
    refine hold_of h ?_
    kernel_rfl
def zey (k : Nat) : Entry D := entS zeu (zev k) zew
theorem zez (k : Nat) : EntryOK X 48 (zey k) := (zex k).en rfl
def zf0 : Plan := ⟨[(0, [(0, none)]), (1, [(0, none), (7, none)]), (2, [(2, none)]), (3, [(0, none), (3, none)]), (4, [(0, none), (3, none), (4, none)]), (5, [(0, none), (3, none), (4, none), (10, none)]), (6, [(0, none), (3, none), (4, none)]), (7, [(0, none), (3, none), (4, none), (5, none)]), (8, [(0, none), (3, none), (4, none), (5, none), (16, none)]), (9, [(0, none), (3, none), (4, none), (5, none)]), (10, [(0, none), (3, none), (4, none)]), (11, [(3, none), (27, none)]), (12, [(2, none)]), (13, [(2, none)])],
  [(0, [(0, none), (3, none)]), (1, [(0, none), (3, none), (4, none)])],
  [(7, ([], [(0, none)])), (10, ([(0, none), (3, none), (4, none)], [(0, none), (3, none)])), (16, ([(0, none), (3, none), (4, none), (5, none)], [(0, none), (3, none), (4, none), (5, none)])), (27, ([(3, none)], [(3, none)]))]⟩
def zf1 (k : Nat) : Calls' D := ⟨[], [], [], [], []⟩
theorem zf2 (k : Nat) : CallsOK X (zf1 k) := .nil cod
def zf3 (x : Int × (List UInt8) × Int × Int × Bool × Unit) (o : Int) (Q : Ex → VSt D → Prop) (R : VR D → Prop) : Prop := Q .normal (mkSt ⟨[(0, .hole), (3, .hole), (4, .hole), (5, .hole)], []⟩ [.int .i64 x.1, .str x.2.1, .int .i64 x.2.2.1, .int .i64 o])
def zf4 (k : Nat) : Cut D := cutS ⟨[(0, .hole), (3, .hole), (4, .hole), (5, .hole), (16, .hole)], []⟩ [.ki .i64, .ks, .ki .i64, .ki .i64, .kb] (fun (x : Int × (List UInt8) × Int × Int × Bool × Unit) => S_FormatInt_c16 k x.1 x.2.1 x.2.2.1 x.2.2.2.1 x.2.2.2.2.1) zf3
def zf5 (k : Nat) : Cuts D := ⟨[], []⟩
theorem zf6 (k : Nat) : CutFor X zf0 k Go.Proofs.Tryz.f167.results.toList (zf4 k) (sub (bodyOf Go.Proofs.Tryz.f167) [1, 1, 1, 0, 1, 0, 0, 1, 0, 0, 1, 0, 1]) :=
  joinCut_s (X := X) (sg := [.ki .i64, .ks, .ki .i64, .ki .i64, .kb]) (cu := zf5 k) (cl := zf1 k) (tys := [[0]]) (zf2 k) (cutOK_of (l := []) (by kernel_rfl) trivial) fun x Q R h => by
    simp only [S_FormatInt_c16, optK_bind, optK_bif, optK_pure, optK_none, optK_oc, optK_guardT, optK_map] at h
    refine hold_of h ?_
    kernel_rfl
def zf7 (x : Int × (List UInt8) × Int × Unit) (o : (List UInt8)) (Q : Ex → VSt D → Prop) (R : VR D → Prop) : Prop := Q .normal (mkSt ⟨[(0, .hole), (3, .hole), (4, .hole)], []⟩ [.int .i64 x.1, .str o, .int .i64 x.2.2.1])
def zf8 (k : Nat) : Cut D := cutS ⟨[(0, .hole), (3, .hole), (4, .hole)], []⟩ [.ki .i64, .ks, .ki .i64] (fun (x : Int × (List UInt8) × Int × Unit) => S_FormatInt_b1 k x.1 x.2.1 x.2.2.1) zf7
def zf9 (k : Nat) : Cuts D := ⟨[], [(16, some (zf4 k))]⟩
theorem zfa (k : Nat) : CutFor X zf0 k Go.Proofs.Tryz.f167.results.toList (zf8 k) (sub (bodyOf Go.Proofs.Tryz.f167) [1, 1, 1, 0, 1, 0, 0, 1, 0]) :=
  joinCut_s (X := X) (sg := [.ki .i64, .ks, .ki .i64]) (cu := zf9 k) (cl := zf1 k) (tys := [[0]]) (zf2 k) (cutOK_of (l := [(zf4 k, sub (bodyOf Go.Proofs.Tryz.f167) [1, 1, 1, 0, 1, 0, 0, 1, 0, 0, 1, 0, 1])]) (by kernel_rfl) ⟨zf6 k, trivial⟩) fun x Q R h => by
    simp only [S_FormatInt_b1, optK_bind, optK_bif, optK_pure, optK_none, optK_oc, optK_guardT, optK_map] at h
    refine hold_of h ?_
    kernel_rfl
def zfb (x : Int × (List UInt8) × Int × Unit) (o : (List UInt8)) (Q : Ex → VSt D → Prop) (R : VR D → Prop) : Prop := Q .normal (mkSt ⟨[(0, .hole), (3, .hole)], []⟩ [.int .i64 x.1, .str o])
def zfc (k : Nat) : Cut D := cutS ⟨[(0, .hole), (3, .hole), (4, .hole)], []⟩ [.ki .i64, .ks, .ki .i64] (fun (x : Int × (List UInt8) × Int × Unit) => S_FormatInt_b0 k k x.1 x.2.1 x.2.2.1) zfb
def zfd (k : Nat) : Cuts D := ⟨[(1, some (zf8 k))], []⟩
theorem zfe (k : Nat) : CutFor X zf0 k Go.Proofs.Tryz.f167.results.toList (zfc k) (sub (bodyOf Go.Proofs.Tryz.f167) [1, 1, 1, 0, 1]) :=
  loopCut_s (X := X) (sg := [.ki .i64, .ks, .ki .i64]) (cu := zfd k) (cl := zf1 k) (tys := [[0]]) (id := 0) (c := sub (bodyOf Go.Proofs.Tryz.f167) [1, 1, 1, 0, 1, 0, 0]) (f := fun n => fun (x : Int × (List UInt8) × Int × Unit) => S_FormatInt_b0 k n x.1 x.2.1 x.2.2.1) (zf2 k) (cutOK_of (l := [(zf8 k, sub (bodyOf Go.Proofs.Tryz.f167) [1, 1, 1, 0, 1, 0, 0, 1, 0])]) (by kernel_rfl) ⟨zfa k, trivial⟩) (fun _ => rfl) (fun n x Q R h => by
    simp only [S_FormatInt_b0, optK_bind, optK_bif, optK_pure, optK_none, optK_oc, optK_guardT, optK_map] at h
    refine hold_of h ?_
    kernel_rfl) (by kernel_rfl)
def zff (k : Nat) : Cuts D := ⟨[(0, some (zfc k))], []⟩
def zfg : List Ar := [.c (.ki .i64)]
def zfh (k : Nat) (x : TupA D zfg) : Option ((List UInt8)) := S_FormatInt k x.1
def zfi (r : (List UInt8)) : VR D := .p (.c (.str r))
theorem zfj (k : Nat) : Does P X 167 zfg (zfh k) zfi :=
  does_of (body := bodyOf Go.Proofs.Tryz.f167) (pl := zf0) (k := k) (cu := zff k) (tys := [[0]]) (zf2 k) ctx mixed Go.Proofs.Tryz.func167 (by kernel_rfl) (by kernel_rfl) (cutOK_of (l := [(zfc k, sub (bodyOf Go.Proofs.Tryz.f167) [1, 1, 1, 0, 1])]) (by kernel_rfl) ⟨zfe k, trivial⟩) fun x R h => by
    simp only [zfh, S_FormatInt, optK_bind, optK_bif, optK_pure, optK_none, optK_oc, optK_guardT, optK_map] at h
    refine hold_of h ?_
    kernel_rfl
def zfk (k : Nat) : Entry D := entS zfg (zfh k) zfi
theorem zfl (k : Nat) : EntryOK X 167 (zfk k) := (zfj k).en rfl
def zfm : Plan := ⟨[(0, [(0, none), (1, none)]), (1, [(1, none), (5, none)]), (2, [(1, none), (5, none), (17, none)]), (3, [(1, none), (5, none)]), (4, [(4, none)])],
  [(0, [(5, none)]), (1, [(1, none), (5, none)])],
  [(17, ([(1, none), (5, none)], [(5, none)]))]⟩
def zfn (k : Nat) : Calls' D := ⟨[(48, zey k), (167, zfk k)], [], [], [], []⟩
theorem zfo (k : Nat) : CallsOK X (zfn k) := .cons (zez k) (.cons (zfl k) (.nil cod))
def zfp (x : Int × (List UInt8) × Unit) (o : (List UInt8)) (Q : Ex → VSt D → Prop) (R : VR D → Prop) : Prop := Q .normal (mkSt ⟨[(5, .hole)], []⟩ [.str o])
def zfq (k : Nat) : Cut D := cutS ⟨[(1, .hole), (5, .hole)], []⟩ [.ki .i64, .ks] (fun (x : Int × (List UInt8) × Unit) => S_Digits_b0 k k x.1 x.2.1) zfp
def zfr (k : Nat) : Cuts D := ⟨[], []⟩
theorem zfs (k : Nat) : CutFor X zfm k Go.Proofs.Tryz.f174.results.toList (zfq k) (sub (bodyOf Go.Proofs.Tryz.f174) [1, 1, 0]) :=
  loopCut_s (X := X) (sg := [.ki .i64, .ks]) (cu := zfr k) (cl := zfn k) (tys := [[0]]) (id := 0) (c := sub (bodyOf Go.Proofs.Tryz.f174) [1, 1, 0, 0, 0]) (f := fun n => fun (x : Int × (List UInt8) × Unit) => S_Digits_b0 k n x.1 x.2.1) (zfo k) (cutOK_of (l := []) (by kernel_rfl) trivial) (fun _ => rfl) (fun n x Q R h => by
    simp only [S_Digits_b0, optK_bind, optK_bif, optK_pure, optK_none, optK_oc, optK_guardT, optK_map] at h
    refine hold_of h ?_
    kernel_rfl) (by kernel_rfl)
def zft (k : Nat) : Cuts D := ⟨[(0, some (zfq k))], []⟩
def zfu : List Ar := [.c (.ki .i64), .c (.ki .i64)]
def zfv (k : Nat) (x : TupA D zfu) : Option ((List UInt8)) := S_Digits k x.1 x.2.1
def zfw (r : (List UInt8)) : VR D := .p (.c (.str r))
theorem zfx (k : Nat) : Does P X 174 zfu (zfv k) zfw :=
  does_of (body := bodyOf Go.Proofs.Tryz.f174) (pl := zfm) (k := k) (cu := zft k) (tys := [[0]]) (zfo k) ctx mixed Go.Proofs.Tryz.func174 (by kernel_rfl) (by kernel_rfl) (cutOK_of (l := [(zfq k, sub (bodyOf Go.Proofs.Tryz.f174) [1, 1, 0])]) (by kernel_rfl) ⟨zfs k, trivial⟩) fun x R h => by
    simp only [zfv, S_Digits, optK_bind, optK_bif, optK_pure, optK_none, optK_oc, optK_guardT, optK_map] at h
    refine hold_of h ?_
    kernel_rfl
def zfy (k : Nat) : Entry D := entS zfu (zfv k) zfw
theorem zfz (k : Nat) : EntryOK X 174 (zfy k) := (zfx k).en rfl
def zg0 : Plan := ⟨[(0, [(0, none)]), (1, [(3, none)]), (2, [(2, none)])],
  [],
  []⟩
def zg1 (k : Nat) : Calls' D := ⟨[(174, zfy k)], [], [], [], []⟩
theorem zg2 (k : Nat) : CallsOK X (zg1 k) := .cons (zfz k) (.nil cod)
def zg3 (k : Nat) : Cuts D := ⟨[], []⟩
def zg4 : List Ar := [.c (.ki .i64)]
def zg5 (k : Nat) (x : TupA D zg4) : Option ((List UInt8)) := S_l3Clock k x.1
def zg6 (r : (List UInt8)) : VR D := .p (.c (.str r))
theorem zg7 (k : Nat) : Does P X 175 zg4 (zg5 k) zg6 :=
  does_of (body := bodyOf Go.Proofs.Tryz.f175) (pl := zg0) (k := k) (cu := zg3 k) (tys := [[0]]) (zg2 k) ctx mixed Go.Proofs.Tryz.func175 (by kernel_rfl) (by kernel_rfl) (cutOK_of (l := []) (by kernel_rfl) trivial) fun x R h => by
    simp only [zg5, S_l3Clock, optK_bind, optK_bif, optK_pure, optK_none, optK_oc, optK_guardT, optK_map] at h
    refine hold_of h ?_
    kernel_rfl
def zg8 (k : Nat) : Entry D := entS zg4 (zg5 k) zg6
theorem zg9 (k : Nat) : EntryOK X 175 (zg8 k) := (zg7 k).en rfl
def zga : Plan := ⟨[(0, [(0, none)]), (1, [(0, none), (3, none), (4, none), (5, none)]), (2, [(0, none), (3, none), (4, none), (5, none), (6, none)]), (3, [(0, none), (3, none), (5, none), (6, none), (7, none)]), (4, [(0, none), (3, none), (5, none), (6, none), (7, none), (8, none)]), (5, [(0, none), (3, none), (5, none), (6, none), (7, none), (8, none), (9, none)]), (6, [(0, none), (3, none), (5, none), (6, none), (7, none), (8, none), (9, none), (10, none)]), (7, [(0, none), (3, none), (5, none), (6, none), (7, none), (8, none), (9, none), (10, none), (69, none)]), (8, [(0, none), (3, none), (6, none), (7, none), (8, none), (9, none), (10, none)]), (9, [(8, none), (9, none), (11, none)]), (10, [(2, some 9)])],
  [],
  [(69, ([(0, none), (3, none), (5, none), (6, none), (7, none), (8, none), (9, none)], [(0, none), (3, none), (6, none), (7, none), (8, none), (9, none), (10, none)]))]⟩
def zgb (k : Nat) : Calls' D := ⟨[(171, ze4 k), (172, zee k), (173, zeo k), (168, zbg k), (174, zfy k), (175, zg8 k), (167, zfk k)], [], [], [], []⟩
theorem zgc (k : Nat) : CallsOK X (zgb k) := .cons (ze5 k) (.cons (zef k) (.cons (zep k) (.cons (zbh k) (.cons (zfz k) (.cons (zg9 k) (.cons (zfl k) (.nil cod)))))))
def zgd (x : Int × Int × Int × (List UInt8) × (List UInt8) × (List UInt8) × (List UInt8) × (List UInt8) × Bool × Unit) (o : (List UInt8)) (Q : Ex → VSt D → Prop) (R : VR D → Prop) : Prop := Q .normal (mkSt ⟨[(0, .hole), (3, .hole), (6, .hole), (7, .hole), (8, .hole), (9, .hole), (10, .hole)], []⟩ [.int .i64 x.1, .int .i64 x.2.1, .str x.2.2.2.1, .str x.2.2.2.2.1, .str x.2.2.2.2.2.1, .str x.2.2.2.2.2.2.1, .str o])
def zge (k : Nat) : Cut D := cutS ⟨[(0, .hole), (3, .hole), (5, .hole), (6, .hole), (7, .hole), (8, .hole), (9, .hole), (10, .hole), (69, .hole)], []⟩ [.ki .i64, .ki .i64, .ki .i64, .ks, .ks, .ks, .ks, .ks, .kb] (fun (x : Int × Int × Int × (List UInt8) × (List UInt8) × (List UInt8) × (List UInt8) × (List UInt8) × Bool × Unit) => S_l3Forms_c69 k x.1 x.2.1 x.2.2.1 x.2.2.2.1 x.2.2.2.2.1 x.2.2.2.2.2.1 x.2.2.2.2.2.2.1 x.2.2.2.2.2.2.2.1 x.2.2.2.2.2.2.2.2.1) zgd
def zgf (k : Nat) : Cuts D := ⟨[], []⟩
theorem zgg (k : Nat) : CutFor X zga k Go.Proofs.Tryz.f115.results.toList (zge k) (sub (bodyOf Go.Proofs.Tryz.f115) [1, 1, 1, 1, 1, 1, 1, 0, 1]) :=
  joinCut_s (X := X) (sg := [.ki .i64, .ki .i64, .ki .i64, .ks, .ks, .ks, .ks, .ks, .kb]) (cu := zgf k) (cl := zgb k) (tys := [[9]]) (zgc k) (cutOK_of (l := []) (by kernel_rfl) trivial) fun x Q R h => by
    simp only [S_l3Forms_c69, optK_bind, optK_bif, optK_pure, optK_none, optK_oc, optK_guardT, optK_map] at h
    refine hold_of h ?_
    kernel_rfl
def zgh (k : Nat) : Cuts D := ⟨[], [(69, some (zge k))]⟩
def zgi : List Ar := [.c (.ki .i64)]
def zgj (k : Nat) (x : TupA D zgi) : Option ((List (List UInt8))) := S_l3Forms k x.1
def zgk (r : (List (List UInt8))) : VR D := .p (.c (.sl 9 r))
theorem zgl (k : Nat) : Does P X 115 zgi (zgj k) zgk :=
  does_of (body := bodyOf Go.Proofs.Tryz.f115) (pl := zga) (k := k) (cu := zgh k) (tys := [[9]]) (zgc k) ctx mixed Go.Proofs.Tryz.func115 (by kernel_rfl) (by kernel_rfl) (cutOK_of (l := [(zge k, sub (bodyOf Go.Proofs.Tryz.f115) [1, 1, 1, 1, 1, 1, 1, 0, 1])]) (by kernel_rfl) ⟨zgg k, trivial⟩) fun x R h => by
    simp only [zgj, S_l3Forms, optK_bind, optK_bif, optK_pure, optK_none, optK_oc, optK_guardT, optK_map] at h
    refine hold_of h ?_
    kernel_rfl
def zgm (k : Nat) : Entry D := entS zgi (zgj k) zgk
theorem zgn (k : Nat) : EntryOK X 115 (zgm k) := (zgl k).en rfl
def zgo : Plan := ⟨[(0, [(0, none)]), (1, [(0, none), (4, none)]), (2, [(0, none), (4, none), (5, none), (6, none), (7, none), (8, none)]), (3, [(0, none), (4, none), (5, none), (6, none), (7, none), (8, none), (15, none)]), (4, [(0, none), (5, none)]), (5, [(0, none), (5, none), (6, none)]), (6, [(0, none), (5, none), (6, none), (7, none)]), (7, [(0, none), (5, none), (6, none), (7, none), (8, none)]), (8, [(0, none), (4, none), (5, none), (6, none), (7, none), (8, none), (28, none)]), (9, [(0, none), (5, none)]), (10, [(0, none), (5, none), (6, none)]), (11, [(0, none), (5, none), (6, none), (7, none)]), (12, [(0, none), (5, none), (6, none), (7, none), (43, none)]), (13, [(0, none), (5, none), (6, none), (7, none)]), (14, [(0, none), (5, none), (6, none), (7, none), (8, none)]), (15, [(0, none), (4, none), (5, none), (6, none), (7, none), (8, none), (48, none)]), (16, [(0, none), (4, none), (5, none)]), (17, [(0, none), (4, none), (5, none), (57, none)]), (18, [(0, none), (4, none), (5, none)]), (19, [(0, none), (4, none), (5, none), (6, none)]), (20, [(0, none), (4, none), (5, none), (6, none), (7, none)]), (21, [(0, none), (5, none), (6, none), (7, none), (8, none)]), (22, [(0, none), (8, none), (9, none)]), (23, [(0, none), (8, none), (9, none), (75, none)]), (24, [(2, none), (3, none)]), (25, [(0, none), (10, none)]), (26, [(0, none), (10, none), (96, none)]), (27, [(2, none), (3, none)]), (28, [(0, none), (10, none), (11, some 9)]), (29, [(0, none), (10, none), (11, some 9), (12, none)]), (30, [(0, none), (10, none), (11, some 9), (12, none), (102, none)]), (31, [(0, none), (10, none), (11, some 9), (12, none)]), (32, [(0, none), (10, none), (11, some 9), (12, none), (110, none)]), (33, [(2, none), (3, none)]), (34, [(2, none), (3, none)])],
  [(0, [(0, none), (5, none), (6, none), (7, none), (8, none)]), (1, []), (2, [(0, none), (10, none), (11, some 9), (12, none)])],
  [(15, ([(0, none)], [(0, none), (4, none), (5, none), (6, none), (7, none), (8, none)])), (28, ([(0, none)], [(0, none), (4, none), (5, none), (6, none), (7, none), (8, none)])), (43, ([(0, none), (5, none), (6, none)], [(0, none), (5, none), (6, none), (7, none)])), (48, ([(0, none), (4, none)], [(0, none), (5, none), (6, none), (7, none), (8, none)])), (57, ([(0, none), (4, none), (5, none)], [(0, none), (4, none), (5, none)])), (75, ([], [(0, none), (8, none), (9, none)])), (96, ([], [(0, none), (10, none)])), (102, ([(0, none), (10, none), (11, some 9), (12, none)], [])), (110, ([(10, none)], [(0, none), (10, none), (11, some 9), (12, none)]))]⟩
def zgp (k : Nat) : Calls' D := ⟨[(112, zb6 k), (113, zbu k), (78, z6c k), (114, zde k), (115, zgm k)], [], [], [], []⟩
theorem zgq (k : Nat) : CallsOK X (zgp k) := .cons (zb7 k) (.cons (zbv k) (.cons (z6d k) (.cons (zdf k) (.cons (zgn k) (.nil cod)))))
def zgr (x : (List UInt8) × Int × Int × Int × Bool × Unit) (o : Int) (Q : Ex → VSt D → Prop) (R : VR D → Prop) : Prop := Q .normal (mkSt ⟨[(0, .hole), (5, .hole), (6, .hole), (7, .hole)], []⟩ [.str x.1, .int .i64 x.2.1, .int .i64 x.2.2.1, .int .i64 o])
def zgs (k : Nat) : Cut D := cutS ⟨[(0, .hole), (5, .hole), (6, .hole), (7, .hole), (43, .hole)], []⟩ [.ks, .ki .i64, .ki .i64, .ki .i64, .kb] (fun (x : (List UInt8) × Int × Int × Int × Bool × Unit) => S_ParseDate_c43 k x.1 x.2.1 x.2.2.1 x.2.2.2.1 x.2.2.2.2.1) zgr
def zgt (k : Nat) : Cuts D := ⟨[], []⟩
theorem zgu (k : Nat) : CutFor X zgo k Go.Proofs.Tryz.f49.results.toList (zgs k) (sub (bodyOf Go.Proofs.Tryz.f49) [1, 1, 1, 0, 0, 1, 1, 1, 0, 1, 1, 1, 0, 1]) :=
  joinCut_s (X := X) (sg := [.ks, .ki .i64, .ki .i64, .ki .i64, .kb]) (cu := zgt k) (cl := zgp k) (tys := [[0], [0]]) (zgq k) (cutOK_of (l := []) (by kernel_rfl) trivial) fun x Q R h => by
    simp only [S_ParseDate_c43, optK_bind, optK_bif, optK_pure, optK_none, optK_oc, optK_guardT, optK_map] at h
    refine hold_of h ?_
    kernel_rfl
def zgv (x : (List UInt8) × Int × Int × Bool × Unit) (o : Int) (Q : Ex → VSt D → Prop) (R : VR D → Prop) : Prop := Q .normal (mkSt ⟨[(0, .hole), (4, .hole), (5, .hole)], []⟩ [.str x.1, .int .i64 x.2.1, .int .i64 o])
def zgw (k : Nat) : Cut D := cutS ⟨[(0, .hole), (4, .hole), (5, .hole), (57, .hole)], []⟩ [.ks, .ki .i64, .ki .i64, .kb] (fun (x : (List UInt8) × Int × Int × Bool × Unit) => S_ParseDate_c57 k x.1 x.2.1 x.2.2.1 x.2.2.2.1) zgv
def zgx (k : Nat) : Cuts D := ⟨[], []⟩
theorem zgy (k : Nat) : CutFor X zgo k Go.Proofs.Tryz.f49.results.toList (zgw k) (sub (bodyOf Go.Proofs.Tryz.f49) [1, 1, 1, 0, 0, 1, 1, 1, 1, 1, 0, 1, 0, 1]) :=
  joinCut_s (X := X) (sg := [.ks, .ki .i64, .ki .i64, .kb]) (cu := zgx k) (cl := zgp k) (tys := [[0], [0]]) (zgq k) (cutOK_of (l := []) (by kernel_rfl) trivial) fun x Q R h => by
    simp only [S_ParseDate_c57, optK_bind, optK_bif, optK_pure, optK_none, optK_oc, optK_guardT, optK_map] at h
    refine hold_of h ?_
    kernel_rfl
def zgz (x : (List UInt8) × Int × Int × Int × Int × Int × Bool × Unit) (o : Int × Int × Int × Int) (Q : Ex → VSt D → Prop) (R : VR D → Prop) : Prop := Q .normal (mkSt ⟨[(0, .hole), (5, .hole), (6, .hole), (7, .hole), (8, .hole)], []⟩ [.str x.1, .int .i64 o.1, .int .i64 o.2.1, .int .i64 o.2.2.1, .int .i64 o.2.2.2])
def zh0 (k : Nat) : Cut D := cutS ⟨[(0, .hole), (4, .hole), (5, .hole), (6, .hole), (7, .hole), (8, .hole), (48, .hole)], []⟩ [.ks, .ki .i64, .ki .i64, .ki .i64, .ki .i64, .ki .i64, .kb] (fun (x : (List UInt8) × Int × Int × Int × Int × Int × Bool × Unit) => S_ParseDate_c48 k x.1 x.2.1 x.2.2.1 x.2.2.2.1 x.2.2.2.2.1 x.2.2.2.2.2.1 x.2.2.2.2.2.2.1) zgz
def zh1 (k : Nat) : Cuts D := ⟨[], [(57, some (zgw k))]⟩
theorem zh2 (k : Nat) : CutFor X zgo k Go.Proofs.Tryz.f49.results.toList (zh0 k) (sub (bodyOf Go.Proofs.Tryz.f49) [1, 1, 1, 0, 0, 1, 1, 1, 1, 1]) :=
  joinCut_s (X := X) (sg := [.ks, .ki .i64, .ki .i64, .ki .i64, .ki .i64, .ki .i64, .kb]) (cu := zh1 k) (cl := zgp k) (tys := [[0], [0]]) (zgq k) (cutOK_of (l := [(zgw k, sub (bodyOf Go.Proofs.Tryz.f49) [1, 1, 1, 0, 0, 1, 1, 1, 1, 1, 0, 1, 0, 1])]) (by kernel_rfl) ⟨zgy k, trivial⟩) fun x Q R h => by
    simp only [S_ParseDate_c48, optK_bind, optK_bif, optK_pure, optK_none, optK_oc, optK_guardT, optK_map] at h
    refine hold_of h ?_
    kernel_rfl
def zh3 (x : (List UInt8) × Int × Int × Int × Int × Int × Bool × Unit) (o : Int × Int × Int × Int) (Q : Ex → VSt D → Prop) (R : VR D → Prop) : Prop := Q .normal (mkSt ⟨[(0, .hole), (5, .hole), (6, .hole), (7, .hole), (8, .hole)], []⟩ [.str x.1, .int .i64 o.1, .int .i64 o.2.1, .int .i64 o.2.2.1, .int .i64 o.2.2.2])
def zh4 (k : Nat) : Cut D := cutS ⟨[(0, .hole), (4, .hole), (5, .hole), (6, .hole), (7, .hole), (8, .hole), (28, .hole)], []⟩ [.ks, .ki .i64, .ki .i64, .ki .i64, .ki .i64, .ki .i64, .kb] (fun (x : (List UInt8) × Int × Int × Int × Int × Int × Bool × Unit) => S_ParseDate_c28 k x.1 x.2.1 x.2.2.1 x.2.2.2.1 x.2.2.2.2.1 x.2.2.2.2.2.1 x.2.2.2.2.2.2.1) zh3
def zh5 (k : Nat) : Cuts D := ⟨[], [(43, some (zgs k)), (48, some (zh0 k))]⟩
theorem zh6 (k : Nat) : CutFor X zgo k Go.Proofs.Tryz.f49.results.toList (zh4 k) (sub (bodyOf Go.Proofs.Tryz.f49) [1, 1, 1, 0, 0, 1, 1, 1]) :=
  joinCut_s (X := X) (sg := [.ks, .ki .i64, .ki .i64, .ki .i64, .ki .i64, .ki .i64, .kb]) (cu := zh5 k) (cl := zgp k) (tys := [[0], [0]]) (zgq k) (cutOK_of (l := [(zgs k, sub (bodyOf Go.Proofs.Tryz.f49) [1, 1, 1, 0, 0, 1, 1, 1, 0, 1, 1, 1, 0, 1]), (zh0 k, sub (bodyOf Go.Proofs.Tryz.f49) [1, 1, 1, 0, 0, 1, 1, 1, 1, 1])]) (by kernel_rfl) ⟨zgu k, zh2 k, trivial⟩) fun x Q R h => by
    simp only [S_ParseDate_c28, optK_bind, optK_bif, optK_pure, optK_none, optK_oc, optK_guardT, optK_map] at h
    refine hold_of h ?_
    kernel_rfl
def zh7 (x : (List UInt8) × Int × Int × Int × Int × Int × Bool × Unit) (o : Int × Int × Int × Int) (Q : Ex → VSt D → Prop) (R : VR D → Prop) : Prop := Q .normal (mkSt ⟨[(0, .hole), (5, .hole), (6, .hole), (7, .hole), (8, .hole)], []⟩ [.str x.1, .int .i64 o.1, .int .i64 o.2.1, .int .i64 o.2.2.1, .int .i64 o.2.2.2])
def zh8 (k : Nat) : Cut D := cutS ⟨[(0, .hole), (4, .hole), (5, .hole), (6, .hole), (7, .hole), (8, .hole), (15, .hole)], []⟩ [.ks, .ki .i64, .ki .i64, .ki .i64, .ki .i64, .ki .i64, .kb] (fun (x : (List UInt8) × Int × Int × Int × Int × Int × Bool × Unit) => S_ParseDate_c15 k x.1 x.2.1 x.2.2.1 x.2.2.2.1 x.2.2.2.2.1 x.2.2.2.2.2.1 x.2.2.2.2.2.2.1) zh7
def zh9 (k : Nat) : Cuts D := ⟨[], [(28, some (zh4 k))]⟩
theorem zha (k : Nat) : CutFor X zgo k Go.Proofs.Tryz.f49.results.toList (zh8 k) (sub (bodyOf Go.Proofs.Tryz.f49) [1, 1, 1, 0, 0, 1]) :=
  joinCut_s (X := X) (sg := [.ks, .ki .i64, .ki .i64, .ki .i64, .ki .i64, .ki .i64, .kb]) (cu := zh9 k) (cl := zgp k) (tys := [[0], [0]]) (zgq k) (cutOK_of (l := [(zh4 k, sub (bodyOf Go.Proofs.Tryz.f49) [1, 1, 1, 0, 0, 1, 1, 1])]) (by kernel_rfl) ⟨zh6 k, trivial⟩) fun x Q R h => by
    simp only [S_ParseDate_c15, optK_bind, optK_bif, optK_pure, optK_none, optK_oc, optK_guardT, optK_map] at h
    refine hold_of h ?_
    kernel_rfl
def zhb (x : (List UInt8) × Int × Int × Int × Int × Int × Unit) (o : Int × Int × Int × Int) (Q : Ex → VSt D → Prop) (R : VR D → Prop) : Prop := Q .normal (mkSt ⟨[(0, .hole), (5, .hole), (6, .hole), (7, .hole), (8, .hole)], []⟩ [.str x.1, .int .i64 o.1, .int .i64 o.2.1, .int .i64 o.2.2.1, .int .i64 o.2.2.2])
def zhc (k : Nat) : Cut D := cutS ⟨[(0, .hole), (4, .hole), (5, .hole), (6, .hole), (7, .hole), (8, .hole)], []⟩ [.ks, .ki .i64, .ki .i64, .ki .i64, .ki .i64, .ki .i64] (fun (x : (List UInt8) × Int × Int × Int × Int × Int × Unit) => S_ParseDate_b0 k x.1 x.2.1 x.2.2.1 x.2.2.2.1 x.2.2.2.2.1 x.2.2.2.2.2.1) zhb
def zhd (k : Nat) : Cuts D := ⟨[], [(15, some (zh8 k))]⟩
theorem zhe (k : Nat) : CutFor X zgo k Go.Proofs.Tryz.f49.results.toList (zhc k) (sub (bodyOf Go.Proofs.Tryz.f49) [1, 1, 1, 0]) :=
  joinCut_s (X := X) (sg := [.ks, .ki .i64, .ki .i64, .ki .i64, .ki .i64, .ki .i64]) (cu := zhd k) (cl := zgp k) (tys := [[0], [0]]) (zgq k) (cutOK_of (l := [(zh8 k, sub (bodyOf Go.Proofs.Tryz.f49) [1, 1, 1, 0, 0, 1])]) (by kernel_rfl) ⟨zha k, trivial⟩) fun x Q R h => by
    simp only [S_ParseDate_b0, optK_bind, optK_bif, optK_pure, optK_none, optK_oc, optK_guardT, optK_map] at h
    refine hold_of h ?_
    kernel_rfl
def zhf (x : (List UInt8) × Int × Int × (List (List UInt8)) × Unit) (o : Oc (Unit) (Int × Bool)) (Q : Ex → VSt D → Prop) (R : VR D → Prop) : Prop := ocP o (fun v0 => Q .normal (mkSt ⟨[], []⟩ [])) (fun w0 => R (.tup [.c (.int .i64 w0.1), .c (.bool w0.2)]))
def zhg (k : Nat) : Cut D := cutS ⟨[(0, .hole), (10, .hole), (11, .ref 500011), (12, .hole)], [(500011, .row)]⟩ [.ks, .ki .i64, .ki .i64, .kl 9] (fun (x : (List UInt8) × Int × Int × (List (List UInt8)) × Unit) => S_ParseDate_b1 k k x.1 x.2.1 x.2.2.1 x.2.2.2.1) zhf
def zhh (k : Nat) : Cuts D := ⟨[], []⟩
theorem zhi (k : Nat) : CutFor X zgo k Go.Proofs.Tryz.f49.results.toList (zhg k) (sub (bodyOf Go.Proofs.Tryz.f49) [1, 1, 1, 1, 1, 1, 1, 1, 1, 0, 1]) :=
  loopCut_s (X := X) (sg := [.ks, .ki .i64, .ki .i64, .kl 9]) (cu := zhh k) (cl := zgp k) (tys := [[0], [0]]) (id := 1) (c := sub (bodyOf Go.Proofs.Tryz.f49) [1, 1, 1, 1, 1, 1, 1, 1, 1, 0, 1, 0, 0]) (f := fun n => fun (x : (List UInt8) × Int × Int × (List (List UInt8)) × Unit) => S_ParseDate_b1 k n x.1 x.2.1 x.2.2.1 x.2.2.2.1) (zgq k) (cutOK_of (l := []) (by kernel_rfl) trivial) (fun _ => rfl) (fun n x Q R h => by
    simp only [S_ParseDate_b1, optK_bind, optK_bif, optK_pure, optK_none, optK_oc, optK_guardT, optK_map] at h
    refine hold_of h ?_
    kernel_rfl) (by kernel_rfl)
def zhj (k : Nat) : Cuts D := ⟨[(0, some (zhc k)), (1, some (zhg k))], []⟩
def zhk : List Ar := [.c (.ks)]
def zhl (k : Nat) (x : TupA D zhk) : Option (Int × Bool) := S_ParseDate k x.1
def zhm (r : Int × Bool) : VR D := .tup [.c (.int .i64 r.1), .c (.bool r.2)]
theorem zhn (k : Nat) : Does P X 49 zhk (zhl k) zhm :=
  does_of (body := bodyOf Go.Proofs.Tryz.f49) (pl := zgo) (k := k) (cu := zhj k) (tys := [[0], [0]]) (zgq k) ctx mixed Go.Proofs.Tryz.func49 (by kernel_rfl) (by kernel_rfl) (cutOK_of (l := [(zhc k, sub (bodyOf Go.Proofs.Tryz.f49) [1, 1, 1, 0]), (zhg k, sub (bodyOf Go.Proofs.Tryz.f49) [1, 1, 1, 1, 1, 1, 1, 1, 1, 0, 1])]) (by kernel_rfl) ⟨zhe k, zhi k, trivial⟩) fun x R h => by
    simp only [zhl, S_ParseDate, optK_bind, optK_bif, optK_pure, optK_none, optK_oc, optK_guardT, optK_map] at h
    refine hold_of h ?_
    kernel_rfl
def zho (k : Nat) : Entry D := entS zhk (zhl k) zhm
theorem zhp (k : Nat) : EntryOK X 49 (zho k) := (zhn k).en rfl
def zhq : Plan := ⟨[(0, [(1, none)]), (1, [(1, none), (3, some 140)]), (2, [(1, none), (3, some 140), (4, none), (5, none)]), (3, [(1, none), (3, some 140), (4, none), (22, none)]), (4, [(2, none)]), (5, [(1, none), (4, none), (5, none)]), (6, [(1, none), (4, none), (29, none)]), (7, [(2, none)]), (8, [(1, none), (6, none), (7, none)]), (9, [(1, none), (6, none), (7, none), (8, none), (9, none)]), (10, [(1, none), (6, none), (7, none), (8, none), (44, none)]), (11, [(6, none), (7, none), (10, none), (11, none)]), (12, [(6, none), (10, none), (55, none)]), (13, [(2, none)]), (14, [(2, none)]), (15, [(1, none), (6, none), (7, none), (12, none), (13, none)]), (16, [(6, none), (12, none), (75, none)]), (17, [(2, none)]), (18, [(2, none)])],
  [],
  [(22, ([(4, none)], [(1, none), (3, some 140)])), (29, ([(4, none)], [(1, none)])), (44, ([(6, none), (7, none), (8, none)], [(1, none), (6, none), (7, none)])), (55, ([], [(6, none), (10, none)])), (75, ([(6, none), (12, none)], []))]⟩
def zhr (k : Nat) : Calls' D := ⟨[(68, z9u k), (69, zaw k), (50, z3c k), (49, zho k), (54, z32 k), (48, zey k), (51, zai k)], [], [], [], []⟩
theorem zhs (k : Nat) : CallsOK X (zhr k) := .cons (z9v k) (.cons (zax k) (.cons (z3d k) (.cons (zhp k) (.cons (z33 k) (.cons (zez k) (.cons (zaj k) (.nil cod)))))))
def zht (k : Nat) : Cuts D := ⟨[], []⟩
def zhu : List Ar := [.a [.ki .i64, .kl 107, .ks]]
def zhv (k : Nat) (x : TupA D zhu) : Option (Int) := S_LifetimeOf k (⟨x.1.1, x.1.2.1, x.1.2.2.1⟩ : IResponse)
def zhw (r : Int) : VR D := .p (.c (.int .i64 r))
theorem zhx (k : Nat) : Does P X 29 zhu (zhv k) zhw :=
  does_of (body := bodyOf Go.Proofs.Tryz.f29) (pl := zhq) (k := k) (cu := zht k) (tys := [[0]]) (zhs k) ctx mixed Go.Proofs.Tryz.func29 (by kernel_rfl) (by kernel_rfl) (cutOK_of (l := []) (by kernel_rfl) trivial) fun x R h => by
    simp only [zhv, S_LifetimeOf, optK_bind, optK_bif, optK_pure, optK_none, optK_oc, optK_guardT, optK_map] at h
    refine hold_of h ?_
    kernel_rfl
def zhy (k : Nat) : Entry D := entS zhu (zhv k) zhw
theorem zhz (k : Nat) : EntryOK X 29 (zhy k) := (zhx k).en rfl
def zi0 : Plan := ⟨[(0, [(1, none), (2, none)]), (1, [(4, none)])],
  [],
  []⟩
def zi1 (k : Nat) : Calls' D := ⟨[(29, zhy k)], [], [], [], []⟩
theorem zi2 (k : Nat) : CallsOK X (zi1 k) := .cons (zhz k) (.nil cod)
def zi3 (k : Nat) : Cuts D := ⟨[], []⟩
def zi4 : List Ar := [.a [.ki .i64, .kl 107, .ks], .c (.ki .i64)]
def zi5 (k : Nat) (x : TupA D zi4) : Option (Bool) := S_IsFresh k (⟨x.1.1, x.1.2.1, x.1.2.2.1⟩ : IResponse) x.2.1
def zi6 (r : Bool) : VR D := .p (.c (.bool r))
theorem zi7 (k : Nat) : Does P X 31 zi4 (zi5 k) zi6 :=
  does_of (body := bodyOf Go.Proofs.Tryz.f31) (pl := zi0) (k := k) (cu := zi3 k) (tys := [[0]]) (zi2 k) ctx mixed Go.Proofs.Tryz.func31 (by kernel_rfl) (by kernel_rfl) (cutOK_of (l := []) (by kernel_rfl) trivial) fun x R h => by
    simp only [zi5, S_IsFresh, optK_bind, optK_bif, optK_pure, optK_none, optK_oc, optK_guardT, optK_map] at h
    refine hold_of h ?_
    kernel_rfl
def zi8 (k : Nat) : Entry D := entS zi4 (zi5 k) zi6
theorem zi9 (k : Nat) : EntryOK X 31 (zi8 k) := (zi7 k).en rfl
def zia : List Ar := [.c (.kl 9), .c (.ks)]
def zib (k : Nat) (x : TupA D zia) : Option ((List UInt8)) := strings_Join k x.1 x.2.1
def zic (r : (List UInt8)) : VR D := .p (.c (.str r))
theorem zid (k : Nat) : Does P X 85 zia (zib k) zic := does_join (P := P) (D := D) (X := X) (el := 9) ⟨Go.Proofs.Tryz.f85, Go.Proofs.Tryz.func85, by kernel_rfl, by kernel_rfl⟩ (fun (s : List UInt8) => s) (fun (l : List (List UInt8)) s => joinO l s) (fun _ => rfl) (by kernel_rfl) (fun (l : List (List UInt8)) s => congrArg (fun t => joinO t s) (List.map_id' l).symm) (fun a c sep w => Go.Proofs.Tryz.strings_Join_none a c sep w) (fun bk o c xs sep w hg h1 h2 h3 h4 h5 => Go.Proofs.Tryz.strings_Join bk o c xs sep w h1 h2 h3 h4 h5)
def zie (k : Nat) : Entry D := entS zia (zib k) zic
theorem zif (k : Nat) : EntryOK X 85 (zie k) := (zid k).en rfl
def zig : Plan := ⟨[(0, [(0, some 9)]), (1, [(2, none)])],
  [],
  []⟩
def zih (k : Nat) : Calls' D := ⟨[(85, zie k)], [], [], [], []⟩
theorem zii (k : Nat) : CallsOK X (zih k) := .cons (zif k) (.nil cod)
def zij (k : Nat) : Cuts D := ⟨[], []⟩
def zik : List Ar := [.c (.kl 9)]
def zil (k : Nat) (x : TupA D zik) : Option ((List UInt8)) := I_JoinList k x.1
def zim (r : (List UInt8)) : VR D := .p (.c (.str r))
theorem zin (k : Nat) : Does P X 119 zik (zil k) zim :=
  does_of (body := bodyOf Go.Proofs.Tryz.f119) (pl := zig) (k := k) (cu := zij k) (tys := [[0]]) (zii k) ctx mixed Go.Proofs.Tryz.func119 (by kernel_rfl) (by kernel_rfl) (cutOK_of (l := []) (by kernel_rfl) trivial) fun x R h => by
    simp only [zil, I_JoinList, optK_bind, optK_bif, optK_pure, optK_none, optK_oc, optK_guardT, optK_map] at h
    refine hold_of h ?_
    kernel_rfl
def zio (k : Nat) : Entry D := entS zik (zil k) zim
theorem zip (k : Nat) : EntryOK X 119 (zio k) := (zin k).en rfl
def ziq : Plan := ⟨[(0, [(0, some 107), (1, none)]), (1, [(0, some 107), (1, none), (6, some 9)]), (2, [(1, none), (6, some 9), (10, some 107), (11, none), (12, none)]), (3, [(1, none), (6, some 9), (10, some 107), (11, none), (12, none), (13, none)]), (4, [(1, none), (6, some 9), (8, none), (10, some 107), (11, none), (12, none)]), (5, [(1, none), (6, some 9), (8, none), (10, some 107), (11, none), (12, none), (19, none)]), (6, [(1, none), (6, some 9), (10, some 107), (11, none), (12, none)]), (7, [(1, none), (6, some 9), (10, some 107), (11, none), (12, none)]), (8, [(4, none), (5, none)])],
  [(0, [(6, some 9)]), (1, [(1, none), (6, some 9), (10, some 107), (11, none), (12, none)])],
  [(13, ([(1, none), (6, some 9), (10, some 107), (11, none), (12, none)], [(6, some 9)])), (19, ([(1, none), (6, some 9), (8, none), (10, some 107), (11, none), (12, none)], [(1, none), (6, some 9), (10, some 107), (11, none), (12, none)]))]⟩
def zir (k : Nat) : Calls' D := ⟨[(119, zio k)], [], [], [], []⟩
theorem zis (k : Nat) : CallsOK X (zir k) := .cons (zip k) (.nil cod)
def zit (x : (List UInt8) × (List IField) × Int × Int × Bool × (List (List UInt8)) × (List UInt8) × (List UInt8) × Unit) (o : (List (List UInt8))) (Q : Ex → VSt D → Prop) (R : VR D → Prop) : Prop := Q .normal (mkSt ⟨[(1, .hole), (6, .ref 500006), (10, .hole), (11, .hole), (12, .hole)], [(500006, .row)]⟩ [.str x.1, .sl 107 x.2.1, .int .i64 x.2.2.1, .int .i64 x.2.2.2.1, .sl 9 o])
def ziu (k : Nat) : Cut D := cutS ⟨[(1, .hole), (6, .ref 500006), (8, .ptr 8 0), (10, .hole), (11, .hole), (12, .hole), (19, .hole)], [(500006, .row), (8, .var [.hole, .hole])]⟩ [.ks, .kl 107, .ki .i64, .ki .i64, .kb, .kl 9, .ks, .ks] (fun (x : (List UInt8) × (List IField) × Int × Int × Bool × (List (List UInt8)) × (List UInt8) × (List UInt8) × Unit) => I_GetField_c19 k x.1 x.2.1 x.2.2.1 x.2.2.2.1 x.2.2.2.2.1 x.2.2.2.2.2.1 x.2.2.2.2.2.2.1 x.2.2.2.2.2.2.2.1) zit
def ziv (k : Nat) : Cuts D := ⟨[], []⟩
theorem ziw (k : Nat) : CutFor X ziq k Go.Proofs.Tryz.f57.results.toList (ziu k) (sub (bodyOf Go.Proofs.Tryz.f57) [1, 1, 0, 1, 0, 0, 1, 1, 0, 0, 1, 1]) :=
  joinCut_s (X := X) (sg := [.ks, .kl 107, .ki .i64, .ki .i64, .kb, .kl 9, .ks, .ks]) (cu := ziv k) (cl := zir k) (tys := [[0], [0]]) (zis k) (cutOK_of (l := []) (by kernel_rfl) trivial) fun x Q R h => by
    simp only [I_GetField_c19, optK_bind, optK_bif, optK_pure, optK_none, optK_oc, optK_guardT, optK_map] at h
    refine hold_of h ?_
    kernel_rfl
def zix (x : (List UInt8) × (List IField) × Int × Int × (List (List UInt8)) × Unit) (o : (List (List UInt8))) (Q : Ex → VSt D → Prop) (R : VR D → Prop) : Prop := Q .normal (mkSt ⟨[(1, .hole), (6, .ref 500006), (10, .hole), (11, .hole), (12, .hole)], [(500006, .row)]⟩ [.str x.1, .sl 107 x.2.1, .int .i64 x.2.2.1, .int .i64 x.2.2.2.1, .sl 9 o])
def ziy (k : Nat) : Cut D := cutS ⟨[(1, .hole), (6, .ref 500006), (10, .hole), (11, .hole), (12, .hole)], [(500006, .row)]⟩ [.ks, .kl 107, .ki .i64, .ki .i64, .kl 9] (fun (x : (List UInt8) × (List IField) × Int × Int × (List (List UInt8)) × Unit) => I_GetField_b1 k x.1 x.2.1 x.2.2.1 x.2.2.2.1 x.2.2.2.2.1) zix
def ziz (k : Nat) : Cuts D := ⟨[], [(19, some (ziu k))]⟩
theorem zj0 (k : Nat) : CutFor X ziq k Go.Proofs.Tryz.f57.results.toList (ziy k) (sub (bodyOf Go.Proofs.Tryz.f57) [1, 1, 0, 1, 0, 0, 1, 1, 0]) :=
  joinCut_s (X := X) (sg := [.ks, .kl 107, .ki .i64, .ki .i64, .kl 9]) (cu := ziz k) (cl := zir k) (tys := [[0], [0]]) (zis k) (cutOK_of (l := [(ziu k, sub (bodyOf Go.Proofs.Tryz.f57) [1, 1, 0, 1, 0, 0, 1, 1, 0, 0, 1, 1])]) (by kernel_rfl) ⟨ziw k, trivial⟩) fun x Q R h => by
    simp only [I_GetField_b1, optK_bind, optK_bif, optK_pure, optK_none, optK_oc, optK_guardT, optK_map] at h
    refine hold_of h ?_
    kernel_rfl
def zj1 (x : (List UInt8) × (List IField) × Int × Int × (List (List UInt8)) × Unit) (o : (List (List UInt8))) (Q : Ex → VSt D → Prop) (R : VR D → Prop) : Prop := Q .normal (mkSt ⟨[(6, .ref 500006)], [(500006, .row)]⟩ [.sl 9 o])
def zj2 (k : Nat) : Cut D := cutS ⟨[(1, .hole), (6, .ref 500006), (10, .hole), (11, .hole), (12, .hole)], [(500006, .row)]⟩ [.ks, .kl 107, .ki .i64, .ki .i64, .kl 9] (fun (x : (List UInt8) × (List IField) × Int × Int × (List (List UInt8)) × Unit) => I_GetField_b0 k k x.1 x.2.1 x.2.2.1 x.2.2.2.1 x.2.2.2.2.1) zj1
def zj3 (k : Nat) : Cuts D := ⟨[(1, some (ziy k))], []⟩
theorem zj4 (k : Nat) : CutFor X ziq k Go.Proofs.Tryz.f57.results.toList (zj2 k) (sub (bodyOf Go.Proofs.Tryz.f57) [1, 1, 0, 1]) :=
  loopCut_s (X := X) (sg := [.ks, .kl 107, .ki .i64, .ki .i64, .kl 9]) (cu := zj3 k) (cl := zir k) (tys := [[0], [0]]) (id := 0) (c := sub (bodyOf Go.Proofs.Tryz.f57) [1, 1, 0, 1, 0, 0]) (f := fun n => fun (x : (List UInt8) × (List IField) × Int × Int × (List (List UInt8)) × Unit) => I_GetField_b0 k n x.1 x.2.1 x.2.2.1 x.2.2.2.1 x.2.2.2.2.1) (zis k) (cutOK_of (l := [(ziy k, sub (bodyOf Go.Proofs.Tryz.f57) [1, 1, 0, 1, 0, 0, 1, 1, 0])]) (by kernel_rfl) ⟨zj0 k, trivial⟩) (fun _ => rfl) (fun n x Q R h => by
    simp only [I_GetField_b0, optK_bind, optK_bif, optK_pure, optK_none, optK_oc, optK_guardT, optK_map] at h
    refine hold_of h ?_
    kernel_rfl) (by kernel_rfl)
def zj5 (k : Nat) : Cuts D := ⟨[(0, some (zj2 k))], []⟩
def zj6 : List Ar := [.c (.kl 107), .c (.ks)]
def zj7 (k : Nat) (x : TupA D zj6) : Option ((List UInt8) × Bool) := I_GetField k x.1 x.2.1
def zj8 (r : (List UInt8) × Bool) : VR D := .tup [.c (.str r.1), .c (.bool r.2)]
theorem zj9 (k : Nat) : Does P X 57 zj6 (zj7 k) zj8 :=
  does_of (body := bodyOf Go.Proofs.Tryz.f57) (pl := ziq) (k := k) (cu := zj5 k) (tys := [[0], [0]]) (zis k) ctx mixed Go.Proofs.Tryz.func57 (by kernel_rfl) (by kernel_rfl) (cutOK_of (l := [(zj2 k, sub (bodyOf Go.Proofs.Tryz.f57) [1, 1, 0, 1])]) (by kernel_rfl) ⟨zj4 k, trivial⟩) fun x R h => by
    simp only [zj7, I_GetField, optK_bind, optK_bif, optK_pure, optK_none, optK_oc, optK_guardT, optK_map] at h
    refine hold_of h ?_
    kernel_rfl
def zja (k : Nat) : Entry D := entS zj6 (zj7 k) zj8
theorem zjb (k : Nat) : EntryOK X 57 (zja k) := (zj9 k).en rfl
def zjc : List Ar := [.c (.ks), .c (.ks)]
def zjd (k : Nat) (x : TupA D zjc) : Option ((List UInt8)) := strings_Trim k x.1 x.2.1
def zje (r : (List UInt8)) : VR D := .p (.c (.str r))
theorem zjf (k : Nat) : Does P X 121 zjc (zjd k) zje := does_trim ⟨Go.Proofs.Tryz.f121, Go.Proofs.Tryz.func121, by kernel_rfl, by kernel_rfl⟩ (fun s cs w hg h1 h2 h3 => Go.Proofs.Any.strings_Trim_laid Go.Proofs.Tryz.lays160 (by kernel_rfl) s cs w h1 h2 h3)
def zjg (k : Nat) : Entry D := entS zjc (zjd k) zje
theorem zjh (k : Nat) : EntryOK X 121 (zjg k) := (zjf k).en rfl
def zji : Plan := ⟨[(0, [(0, none)]), (1, [(2, none)])],
  [],
  []⟩
def zjj (k : Nat) : Calls' D := ⟨[(121, zjg k)], [], [], [], []⟩
theorem zjk (k : Nat) : CallsOK X (zjj k) := .cons (zjh k) (.nil cod)
def zjl (k : Nat) : Cuts D := ⟨[], []⟩
def zjm : List Ar := [.c (.ks)]
def zjn (k : Nat) (x : TupA D zjm) : Option ((List UInt8)) := I_TrimText k x.1
def zjo (r : (List UInt8)) : VR D := .p (.c (.str r))
theorem zjp (k : Nat) : Does P X 127 zjm (zjn k) zjo :=
  does_of (body := bodyOf Go.Proofs.Tryz.f127) (pl := zji) (k := k) (cu := zjl k) (tys := [[0]]) (zjk k) ctx mixed Go.Proofs.Tryz.func127 (by kernel_rfl) (by kernel_rfl) (cutOK_of (l := []) (by kernel_rfl) trivial) fun x R h => by
    simp only [zjn, I_TrimText, optK_bind, optK_bif, optK_pure, optK_none, optK_oc, optK_guardT, optK_map] at h
    refine hold_of h ?_
    kernel_rfl
def zjq (k : Nat) : Entry D := entS zjm (zjn k) zjo
theorem zjr (k : Nat) : EntryOK X 127 (zjq k) := (zjp k).en rfl
def zjs : Plan := ⟨[(0, [(0, none)]), (1, [(0, none), (3, some 9)]), (2, [(0, none), (3, some 9), (4, none)]), (3, [(0, none), (3, some 9), (4, none), (5, none)]), (4, [(0, none), (3, some 9), (4, none), (5, none), (6, none)]), (5, [(0, none), (3, some 9), (4, none), (5, none), (6, none), (13, none)]), (6, [(0, none), (3, some 9), (4, none), (5, none), (6, none)]), (7, [(0, none), (3, some 9), (4, none), (5, none), (6, none), (28, none)]), (8, [(0, none), (3, some 9), (4, none), (5, none), (6, none), (32, none)]), (9, [(0, none), (3, some 9), (4, none), (5, none), (6, none)]), (10, [(0, none), (3, some 9), (4, none), (5, none), (6, none), (41, none)]), (11, [(0, none), (3, some 9), (4, none), (5, none), (6, none)]), (12, [(0, none), (3, some 9), (5, none), (6, none), (7, none)]), (13, [(0, none), (3, some 9), (5, none), (6, none), (7, none), (53, none)]), (14, [(0, none), (3, some 9), (5, none), (6, none)]), (15, [(0, none), (3, some 9), (4, none), (5, none), (6, none)]), (16, [(0, none), (3, some 9), (4, none), (63, none)]), (17, [(3, some 9), (8, none)]), (18, [(3, some 9), (8, none), (69, none)]), (19, [(3, some 9)]), (20, [(2, some 9)])],
  [(0, [(0, none), (3, some 9), (4, none)]), (1, [(0, none), (3, some 9), (4, none), (5, none), (6, none)])],
  [(13, ([(0, none), (3, some 9), (4, none), (5, none), (6, none)], [(0, none), (3, some 9), (4, none)])), (28, ([(0, none), (3, some 9), (4, none), (5, none), (6, none)], [(0, none), (3, some 9), (4, none), (5, none), (6, none)])), (32, ([(0, none), (3, some 9), (4, none), (5, none), (6, none)], [(0, none), (3, some 9), (4, none), (5, none), (6, none)])), (41, ([(0, none), (3, some 9), (4, none), (5, none), (6, none)], [(0, none), (3, some 9), (4, none), (5, none), (6, none)])), (53, ([(0, none), (3, some 9), (5, none), (6, none), (7, none)], [(0, none), (3, some 9), (5, none), (6, none)])), (63, ([(0, none), (3, some 9), (4, none)], [(3, some 9)])), (69, ([(3, some 9), (8, none)], [(3, some 9)]))]⟩
def zjt (k : Nat) : Calls' D := ⟨[(127, zjq k)], [], [], [], []⟩
theorem zju (k : Nat) : CallsOK X (zjt k) := .cons (zjr k) (.nil cod)
def zjv (x : (List UInt8) × Int × Bool × Int × Bool × (List (List UInt8)) × Unit) (o : Bool) (Q : Ex → VSt D → Prop) (R : VR D → Prop) : Prop := Q .normal (mkSt ⟨[(0, .hole), (3, .ref 500003), (4, .hole), (5, .hole), (6, .hole)], [(500003, .row)]⟩ [.str x.1, .int .i64 x.2.1, .bool o, .int .i64 x.2.2.2.1, .sl 9 x.2.2.2.2.2.1])
def zjw (k : Nat) : Cut D := cutS ⟨[(0, .hole), (3, .ref 500003), (4, .hole), (5, .hole), (6, .hole), (32, .hole)], [(500003, .row)]⟩ [.ks, .ki .i64, .kb, .ki .i64, .kb, .kl 9] (fun (x : (List UInt8) × Int × Bool × Int × Bool × (List (List UInt8)) × Unit) => I_SplitList_c32 k x.1 x.2.1 x.2.2.1 x.2.2.2.1 x.2.2.2.2.1 x.2.2.2.2.2.1) zjv
def zjx (k : Nat) : Cuts D := ⟨[], []⟩
theorem zjy (k : Nat) : CutFor X zjs k Go.Proofs.Tryz.f128.results.toList (zjw k) (sub (bodyOf Go.Proofs.Tryz.f128) [1, 1, 1, 1, 0, 1, 0, 0, 1, 0, 0, 0, 1, 0, 0, 1]) :=
  joinCut_s (X := X) (sg := [.ks, .ki .i64, .kb, .ki .i64, .kb, .kl 9]) (cu := zjx k) (cl := zjt k) (tys := [[9]]) (zju k) (cutOK_of (l := []) (by kernel_rfl) trivial) fun x Q R h => by
    simp only [I_SplitList_c32, optK_bind, optK_bif, optK_pure, optK_none, optK_oc, optK_guardT, optK_map] at h
    refine hold_of h ?_
    kernel_rfl
def zjz (x : (List UInt8) × Int × Bool × Int × Bool × (List (List UInt8)) × Unit) (o : Int) (Q : Ex → VSt D → Prop) (R : VR D → Prop) : Prop := Q .normal (mkSt ⟨[(0, .hole), (3, .ref 500003), (4, .hole), (5, .hole), (6, .hole)], [(500003, .row)]⟩ [.str x.1, .int .i64 x.2.1, .bool x.2.2.1, .int .i64 o, .sl 9 x.2.2.2.2.2.1])
def zk0 (k : Nat) : Cut D := cutS ⟨[(0, .hole), (3, .ref 500003), (4, .hole), (5, .hole), (6, .hole), (41, .hole)], [(500003, .row)]⟩ [.ks, .ki .i64, .kb, .ki .i64, .kb, .kl 9] (fun (x : (List UInt8) × Int × Bool × Int × Bool × (List (List UInt8)) × Unit) => I_SplitList_c41 k x.1 x.2.1 x.2.2.1 x.2.2.2.1 x.2.2.2.2.1 x.2.2.2.2.2.1) zjz
def zk1 (k : Nat) : Cuts D := ⟨[], []⟩
theorem zk2 (k : Nat) : CutFor X zjs k Go.Proofs.Tryz.f128.results.toList (zk0 k) (sub (bodyOf Go.Proofs.Tryz.f128) [1, 1, 1, 1, 0, 1, 0, 0, 1, 0, 0, 0, 1, 0, 1, 0, 1]) :=
  joinCut_s (X := X) (sg := [.ks, .ki .i64, .kb, .ki .i64, .kb, .kl 9]) (cu := zk1 k) (cl := zjt k) (tys := [[9]]) (zju k) (cutOK_of (l := []) (by kernel_rfl) trivial) fun x Q R h => by
    simp only [I_SplitList_c41, optK_bind, optK_bif, optK_pure, optK_none, optK_oc, optK_guardT, optK_map] at h
    refine hold_of h ?_
    kernel_rfl
def zk3 (x : (List UInt8) × Bool × Int × (List UInt8) × Bool × (List (List UInt8)) × Unit) (o : (List (List UInt8))) (Q : Ex → VSt D → Prop) (R : VR D → Prop) : Prop := Q .normal (mkSt ⟨[(0, .hole), (3, .ref 500003), (5, .hole), (6, .hole)], [(500003, .row)]⟩ [.str x.1, .bool x.2.1, .int .i64 x.2.2.1, .sl 9 o])
def zk4 (k : Nat) : Cut D := cutS ⟨[(0, .hole), (3, .ref 500003), (5, .hole), (6, .hole), (7, .hole), (53, .hole)], [(500003, .row)]⟩ [.ks, .kb, .ki .i64, .ks, .kb, .kl 9] (fun (x : (List UInt8) × Bool × Int × (List UInt8) × Bool × (List (List UInt8)) × Unit) => I_SplitList_c53 k x.1 x.2.1 x.2.2.1 x.2.2.2.1 x.2.2.2.2.1 x.2.2.2.2.2.1) zk3
def zk5 (k : Nat) : Cuts D := ⟨[], []⟩
theorem zk6 (k : Nat) : CutFor X zjs k Go.Proofs.Tryz.f128.results.toList (zk4 k) (sub (bodyOf Go.Proofs.Tryz.f128) [1, 1, 1, 1, 0, 1, 0, 0, 1, 0, 0, 1, 0, 1, 1]) :=
  joinCut_s (X := X) (sg := [.ks, .kb, .ki .i64, .ks, .kb, .kl 9]) (cu := zk5 k) (cl := zjt k) (tys := [[9]]) (zju k) (cutOK_of (l := []) (by kernel_rfl) trivial) fun x Q R h => by
    simp only [I_SplitList_c53, optK_bind, optK_bif, optK_pure, optK_none, optK_oc, optK_guardT, optK_map] at h
    refine hold_of h ?_
    kernel_rfl
def zk7 (x : (List UInt8) × Int × Bool × Int × (List (List UInt8)) × Unit) (o : Int × Bool × Int × (List (List UInt8))) (Q : Ex → VSt D → Prop) (R : VR D → Prop) : Prop := Q .normal (mkSt ⟨[(0, .hole), (3, .ref 500003), (4, .hole), (5, .hole), (6, .hole)], [(500003, .row)]⟩ [.str x.1, .int .i64 o.1, .bool o.2.1, .int .i64 o.2.2.1, .sl 9 o.2.2.2])
def zk8 (k : Nat) : Cut D := cutS ⟨[(0, .hole), (3, .ref 500003), (4, .hole), (5, .hole), (6, .hole)], [(500003, .row)]⟩ [.ks, .ki .i64, .kb, .ki .i64, .kl 9] (fun (x : (List UInt8) × Int × Bool × Int × (List (List UInt8)) × Unit) => I_SplitList_b1 k x.1 x.2.1 x.2.2.1 x.2.2.2.1 x.2.2.2.2.1) zk7
def zk9 (k : Nat) : Cuts D := ⟨[], [(32, some (zjw k)), (41, some (zk0 k)), (53, some (zk4 k))]⟩
theorem zka (k : Nat) : CutFor X zjs k Go.Proofs.Tryz.f128.results.toList (zk8 k) (sub (bodyOf Go.Proofs.Tryz.f128) [1, 1, 1, 1, 0, 1, 0, 0, 1, 0]) :=
  joinCut_s (X := X) (sg := [.ks, .ki .i64, .kb, .ki .i64, .kl 9]) (cu := zk9 k) (cl := zjt k) (tys := [[9]]) (zju k) (cutOK_of (l := [(zjw k, sub (bodyOf Go.Proofs.Tryz.f128) [1, 1, 1, 1, 0, 1, 0, 0, 1, 0, 0, 0, 1, 0, 0, 1]), (zk0 k, sub (bodyOf Go.Proofs.Tryz.f128) [1, 1, 1, 1, 0, 1, 0, 0, 1, 0, 0, 0, 1, 0, 1, 0, 1]), (zk4 k, sub (bodyOf Go.Proofs.Tryz.f128) [1, 1, 1, 1, 0, 1, 0, 0, 1, 0, 0, 1, 0, 1, 1])]) (by kernel_rfl) ⟨zjy k, zk2 k, zk6 k, trivial⟩) fun x Q R h => by
    simp only [I_SplitList_b1, optK_bind, optK_bif, optK_pure, optK_none, optK_oc, optK_guardT, optK_map] at h
    refine hold_of h ?_
    kernel_rfl
def zkb (x : (List UInt8) × Int × Bool × Int × (List (List UInt8)) × Unit) (o : Int × (List (List UInt8))) (Q : Ex → VSt D → Prop) (R : VR D → Prop) : Prop := Q .normal (mkSt ⟨[(0, .hole), (3, .ref 500003), (4, .hole)], [(500003, .row)]⟩ [.str x.1, .int .i64 o.1, .sl 9 o.2])
def zkc (k : Nat) : Cut D := cutS ⟨[(0, .hole), (3, .ref 500003), (4, .hole), (5, .hole), (6, .hole)], [(500003, .row)]⟩ [.ks, .ki .i64, .kb, .ki .i64, .kl 9] (fun (x : (List UInt8) × Int × Bool × Int × (List (List UInt8)) × Unit) => I_SplitList_b0 k k x.1 x.2.1 x.2.2.1 x.2.2.2.1 x.2.2.2.2.1) zkb
def zkd (k : Nat) : Cuts D := ⟨[(1, some (zk8 k))], []⟩
theorem zke (k : Nat) : CutFor X zjs k Go.Proofs.Tryz.f128.results.toList (zkc k) (sub (bodyOf Go.Proofs.Tryz.f128) [1, 1, 1, 1, 0, 1]) :=
  loopCut_s (X := X) (sg := [.ks, .ki .i64, .kb, .ki .i64, .kl 9]) (cu := zkd k) (cl := zjt k) (tys := [[9]]) (id := 0) (c := sub (bodyOf Go.Proofs.Tryz.f128) [1, 1, 1, 1, 0, 1, 0, 0]) (f := fun n => fun (x : (List UInt8) × Int × Bool × Int × (List (List UInt8)) × Unit) => I_SplitList_b0 k n x.1 x.2.1 x.2.2.1 x.2.2.2.1 x.2.2.2.2.1) (zju k) (cutOK_of (l := [(zk8 k, sub (bodyOf Go.Proofs.Tryz.f128) [1, 1, 1, 1, 0, 1, 0, 0, 1, 0])]) (by kernel_rfl) ⟨zka k, trivial⟩) (fun _ => rfl) (fun n x Q R h => by
    simp only [I_SplitList_b0, optK_bind, optK_bif, optK_pure, optK_none, optK_oc, optK_guardT, optK_map] at h
    refine hold_of h ?_
    kernel_rfl) (by kernel_rfl)
def zkf (x : (List UInt8) × Bool × (List (List UInt8)) × Unit) (o : (List (List UInt8))) (Q : Ex → VSt D → Prop) (R : VR D → Prop) : Prop := Q .normal (mkSt ⟨[(3, .ref 500003)], [(500003, .row)]⟩ [.sl 9 o])
def zkg (k : Nat) : Cut D := cutS ⟨[(3, .ref 500003), (8, .hole), (69, .hole)], [(500003, .row)]⟩ [.ks, .kb, .kl 9] (fun (x : (List UInt8) × Bool × (List (List UInt8)) × Unit) => I_SplitList_c69 k x.1 x.2.1 x.2.2.1) zkf
def zkh (k : Nat) : Cuts D := ⟨[], []⟩
theorem zki (k : Nat) : CutFor X zjs k Go.Proofs.Tryz.f128.results.toList (zkg k) (sub (bodyOf Go.Proofs.Tryz.f128) [1, 1, 1, 1, 1, 0, 1, 0, 1, 1]) :=
  joinCut_s (X := X) (sg := [.ks, .kb, .kl 9]) (cu := zkh k) (cl := zjt k) (tys := [[9]]) (zju k) (cutOK_of (l := []) (by kernel_rfl) trivial) fun x Q R h => by
    simp only [I_SplitList_c69, optK_bind, optK_bif, optK_pure, optK_none, optK_oc, optK_guardT, optK_map] at h
    refine hold_of h ?_
    kernel_rfl
def zkj (x : (List UInt8) × Int × Bool × (List (List UInt8)) × Unit) (o : (List (List UInt8))) (Q : Ex → VSt D → Prop) (R : VR D → Prop) : Prop := Q .normal (mkSt ⟨[(3, .ref 500003)], [(500003, .row)]⟩ [.sl 9 o])
def zkk (k : Nat) : Cut D := cutS ⟨[(0, .hole), (3, .ref 500003), (4, .hole), (63, .hole)], [(500003, .row)]⟩ [.ks, .ki .i64, .kb, .kl 9] (fun (x : (List UInt8) × Int × Bool × (List (List UInt8)) × Unit) => I_SplitList_c63 k x.1 x.2.1 x.2.2.1 x.2.2.2.1) zkj
def zkl (k : Nat) : Cuts D := ⟨[], [(69, some (zkg k))]⟩
theorem zkm (k : Nat) : CutFor X zjs k Go.Proofs.Tryz.f128.results.toList (zkk k) (sub (bodyOf Go.Proofs.Tryz.f128) [1, 1, 1, 1, 1, 0, 1]) :=
  joinCut_s (X := X) (sg := [.ks, .ki .i64, .kb, .kl 9]) (cu := zkl k) (cl := zjt k) (tys := [[9]]) (zju k) (cutOK_of (l := [(zkg k, sub (bodyOf Go.Proofs.Tryz.f128) [1, 1, 1, 1, 1, 0, 1, 0, 1, 1])]) (by kernel_rfl) ⟨zki k, trivial⟩) fun x Q R h => by
    simp only [I_SplitList_c63, optK_bind, optK_bif, optK_pure, optK_none, optK_oc, optK_guardT, optK_map] at h
    refine hold_of h ?_
    kernel_rfl
def zkn (k : Nat) : Cuts D := ⟨[(0, some (zkc k))], [(63, some (zkk k))]⟩
def zko : List Ar := [.c (.ks)]
def zkp (k : Nat) (x : TupA D zko) : Option ((List (List UInt8))) := I_SplitList k x.1
def zkq (r : (List (List UInt8))) : VR D := .p (.c (.sl 9 r))
theorem zkr (k : Nat) : Does P X 128 zko (zkp k) zkq :=
  does_of (body := bodyOf Go.Proofs.Tryz.f128) (pl := zjs) (k := k) (cu := zkn k) (tys := [[9]]) (zju k) ctx mixed Go.Proofs.Tryz.func128 (by kernel_rfl) (by kernel_rfl) (cutOK_of (l := [(zkc k, sub (bodyOf Go.Proofs.Tryz.f128) [1, 1, 1, 1, 0, 1]), (zkk k, sub (bodyOf Go.Proofs.Tryz.f128) [1, 1, 1, 1, 1, 0, 1])]) (by kernel_rfl) ⟨zke k, zkm k, trivial⟩) fun x R h => by
    simp only [zkp, I_SplitList, optK_bind, optK_bif, optK_pure, optK_none, optK_oc, optK_guardT, optK_map] at h
    refine hold_of h ?_
    kernel_rfl
def zks (k : Nat) : Entry D := entS zko (zkp k) zkq
theorem zkt (k : Nat) : EntryOK X 128 (zks k) := (zkr k).en rfl
def zku : List Ar := [.c (.ks), .c (.ks)]
def zkv (k : Nat) (x : TupA D zku) : Option ((List UInt8) × (List UInt8) × Bool) := strings_Cut k x.1 x.2.1
def zkw (r : (List UInt8) × (List UInt8) × Bool) : VR D := .tup [.c (.str r.1), .c (.str r.2.1), .c (.bool r.2.2)]
theorem zkx (k : Nat) : Does P X 141 zku (zkv k) zkw := does_cut ⟨Go.Proofs.Tryz.f141, Go.Proofs.Tryz.func141, by kernel_rfl, by kernel_rfl⟩ (fun s sep w hg hs => let ⟨m, hm⟩ := hg.1; Go.Proofs.Tryz.strings_Cut s sep m w hs hm)
def zky (k : Nat) : Entry D := entS zku (zkv k) zkw
theorem zkz (k : Nat) : EntryOK X 141 (zky k) := (zkx k).en rfl
def zl0 : Plan := ⟨[(0, [(0, none)]), (1, [(5, none), (6, none), (7, none)]), (2, [(2, none), (3, none), (4, none)])],
  [],
  []⟩
def zl1 (k : Nat) : Calls' D := ⟨[(141, zky k), (127, zjq k)], [], [], [], []⟩
theorem zl2 (k : Nat) : CallsOK X (zl1 k) := .cons (zkz k) (.cons (zjr k) (.nil cod))
def zl3 (k : Nat) : Cuts D := ⟨[], []⟩
def zl4 : List Ar := [.c (.ks)]
def zl5 (k : Nat) (x : TupA D zl4) : Option ((List UInt8) × (List UInt8) × Bool) := I_SplitPair k x.1
def zl6 (r : (List UInt8) × (List UInt8) × Bool) : VR D := .tup [.c (.str r.1), .c (.str r.2.1), .c (.bool r.2.2)]
theorem zl7 (k : Nat) : Does P X 196 zl4 (zl5 k) zl6 :=
  does_of (body := bodyOf Go.Proofs.Tryz.f196) (pl := zl0) (k := k) (cu := zl3 k) (tys := [[0], [0], [0]]) (zl2 k) ctx mixed Go.Proofs.Tryz.func196 (by kernel_rfl) (by kernel_rfl) (cutOK_of (l := []) (by kernel_rfl) trivial) fun x R h => by
    simp only [zl5, I_SplitPair, optK_bind, optK_bif, optK_pure, optK_none, optK_oc, optK_guardT, optK_map] at h
    refine hold_of h ?_
    kernel_rfl
def zl8 (k : Nat) : Entry D := entS zl4 (zl5 k) zl6
theorem zl9 (k : Nat) : EntryOK X 196 (zl8 k) := (zl7 k).en rfl
def zla : Plan := ⟨[(0, [(0, none)]), (1, [(3, some 5)]), (2, [(3, some 5), (8, some 5), (9, none), (10, none)]), (3, [(3, some 5), (8, some 5), (9, none), (10, none), (11, none)]), (4, [(3, some 5), (4, none), (5, none), (8, some 5), (9, none), (10, none)]), (5, [(3, some 5), (4, none), (5, none), (8, some 5), (9, none), (10, none), (20, none)]), (6, [(3, some 5), (8, some 5), (9, none), (10, none)]), (7, [(3, some 5), (8, some 5), (9, none), (10, none)]), (8, [(2, none)])],
  [(0, [(3, some 5)]), (1, [(3, some 5), (8, some 5), (9, none), (10, none)])],
  [(11, ([(3, some 5), (8, some 5), (9, none), (10, none)], [(3, some 5)])), (20, ([(3, some 5), (4, none), (5, none), (8, some 5), (9, none), (10, none)], [(3, some 5), (8, some 5), (9, none), (10, none)]))]⟩
def zlb (k : Nat) : Calls' D := ⟨[], [], [], [], []⟩
theorem zlc (k : Nat) : CallsOK X (zlb k) := .nil cod
def zld (x : Int × Int × Int × Int × Bool × (List Int) × Unit) (o : (List Int)) (Q : Ex → VSt D → Prop) (R : VR D → Prop) : Prop := Q .normal (mkSt ⟨[(3, .ref 500008), (8, .ref 500008), (9, .hole), (10, .hole)], [(500008, .row)]⟩ [.int .i64 x.2.2.1, .int .i64 x.2.2.2.1, .sl 5 o])
def zle (k : Nat) : Cut D := cutS ⟨[(3, .ref 500008), (4, .hole), (5, .hole), (8, .ref 500008), (9, .hole), (10, .hole), (20, .hole)], [(500008, .row)]⟩ [.ki .i64, .ki .u8, .ki .i64, .ki .i64, .kb, .kl 5] (fun (x : Int × Int × Int × Int × Bool × (List Int) × Unit) => I_LowerText_c20 k x.1 x.2.1 x.2.2.1 x.2.2.2.1 x.2.2.2.2.1 x.2.2.2.2.2.1) zld
def zlf (k : Nat) : Cuts D := ⟨[], []⟩
theorem zlg (k : Nat) : CutFor X zla k Go.Proofs.Tryz.f108.results.toList (zle k) (sub (bodyOf Go.Proofs.Tryz.f108) [1, 1, 0, 1, 0, 0, 1, 1, 0, 0, 1, 1]) :=
  joinCut_s (X := X) (sg := [.ki .i64, .ki .u8, .ki .i64, .ki .i64, .kb, .kl 5]) (cu := zlf k) (cl := zlb k) (tys := [[0]]) (zlc k) (cutOK_of (l := []) (by kernel_rfl) trivial) fun x Q R h => by
    simp only [I_LowerText_c20, optK_bind, optK_bif, optK_pure, optK_none, optK_oc, optK_guardT, optK_map] at h
    refine hold_of h ?_
    kernel_rfl
def zlh (x : Int × Int × (List Int) × Unit) (o : (List Int)) (Q : Ex → VSt D → Prop) (R : VR D → Prop) : Prop := Q .normal (mkSt ⟨[(3, .ref 500008), (8, .ref 500008), (9, .hole), (10, .hole)], [(500008, .row)]⟩ [.int .i64 x.1, .int .i64 x.2.1, .sl 5 o])
def zli (k : Nat) : Cut D := cutS ⟨[(3, .ref 500008), (8, .ref 500008), (9, .hole), (10, .hole)], [(500008, .row)]⟩ [.ki .i64, .ki .i64, .kl 5] (fun (x : Int × Int × (List Int) × Unit) => I_LowerText_b1 k x.1 x.2.1 x.2.2.1) zlh
def zlj (k : Nat) : Cuts D := ⟨[], [(20, some (zle k))]⟩
theorem zlk (k : Nat) : CutFor X zla k Go.Proofs.Tryz.f108.results.toList (zli k) (sub (bodyOf Go.Proofs.Tryz.f108) [1, 1, 0, 1, 0, 0, 1, 1, 0]) :=
  joinCut_s (X := X) (sg := [.ki .i64, .ki .i64, .kl 5]) (cu := zlj k) (cl := zlb k) (tys := [[0]]) (zlc k) (cutOK_of (l := [(zle k, sub (bodyOf Go.Proofs.Tryz.f108) [1, 1, 0, 1, 0, 0, 1, 1, 0, 0, 1, 1])]) (by kernel_rfl) ⟨zlg k, trivial⟩) fun x Q R h => by
    simp only [I_LowerText_b1, optK_bind, optK_bif, optK_pure, optK_none, optK_oc, optK_guardT, optK_map] at h
    refine hold_of h ?_
    kernel_rfl
def zll (x : Int × Int × (List Int) × Unit) (o : (List Int)) (Q : Ex → VSt D → Prop) (R : VR D → Prop) : Prop := Q .normal (mkSt ⟨[(3, .ref 500003)], [(500003, .row)]⟩ [.sl 5 o])
def zlm (k : Nat) : Cut D := cutS ⟨[(3, .ref 500008), (8, .ref 500008), (9, .hole), (10, .hole)], [(500008, .row)]⟩ [.ki .i64, .ki .i64, .kl 5] (fun (x : Int × Int × (List Int) × Unit) => I_LowerText_b0 k k x.1 x.2.1 x.2.2.1) zll
def zln (k : Nat) : Cuts D := ⟨[(1, some (zli k))], []⟩
theorem zlo (k : Nat) : CutFor X zla k Go.Proofs.Tryz.f108.results.toList (zlm k) (sub (bodyOf Go.Proofs.Tryz.f108) [1, 1, 0, 1]) :=
  loopCut_s (X := X) (sg := [.ki .i64, .ki .i64, .kl 5]) (cu := zln k) (cl := zlb k) (tys := [[0]]) (id := 0) (c := sub (bodyOf Go.Proofs.Tryz.f108) [1, 1, 0, 1, 0, 0]) (f := fun n => fun (x : Int × Int × (List Int) × Unit) => I_LowerText_b0 k n x.1 x.2.1 x.2.2.1) (zlc k) (cutOK_of (l := [(zli k, sub (bodyOf Go.Proofs.Tryz.f108) [1, 1, 0, 1, 0, 0, 1, 1, 0])]) (by kernel_rfl) ⟨zlk k, trivial⟩) (fun _ => rfl) (fun n x Q R h => by
    simp only [I_LowerText_b0, optK_bind, optK_bif, optK_pure, optK_none, optK_oc, optK_guardT, optK_map] at h
    refine hold_of h ?_
    kernel_rfl) (by kernel_rfl)
def zlp (k : Nat) : Cuts D := ⟨[(0, some (zlm k))], []⟩
def zlq : List Ar := [.c (.ks)]
def zlr (k : Nat) (x : TupA D zlq) : Option ((List UInt8)) := I_LowerText k x.1
def zls (r : (List UInt8)) : VR D := .p (.c (.str r))
theorem zlt (k : Nat) : Does P X 108 zlq (zlr k) zls :=
  does_of (body := bodyOf Go.Proofs.Tryz.f108) (pl := zla) (k := k) (cu := zlp k) (tys := [[0]]) (zlc k) ctx mixed Go.Proofs.Tryz.func108 (by kernel_rfl) (by kernel_rfl) (cutOK_of (l := [(zlm k, sub (bodyOf Go.Proofs.Tryz.f108) [1, 1, 0, 1])]) (by kernel_rfl) ⟨zlo k, trivial⟩) fun x R h => by
    simp only [zlr, I_LowerText, optK_bind, optK_bif, optK_pure, optK_none, optK_oc, optK_guardT, optK_map] at h
    refine hold_of h ?_
    kernel_rfl
def zlu (k : Nat) : Entry D := entS zlq (zlr k) zls
theorem zlv (k : Nat) : EntryOK X 108 (zlu k) := (zlt k).en rfl
def zlw : Plan := ⟨[(0, [(0, none), (1, none)]), (1, [(4, none)])],
  [],
  []⟩
def zlx (k : Nat) : Calls' D := ⟨[], [], [], [], []⟩
theorem zly (k : Nat) : CallsOK X (zlx k) := .nil cod
def zlz (k : Nat) : Cuts D := ⟨[], []⟩
def zm0 : List Ar := [.c (.ks), .c (.ks)]
def zm1 (k : Nat) (x : TupA D zm0) : Option (Bool) := internal_stringslite_HasPrefix k x.1 x.2.1
def zm2 (r : Bool) : VR D := .p (.c (.bool r))
theorem zm3 (k : Nat) : Does P X 144 zm0 (zm1 k) zm2 :=
  does_of (body := bodyOf Go.Proofs.Tryz.f144) (pl := zlw) (k := k) (cu := zlz k) (tys := [[0]]) (zly k) ctx mixed Go.Proofs.Tryz.func144 (by kernel_rfl) (by kernel_rfl) (cutOK_of (l := []) (by kernel_rfl) trivial) fun x R h => by
    simp only [zm1, internal_stringslite_HasPrefix, optK_bind, optK_bif, optK_pure, optK_none, optK_oc, optK_guardT, optK_map] at h
    refine hold_of h ?_
    kernel_rfl
def zm4 (k : Nat) : Entry D := entS zm0 (zm1 k) zm2
theorem zm5 (k : Nat) : EntryOK X 144 (zm4 k) := (zm3 k).en rfl
def zm6 : Plan := ⟨[(0, [(0, none), (1, none)]), (1, [(4, none)])],
  [],
  []⟩
def zm7 (k : Nat) : Calls' D := ⟨[(144, zm4 k)], [], [], [], []⟩
theorem zm8 (k : Nat) : CallsOK X (zm7 k) := .cons (zm5 k) (.nil cod)
def zm9 (k : Nat) : Cuts D := ⟨[], []⟩
def zma : List Ar := [.c (.ks), .c (.ks)]
def zmb (k : Nat) (x : TupA D zma) : Option (Bool) := strings_HasPrefix k x.1 x.2.1
def zmc (r : Bool) : VR D := .p (.c (.bool r))
theorem zmd (k : Nat) : Does P X 84 zma (zmb k) zmc :=
  does_of (body := bodyOf Go.Proofs.Tryz.f84) (pl := zm6) (k := k) (cu := zm9 k) (tys := [[0]]) (zm8 k) ctx mixed Go.Proofs.Tryz.func84 (by kernel_rfl) (by kernel_rfl) (cutOK_of (l := []) (by kernel_rfl) trivial) fun x R h => by
    simp only [zmb, strings_HasPrefix, optK_bind, optK_bif, optK_pure, optK_none, optK_oc, optK_guardT, optK_map] at h
    refine hold_of h ?_
    kernel_rfl
def zme (k : Nat) : Entry D := entS zma (zmb k) zmc
theorem zmf (k : Nat) : EntryOK X 84 (zme k) := (zmd k).en rfl
def zmg : Plan := ⟨[(0, [(0, none)]), (1, [(0, none), (4, some 5)]), (2, [(0, none), (4, some 5), (5, none)]), (3, [(0, none), (4, some 5), (5, none), (16, none)]), (4, [(0, none), (4, some 5), (5, none), (27, none)]), (5, [(0, none), (4, some 5), (5, none)]), (6, [(0, none), (4, some 5), (5, none)]), (7, [(0, none), (4, some 5), (5, none)]), (8, [(2, none), (3, none)])],
  [(0, [(0, none), (4, some 5), (5, none)]), (1, [(0, none), (4, some 5), (5, none)])],
  [(16, ([(0, none), (4, some 5), (5, none)], [(0, none), (4, some 5), (5, none)])), (27, ([(0, none), (4, some 5), (5, none)], [(0, none), (4, some 5), (5, none)]))]⟩
def zmh (k : Nat) : Calls' D := ⟨[(84, zme k)], [], [], [], []⟩
theorem zmi (k : Nat) : CallsOK X (zmh k) := .cons (zmf k) (.nil cod)
def zmj (x : (List UInt8) × Int × Bool × (List Int) × Unit) (o : Int) (Q : Ex → VSt D → Prop) (R : VR D → Prop) : Prop := Q .normal (mkSt ⟨[(0, .hole), (4, .ref 500004), (5, .hole)], [(500004, .row)]⟩ [.str x.1, .int .i64 o, .sl 5 x.2.2.2.1])
def zmk (k : Nat) : Cut D := cutS ⟨[(0, .hole), (4, .ref 500004), (5, .hole), (27, .hole)], [(500004, .row)]⟩ [.ks, .ki .i64, .kb, .kl 5] (fun (x : (List UInt8) × Int × Bool × (List Int) × Unit) => I_UnquoteText_c27 k x.1 x.2.1 x.2.2.1 x.2.2.2.1) zmj
def zml (k : Nat) : Cuts D := ⟨[], []⟩
theorem zmm (k : Nat) : CutFor X zmg k Go.Proofs.Tryz.f197.results.toList (zmk k) (sub (bodyOf Go.Proofs.Tryz.f197) [1, 1, 1, 0, 0, 0, 1, 0, 0, 1]) :=
  joinCut_s (X := X) (sg := [.ks, .ki .i64, .kb, .kl 5]) (cu := zml k) (cl := zmh k) (tys := [[0], [0]]) (zmi k) (cutOK_of (l := []) (by kernel_rfl) trivial) fun x Q R h => by
    simp only [I_UnquoteText_c27, optK_bind, optK_bif, optK_pure, optK_none, optK_oc, optK_guardT, optK_map] at h
    refine hold_of h ?_
    kernel_rfl
def zmn (x : (List UInt8) × Int × (List Int) × Unit) (o : Int × (List Int)) (Q : Ex → VSt D → Prop) (R : VR D → Prop) : Prop := Q .normal (mkSt ⟨[(0, .hole), (4, .ref 500004), (5, .hole)], [(500004, .row)]⟩ [.str x.1, .int .i64 o.1, .sl 5 o.2])
def zmo (k : Nat) : Cut D := cutS ⟨[(0, .hole), (4, .ref 500004), (5, .hole)], [(500004, .row)]⟩ [.ks, .ki .i64, .kl 5] (fun (x : (List UInt8) × Int × (List Int) × Unit) => I_UnquoteText_b1 k x.1 x.2.1 x.2.2.1) zmn
def zmp (k : Nat) : Cuts D := ⟨[], [(27, some (zmk k))]⟩
theorem zmq (k : Nat) : CutFor X zmg k Go.Proofs.Tryz.f197.results.toList (zmo k) (sub (bodyOf Go.Proofs.Tryz.f197) [1, 1, 1, 0, 0, 0, 1]) :=
  joinCut_s (X := X) (sg := [.ks, .ki .i64, .kl 5]) (cu := zmp k) (cl := zmh k) (tys := [[0], [0]]) (zmi k) (cutOK_of (l := [(zmk k, sub (bodyOf Go.Proofs.Tryz.f197) [1, 1, 1, 0, 0, 0, 1, 0, 0, 1])]) (by kernel_rfl) ⟨zmm k, trivial⟩) fun x Q R h => by
    simp only [I_UnquoteText_b1, optK_bind, optK_bif, optK_pure, optK_none, optK_oc, optK_guardT, optK_map] at h
    refine hold_of h ?_
    kernel_rfl
def zmr (x : (List UInt8) × Int × (List Int) × Unit) (o : Int × (List Int)) (Q : Ex → VSt D → Prop) (R : VR D → Prop) : Prop := Q .normal (mkSt ⟨[(0, .hole), (4, .ref 500004), (5, .hole)], [(500004, .row)]⟩ [.str x.1, .int .i64 o.1, .sl 5 o.2])
def zms (k : Nat) : Cut D := cutS ⟨[(0, .hole), (4, .ref 500004), (5, .hole)], [(500004, .row)]⟩ [.ks, .ki .i64, .kl 5] (fun (x : (List UInt8) × Int × (List Int) × Unit) => I_UnquoteText_b0 k k x.1 x.2.1 x.2.2.1) zmr
def zmt (k : Nat) : Cuts D := ⟨[(1, some (zmo k))], []⟩
theorem zmu (k : Nat) : CutFor X zmg k Go.Proofs.Tryz.f197.results.toList (zms k) (sub (bodyOf Go.Proofs.Tryz.f197) [1, 1, 1, 0]) :=
  loopCut_s (X := X) (sg := [.ks, .ki .i64, .kl 5]) (cu := zmt k) (cl := zmh k) (tys := [[0], [0]]) (id := 0) (c := sub (bodyOf Go.Proofs.Tryz.f197) [1, 1, 1, 0, 0, 0]) (f := fun n => fun (x : (List UInt8) × Int × (List Int) × Unit) => I_UnquoteText_b0 k n x.1 x.2.1 x.2.2.1) (zmi k) (cutOK_of (l := [(zmo k, sub (bodyOf Go.Proofs.Tryz.f197) [1, 1, 1, 0, 0, 0, 1])]) (by kernel_rfl) ⟨zmq k, trivial⟩) (fun _ => rfl) (fun n x Q R h => by
    simp only [I_UnquoteText_b0, optK_bind, optK_bif, optK_pure, optK_none, optK_oc, optK_guardT, optK_map] at h
    refine hold_of h ?_
    kernel_rfl) (by kernel_rfl)
def zmv (k : Nat) : Cuts D := ⟨[(0, some (zms k))], []⟩
def zmw : List Ar := [.c (.ks)]
def zmx (k : Nat) (x : TupA D zmw) : Option ((List UInt8) × Bool) := I_UnquoteText k x.1
def zmy (r : (List UInt8) × Bool) : VR D := .tup [.c (.str r.1), .c (.bool r.2)]
theorem zmz (k : Nat) : Does P X 197 zmw (zmx k) zmy :=
  does_of (body := bodyOf Go.Proofs.Tryz.f197) (pl := zmg) (k := k) (cu := zmv k) (tys := [[0], [0]]) (zmi k) ctx mixed Go.Proofs.Tryz.func197 (by kernel_rfl) (by kernel_rfl) (cutOK_of (l := [(zms k, sub (bodyOf Go.Proofs.Tryz.f197) [1, 1, 1, 0])]) (by kernel_rfl) ⟨zmu k, trivial⟩) fun x R h => by
    simp only [zmx, I_UnquoteText, optK_bind, optK_bif, optK_pure, optK_none, optK_oc, optK_guardT, optK_map] at h
    refine hold_of h ?_
    kernel_rfl
def zn0 (k : Nat) : Entry D := entS zmw (zmx k) zmy
theorem zn1 (k : Nat) : EntryOK X 197 (zn0 k) := (zmz k).en rfl
def zn2 : List Ar := [.c (.ks), .c (.ki .u8)]
def zn3 (k : Nat) (x : TupA D zn2) : Option (Int) := strings_IndexByte k x.1 x.2.1
def zn4 (r : Int) : VR D := .p (.c (.int .i64 r))
theorem zn5 (k : Nat) : Does P X 143 zn2 (zn3 k) zn4 := does_indexByte ⟨Go.Proofs.Tryz.f143, Go.Proofs.Tryz.func143, by kernel_rfl, by kernel_rfl⟩ (fun s c w hg => Go.Proofs.Tryz.strings_IndexByte s c w)
def zn6 (k : Nat) : Entry D := entS zn2 (zn3 k) zn4
theorem zn7 (k : Nat) : EntryOK X 143 (zn6 k) := (zn5 k).en rfl
def zn8 : Plan := ⟨[(0, [(0, none)]), (1, [(2, none)])],
  [],
  []⟩
def zn9 (k : Nat) : Calls' D := ⟨[(143, zn6 k)], [], [], [], []⟩
theorem zna (k : Nat) : CallsOK X (zn9 k) := .cons (zn7 k) (.nil cod)
def znb (k : Nat) : Cuts D := ⟨[], []⟩
def znc : List Ar := [.c (.ki .u8)]
def znd (k : Nat) (x : TupA D znc) : Option (Bool) := I_isTokenByte k x.1
def zne (r : Bool) : VR D := .p (.c (.bool r))
theorem znf (k : Nat) : Does P X 152 znc (znd k) zne :=
  does_of (body := bodyOf Go.Proofs.Tryz.f152) (pl := zn8) (k := k) (cu := znb k) (tys := [[0]]) (zna k) ctx mixed Go.Proofs.Tryz.func152 (by kernel_rfl) (by kernel_rfl) (cutOK_of (l := []) (by kernel_rfl) trivial) fun x R h => by
    simp only [znd, I_isTokenByte, optK_bind, optK_bif, optK_pure, optK_none, optK_oc, optK_guardT, optK_map] at h
    refine hold_of h ?_
    kernel_rfl
def zng (k : Nat) : Entry D := entS znc (znd k) zne
theorem znh (k : Nat) : EntryOK X 152 (zng k) := (znf k).en rfl
def zni : Plan := ⟨[(0, [(0, none), (1, none), (2, none)]), (1, [(6, none)])],
  [],
  []⟩
def znj (k : Nat) : Calls' D := ⟨[], [], [], [], []⟩
theorem znk (k : Nat) : CallsOK X (znj k) := .nil cod
def znl (k : Nat) : Cuts D := ⟨[], []⟩
def znm : List Ar := [.c (.ki .i64), .c (.ki .i64), .c (.ki .i64)]
def znn (k : Nat) (x : TupA D znm) : Option (Bool) := I_inRange k x.1 x.2.1 x.2.2.1
def zno (r : Bool) : VR D := .p (.c (.bool r))
theorem znp (k : Nat) : Does P X 94 znm (znn k) zno :=
  does_of (body := bodyOf Go.Proofs.Tryz.f94) (pl := zni) (k := k) (cu := znl k) (tys := [[0]]) (znk k) ctx mixed Go.Proofs.Tryz.func94 (by kernel_rfl) (by kernel_rfl) (cutOK_of (l := []) (by kernel_rfl) trivial) fun x R h => by
    simp only [znn, I_inRange, optK_bind, optK_bif, optK_pure, optK_none, optK_oc, optK_guardT, optK_map] at h
    refine hold_of h ?_
    kernel_rfl
def znq (k : Nat) : Entry D := entS znm (znn k) zno
theorem znr (k : Nat) : EntryOK X 94 (znq k) := (znp k).en rfl
def zns : Plan := ⟨[(0, [(0, none)]), (1, [(0, none), (5, none), (6, none)]), (2, [(0, none), (5, none), (6, none), (7, none)]), (3, [(0, none), (3, none), (5, none), (6, none)]), (4, [(0, none), (5, none), (6, none), (13, none)]), (5, [(2, none)]), (6, [(0, none), (5, none), (6, none)]), (7, [(2, none)])],
  [(0, [(0, none)]), (1, [(0, none), (5, none), (6, none)])],
  [(7, ([(0, none), (5, none), (6, none)], [(0, none)])), (13, ([], [(0, none), (5, none), (6, none)]))]⟩
def znt (k : Nat) : Calls' D := ⟨[(152, zng k), (94, znq k)], [], [], [], []⟩
theorem znu (k : Nat) : CallsOK X (znt k) := .cons (znh k) (.cons (znr k) (.nil cod))
def znv (x : (List UInt8) × Int × Int × Unit) (o : Oc (Unit) (Bool)) (Q : Ex → VSt D → Prop) (R : VR D → Prop) : Prop := ocP o (fun v0 => Q .normal (mkSt ⟨[(0, .hole)], []⟩ [.str x.1])) (fun w0 => R (.p (.c (.bool w0))))
def znw (k : Nat) : Cut D := cutS ⟨[(0, .hole), (5, .hole), (6, .hole)], []⟩ [.ks, .ki .i64, .ki .i64] (fun (x : (List UInt8) × Int × Int × Unit) => I_IsToken_b0 k k x.1 x.2.1 x.2.2.1) znv
def znx (k : Nat) : Cuts D := ⟨[], []⟩
theorem zny (k : Nat) : CutFor X zns k Go.Proofs.Tryz.f91.results.toList (znw k) (sub (bodyOf Go.Proofs.Tryz.f91) [1, 0, 1]) :=
  loopCut_s (X := X) (sg := [.ks, .ki .i64, .ki .i64]) (cu := znx k) (cl := znt k) (tys := [[0]]) (id := 0) (c := sub (bodyOf Go.Proofs.Tryz.f91) [1, 0, 1, 0, 0]) (f := fun n => fun (x : (List UInt8) × Int × Int × Unit) => I_IsToken_b0 k n x.1 x.2.1 x.2.2.1) (znu k) (cutOK_of (l := []) (by kernel_rfl) trivial) (fun _ => rfl) (fun n x Q R h => by
    simp only [I_IsToken_b0, optK_bind, optK_bif, optK_pure, optK_none, optK_oc, optK_guardT, optK_map] at h
    refine hold_of h ?_
    kernel_rfl) (by kernel_rfl)
def znz (k : Nat) : Cuts D := ⟨[(0, some (znw k))], []⟩
def zo0 : List Ar := [.c (.ks)]
def zo1 (k : Nat) (x : TupA D zo0) : Option (Bool) := I_IsToken k x.1
def zo2 (r : Bool) : VR D := .p (.c (.bool r))
theorem zo3 (k : Nat) : Does P X 91 zo0 (zo1 k) zo2 :=
  does_of (body := bodyOf Go.Proofs.Tryz.f91) (pl := zns) (k := k) (cu := znz k) (tys := [[0]]) (znu k) ctx mixed Go.Proofs.Tryz.func91 (by kernel_rfl) (by kernel_rfl) (cutOK_of (l := [(znw k, sub (bodyOf Go.Proofs.Tryz.f91) [1, 0, 1])]) (by kernel_rfl) ⟨zny k, trivial⟩) fun x R h => by
    simp only [zo1, I_IsToken, optK_bind, optK_bif, optK_pure, optK_none, optK_oc, optK_guardT, optK_map] at h
    refine hold_of h ?_
    kernel_rfl
def zo4 (k : Nat) : Entry D := entS zo0 (zo1 k) zo2
theorem zo5 (k : Nat) : EntryOK X 91 (zo4 k) := (zo3 k).en rfl
def zo6 : Plan := ⟨[(0, [(0, none)]), (1, [(0, none), (3, some 140)]), (2, [(3, some 140), (13, some 9), (14, none), (15, none)]), (3, [(3, some 140), (13, some 9), (14, none), (15, none), (16, none)]), (4, [(3, some 140), (5, none), (13, some 9), (14, none), (15, none)]), (5, [(3, some 140), (6, none), (7, none), (8, none), (13, some 9), (14, none), (15, none)]), (6, [(3, some 140), (6, none), (7, none), (8, none), (9, none), (13, some 9), (14, none), (15, none)]), (7, [(3, some 140), (6, none), (7, none), (8, none), (9, none), (10, none), (13, some 9), (14, none), (15, none)]), (8, [(3, some 140), (6, none), (7, none), (9, none), (10, none), (13, some 9), (14, none), (15, none), (40, none)]), (9, [(3, some 140), (6, none), (9, none), (10, none), (13, some 9), (14, none), (15, none)]), (10, [(3, some 140), (9, none), (13, some 9), (14, none), (15, none), (51, none)]), (11, [(3, some 140), (13, some 9), (14, none), (15, none)]), (12, [(3, some 140), (13, some 9), (14, none), (15, none)]), (13, [(2, some 140)])],
  [(0, [(3, some 140)]), (1, [(3, some 140), (13, some 9), (14, none), (15, none)])],
  [(16, ([(3, some 140), (13, some 9), (14, none), (15, none)], [(3, some 140)])), (40, ([(3, some 140), (6, none), (7, none), (9, none), (13, some 9), (14, none), (15, none)], [(3, some 140), (6, none), (9, none), (10, none), (13, some 9), (14, none), (15, none)])), (51, ([(3, some 140), (9, none), (13, some 9), (14, none), (15, none)], [(3, some 140), (13, some 9), (14, none), (15, none)]))]⟩
def zo7 (k : Nat) : Calls' D := ⟨[(128, zks k), (196, zl8 k), (108, zlu k), (84, zme k), (197, zn0 k), (91, zo4 k)], [], [], [], []⟩
theorem zo8 (k : Nat) : CallsOK X (zo7 k) := .cons (zkt k) (.cons (zl9 k) (.cons (zlv k) (.cons (zmf k) (.cons (zn1 k) (.cons (zo5 k) (.nil cod))))))
def zo9 (x : (List UInt8) × (List UInt8) × Bool × Int × Int × Bool × (List IDirective) × (List UInt8) × (List UInt8) × Bool × (List (List UInt8)) × Unit) (o : Bool × (List UInt8)) (Q : Ex → VSt D → Prop) (R : VR D → Prop) : Prop := Q .normal (mkSt ⟨[(3, .ref 500003), (6, .hole), (9, .ptr 9 0), (10, .hole), (13, .ref 500013), (14, .hole), (15, .hole)], [(500003, .row), (9, .var [.hole, .hole, .hole]), (500013, .row)]⟩ [.str x.1, .bool o.1, .int .i64 x.2.2.2.1, .int .i64 x.2.2.2.2.1, .sl 140 x.2.2.2.2.2.2.1, .str x.2.2.2.2.2.2.2.1, .str o.2, .bool x.2.2.2.2.2.2.2.2.2.1, .sl 9 x.2.2.2.2.2.2.2.2.2.2.1])
def zoa (k : Nat) : Cut D := cutS ⟨[(3, .ref 500003), (6, .hole), (7, .hole), (9, .ptr 9 0), (10, .hole), (13, .ref 500013), (14, .hole), (15, .hole), (40, .hole)], [(500003, .row), (9, .var [.hole, .hole, .hole]), (500013, .row)]⟩ [.ks, .ks, .kb, .ki .i64, .ki .i64, .kb, .kl 140, .ks, .ks, .kb, .kl 9] (fun (x : (List UInt8) × (List UInt8) × Bool × Int × Int × Bool × (List IDirective) × (List UInt8) × (List UInt8) × Bool × (List (List UInt8)) × Unit) => I_ParseDirectives_c40 k x.1 x.2.1 x.2.2.1 x.2.2.2.1 x.2.2.2.2.1 x.2.2.2.2.2.1 x.2.2.2.2.2.2.1 x.2.2.2.2.2.2.2.1 x.2.2.2.2.2.2.2.2.1 x.2.2.2.2.2.2.2.2.2.1 x.2.2.2.2.2.2.2.2.2.2.1) zo9
def zob (k : Nat) : Cuts D := ⟨[], []⟩
theorem zoc (k : Nat) : CutFor X zo6 k Go.Proofs.Tryz.f132.results.toList (zoa k) (sub (bodyOf Go.Proofs.Tryz.f132) [1, 1, 0, 1, 0, 0, 1, 1, 0, 0, 1, 1, 1, 1, 0, 1]) :=
  joinCut_s (X := X) (sg := [.ks, .ks, .kb, .ki .i64, .ki .i64, .kb, .kl 140, .ks, .ks, .kb, .kl 9]) (cu := zob k) (cl := zo7 k) (tys := [[140]]) (zo8 k) (cutOK_of (l := []) (by kernel_rfl) trivial) fun x Q R h => by
    simp only [I_ParseDirectives_c40, optK_bind, optK_bif, optK_pure, optK_none, optK_oc, optK_guardT, optK_map] at h
    refine hold_of h ?_
    kernel_rfl
def zod (x : Int × Int × Bool × (List IDirective) × (List UInt8) × (List UInt8) × Bool × (List (List UInt8)) × Unit) (o : (List IDirective)) (Q : Ex → VSt D → Prop) (R : VR D → Prop) : Prop := Q .normal (mkSt ⟨[(3, .ref 500003), (13, .ref 500013), (14, .hole), (15, .hole)], [(500003, .row), (500013, .row)]⟩ [.int .i64 x.1, .int .i64 x.2.1, .sl 140 o, .sl 9 x.2.2.2.2.2.2.2.1])
def zoe (k : Nat) : Cut D := cutS ⟨[(3, .ref 500003), (9, .ptr 9 0), (13, .ref 500013), (14, .hole), (15, .hole), (51, .hole)], [(500003, .row), (9, .var [.hole, .hole, .hole]), (500013, .row)]⟩ [.ki .i64, .ki .i64, .kb, .kl 140, .ks, .ks, .kb, .kl 9] (fun (x : Int × Int × Bool × (List IDirective) × (List UInt8) × (List UInt8) × Bool × (List (List UInt8)) × Unit) => I_ParseDirectives_c51 k x.1 x.2.1 x.2.2.1 x.2.2.2.1 x.2.2.2.2.1 x.2.2.2.2.2.1 x.2.2.2.2.2.2.1 x.2.2.2.2.2.2.2.1) zod
def zof (k : Nat) : Cuts D := ⟨[], []⟩
theorem zog (k : Nat) : CutFor X zo6 k Go.Proofs.Tryz.f132.results.toList (zoe k) (sub (bodyOf Go.Proofs.Tryz.f132) [1, 1, 0, 1, 0, 0, 1, 1, 0, 0, 1, 1, 1, 1, 1, 1]) :=
  joinCut_s (X := X) (sg := [.ki .i64, .ki .i64, .kb, .kl 140, .ks, .ks, .kb, .kl 9]) (cu := zof k) (cl := zo7 k) (tys := [[140]]) (zo8 k) (cutOK_of (l := []) (by kernel_rfl) trivial) fun x Q R h => by
    simp only [I_ParseDirectives_c51, optK_bind, optK_bif, optK_pure, optK_none, optK_oc, optK_guardT, optK_map] at h
    refine hold_of h ?_
    kernel_rfl
def zoh (x : Int × Int × (List IDirective) × (List (List UInt8)) × Unit) (o : (List IDirective)) (Q : Ex → VSt D → Prop) (R : VR D → Prop) : Prop := Q .normal (mkSt ⟨[(3, .ref 500003), (13, .ref 500013), (14, .hole), (15, .hole)], [(500003, .row), (500013, .row)]⟩ [.int .i64 x.1, .int .i64 x.2.1, .sl 140 o, .sl 9 x.2.2.2.1])
def zoi (k : Nat) : Cut D := cutS ⟨[(3, .ref 500003), (13, .ref 500013), (14, .hole), (15, .hole)], [(500003, .row), (500013, .row)]⟩ [.ki .i64, .ki .i64, .kl 140, .kl 9] (fun (x : Int × Int × (List IDirective) × (List (List UInt8)) × Unit) => I_ParseDirectives_b1 k x.1 x.2.1 x.2.2.1 x.2.2.2.1) zoh
def zoj (k : Nat) : Cuts D := ⟨[], [(40, some (zoa k)), (51, some (zoe k))]⟩
theorem zok (k : Nat) : CutFor X zo6 k Go.Proofs.Tryz.f132.results.toList (zoi k) (sub (bodyOf Go.Proofs.Tryz.f132) [1, 1, 0, 1, 0, 0, 1, 1, 0]) :=
  joinCut_s (X := X) (sg := [.ki .i64, .ki .i64, .kl 140, .kl 9]) (cu := zoj k) (cl := zo7 k) (tys := [[140]]) (zo8 k) (cutOK_of (l := [(zoa k, sub (bodyOf Go.Proofs.Tryz.f132) [1, 1, 0, 1, 0, 0, 1, 1, 0, 0, 1, 1, 1, 1, 0, 1]), (zoe k, sub (bodyOf Go.Proofs.Tryz.f132) [1, 1, 0, 1, 0, 0, 1, 1, 0, 0, 1, 1, 1, 1, 1, 1])]) (by kernel_rfl) ⟨zoc k, zog k, trivial⟩) fun x Q R h => by
    simp only [I_ParseDirectives_b1, optK_bind, optK_bif, optK_pure, optK_none, optK_oc, optK_guardT, optK_map] at h
    refine hold_of h ?_
    kernel_rfl
def zol (x : Int × Int × (List IDirective) × (List (List UInt8)) × Unit) (o : (List IDirective)) (Q : Ex → VSt D → Prop) (R : VR D → Prop) : Prop := Q .normal (mkSt ⟨[(3, .ref 500003)], [(500003, .row)]⟩ [.sl 140 o])
def zom (k : Nat) : Cut D := cutS ⟨[(3, .ref 500003), (13, .ref 500013), (14, .hole), (15, .hole)], [(500003, .row), (500013, .row)]⟩ [.ki .i64, .ki .i64, .kl 140, .kl 9] (fun (x : Int × Int × (List IDirective) × (List (List UInt8)) × Unit) => I_ParseDirectives_b0 k k x.1 x.2.1 x.2.2.1 x.2.2.2.1) zol
def zon (k : Nat) : Cuts D := ⟨[(1, some (zoi k))], []⟩
theorem zoo (k : Nat) : CutFor X zo6 k Go.Proofs.Tryz.f132.results.toList (zom k) (sub (bodyOf Go.Proofs.Tryz.f132) [1, 1, 0, 1]) :=
  loopCut_s (X := X) (sg := [.ki .i64, .ki .i64, .kl 140, .kl 9]) (cu := zon k) (cl := zo7 k) (tys := [[140]]) (id := 0) (c := sub (bodyOf Go.Proofs.Tryz.f132) [1, 1, 0, 1, 0, 0]) (f := fun n => fun (x : Int × Int × (List IDirective) × (List (List UInt8)) × Unit) => I_ParseDirectives_b0 k n x.1 x.2.1 x.2.2.1 x.2.2.2.1) (zo8 k) (cutOK_of (l := [(zoi k, sub (bodyOf Go.Proofs.Tryz.f132) [1, 1, 0, 1, 0, 0, 1, 1, 0])]) (by kernel_rfl) ⟨zok k, trivial⟩) (fun _ => rfl) (fun n x Q R h => by
    simp only [I_ParseDirectives_b0, optK_bind, optK_bif, optK_pure, optK_none, optK_oc, optK_guardT, optK_map] at h
    refine hold_of h ?_
    kernel_rfl) (by kernel_rfl)
def zop (k : Nat) : Cuts D := ⟨[(0, some (zom k))], []⟩
def zoq : List Ar := [.c (.ks)]
def zor (k : Nat) (x : TupA D zoq) : Option ((List IDirective)) := I_ParseDirectives k x.1
def zos (r : (List IDirective)) : VR D := .p (.c (.sl 140 r))
theorem zot (k : Nat) : Does P X 132 zoq (zor k) zos :=
  does_of (body := bodyOf Go.Proofs.Tryz.f132) (pl := zo6) (k := k) (cu := zop k) (tys := [[140]]) (zo8 k) ctx mixed Go.Proofs.Tryz.func132 (by kernel_rfl) (by kernel_rfl) (cutOK_of (l := [(zom k, sub (bodyOf Go.Proofs.Tryz.f132) [1, 1, 0, 1])]) (by kernel_rfl) ⟨zoo k, trivial⟩) fun x R h => by
    simp only [zor, I_ParseDirectives, optK_bind, optK_bif, optK_pure, optK_none, optK_oc, optK_guardT, optK_map] at h
    refine hold_of h ?_
    kernel_rfl
def zou (k : Nat) : Entry D := entS zoq (zor k) zos
theorem zov (k : Nat) : EntryOK X 132 (zou k) := (zot k).en rfl
def zow : Plan := ⟨[(0, [(0, some 107)]), (1, [(3, none)]), (2, [(2, some 140)])],
  [],
  []⟩
def zox (k : Nat) : Calls' D := ⟨[(57, zja k), (132, zou k)], [], [], [], []⟩
theorem zoy (k : Nat) : CallsOK X (zox k) := .cons (zjb k) (.cons (zov k) (.nil cod))
def zoz (k : Nat) : Cuts D := ⟨[], []⟩
def zp0 : List Ar := [.c (.kl 107)]
def zp1 (k : Nat) (x : TupA D zp0) : Option ((List IDirective)) := I_rulesOf k x.1
def zp2 (r : (List IDirective)) : VR D := .p (.c (.sl 140 r))
theorem zp3 (k : Nat) : Does P X 70 zp0 (zp1 k) zp2 :=
  does_of (body := bodyOf Go.Proofs.Tryz.f70) (pl := zow) (k := k) (cu := zoz k) (tys := [[140]]) (zoy k) ctx mixed Go.Proofs.Tryz.func70 (by kernel_rfl) (by kernel_rfl) (cutOK_of (l := []) (by kernel_rfl) trivial) fun x R h => by
    simp only [zp1, I_rulesOf, optK_bind, optK_bif, optK_pure, optK_none, optK_oc, optK_guardT, optK_map] at h
    refine hold_of h ?_
    kernel_rfl
def zp4 (k : Nat) : Entry D := entS zp0 (zp1 k) zp2
theorem zp5 (k : Nat) : EntryOK X 70 (zp4 k) := (zp3 k).en rfl
def zp6 : Plan := ⟨[(0, [(0, some 140), (1, none)]), (1, [(1, none), (7, some 140), (8, none), (9, none)]), (2, [(1, none), (7, some 140), (8, none), (9, none), (10, none)]), (3, [(1, none), (5, none), (6, none), (7, some 140), (8, none), (9, none)]), (4, [(1, none), (5, none), (7, some 140), (8, none), (9, none), (17, none)]), (5, [(4, none)]), (6, [(1, none), (7, some 140), (8, none), (9, none)]), (7, [(4, none)])],
  [(0, []), (1, [(1, none), (7, some 140), (8, none), (9, none)])],
  [(10, ([(1, none), (7, some 140), (8, none), (9, none)], [])), (17, ([(5, none)], [(1, none), (7, some 140), (8, none), (9, none)]))]⟩
def zp7 (k : Nat) : Calls' D := ⟨[], [], [], [], []⟩
theorem zp8 (k : Nat) : CallsOK X (zp7 k) := .nil cod
def zp9 (x : (List UInt8) × (List IDirective) × Int × Int × Unit) (o : Oc (Unit) (Int)) (Q : Ex → VSt D → Prop) (R : VR D → Prop) : Prop := ocP o (fun v0 => Q .normal (mkSt ⟨[], []⟩ [])) (fun w0 => R (.p (.c (.int .i64 w0))))
def zpa (k : Nat) : Cut D := cutS ⟨[(1, .hole), (7, .hole), (8, .hole), (9, .hole)], []⟩ [.ks, .kl 140, .ki .i64, .ki .i64] (fun (x : (List UInt8) × (List IDirective) × Int × Int × Unit) => I_FindDirective_b0 k k x.1 x.2.1 x.2.2.1 x.2.2.2.1) zp9
def zpb (k : Nat) : Cuts D := ⟨[], []⟩
theorem zpc (k : Nat) : CutFor X zp6 k Go.Proofs.Tryz.f133.results.toList (zpa k) (sub (bodyOf Go.Proofs.Tryz.f133) [1, 0, 1]) :=
  loopCut_s (X := X) (sg := [.ks, .kl 140, .ki .i64, .ki .i64]) (cu := zpb k) (cl := zp7 k) (tys := [[0]]) (id := 0) (c := sub (bodyOf Go.Proofs.Tryz.f133) [1, 0, 1, 0, 0]) (f := fun n => fun (x : (List UInt8) × (List IDirective) × Int × Int × Unit) => I_FindDirective_b0 k n x.1 x.2.1 x.2.2.1 x.2.2.2.1) (zp8 k) (cutOK_of (l := []) (by kernel_rfl) trivial) (fun _ => rfl) (fun n x Q R h => by
    simp only [I_FindDirective_b0, optK_bind, optK_bif, optK_pure, optK_none, optK_oc, optK_guardT, optK_map] at h
    refine hold_of h ?_
    kernel_rfl) (by kernel_rfl)
def zpd (k : Nat) : Cuts D := ⟨[(0, some (zpa k))], []⟩
def zpe : List Ar := [.c (.kl 140), .c (.ks)]
def zpf (k : Nat) (x : TupA D zpe) : Option (Int) := I_FindDirective k x.1 x.2.1
def zpg (r : Int) : VR D := .p (.c (.int .i64 r))
theorem zph (k : Nat) : Does P X 133 zpe (zpf k) zpg :=
  does_of (body := bodyOf Go.Proofs.Tryz.f133) (pl := zp6) (k := k) (cu := zpd k) (tys := [[0]]) (zp8 k) ctx mixed Go.Proofs.Tryz.func133 (by kernel_rfl) (by kernel_rfl) (cutOK_of (l := [(zpa k, sub (bodyOf Go.Proofs.Tryz.f133) [1, 0, 1])]) (by kernel_rfl) ⟨zpc k, trivial⟩) fun x R h => by
    simp only [zpf, I_FindDirective, optK_bind, optK_bif, optK_pure, optK_none, optK_oc, optK_guardT, optK_map] at h
    refine hold_of h ?_
    kernel_rfl
def zpi (k : Nat) : Entry D := entS zpe (zpf k) zpg
theorem zpj (k : Nat) : EntryOK X 133 (zpi k) := (zph k).en rfl
def zpk : Plan := ⟨[(0, [(0, some 140), (1, none)]), (1, [(0, some 140), (6, none)]), (2, [(0, some 140), (6, none), (14, none)]), (3, [(4, none), (5, none)]), (4, [(0, some 140), (6, none), (7, none)]), (5, [(7, none), (20, some 5), (21, none), (22, none)]), (6, [(7, none), (20, some 5), (21, none), (22, none), (23, none)]), (7, [(7, none), (9, none), (20, some 5), (21, none), (22, none)]), (8, [(7, none), (9, none), (20, some 5), (21, none), (22, none), (31, none)]), (9, [(4, none), (5, none)]), (10, [(7, none), (20, some 5), (21, none), (22, none)]), (11, [(7, none), (20, some 5), (21, none), (22, none)]), (12, [(4, none), (5, none)])],
  [(0, [(7, none)]), (1, [(7, none), (20, some 5), (21, none), (22, none)])],
  [(14, ([], [(0, some 140), (6, none)])), (23, ([(7, none), (20, some 5), (21, none), (22, none)], [(7, none)])), (31, ([], [(7, none), (9, none), (20, some 5), (21, none), (22, none)]))]⟩
def zpl (k : Nat) : Calls' D := ⟨[(133, zpi k)], [], [], [], []⟩
theorem zpm (k : Nat) : CallsOK X (zpl k) := .cons (zpj k) (.nil cod)
def zpn (x : Int × Int × Int × (List Int) × Unit) (o : Oc (Int) (Int × Bool)) (Q : Ex → VSt D → Prop) (R : VR D → Prop) : Prop := ocP o (fun v0 => Q .normal (mkSt ⟨[(7, .hole)], []⟩ [.int .i64 v0])) (fun w0 => R (.tup [.c (.int .i64 w0.1), .c (.bool w0.2)]))
def zpo (k : Nat) : Cut D := cutS ⟨[(7, .hole), (20, .ref 500020), (21, .hole), (22, .hole)], [(500020, .row)]⟩ [.ki .i64, .ki .i64, .ki .i64, .kl 5] (fun (x : Int × Int × Int × (List Int) × Unit) => I_SecondsOf_b0 k k x.1 x.2.1 x.2.2.1 x.2.2.2.1) zpn
def zpp (k : Nat) : Cuts D := ⟨[], []⟩
theorem zpq (k : Nat) : CutFor X zpk k Go.Proofs.Tryz.f71.results.toList (zpo k) (sub (bodyOf Go.Proofs.Tryz.f71) [1, 1, 1, 1, 0, 1]) :=
  loopCut_s (X := X) (sg := [.ki .i64, .ki .i64, .ki .i64, .kl 5]) (cu := zpp k) (cl := zpl k) (tys := [[0], [0]]) (id := 0) (c := sub (bodyOf Go.Proofs.Tryz.f71) [1, 1, 1, 1, 0, 1, 0, 0]) (f := fun n => fun (x : Int × Int × Int × (List Int) × Unit) => I_SecondsOf_b0 k n x.1 x.2.1 x.2.2.1 x.2.2.2.1) (zpm k) (cutOK_of (l := []) (by kernel_rfl) trivial) (fun _ => rfl) (fun n x Q R h => by
    simp only [I_SecondsOf_b0, optK_bind, optK_bif, optK_pure, optK_none, optK_oc, optK_guardT, optK_map] at h
    refine hold_of h ?_
    kernel_rfl) (by kernel_rfl)
def zpr (k : Nat) : Cuts D := ⟨[(0, some (zpo k))], []⟩
def zps : List Ar := [.c (.kl 140), .c (.ks)]
def zpt (k : Nat) (x : TupA D zps) : Option (Int × Bool) := I_SecondsOf k x.1 x.2.1
def zpu (r : Int × Bool) : VR D := .tup [.c (.int .i64 r.1), .c (.bool r.2)]
theorem zpv (k : Nat) : Does P X 71 zps (zpt k) zpu :=
  does_of (body := bodyOf Go.Proofs.Tryz.f71) (pl := zpk) (k := k) (cu := zpr k) (tys := [[0], [0]]) (zpm k) ctx mixed Go.Proofs.Tryz.func71 (by kernel_rfl) (by kernel_rfl) (cutOK_of (l := [(zpo k, sub (bodyOf Go.Proofs.Tryz.f71) [1, 1, 1, 1, 0, 1])]) (by kernel_rfl) ⟨zpq k, trivial⟩) fun x R h => by
    simp only [zpt, I_SecondsOf, optK_bind, optK_bif, optK_pure, optK_none, optK_oc, optK_guardT, optK_map] at h
    refine hold_of h ?_
    kernel_rfl
def zpw (k : Nat) : Entry D := entS zps (zpt k) zpu
theorem zpx (k : Nat) : EntryOK X 71 (zpw k) := (zpv k).en rfl
def zpy : List Ar := [.c (.ks), .c (.ks)]
def zpz (k : Nat) (x : TupA D zpy) : Option ((List UInt8)) := strings_TrimLeft k x.1 x.2.1
def zq0 (r : (List UInt8)) : VR D := .p (.c (.str r))
theorem zq1 (k : Nat) : Does P X 233 zpy (zpz k) zq0 := does_trimLeft ⟨Go.Proofs.Tryz.f233, Go.Proofs.Tryz.func233, by kernel_rfl, by kernel_rfl⟩ (fun s c w hg h => Go.Proofs.Tryz.strings_TrimLeft_one s c h w)
def zq2 (k : Nat) : Entry D := entS zpy (zpz k) zq0
theorem zq3 (k : Nat) : EntryOK X 233 (zq2 k) := (zq1 k).en rfl
def zq4 : List Ar := [.c (.ks)]
def zq5 (k : Nat) (x : TupA D zq4) : Option (Int × Bool) := strconv_Atoi k x.1
def zq6 (r : Int × Bool) : VR D := .tup [.c (.int .i64 r.1), .c (.err r.2)]
theorem zq7 (k : Nat) : Does P X 176 zq4 (zq5 k) zq6 := does_atoi ⟨Go.Proofs.Tryz.f176, Go.Proofs.Tryz.func176, by kernel_rfl, by kernel_rfl⟩ (fun s v w hg h1 h2 => Go.Proofs.Tryz.strconv_Atoi_ok s h1 v h2 w) (fun s w hg h1 h2 => let ⟨tp, p, hv⟩ := hg.2.1; (Go.Proofs.Tryz.strconv_Atoi_range_var s h1 h2 tp p w hv).mono fun e w1 ⟨N, h, _, _, hb⟩ => ⟨_, h, hb⟩) (fun s w hg h1 h2 h3 => let ⟨tp, p, hv⟩ := hg.2.2.1; (Go.Proofs.Any.strconv_Atoi_syntax_var Go.Proofs.Tryz.laysC172 s h1 (atoi_bad h2 h3) tp p w hv).mono fun e w1 ⟨N, h, _, _, hb⟩ => ⟨_, h, hb⟩)
def zq8 (k : Nat) : Entry D := entS zq4 (zq5 k) zq6
theorem zq9 (k : Nat) : EntryOK X 176 (zq8 k) := (zq7 k).en rfl
def zqa : Plan := ⟨[(0, [(0, none)]), (1, [(3, none), (4, none)]), (2, [(3, none), (12, none)]), (3, [(2, none)]), (4, [(2, none)])],
  [],
  [(12, ([], [(3, none)]))]⟩
def zqb (k : Nat) : Calls' D := ⟨[(233, zq2 k), (176, zq8 k)], [], [], [], []⟩
theorem zqc (k : Nat) : CallsOK X (zqb k) := .cons (zq3 k) (.cons (zq9 k) (.nil cod))
def zqd (k : Nat) : Cuts D := ⟨[], []⟩
def zqe : List Ar := [.c (.ks)]
def zqf (k : Nat) (x : TupA D zqe) : Option (Int) := I_digitsIn k x.1
def zqg (r : Int) : VR D := .p (.c (.int .i64 r))
theorem zqh (k : Nat) : Does P X 187 zqe (zqf k) zqg :=
  does_of (body := bodyOf Go.Proofs.Tryz.f187) (pl := zqa) (k := k) (cu := zqd k) (tys := [[0]]) (zqc k) ctx mixed Go.Proofs.Tryz.func187 (by kernel_rfl) (by kernel_rfl) (cutOK_of (l := []) (by kernel_rfl) trivial) fun x R h => by
    simp only [zqf, I_digitsIn, optK_bind, optK_bif, optK_pure, optK_none, optK_oc, optK_guardT, optK_map] at h
    refine hold_of h ?_
    kernel_rfl
def zqi (k : Nat) : Entry D := entS zqe (zqf k) zqg
theorem zqj (k : Nat) : EntryOK X 187 (zqi k) := (zqh k).en rfl
def zqk : List Ar := [.c (.ks), .c (.ks)]
def zql (k : Nat) (x : TupA D zqk) : Option (Int) := strings_Index k x.1 x.2.1
def zqm (r : Int) : VR D := .p (.c (.int .i64 r))
theorem zqn (k : Nat) : Does P X 205 zqk (zql k) zqm := does_index ⟨Go.Proofs.Tryz.f205, Go.Proofs.Tryz.func205, by kernel_rfl, by kernel_rfl⟩ (fun s sub w hg hs => let ⟨m, hm⟩ := hg.1; Go.Proofs.Tryz.strings_Index s sub m w hs hm)
def zqo (k : Nat) : Entry D := entS zqk (zql k) zqm
theorem zqp (k : Nat) : EntryOK X 205 (zqo k) := (zqn k).en rfl
def zqq : Plan := ⟨[(0, [(0, none), (1, none)]), (1, [(0, none), (1, none), (7, none)]), (2, [(4, none)]), (3, [(4, none)])],
  [],
  [(7, ([], [(0, none), (1, none)]))]⟩
def zqr (k : Nat) : Calls' D := ⟨[(94, znq k)], [], [], [], []⟩
theorem zqs (k : Nat) : CallsOK X (zqr k) := .cons (znr k) (.nil cod)
def zqt (k : Nat) : Cuts D := ⟨[], []⟩
def zqu : List Ar := [.c (.ki .i64), .c (.ki .i64)]
def zqv (k : Nat) (x : TupA D zqu) : Option (Int) := I_Mod k x.1 x.2.1
def zqw (r : Int) : VR D := .p (.c (.int .i64 r))
theorem zqx (k : Nat) : Does P X 237 zqu (zqv k) zqw :=
  does_of (body := bodyOf Go.Proofs.Tryz.f237) (pl := zqq) (k := k) (cu := zqt k) (tys := [[0]]) (zqs k) ctx mixed Go.Proofs.Tryz.func237 (by kernel_rfl) (by kernel_rfl) (cutOK_of (l := []) (by kernel_rfl) trivial) fun x R h => by
    simp only [zqv, I_Mod, optK_bind, optK_bif, optK_pure, optK_none, optK_oc, optK_guardT, optK_map] at h
    refine hold_of h ?_
    kernel_rfl
def zqy (k : Nat) : Entry D := entS zqu (zqv k) zqw
theorem zqz (k : Nat) : EntryOK X 237 (zqy k) := (zqx k).en rfl
def zr0 : Plan := ⟨[(0, [(0, none)]), (1, [(2, none)])],
  [],
  []⟩
def zr1 (k : Nat) : Calls' D := ⟨[(237, zqy k)], [], [], [], []⟩
theorem zr2 (k : Nat) : CallsOK X (zr1 k) := .cons (zqz k) (.nil cod)
def zr3 (k : Nat) : Cuts D := ⟨[], []⟩
def zr4 : List Ar := [.c (.ki .i64)]
def zr5 (k : Nat) (x : TupA D zr4) : Option (Bool) := I_IsLeap k x.1
def zr6 (r : Bool) : VR D := .p (.c (.bool r))
theorem zr7 (k : Nat) : Does P X 262 zr4 (zr5 k) zr6 :=
  does_of (body := bodyOf Go.Proofs.Tryz.f262) (pl := zr0) (k := k) (cu := zr3 k) (tys := [[0]]) (zr2 k) ctx mixed Go.Proofs.Tryz.func262 (by kernel_rfl) (by kernel_rfl) (cutOK_of (l := []) (by kernel_rfl) trivial) fun x R h => by
    simp only [zr5, I_IsLeap, optK_bind, optK_bif, optK_pure, optK_none, optK_oc, optK_guardT, optK_map] at h
    refine hold_of h ?_
    kernel_rfl
def zr8 (k : Nat) : Entry D := entS zr4 (zr5 k) zr6
theorem zr9 (k : Nat) : EntryOK X 262 (zr8 k) := (zr7 k).en rfl
def zra : Plan := ⟨[(0, [(0, none), (1, none)]), (1, [(0, none), (5, none)]), (2, [(0, none), (5, none), (6, none)]), (3, [(9, none)]), (4, [(4, none)]), (5, [(4, none)]), (6, [(5, none), (10, none)]), (7, [(5, none), (10, none)]), (8, [(5, none), (10, none)]), (9, [(10, none)]), (10, [(4, none)]), (11, [(4, none)])],
  [(0, [])],
  [(6, ([(0, none)], [(5, none)])), (9, ([], [])), (10, ([(10, none)], [(5, none)]))]⟩
def zrb (k : Nat) : Calls' D := ⟨[(262, zr8 k)], [], [], [], []⟩
theorem zrc (k : Nat) : CallsOK X (zrb k) := .cons (zr9 k) (.nil cod)
def zrd (x : Int × Int × Bool × Unit) (o : Oc (Unit) (Int)) (Q : Ex → VSt D → Prop) (R : VR D → Prop) : Prop := ocP o (fun v0 => Q .normal (mkSt ⟨[(5, .gone)], []⟩ [])) (fun w0 => R (.p (.c (.int .i64 w0))))
def zre (k : Nat) : Cut D := cutS ⟨[(0, .hole), (5, .hole), (6, .hole)], []⟩ [.ki .i64, .ki .i64, .kb] (fun (x : Int × Int × Bool × Unit) => I_monthDays_c6 k x.1 x.2.1 x.2.2.1) zrd
def zrf (k : Nat) : Cuts D := ⟨[], []⟩
theorem zrg (k : Nat) : CutFor X zra k Go.Proofs.Tryz.f236.results.toList (zre k) (sub (bodyOf Go.Proofs.Tryz.f236) [1, 0, 1, 0, 1]) :=
  joinCut_s (X := X) (sg := [.ki .i64, .ki .i64, .kb]) (cu := zrf k) (cl := zrb k) (tys := [[0]]) (zrc k) (cutOK_of (l := []) (by kernel_rfl) trivial) fun x Q R h => by
    simp only [I_monthDays_c6, optK_bind, optK_bif, optK_pure, optK_none, optK_oc, optK_guardT, optK_map] at h
    refine hold_of h ?_
    kernel_rfl
def zrh (x : Int × Int × Unit) (o : Oc (Unit) (Int)) (Q : Ex → VSt D → Prop) (R : VR D → Prop) : Prop := ocP o (fun v0 => Q .normal (mkSt ⟨[], []⟩ [])) (fun w0 => R (.p (.c (.int .i64 w0))))
def zri (k : Nat) : Cut D := cutS ⟨[(0, .hole), (5, .hole)], []⟩ [.ki .i64, .ki .i64] (fun (x : Int × Int × Unit) => I_monthDays_b0 k x.1 x.2.1) zrh
def zrj (k : Nat) : Cuts D := ⟨[], [(6, some (zre k))]⟩
theorem zrk (k : Nat) : CutFor X zra k Go.Proofs.Tryz.f236.results.toList (zri k) (sub (bodyOf Go.Proofs.Tryz.f236) [1, 0, 1]) :=
  joinCut_s (X := X) (sg := [.ki .i64, .ki .i64]) (cu := zrj k) (cl := zrb k) (tys := [[0]]) (zrc k) (cutOK_of (l := [(zre k, sub (bodyOf Go.Proofs.Tryz.f236) [1, 0, 1, 0, 1])]) (by kernel_rfl) ⟨zrg k, trivial⟩) fun x Q R h => by
    simp only [I_monthDays_b0, optK_bind, optK_bif, optK_pure, optK_none, optK_oc, optK_guardT, optK_map] at h
    refine hold_of h ?_
    kernel_rfl
def zrl (k : Nat) : Cuts D := ⟨[(0, some (zri k))], []⟩
def zrm : List Ar := [.c (.ki .i64), .c (.ki .i64)]
def zrn (k : Nat) (x : TupA D zrm) : Option (Int) := I_monthDays k x.1 x.2.1
def zro (r : Int) : VR D := .p (.c (.int .i64 r))
theorem zrp (k : Nat) : Does P X 236 zrm (zrn k) zro :=
  does_of (body := bodyOf Go.Proofs.Tryz.f236) (pl := zra) (k := k) (cu := zrl k) (tys := [[0]]) (zrc k) ctx mixed Go.Proofs.Tryz.func236 (by kernel_rfl) (by kernel_rfl) (cutOK_of (l := [(zri k, sub (bodyOf Go.Proofs.Tryz.f236) [1, 0, 1])]) (by kernel_rfl) ⟨zrk k, trivial⟩) fun x R h => by
    simp only [zrn, I_monthDays, optK_bind, optK_bif, optK_pure, optK_none, optK_oc, optK_guardT, optK_map] at h
    refine hold_of h ?_
    kernel_rfl
def zrq (k : Nat) : Entry D := entS zrm (zrn k) zro
theorem zrr (k : Nat) : EntryOK X 236 (zrq k) := (zrp k).en rfl
def zrs : Plan := ⟨[(0, [(0, none)]), (1, [(4, none)]), (2, [(2, none)]), (3, [(2, none)])],
  [],
  [(4, ([], []))]⟩
def zrt (k : Nat) : Calls' D := ⟨[(262, zr8 k)], [], [], [], []⟩
theorem zru (k : Nat) : CallsOK X (zrt k) := .cons (zr9 k) (.nil cod)
def zrv (k : Nat) : Cuts D := ⟨[], []⟩
def zrw : List Ar := [.c (.ki .i64)]
def zrx (k : Nat) (x : TupA D zrw) : Option (Int) := I_yearDays k x.1
def zry (r : Int) : VR D := .p (.c (.int .i64 r))
theorem zrz (k : Nat) : Does P X 235 zrw (zrx k) zry :=
  does_of (body := bodyOf Go.Proofs.Tryz.f235) (pl := zrs) (k := k) (cu := zrv k) (tys := [[0]]) (zru k) ctx mixed Go.Proofs.Tryz.func235 (by kernel_rfl) (by kernel_rfl) (cutOK_of (l := []) (by kernel_rfl) trivial) fun x R h => by
    simp only [zrx, I_yearDays, optK_bind, optK_bif, optK_pure, optK_none, optK_oc, optK_guardT, optK_map] at h
    refine hold_of h ?_
    kernel_rfl
def zs0 (k : Nat) : Entry D := entS zrw (zrx k) zry
theorem zs1 (k : Nat) : EntryOK X 235 (zs0 k) := (zrz k).en rfl
def zs2 : Plan := ⟨[(0, [(0, none), (1, none), (2, none)]), (1, [(0, none), (1, none), (2, none), (25, none)]), (2, [(6, none)]), (3, [(0, none), (1, none), (7, none)]), (4, [(0, none), (1, none), (7, none), (8, none)]), (5, [(0, none), (1, none), (7, none), (8, none), (30, none)]), (6, [(0, none), (1, none), (7, none), (8, none)]), (7, [(0, none), (1, none), (7, none), (8, none)]), (8, [(0, none), (1, none), (7, none), (9, none)]), (9, [(0, none), (1, none), (7, none), (9, none), (39, none)]), (10, [(0, none), (1, none), (7, none), (9, none)]), (11, [(0, none), (1, none), (7, none), (9, none)]), (12, [(6, none)])],
  [(0, [(0, none), (1, none), (7, none)]), (1, [(0, none), (1, none), (7, none), (8, none)]), (2, [(7, none)]), (3, [(0, none), (1, none), (7, none), (9, none)])],
  [(25, ([], [(0, none), (1, none), (2, none)])), (30, ([(0, none), (1, none), (7, none), (8, none)], [(0, none), (1, none), (7, none)])), (39, ([(0, none), (1, none), (7, none), (9, none)], [(7, none)]))]⟩
def zs3 (k : Nat) : Calls' D := ⟨[(94, znq k), (236, zrq k), (235, zs0 k)], [], [], [], []⟩
theorem zs4 (k : Nat) : CallsOK X (zs3 k) := .cons (znr k) (.cons (zrr k) (.cons (zs1 k) (.nil cod)))
def zs5 (x : Int × Int × Int × Int × Unit) (o : Int) (Q : Ex → VSt D → Prop) (R : VR D → Prop) : Prop := Q .normal (mkSt ⟨[(0, .hole), (1, .hole), (7, .hole)], []⟩ [.int .i64 x.1, .int .i64 x.2.1, .int .i64 o])
def zs6 (k : Nat) : Cut D := cutS ⟨[(0, .hole), (1, .hole), (7, .hole), (8, .hole)], []⟩ [.ki .i64, .ki .i64, .ki .i64, .ki .i64] (fun (x : Int × Int × Int × Int × Unit) => I_DaysOf_b0 k k x.1 x.2.1 x.2.2.1 x.2.2.2.1) zs5
def zs7 (k : Nat) : Cuts D := ⟨[], []⟩
theorem zs8 (k : Nat) : CutFor X zs2 k Go.Proofs.Tryz.f234.results.toList (zs6 k) (sub (bodyOf Go.Proofs.Tryz.f234) [1, 1, 1, 0, 1]) :=
  loopCut_s (X := X) (sg := [.ki .i64, .ki .i64, .ki .i64, .ki .i64]) (cu := zs7 k) (cl := zs3 k) (tys := [[0]]) (id := 0) (c := sub (bodyOf Go.Proofs.Tryz.f234) [1, 1, 1, 0, 1, 0, 0]) (f := fun n => fun (x : Int × Int × Int × Int × Unit) => I_DaysOf_b0 k n x.1 x.2.1 x.2.2.1 x.2.2.2.1) (zs4 k) (cutOK_of (l := []) (by kernel_rfl) trivial) (fun _ => rfl) (fun n x Q R h => by
    simp only [I_DaysOf_b0, optK_bind, optK_bif, optK_pure, optK_none, optK_oc, optK_guardT, optK_map] at h
    refine hold_of h ?_
    kernel_rfl) (by kernel_rfl)
def zs9 (x : Int × Int × Int × Int × Unit) (o : Int) (Q : Ex → VSt D → Prop) (R : VR D → Prop) : Prop := Q .normal (mkSt ⟨[(7, .hole)], []⟩ [.int .i64 o])
def zsa (k : Nat) : Cut D := cutS ⟨[(0, .hole), (1, .hole), (7, .hole), (9, .hole)], []⟩ [.ki .i64, .ki .i64, .ki .i64, .ki .i64] (fun (x : Int × Int × Int × Int × Unit) => I_DaysOf_b2 k k x.1 x.2.1 x.2.2.1 x.2.2.2.1) zs9
def zsb (k : Nat) : Cuts D := ⟨[], []⟩
theorem zsc (k : Nat) : CutFor X zs2 k Go.Proofs.Tryz.f234.results.toList (zsa k) (sub (bodyOf Go.Proofs.Tryz.f234) [1, 1, 1, 1, 0, 1]) :=
  loopCut_s (X := X) (sg := [.ki .i64, .ki .i64, .ki .i64, .ki .i64]) (cu := zsb k) (cl := zs3 k) (tys := [[0]]) (id := 2) (c := sub (bodyOf Go.Proofs.Tryz.f234) [1, 1, 1, 1, 0, 1, 0, 0]) (f := fun n => fun (x : Int × Int × Int × Int × Unit) => I_DaysOf_b2 k n x.1 x.2.1 x.2.2.1 x.2.2.2.1) (zs4 k) (cutOK_of (l := []) (by kernel_rfl) trivial) (fun _ => rfl) (fun n x Q R h => by
    simp only [I_DaysOf_b2, optK_bind, optK_bif, optK_pure, optK_none, optK_oc, optK_guardT, optK_map] at h
    refine hold_of h ?_
    kernel_rfl) (by kernel_rfl)
def zsd (k : Nat) : Cuts D := ⟨[(0, some (zs6 k)), (2, some (zsa k))], []⟩
def zse : List Ar := [.c (.ki .i64), .c (.ki .i64), .c (.ki .i64)]
def zsf (k : Nat) (x : TupA D zse) : Option (Int) := I_DaysOf k x.1 x.2.1 x.2.2.1
def zsg (r : Int) : VR D := .p (.c (.int .i64 r))
theorem zsh (k : Nat) : Does P X 234 zse (zsf k) zsg :=
  does_of (body := bodyOf Go.Proofs.Tryz.f234) (pl := zs2) (k := k) (cu := zsd k) (tys := [[0]]) (zs4 k) ctx mixed Go.Proofs.Tryz.func234 (by kernel_rfl) (by kernel_rfl) (cutOK_of (l := [(zs6 k, sub (bodyOf Go.Proofs.Tryz.f234) [1, 1, 1, 0, 1]), (zsa k, sub (bodyOf Go.Proofs.Tryz.f234) [1, 1, 1, 1, 0, 1])]) (by kernel_rfl) ⟨zs8 k, zsc k, trivial⟩) fun x R h => by
    simp only [zsf, I_DaysOf, optK_bind, optK_bif, optK_pure, optK_none, optK_oc, optK_guardT, optK_map] at h
    refine hold_of h ?_
    kernel_rfl
def zsi (k : Nat) : Entry D := entS zse (zsf k) zsg
theorem zsj (k : Nat) : EntryOK X 234 (zsi k) := (zsh k).en rfl
def zsk : Plan := ⟨[(0, [(0, none), (1, none), (2, none), (3, none)]), (1, [(3, none), (10, none)]), (2, [(3, none), (10, none), (19, none)]), (3, [(8, none), (9, none)]), (4, [(8, none), (9, none)])],
  [],
  [(19, ([], [(3, none), (10, none)]))]⟩
def zsl (k : Nat) : Calls' D := ⟨[(205, zqo k), (234, zsi k), (187, zqi k)], [], [], [], []⟩
theorem zsm (k : Nat) : CallsOK X (zsl k) := .cons (zqp k) (.cons (zsj k) (.cons (zqj k) (.nil cod)))
def zsn (k : Nat) : Cuts D := ⟨[], []⟩
def zso : List Ar := [.c (.ki .i64), .c (.ks), .c (.ki .i64), .c (.ks)]
def zsp (k : Nat) (x : TupA D zso) : Option (Int × Bool) := I_timeOf k x.1 x.2.1 x.2.2.1 x.2.2.2.1
def zsq (r : Int × Bool) : VR D := .tup [.c (.int .i64 r.1), .c (.bool r.2)]
theorem zsr (k : Nat) : Does P X 188 zso (zsp k) zsq :=
  does_of (body := bodyOf Go.Proofs.Tryz.f188) (pl := zsk) (k := k) (cu := zsn k) (tys := [[0], [0]]) (zsm k) ctx mixed Go.Proofs.Tryz.func188 (by kernel_rfl) (by kernel_rfl) (cutOK_of (l := []) (by kernel_rfl) trivial) fun x R h => by
    simp only [zsp, I_timeOf, optK_bind, optK_bif, optK_pure, optK_none, optK_oc, optK_guardT, optK_map] at h
    refine hold_of h ?_
    kernel_rfl
def zss (k : Nat) : Entry D := entS zso (zsp k) zsq
theorem zst (k : Nat) : EntryOK X 188 (zss k) := (zsr k).en rfl
def zsu : Plan := ⟨[(0, [(0, none), (1, none)]), (1, [(0, none), (1, none), (11, none)]), (2, [(6, none), (7, none), (8, none)]), (3, [(7, none), (29, none)]), (4, [(4, none), (5, none)]), (5, [(7, none), (9, none)]), (6, [(7, none), (9, none), (34, none)]), (7, [(7, none), (9, none)]), (8, [(4, none), (5, none)]), (9, [(0, none), (1, none), (55, none)]), (10, [(4, none), (5, none)]), (11, [(0, none), (75, none)]), (12, [(4, none), (5, none)]), (13, [(4, none), (5, none)])],
  [],
  [(11, ([(0, none)], [(0, none), (1, none)])), (29, ([], [(7, none)])), (34, ([(7, none), (9, none)], [(7, none), (9, none)])), (55, ([(0, none)], [(0, none), (1, none)])), (75, ([(0, none)], []))]⟩
def zsv (k : Nat) : Calls' D := ⟨[(141, zky k), (187, zqi k), (188, zss k)], [], [], [], []⟩
theorem zsw (k : Nat) : CallsOK X (zsv k) := .cons (zkz k) (.cons (zqj k) (.cons (zst k) (.nil cod)))
def zsx (x : (List UInt8) × Int × Bool × Unit) (o : Int) (Q : Ex → VSt D → Prop) (R : VR D → Prop) : Prop := Q .normal (mkSt ⟨[(7, .hole), (9, .hole)], []⟩ [.str x.1, .int .i64 o])
def zsy (k : Nat) : Cut D := cutS ⟨[(7, .hole), (9, .hole), (34, .hole)], []⟩ [.ks, .ki .i64, .kb] (fun (x : (List UInt8) × Int × Bool × Unit) => I_dateIn_c34 k x.1 x.2.1 x.2.2.1) zsx
def zsz (k : Nat) : Cuts D := ⟨[], []⟩
theorem zt0 (k : Nat) : CutFor X zsu k Go.Proofs.Tryz.f123.results.toList (zsy k) (sub (bodyOf Go.Proofs.Tryz.f123) [1, 0, 1, 0, 1, 1, 1, 0, 1]) :=
  joinCut_s (X := X) (sg := [.ks, .ki .i64, .kb]) (cu := zsz k) (cl := zsv k) (tys := [[0], [0]]) (zsw k) (cutOK_of (l := []) (by kernel_rfl) trivial) fun x Q R h => by
    simp only [I_dateIn_c34, optK_bind, optK_bif, optK_pure, optK_none, optK_oc, optK_guardT, optK_map] at h
    refine hold_of h ?_
    kernel_rfl
def zt1 (k : Nat) : Cuts D := ⟨[], [(34, some (zsy k))]⟩
def zt2 : List Ar := [.c (.ks), .c (.ki .i64)]
def zt3 (k : Nat) (x : TupA D zt2) : Option (Int × Bool) := I_dateIn k x.1 x.2.1
def zt4 (r : Int × Bool) : VR D := .tup [.c (.int .i64 r.1), .c (.bool r.2)]
theorem zt5 (k : Nat) : Does P X 123 zt2 (zt3 k) zt4 :=
  does_of (body := bodyOf Go.Proofs.Tryz.f123) (pl := zsu) (k := k) (cu := zt1 k) (tys := [[0], [0]]) (zsw k) ctx mixed Go.Proofs.Tryz.func123 (by kernel_rfl) (by kernel_rfl) (cutOK_of (l := [(zsy k, sub (bodyOf Go.Proofs.Tryz.f123) [1, 0, 1, 0, 1, 1, 1, 0, 1])]) (by kernel_rfl) ⟨zt0 k, trivial⟩) fun x R h => by
    simp only [zt3, I_dateIn, optK_bind, optK_bif, optK_pure, optK_none, optK_oc, optK_guardT, optK_map] at h
    refine hold_of h ?_
    kernel_rfl
def zt6 (k : Nat) : Entry D := entS zt2 (zt3 k) zt4
theorem zt7 (k : Nat) : EntryOK X 123 (zt6 k) := (zt5 k).en rfl
def zt8 : Plan := ⟨[(0, [(0, none)]), (1, [(0, none), (9, none)]), (2, [(2, none), (3, none), (4, none)]), (3, [(0, none), (5, none), (6, none)]), (4, [(0, none), (5, none), (6, none), (13, none)]), (5, [(0, none), (5, none), (6, none)]), (6, [(0, none), (5, none), (6, none)]), (7, [(0, none), (5, none), (6, none), (24, none)]), (8, [(0, none), (5, none), (6, none)]), (9, [(0, none), (5, none), (6, none)]), (10, [(2, none), (3, none), (4, none)])],
  [(0, [(0, none), (5, none), (6, none)]), (1, [(0, none), (5, none), (6, none)]), (2, [(0, none), (5, none), (6, none)]), (3, [(0, none), (5, none), (6, none)])],
  [(9, ([], [(0, none)])), (13, ([(0, none), (5, none), (6, none)], [(0, none), (5, none), (6, none)])), (24, ([(0, none), (5, none), (6, none)], [(0, none), (5, none), (6, none)]))]⟩
def zt9 (k : Nat) : Calls' D := ⟨[(94, znq k), (235, zs0 k), (236, zrq k)], [], [], [], []⟩
theorem zta (k : Nat) : CallsOK X (zt9 k) := .cons (znr k) (.cons (zs1 k) (.cons (zrr k) (.nil cod)))
def ztb (x : Int × Int × Int × Unit) (o : Int × Int) (Q : Ex → VSt D → Prop) (R : VR D → Prop) : Prop := Q .normal (mkSt ⟨[(0, .hole), (5, .hole), (6, .hole)], []⟩ [.int .i64 o.1, .int .i64 o.2, .int .i64 x.2.2.1])
def ztc (k : Nat) : Cut D := cutS ⟨[(0, .hole), (5, .hole), (6, .hole)], []⟩ [.ki .i64, .ki .i64, .ki .i64] (fun (x : Int × Int × Int × Unit) => I_CivilOf_b0 k k x.1 x.2.1 x.2.2.1) ztb
def ztd (k : Nat) : Cuts D := ⟨[], []⟩
theorem zte (k : Nat) : CutFor X zt8 k Go.Proofs.Tryz.f189.results.toList (ztc k) (sub (bodyOf Go.Proofs.Tryz.f189) [1, 1, 1, 0]) :=
  loopCut_s (X := X) (sg := [.ki .i64, .ki .i64, .ki .i64]) (cu := ztd k) (cl := zt9 k) (tys := [[0], [0], [0]]) (id := 0) (c := sub (bodyOf Go.Proofs.Tryz.f189) [1, 1, 1, 0, 0, 0]) (f := fun n => fun (x : Int × Int × Int × Unit) => I_CivilOf_b0 k n x.1 x.2.1 x.2.2.1) (zta k) (cutOK_of (l := []) (by kernel_rfl) trivial) (fun _ => rfl) (fun n x Q R h => by
    simp only [I_CivilOf_b0, optK_bind, optK_bif, optK_pure, optK_none, optK_oc, optK_guardT, optK_map] at h
    refine hold_of h ?_
    kernel_rfl) (by kernel_rfl)
def ztf (x : Int × Int × Int × Unit) (o : Int × Int) (Q : Ex → VSt D → Prop) (R : VR D → Prop) : Prop := Q .normal (mkSt ⟨[(0, .hole), (5, .hole), (6, .hole)], []⟩ [.int .i64 o.1, .int .i64 x.2.1, .int .i64 o.2])
def ztg (k : Nat) : Cut D := cutS ⟨[(0, .hole), (5, .hole), (6, .hole)], []⟩ [.ki .i64, .ki .i64, .ki .i64] (fun (x : Int × Int × Int × Unit) => I_CivilOf_b2 k k x.1 x.2.1 x.2.2.1) ztf
def zth (k : Nat) : Cuts D := ⟨[], []⟩
theorem zti (k : Nat) : CutFor X zt8 k Go.Proofs.Tryz.f189.results.toList (ztg k) (sub (bodyOf Go.Proofs.Tryz.f189) [1, 1, 1, 1, 0]) :=
  loopCut_s (X := X) (sg := [.ki .i64, .ki .i64, .ki .i64]) (cu := zth k) (cl := zt9 k) (tys := [[0], [0], [0]]) (id := 2) (c := sub (bodyOf Go.Proofs.Tryz.f189) [1, 1, 1, 1, 0, 0, 0]) (f := fun n => fun (x : Int × Int × Int × Unit) => I_CivilOf_b2 k n x.1 x.2.1 x.2.2.1) (zta k) (cutOK_of (l := []) (by kernel_rfl) trivial) (fun _ => rfl) (fun n x Q R h => by
    simp only [I_CivilOf_b2, optK_bind, optK_bif, optK_pure, optK_none, optK_oc, optK_guardT, optK_map] at h
    refine hold_of h ?_
    kernel_rfl) (by kernel_rfl)
def ztj (k : Nat) : Cuts D := ⟨[(0, some (ztc k)), (2, some (ztg k))], []⟩
def ztk : List Ar := [.c (.ki .i64)]
def ztl (k : Nat) (x : TupA D ztk) : Option (Int × Int × Int) := I_CivilOf k x.1
def ztm (r : Int × Int × Int) : VR D := .tup [.c (.int .i64 r.1), .c (.int .i64 r.2.1), .c (.int .i64 r.2.2)]
theorem ztn (k : Nat) : Does P X 189 ztk (ztl k) ztm :=
  does_of (body := bodyOf Go.Proofs.Tryz.f189) (pl := zt8) (k := k) (cu := ztj k) (tys := [[0], [0], [0]]) (zta k) ctx mixed Go.Proofs.Tryz.func189 (by kernel_rfl) (by kernel_rfl) (cutOK_of (l := [(ztc k, sub (bodyOf Go.Proofs.Tryz.f189) [1, 1, 1, 0]), (ztg k, sub (bodyOf Go.Proofs.Tryz.f189) [1, 1, 1, 1, 0])]) (by kernel_rfl) ⟨zte k, zti k, trivial⟩) fun x R h => by
    simp only [ztl, I_CivilOf, optK_bind, optK_bif, optK_pure, optK_none, optK_oc, optK_guardT, optK_map] at h
    refine hold_of h ?_
    kernel_rfl
def zto (k : Nat) : Entry D := entS ztk (ztl k) ztm
theorem ztp (k : Nat) : EntryOK X 189 (zto k) := (ztn k).en rfl
def ztq : Plan := ⟨[(0, [(0, none)]), (1, [(2, none)])],
  [],
  []⟩
def ztr (k : Nat) : Calls' D := ⟨[(237, zqy k)], [], [], [], []⟩
theorem zts (k : Nat) : CallsOK X (ztr k) := .cons (zqz k) (.nil cod)
def ztt (k : Nat) : Cuts D := ⟨[], []⟩
def ztu : List Ar := [.c (.ki .i64)]
def ztv (k : Nat) (x : TupA D ztu) : Option (Int) := I_WeekdayOf k x.1
def ztw (r : Int) : VR D := .p (.c (.int .i64 r))
theorem ztx (k : Nat) : Does P X 190 ztu (ztv k) ztw :=
  does_of (body := bodyOf Go.Proofs.Tryz.f190) (pl := ztq) (k := k) (cu := ztt k) (tys := [[0]]) (zts k) ctx mixed Go.Proofs.Tryz.func190 (by kernel_rfl) (by kernel_rfl) (cutOK_of (l := []) (by kernel_rfl) trivial) fun x R h => by
    simp only [ztv, I_WeekdayOf, optK_bind, optK_bif, optK_pure, optK_none, optK_oc, optK_guardT, optK_map] at h
    refine hold_of h ?_
    kernel_rfl
def zty (k : Nat) : Entry D := entS ztu (ztv k) ztw
theorem ztz (k : Nat) : EntryOK X 190 (zty k) := (ztx k).en rfl
def zu0 : List Ar := [.c (.ki .i64)]
def zu1 (k : Nat) (x : TupA D zu0) : Option ((List UInt8)) := strconv_Itoa k x.1
def zu2 (r : (List UInt8)) : VR D := .p (.c (.str r))
theorem zu3 (k : Nat) : Does P X 229 zu0 (zu1 k) zu2 := does_itoa ⟨Go.Proofs.Tryz.f229, Go.Proofs.Tryz.func229, by kernel_rfl, by kernel_rfl⟩ (fun n w hg h0 h1 => Go.Proofs.Tryz.strconv_Itoa n h0 h1 w hg.2.2.2)
def zu4 (k : Nat) : Entry D := entS zu0 (zu1 k) zu2
theorem zu5 (k : Nat) : EntryOK X 229 (zu4 k) := (zu3 k).en rfl
def zu6 : Plan := ⟨[(0, [(0, none)]), (1, [(2, none)])],
  [],
  []⟩
def zu7 (k : Nat) : Calls' D := ⟨[(229, zu4 k)], [], [], [], []⟩
theorem zu8 (k : Nat) : CallsOK X (zu7 k) := .cons (zu5 k) (.nil cod)
def zu9 (k : Nat) : Cuts D := ⟨[], []⟩
def zua : List Ar := [.c (.ki .i64)]
def zub (k : Nat) (x : TupA D zua) : Option ((List UInt8)) := I_FormatInt k x.1
def zuc (r : (List UInt8)) : VR D := .p (.c (.str r))
theorem zud (k : Nat) : Does P X 177 zua (zub k) zuc :=
  does_of (body := bodyOf Go.Proofs.Tryz.f177) (pl := zu6) (k := k) (cu := zu9 k) (tys := [[0]]) (zu8 k) ctx mixed Go.Proofs.Tryz.func177 (by kernel_rfl) (by kernel_rfl) (cutOK_of (l := []) (by kernel_rfl) trivial) fun x R h => by
    simp only [zub, I_FormatInt, optK_bind, optK_bif, optK_pure, optK_none, optK_oc, optK_guardT, optK_map] at h
    refine hold_of h ?_
    kernel_rfl
def zue (k : Nat) : Entry D := entS zua (zub k) zuc
theorem zuf (k : Nat) : EntryOK X 177 (zue k) := (zud k).en rfl
def zug : Plan := ⟨[(0, [(0, none), (1, none)]), (1, [(1, none), (5, none)]), (2, [(1, none), (5, none), (17, none)]), (3, [(1, none), (5, none)]), (4, [(4, none)])],
  [(0, [(5, none)]), (1, [(1, none), (5, none)])],
  [(17, ([(1, none), (5, none)], [(5, none)]))]⟩
def zuh (k : Nat) : Calls' D := ⟨[(177, zue k)], [], [], [], []⟩
theorem zui (k : Nat) : CallsOK X (zuh k) := .cons (zuf k) (.nil cod)
def zuj (x : Int × (List UInt8) × Unit) (o : (List UInt8)) (Q : Ex → VSt D → Prop) (R : VR D → Prop) : Prop := Q .normal (mkSt ⟨[(5, .hole)], []⟩ [.str o])
def zuk (k : Nat) : Cut D := cutS ⟨[(1, .hole), (5, .hole)], []⟩ [.ki .i64, .ks] (fun (x : Int × (List UInt8) × Unit) => I_Digits_b0 k k x.1 x.2.1) zuj
def zul (k : Nat) : Cuts D := ⟨[], []⟩
theorem zum (k : Nat) : CutFor X zug k Go.Proofs.Tryz.f191.results.toList (zuk k) (sub (bodyOf Go.Proofs.Tryz.f191) [1, 1, 0]) :=
  loopCut_s (X := X) (sg := [.ki .i64, .ks]) (cu := zul k) (cl := zuh k) (tys := [[0]]) (id := 0) (c := sub (bodyOf Go.Proofs.Tryz.f191) [1, 1, 0, 0, 0]) (f := fun n => fun (x : Int × (List UInt8) × Unit) => I_Digits_b0 k n x.1 x.2.1) (zui k) (cutOK_of (l := []) (by kernel_rfl) trivial) (fun _ => rfl) (fun n x Q R h => by
    simp only [I_Digits_b0, optK_bind, optK_bif, optK_pure, optK_none, optK_oc, optK_guardT, optK_map] at h
    refine hold_of h ?_
    kernel_rfl) (by kernel_rfl)
def zun (k : Nat) : Cuts D := ⟨[(0, some (zuk k))], []⟩
def zuo : List Ar := [.c (.ki .i64), .c (.ki .i64)]
def zup (k : Nat) (x : TupA D zuo) : Option ((List UInt8)) := I_Digits k x.1 x.2.1
def zuq (r : (List UInt8)) : VR D := .p (.c (.str r))
theorem zur (k : Nat) : Does P X 191 zuo (zup k) zuq :=
  does_of (body := bodyOf Go.Proofs.Tryz.f191) (pl := zug) (k := k) (cu := zun k) (tys := [[0]]) (zui k) ctx mixed Go.Proofs.Tryz.func191 (by kernel_rfl) (by kernel_rfl) (cutOK_of (l := [(zuk k, sub (bodyOf Go.Proofs.Tryz.f191) [1, 1, 0])]) (by kernel_rfl) ⟨zum k, trivial⟩) fun x R h => by
    simp only [zup, I_Digits, optK_bind, optK_bif, optK_pure, optK_none, optK_oc, optK_guardT, optK_map] at h
    refine hold_of h ?_
    kernel_rfl
def zus (k : Nat) : Entry D := entS zuo (zup k) zuq
theorem zut (k : Nat) : EntryOK X 191 (zus k) := (zur k).en rfl
def zuu : Plan := ⟨[(0, [(0, none)]), (1, [(2, none)])],
  [],
  []⟩
def zuv (k : Nat) : Calls' D := ⟨[], [], [], [], []⟩
theorem zuw (k : Nat) : CallsOK X (zuv k) := .nil cod
def zux (k : Nat) : Cuts D := ⟨[], []⟩
def zuy : List Ar := [.c (.ki .i64)]
def zuz (k : Nat) (x : TupA D zuy) : Option ((List UInt8)) := I_fullDay k x.1
def zv0 (r : (List UInt8)) : VR D := .p (.c (.str r))
theorem zv1 (k : Nat) : Does P X 192 zuy (zuz k) zv0 :=
  does_of (body := bodyOf Go.Proofs.Tryz.f192) (pl := zuu) (k := k) (cu := zux k) (tys := [[0]]) (zuw k) ctx mixed Go.Proofs.Tryz.func192 (by kernel_rfl) (by kernel_rfl) (cutOK_of (l := []) (by kernel_rfl) trivial) fun x R h => by
    simp only [zuz, I_fullDay, optK_bind, optK_bif, optK_pure, optK_none, optK_oc, optK_guardT, optK_map] at h
    refine hold_of h ?_
    kernel_rfl
def zv2 (k : Nat) : Entry D := entS zuy (zuz k) zv0
theorem zv3 (k : Nat) : EntryOK X 192 (zv2 k) := (zv1 k).en rfl
def zv4 : Plan := ⟨[(0, [(0, none), (1, none)]), (1, [(0, none), (1, none), (15, none)]), (2, [(4, none)]), (3, [(0, none), (1, none), (5, none), (6, none), (7, none)]), (4, [(0, none), (1, none), (5, none), (6, none), (7, none), (8, none)]), (5, [(1, none), (5, none), (6, none), (7, none), (8, none), (9, none)]), (6, [(1, none), (5, none), (7, none), (8, none), (9, none), (10, none), (11, none)]), (7, [(5, none), (7, none), (8, none), (9, none), (10, none), (11, none), (53, none)]), (8, [(5, none), (7, none), (8, none), (9, none), (10, none), (11, none), (53, none), (54, none)]), (9, [(4, none)]), (10, [(5, none), (7, none), (8, none), (9, none), (10, none), (11, none), (72, none)]), (11, [(5, none), (7, none), (8, none), (9, none), (11, none), (75, none)]), (12, [(4, none)]), (13, [(4, none)]), (14, [(5, none), (7, none), (9, none), (10, none), (11, none), (12, none)]), (15, [(5, none), (9, none), (10, none), (11, none), (12, none), (97, none)]), (16, [(5, none), (9, none), (10, none), (11, none), (12, none)]), (17, [(4, none)])],
  [(0, [(5, none), (7, none), (9, none), (10, none), (11, none)])],
  [(15, ([], [(0, none), (1, none)])), (54, ([(5, none), (7, none), (9, none), (10, none), (11, none)], [(5, none), (7, none), (8, none), (9, none), (10, none), (11, none), (53, none)])), (72, ([(5, none), (7, none), (8, none), (9, none), (11, none)], [(5, none), (7, none), (9, none), (10, none), (11, none)])), (75, ([], [(5, none), (7, none), (8, none), (9, none), (11, none)])), (97, ([(5, none), (9, none), (10, none), (11, none), (12, none)], [(5, none), (9, none), (10, none), (11, none), (12, none)]))]⟩
def zv5 (k : Nat) : Calls' D := ⟨[(94, znq k), (189, zto k), (190, zty k), (191, zus k), (177, zue k), (192, zv2 k)], [], [], [], []⟩
theorem zv6 (k : Nat) : CallsOK X (zv5 k) := .cons (znr k) (.cons (ztp k) (.cons (ztz k) (.cons (zut k) (.cons (zuf k) (.cons (zv3 k) (.nil cod))))))
def zv7 (x : Int × (List UInt8) × (List UInt8) × (List UInt8) × (List UInt8) × Bool × Unit) (o : (List UInt8)) (Q : Ex → VSt D → Prop) (R : VR D → Prop) : Prop := Q .normal (mkSt ⟨[(5, .hole), (9, .hole), (10, .hole), (11, .hole), (12, .hole)], []⟩ [.int .i64 x.1, .str x.2.1, .str x.2.2.1, .str x.2.2.2.1, .str o])
def zv8 (k : Nat) : Cut D := cutS ⟨[(5, .hole), (9, .hole), (10, .hole), (11, .hole), (12, .hole), (97, .hole)], []⟩ [.ki .i64, .ks, .ks, .ks, .ks, .kb] (fun (x : Int × (List UInt8) × (List UInt8) × (List UInt8) × (List UInt8) × Bool × Unit) => I_dateText_c97 k x.1 x.2.1 x.2.2.1 x.2.2.2.1 x.2.2.2.2.1 x.2.2.2.2.2.1) zv7
def zv9 (k : Nat) : Cuts D := ⟨[], []⟩
theorem zva (k : Nat) : CutFor X zv4 k Go.Proofs.Tryz.f124.results.toList (zv8 k) (sub (bodyOf Go.Proofs.Tryz.f124) [1, 1, 1, 1, 1, 1, 1, 1, 0, 1]) :=
  joinCut_s (X := X) (sg := [.ki .i64, .ks, .ks, .ks, .ks, .kb]) (cu := zv9 k) (cl := zv5 k) (tys := [[0]]) (zv6 k) (cutOK_of (l := []) (by kernel_rfl) trivial) fun x Q R h => by
    simp only [I_dateText_c97, optK_bind, optK_bif, optK_pure, optK_none, optK_oc, optK_guardT, optK_map] at h
    refine hold_of h ?_
    kernel_rfl
def zvb (k : Nat) : Cuts D := ⟨[], [(97, some (zv8 k))]⟩
def zvc : List Ar := [.c (.ki .i64), .c (.ki .i64)]
def zvd (k : Nat) (x : TupA D zvc) : Option ((List UInt8)) := I_dateText k x.1 x.2.1
def zve (r : (List UInt8)) : VR D := .p (.c (.str r))
theorem zvf (k : Nat) : Does P X 124 zvc (zvd k) zve :=
  does_of (body := bodyOf Go.Proofs.Tryz.f124) (pl := zv4) (k := k) (cu := zvb k) (tys := [[0]]) (zv6 k) ctx mixed Go.Proofs.Tryz.func124 (by kernel_rfl) (by kernel_rfl) (cutOK_of (l := [(zv8 k, sub (bodyOf Go.Proofs.Tryz.f124) [1, 1, 1, 1, 1, 1, 1, 1, 0, 1])]) (by kernel_rfl) ⟨zva k, trivial⟩) fun x R h => by
    simp only [zvd, I_dateText, optK_bind, optK_bif, optK_pure, optK_none, optK_oc, optK_guardT, optK_map] at h
    refine hold_of h ?_
    kernel_rfl
def zvg (k : Nat) : Entry D := entS zvc (zvd k) zve
theorem zvh (k : Nat) : EntryOK X 124 (zvg k) := (zvf k).en rfl
def zvi : Plan := ⟨[(0, [(0, none)]), (1, [(0, none), (4, none)]), (2, [(0, none), (4, none), (8, none)]), (3, [(0, none), (4, none)]), (4, [(0, none), (4, none), (5, none), (6, none)]), (5, [(0, none), (4, none), (5, none), (24, none)]), (6, [(2, none), (3, none)]), (7, [(2, none), (3, none)])],
  [(0, []), (1, [(0, none), (4, none)])],
  [(8, ([(0, none), (4, none)], [])), (24, ([(5, none)], [(0, none), (4, none)]))]⟩
def zvj (k : Nat) : Calls' D := ⟨[(123, zt6 k), (124, zvg k)], [], [], [], []⟩
theorem zvk (k : Nat) : CallsOK X (zvj k) := .cons (zt7 k) (.cons (zvh k) (.nil cod))
def zvl (x : (List UInt8) × Int × Unit) (o : Oc (Unit) (Int × Bool)) (Q : Ex → VSt D → Prop) (R : VR D → Prop) : Prop := ocP o (fun v0 => Q .normal (mkSt ⟨[], []⟩ [])) (fun w0 => R (.tup [.c (.int .i64 w0.1), .c (.bool w0.2)]))
def zvm (k : Nat) : Cut D := cutS ⟨[(0, .hole), (4, .hole)], []⟩ [.ks, .ki .i64] (fun (x : (List UInt8) × Int × Unit) => I_ParseDate_b0 k k x.1 x.2.1) zvl
def zvn (k : Nat) : Cuts D := ⟨[], []⟩
theorem zvo (k : Nat) : CutFor X zvi k Go.Proofs.Tryz.f61.results.toList (zvm k) (sub (bodyOf Go.Proofs.Tryz.f61) [1, 0, 1]) :=
  loopCut_s (X := X) (sg := [.ks, .ki .i64]) (cu := zvn k) (cl := zvj k) (tys := [[0], [0]]) (id := 0) (c := sub (bodyOf Go.Proofs.Tryz.f61) [1, 0, 1, 0, 0]) (f := fun n => fun (x : (List UInt8) × Int × Unit) => I_ParseDate_b0 k n x.1 x.2.1) (zvk k) (cutOK_of (l := []) (by kernel_rfl) trivial) (fun _ => rfl) (fun n x Q R h => by
    simp only [I_ParseDate_b0, optK_bind, optK_bif, optK_pure, optK_none, optK_oc, optK_guardT, optK_map] at h
    refine hold_of h ?_
    kernel_rfl) (by kernel_rfl)
def zvp (k : Nat) : Cuts D := ⟨[(0, some (zvm k))], []⟩
def zvq : List Ar := [.c (.ks)]
def zvr (k : Nat) (x : TupA D zvq) : Option (Int × Bool) := I_ParseDate k x.1
def zvs (r : Int × Bool) : VR D := .tup [.c (.int .i64 r.1), .c (.bool r.2)]
theorem zvt (k : Nat) : Does P X 61 zvq (zvr k) zvs :=
  does_of (body := bodyOf Go.Proofs.Tryz.f61) (pl := zvi) (k := k) (cu := zvp k) (tys := [[0], [0]]) (zvk k) ctx mixed Go.Proofs.Tryz.func61 (by kernel_rfl) (by kernel_rfl) (cutOK_of (l := [(zvm k, sub (bodyOf Go.Proofs.Tryz.f61) [1, 0, 1])]) (by kernel_rfl) ⟨zvo k, trivial⟩) fun x R h => by
    simp only [zvr, I_ParseDate, optK_bind, optK_bif, optK_pure, optK_none, optK_oc, optK_guardT, optK_map] at h
    refine hold_of h ?_
    kernel_rfl
def zvu (k : Nat) : Entry D := entS zvq (zvr k) zvs
theorem zvv (k : Nat) : EntryOK X 61 (zvu k) := (zvt k).en rfl
def zvw : Plan := ⟨[(0, [(1, none), (2, none)]), (1, [(6, none)]), (2, [(4, none), (5, none)])],
  [],
  []⟩
def zvx (k : Nat) : Calls' D := ⟨[(57, zja k), (61, zvu k)], [], [], [], []⟩
theorem zvy (k : Nat) : CallsOK X (zvx k) := .cons (zjb k) (.cons (zvv k) (.nil cod))
def zvz (k : Nat) : Cuts D := ⟨[], []⟩
def zw0 : List Ar := [.a [.ki .i64, .kl 107, .ks], .c (.ks)]
def zw1 (k : Nat) (x : TupA D zw0) : Option (Int × Bool) := I_dateField k (⟨x.1.1, x.1.2.1, x.1.2.2.1⟩ : IResponse) x.2.1
def zw2 (r : Int × Bool) : VR D := .tup [.c (.int .i64 r.1), .c (.bool r.2)]
theorem zw3 (k : Nat) : Does P X 53 zw0 (zw1 k) zw2 :=
  does_of (body := bodyOf Go.Proofs.Tryz.f53) (pl := zvw) (k := k) (cu := zvz k) (tys := [[0], [0]]) (zvy k) ctx mixed Go.Proofs.Tryz.func53 (by kernel_rfl) (by kernel_rfl) (cutOK_of (l := []) (by kernel_rfl) trivial) fun x R h => by
    simp only [zw1, I_dateField, optK_bind, optK_bif, optK_pure, optK_none, optK_oc, optK_guardT, optK_map] at h
    refine hold_of h ?_
    kernel_rfl
def zw4 (k : Nat) : Entry D := entS zw0 (zw1 k) zw2
theorem zw5 (k : Nat) : EntryOK X 53 (zw4 k) := (zw3 k).en rfl
def zw6 : Plan := ⟨[(0, [(1, none), (2, none)]), (1, [(3, none)])],
  [],
  []⟩
def zw7 (k : Nat) : Calls' D := ⟨[], [], [], [], []⟩
theorem zw8 (k : Nat) : CallsOK X (zw7 k) := .nil cod
def zw9 (k : Nat) : Cuts D := ⟨[], []⟩
def zwa : List Ar := [.a [.ks, .ks], .x [.ks]]
def zwb (k : Nat) (x : TupA D zwa) : Option (Bool) := I_hasField_1 k (⟨x.1.1, x.1.2.1⟩ : IField) x.2.1.1
def zwc (r : Bool) : VR D := .p (.c (.bool r))
theorem zwd (k : Nat) : Does P X 135 zwa (zwb k) zwc :=
  does_of (body := bodyOf Go.Proofs.Tryz.f135) (pl := zw6) (k := k) (cu := zw9 k) (tys := [[0]]) (zw8 k) ctx mixed Go.Proofs.Tryz.func135 (by kernel_rfl) (by kernel_rfl) (cutOK_of (l := []) (by kernel_rfl) trivial) fun x R h => by
    simp only [zwb, I_hasField_1, optK_bind, optK_bif, optK_pure, optK_none, optK_oc, optK_guardT, optK_map] at h
    refine hold_of h ?_
    kernel_rfl
def zwe (k : Nat) : Entry D := entS zwa (zwb k) zwc
theorem zwf (k : Nat) : EntryOK X 135 (zwe k) := (zwd k).en rfl
def zwg : Plan := ⟨[(0, [(0, some 107), (1, none)]), (1, [(0, some 107), (1, none), (7, none), (8, none)]), (2, [(0, some 107), (1, none), (7, none), (8, none), (9, none)]), (3, [(0, some 107), (1, none), (5, none), (7, none), (8, none)]), (4, [(0, some 107), (1, none), (5, none), (7, none), (8, none), (16, none)]), (5, [(4, none)]), (6, [(0, some 107), (1, none), (7, none), (8, none)]), (7, [(4, none)])],
  [(0, []), (1, [(0, some 107), (1, none), (7, none), (8, none)])],
  [(9, ([(0, some 107), (1, none), (7, none), (8, none)], [])), (16, ([(5, none)], [(0, some 107), (1, none), (7, none), (8, none)]))]⟩
def zwh (k : Nat) : Calls' D := ⟨[(135, zwe k)], [], [], [], []⟩
theorem zwi (k : Nat) : CallsOK X (zwh k) := .cons (zwf k) (.nil cod)
def zwj (x : (List IField) × (List UInt8) × Int × Int × Unit) (o : Oc (Unit) (Int)) (Q : Ex → VSt D → Prop) (R : VR D → Prop) : Prop := ocP o (fun v0 => Q .normal (mkSt ⟨[], []⟩ [])) (fun w0 => R (.p (.c (.int .i64 w0))))
def zwk (k : Nat) : Cut D := cutS ⟨[(0, .hole), (1, .clo 135 [.rptr 1]), (7, .hole), (8, .hole)], []⟩ [.kl 107, .ks, .ki .i64, .ki .i64] (fun (x : (List IField) × (List UInt8) × Int × Int × Unit) => slices_IndexFunc_IField_at_I_hasField_1_b0 k k x.1 x.2.1 x.2.2.1 x.2.2.2.1) zwj
def zwl (k : Nat) : Cuts D := ⟨[], []⟩
theorem zwm (k : Nat) : CutFor X zwg k Go.Proofs.Tryz.f198.results.toList (zwk k) (sub (bodyOf Go.Proofs.Tryz.f198) [1, 0, 1]) :=
  loopCut_s (X := X) (sg := [.kl 107, .ks, .ki .i64, .ki .i64]) (cu := zwl k) (cl := zwh k) (tys := [[0]]) (id := 0) (c := sub (bodyOf Go.Proofs.Tryz.f198) [1, 0, 1, 0, 0]) (f := fun n => fun (x : (List IField) × (List UInt8) × Int × Int × Unit) => slices_IndexFunc_IField_at_I_hasField_1_b0 k n x.1 x.2.1 x.2.2.1 x.2.2.2.1) (zwi k) (cutOK_of (l := []) (by kernel_rfl) trivial) (fun _ => rfl) (fun n x Q R h => by
    simp only [slices_IndexFunc_IField_at_I_hasField_1_b0, optK_bind, optK_bif, optK_pure, optK_none, optK_oc, optK_guardT, optK_map] at h
    refine hold_of h ?_
    kernel_rfl) (by kernel_rfl)
def zwn (k : Nat) : Cuts D := ⟨[(0, some (zwk k))], []⟩
def zwo : List Ar := [.c (.kl 107), .f 135 [[.ks]]]
def zwp (k : Nat) (x : TupA D zwo) : Option (Int) := slices_IndexFunc_IField_at_I_hasField_1 k x.1 x.2.1.1.1
def zwq (r : Int) : VR D := .p (.c (.int .i64 r))
theorem zwr (k : Nat) : Does P X 198 zwo (zwp k) zwq :=
  does_of (body := bodyOf Go.Proofs.Tryz.f198) (pl := zwg) (k := k) (cu := zwn k) (tys := [[0]]) (zwi k) ctx mixed Go.Proofs.Tryz.func198 (by kernel_rfl) (by kernel_rfl) (cutOK_of (l := [(zwk k, sub (bodyOf Go.Proofs.Tryz.f198) [1, 0, 1])]) (by kernel_rfl) ⟨zwm k, trivial⟩) fun x R h => by
    simp only [zwp, slices_IndexFunc_IField_at_I_hasField_1, optK_bind, optK_bif, optK_pure, optK_none, optK_oc, optK_guardT, optK_map] at h
    refine hold_of h ?_
    kernel_rfl
def zws (k : Nat) : Entry D := entS zwo (zwp k) zwq
theorem zwt (k : Nat) : EntryOK X 198 (zws k) := (zwr k).en rfl
def zwu : Plan := ⟨[(0, [(0, some 107), (1, none)]), (1, [(4, none)])],
  [],
  []⟩
def zwv (k : Nat) : Calls' D := ⟨[(198, zws k)], [], [], [], []⟩
theorem zww (k : Nat) : CallsOK X (zwv k) := .cons (zwt k) (.nil cod)
def zwx (k : Nat) : Cuts D := ⟨[], []⟩
def zwy : List Ar := [.c (.kl 107), .f 135 [[.ks]]]
def zwz (k : Nat) (x : TupA D zwy) : Option (Bool) := slices_ContainsFunc_IField_at_I_hasField_1 k x.1 x.2.1.1.1
def zx0 (r : Bool) : VR D := .p (.c (.bool r))
theorem zx1 (k : Nat) : Does P X 134 zwy (zwz k) zx0 :=
  does_of (body := bodyOf Go.Proofs.Tryz.f134) (pl := zwu) (k := k) (cu := zwx k) (tys := [[0]]) (zww k) ctx mixed Go.Proofs.Tryz.func134 (by kernel_rfl) (by kernel_rfl) (cutOK_of (l := []) (by kernel_rfl) trivial) fun x R h => by
    simp only [zwz, slices_ContainsFunc_IField_at_I_hasField_1, optK_bind, optK_bif, optK_pure, optK_none, optK_oc, optK_guardT, optK_map] at h
    refine hold_of h ?_
    kernel_rfl
def zx2 (k : Nat) : Entry D := entS zwy (zwz k) zx0
theorem zx3 (k : Nat) : EntryOK X 134 (zx2 k) := (zx1 k).en rfl
def zx4 : Plan := ⟨[(0, [(0, some 107), (3, none)]), (1, [(4, none)])],
  [],
  []⟩
def zx5 (k : Nat) : Calls' D := ⟨[(134, zx2 k)], [], [], [], []⟩
theorem zx6 (k : Nat) : CallsOK X (zx5 k) := .cons (zx3 k) (.nil cod)
def zx7 (k : Nat) : Cuts D := ⟨[], []⟩
def zx8 : List Ar := [.c (.kl 107), .c (.ks)]
def zx9 (k : Nat) (x : TupA D zx8) : Option (Bool) := I_hasField k x.1 x.2.1
def zxa (r : Bool) : VR D := .p (.c (.bool r))
theorem zxb (k : Nat) : Does P X 72 zx8 (zx9 k) zxa :=
  does_of (body := bodyOf Go.Proofs.Tryz.f72) (pl := zx4) (k := k) (cu := zx7 k) (tys := [[0]]) (zx6 k) ctx mixed Go.Proofs.Tryz.func72 (by kernel_rfl) (by kernel_rfl) (cutOK_of (l := []) (by kernel_rfl) trivial) fun x R h => by
    simp only [zx9, I_hasField, optK_bind, optK_bif, optK_pure, optK_none, optK_oc, optK_guardT, optK_map] at h
    refine hold_of h ?_
    kernel_rfl
def zxc (k : Nat) : Entry D := entS zx8 (zx9 k) zxa
theorem zxd (k : Nat) : EntryOK X 72 (zxc k) := (zxb k).en rfl
def zxe : Plan := ⟨[(0, [(1, none)]), (1, [(1, none), (3, some 140)]), (2, [(1, none), (3, some 140), (17, some 9), (18, none), (19, none)]), (3, [(1, none), (3, some 140), (17, some 9), (18, none), (19, none), (20, none)]), (4, [(1, none), (3, some 140), (5, none), (17, some 9), (18, none), (19, none)]), (5, [(1, none), (3, some 140), (6, none), (7, none), (17, some 9), (18, none), (19, none)]), (6, [(1, none), (3, some 140), (6, none), (17, some 9), (18, none), (19, none), (29, none)]), (7, [(2, none)]), (8, [(1, none), (3, some 140), (17, some 9), (18, none), (19, none)]), (9, [(1, none), (8, none), (9, none)]), (10, [(1, none), (8, none), (9, none), (39, none)]), (11, [(8, none), (9, none), (10, none), (11, none)]), (12, [(8, none), (10, none), (50, none)]), (13, [(2, none)]), (14, [(2, none)]), (15, [(1, none), (8, none), (9, none), (12, none), (13, none)]), (16, [(8, none), (12, none), (70, none)]), (17, [(2, none)]), (18, [(2, none)])],
  [(0, [(1, none)]), (1, [(1, none), (3, some 140), (17, some 9), (18, none), (19, none)])],
  [(20, ([(1, none), (3, some 140), (17, some 9), (18, none), (19, none)], [(1, none)])), (29, ([(6, none)], [(1, none), (3, some 140), (17, some 9), (18, none), (19, none)])), (39, ([(1, none), (8, none), (9, none)], [(1, none), (8, none), (9, none)])), (50, ([], [(8, none), (10, none)])), (70, ([], [(8, none), (12, none)]))]⟩
def zxf (k : Nat) : Calls' D := ⟨[(70, zp4 k), (71, zpw k), (53, zw4 k), (72, zxc k)], [], [], [], []⟩
theorem zxg (k : Nat) : CallsOK X (zxf k) := .cons (zp5 k) (.cons (zpx k) (.cons (zw5 k) (.cons (zxd k) (.nil cod))))
def zxh (x : Int × Int × Int × (List IField) × (List UInt8) × (List IDirective) × (List (List UInt8)) × Unit) (o : Oc (Unit) (Int)) (Q : Ex → VSt D → Prop) (R : VR D → Prop) : Prop := ocP o (fun v0 => Q .normal (mkSt ⟨[(1, .ptr 1 0)], [(1, .var [.hole, .hole, .hole])]⟩ [.int .i64 x.2.2.1, .sl 107 x.2.2.2.1, .str x.2.2.2.2.1])) (fun w0 => R (.p (.c (.int .i64 w0))))
def zxi (k : Nat) : Cut D := cutS ⟨[(1, .ptr 1 0), (3, .ref 500003), (17, .ref 500017), (18, .hole), (19, .hole)], [(1, .var [.hole, .hole, .hole]), (500003, .row), (500017, .row)]⟩ [.ki .i64, .ki .i64, .ki .i64, .kl 107, .ks, .kl 140, .kl 9] (fun (x : Int × Int × Int × (List IField) × (List UInt8) × (List IDirective) × (List (List UInt8)) × Unit) => I_LifetimeOf_b0 k k x.1 x.2.1 x.2.2.1 x.2.2.2.1 x.2.2.2.2.1 x.2.2.2.2.2.1 x.2.2.2.2.2.2.1) zxh
def zxj (k : Nat) : Cuts D := ⟨[], []⟩
theorem zxk (k : Nat) : CutFor X zxe k Go.Proofs.Tryz.f30.results.toList (zxi k) (sub (bodyOf Go.Proofs.Tryz.f30) [1, 1, 0, 1]) :=
  loopCut_s (X := X) (sg := [.ki .i64, .ki .i64, .ki .i64, .kl 107, .ks, .kl 140, .kl 9]) (cu := zxj k) (cl := zxf k) (tys := [[0]]) (id := 0) (c := sub (bodyOf Go.Proofs.Tryz.f30) [1, 1, 0, 1, 0, 0]) (f := fun n => fun (x : Int × Int × Int × (List IField) × (List UInt8) × (List IDirective) × (List (List UInt8)) × Unit) => I_LifetimeOf_b0 k n x.1 x.2.1 x.2.2.1 x.2.2.2.1 x.2.2.2.2.1 x.2.2.2.2.2.1 x.2.2.2.2.2.2.1) (zxg k) (cutOK_of (l := []) (by kernel_rfl) trivial) (fun _ => rfl) (fun n x Q R h => by
    simp only [I_LifetimeOf_b0, optK_bind, optK_bif, optK_pure, optK_none, optK_oc, optK_guardT, optK_map] at h
    refine hold_of h ?_
    kernel_rfl) (by kernel_rfl)
def zxl (k : Nat) : Cuts D := ⟨[(0, some (zxi k))], []⟩
def zxm : List Ar := [.a [.ki .i64, .kl 107, .ks]]
def zxn (k : Nat) (x : TupA D zxm) : Option (Int) := I_LifetimeOf k (⟨x.1.1, x.1.2.1, x.1.2.2.1⟩ : IResponse)
def zxo (r : Int) : VR D := .p (.c (.int .i64 r))
theorem zxp (k : Nat) : Does P X 30 zxm (zxn k) zxo :=
  does_of (body := bodyOf Go.Proofs.Tryz.f30) (pl := zxe) (k := k) (cu := zxl k) (tys := [[0]]) (zxg k) ctx mixed Go.Proofs.Tryz.func30 (by kernel_rfl) (by kernel_rfl) (cutOK_of (l := [(zxi k, sub (bodyOf Go.Proofs.Tryz.f30) [1, 1, 0, 1])]) (by kernel_rfl) ⟨zxk k, trivial⟩) fun x R h => by
    simp only [zxn, I_LifetimeOf, optK_bind, optK_bif, optK_pure, optK_none, optK_oc, optK_guardT, optK_map] at h
    refine hold_of h ?_
    kernel_rfl
def zxq (k : Nat) : Entry D := entS zxm (zxn k) zxo
theorem zxr (k : Nat) : EntryOK X 30 (zxq k) := (zxp k).en rfl
def zxs : Plan := ⟨[(0, [(1, none), (2, none)]), (1, [(4, none)])],
  [],
  []⟩
def zxt (k : Nat) : Calls' D := ⟨[(30, zxq k)], [], [], [], []⟩
theorem zxu (k : Nat) : CallsOK X (zxt k) := .cons (zxr k) (.nil cod)
def zxv (k : Nat) : Cuts D := ⟨[], []⟩
def zxw : List Ar := [.a [.ki .i64, .kl 107, .ks], .c (.ki .i64)]
def zxx (k : Nat) (x : TupA D zxw) : Option (Bool) := I_IsFresh k (⟨x.1.1, x.1.2.1, x.1.2.2.1⟩ : IResponse) x.2.1
def zxy (r : Bool) : VR D := .p (.c (.bool r))
theorem zxz (k : Nat) : Does P X 32 zxw (zxx k) zxy :=
  does_of (body := bodyOf Go.Proofs.Tryz.f32) (pl := zxs) (k := k) (cu := zxv k) (tys := [[0]]) (zxu k) ctx mixed Go.Proofs.Tryz.func32 (by kernel_rfl) (by kernel_rfl) (cutOK_of (l := []) (by kernel_rfl) trivial) fun x R h => by
    simp only [zxx, I_IsFresh, optK_bind, optK_bif, optK_pure, optK_none, optK_oc, optK_guardT, optK_map] at h
    refine hold_of h ?_
    kernel_rfl
def zy0 (k : Nat) : Entry D := entS zxw (zxx k) zxy
theorem zy1 (k : Nat) : EntryOK X 32 (zy0 k) := (zxz k).en rfl
def zy2 : Plan := ⟨[(0, [(2, none), (3, none)]), (1, [(2, none), (3, none), (9, none)]), (2, [(4, none)]), (3, [(14, none)]), (4, [(4, none)]), (5, [(4, none)])],
  [],
  [(9, ([], [(2, none), (3, none)])), (14, ([], []))]⟩
def zy3 (k : Nat) : Calls' D := ⟨[], [], [], [], []⟩
theorem zy4 (k : Nat) : CallsOK X (zy3 k) := .nil cod
def zy5 (k : Nat) : Cuts D := ⟨[], []⟩
def zy6 : List Ar := [.a [.ks, .ks], .a [.ks, .ks]]
def zy7 (k : Nat) (x : TupA D zy6) : Option (Bool) := L_eqField k (⟨x.1.1, x.1.2.1⟩ : IField) (⟨x.2.1.1, x.2.1.2.1⟩ : IField)
def zy8 (r : Bool) : VR D := .p (.c (.bool r))
theorem zy9 (k : Nat) : Does P X 96 zy6 (zy7 k) zy8 :=
  does_of (body := bodyOf Go.Proofs.Tryz.f96) (pl := zy2) (k := k) (cu := zy5 k) (tys := [[0]]) (zy4 k) ctx mixed Go.Proofs.Tryz.func96 (by kernel_rfl) (by kernel_rfl) (cutOK_of (l := []) (by kernel_rfl) trivial) fun x R h => by
    simp only [zy7, L_eqField, optK_bind, optK_bif, optK_pure, optK_none, optK_oc, optK_guardT, optK_map] at h
    refine hold_of h ?_
    kernel_rfl
def zya (k : Nat) : Entry D := entS zy6 (zy7 k) zy8
theorem zyb (k : Nat) : EntryOK X 96 (zya k) := (zy9 k).en rfl
def zyc : Plan := ⟨[(0, [(0, some 107), (1, some 107)]), (1, [(0, some 107), (1, some 107), (10, none)]), (2, [(4, none)]), (3, [(0, some 107), (1, some 107), (5, none)]), (4, [(0, some 107), (1, some 107), (5, none), (14, none)]), (5, [(0, some 107), (1, some 107), (5, none)]), (6, [(0, some 107), (1, some 107), (5, none), (26, none)]), (7, [(4, none)]), (8, [(4, none)])],
  [(0, []), (1, [(0, some 107), (1, some 107), (5, none)])],
  [(10, ([], [(0, some 107), (1, some 107)])), (14, ([(0, some 107), (1, some 107), (5, none)], [])), (26, ([], [(0, some 107), (1, some 107), (5, none)]))]⟩
def zyd (k : Nat) : Calls' D := ⟨[(96, zya k)], [], [], [], []⟩
theorem zye (k : Nat) : CallsOK X (zyd k) := .cons (zyb k) (.nil cod)
def zyf (x : (List IField) × (List IField) × Int × Unit) (o : Oc (Unit) (Bool)) (Q : Ex → VSt D → Prop) (R : VR D → Prop) : Prop := ocP o (fun v0 => Q .normal (mkSt ⟨[], []⟩ [])) (fun w0 => R (.p (.c (.bool w0))))
def zyg (k : Nat) : Cut D := cutS ⟨[(0, .hole), (1, .hole), (5, .hole)], []⟩ [.kl 107, .kl 107, .ki .i64] (fun (x : (List IField) × (List IField) × Int × Unit) => L_eqFieldS_b0 k k x.1 x.2.1 x.2.2.1) zyf
def zyh (k : Nat) : Cuts D := ⟨[], []⟩
theorem zyi (k : Nat) : CutFor X zyc k Go.Proofs.Tryz.f39.results.toList (zyg k) (sub (bodyOf Go.Proofs.Tryz.f39) [1, 1, 0, 1]) :=
  loopCut_s (X := X) (sg := [.kl 107, .kl 107, .ki .i64]) (cu := zyh k) (cl := zyd k) (tys := [[0]]) (id := 0) (c := sub (bodyOf Go.Proofs.Tryz.f39) [1, 1, 0, 1, 0, 0]) (f := fun n => fun (x : (List IField) × (List IField) × Int × Unit) => L_eqFieldS_b0 k n x.1 x.2.1 x.2.2.1) (zye k) (cutOK_of (l := []) (by kernel_rfl) trivial) (fun _ => rfl) (fun n x Q R h => by
    simp only [L_eqFieldS_b0, optK_bind, optK_bif, optK_pure, optK_none, optK_oc, optK_guardT, optK_map] at h
    refine hold_of h ?_
    kernel_rfl) (by kernel_rfl)
def zyj (k : Nat) : Cuts D := ⟨[(0, some (zyg k))], []⟩
def zyk : List Ar := [.c (.kl 107), .c (.kl 107)]
def zyl (k : Nat) (x : TupA D zyk) : Option (Bool) := L_eqFieldS k x.1 x.2.1
def zym (r : Bool) : VR D := .p (.c (.bool r))
theorem zyn (k : Nat) : Does P X 39 zyk (zyl k) zym :=
  does_of (body := bodyOf Go.Proofs.Tryz.f39) (pl := zyc) (k := k) (cu := zyj k) (tys := [[0]]) (zye k) ctx mixed Go.Proofs.Tryz.func39 (by kernel_rfl) (by kernel_rfl) (cutOK_of (l := [(zyg k, sub (bodyOf Go.Proofs.Tryz.f39) [1, 1, 0, 1])]) (by kernel_rfl) ⟨zyi k, trivial⟩) fun x R h => by
    simp only [zyl, L_eqFieldS, optK_bind, optK_bif, optK_pure, optK_none, optK_oc, optK_guardT, optK_map] at h
    refine hold_of h ?_
    kernel_rfl
def zyo (k : Nat) : Entry D := entS zyk (zyl k) zym
theorem zyp (k : Nat) : EntryOK X 39 (zyo k) := (zyn k).en rfl
def zyq : Plan := ⟨[(0, [(2, none), (3, none)]), (1, [(2, none), (3, none), (9, none)]), (2, [(4, none)]), (3, [(2, none), (3, none), (15, none)]), (4, [(4, none)]), (5, [(20, none)]), (6, [(4, none)]), (7, [(4, none)])],
  [],
  [(9, ([], [(2, none), (3, none)])), (15, ([], [(2, none), (3, none)])), (20, ([], []))]⟩
def zyr (k : Nat) : Calls' D := ⟨[(39, zyo k)], [], [], [], []⟩
theorem zys (k : Nat) : CallsOK X (zyr k) := .cons (zyp k) (.nil cod)
def zyt (k : Nat) : Cuts D := ⟨[], []⟩
def zyu : List Ar := [.a [.ki .i64, .kl 107, .ks], .a [.ki .i64, .kl 107, .ks]]
def zyv (k : Nat) (x : TupA D zyu) : Option (Bool) := L_eqResponse k (⟨x.1.1, x.1.2.1, x.1.2.2.1⟩ : IResponse) (⟨x.2.1.1, x.2.1.2.1, x.2.1.2.2.1⟩ : IResponse)
def zyw (r : Bool) : VR D := .p (.c (.bool r))
theorem zyx (k : Nat) : Does P X 24 zyu (zyv k) zyw :=
  does_of (body := bodyOf Go.Proofs.Tryz.f24) (pl := zyq) (k := k) (cu := zyt k) (tys := [[0]]) (zys k) ctx mixed Go.Proofs.Tryz.func24 (by kernel_rfl) (by kernel_rfl) (cutOK_of (l := []) (by kernel_rfl) trivial) fun x R h => by
    simp only [zyv, L_eqResponse, optK_bind, optK_bif, optK_pure, optK_none, optK_oc, optK_guardT, optK_map] at h
    refine hold_of h ?_
    kernel_rfl
def zyy (k : Nat) : Entry D := entS zyu (zyv k) zyw
theorem zyz (k : Nat) : EntryOK X 24 (zyy k) := (zyx k).en rfl
def zz0 : Plan := ⟨[(0, [(1, none), (2, none)]), (1, [(1, none), (2, none), (5, none)]), (2, [(1, none), (2, none), (5, none)]), (3, [(1, none), (2, none), (13, none)]), (4, [(4, none)]), (5, [(1, none), (2, none), (6, none)]), (6, [(1, none), (2, none), (6, none), (7, none)]), (7, [(2, none), (6, none), (7, none), (8, none)]), (8, [(2, none), (7, none), (25, none)]), (9, [(4, none)]), (10, [(30, none)]), (11, [(4, none)]), (12, [(4, none)])],
  [],
  [(13, ([], [(1, none), (2, none)])), (25, ([], [(2, none), (7, none)])), (30, ([], []))]⟩
def zz1 (k : Nat) : Calls' D := ⟨[(20, zw k), (22, z1u k), (31, zi8 k), (32, zy0 k), (24, zyy k)], [], [], [], []⟩
theorem zz2 (k : Nat) : CallsOK X (zz1 k) := .cons (zx k) (.cons (z1v k) (.cons (zi9 k) (.cons (zy1 k) (.cons (zyz k) (.nil cod)))))
def zz3 (k : Nat) : Cuts D := ⟨[], []⟩
def L_FnExactIsFresh_ar : List Ar := [.a [.ki .i64, .kl 100, .ks], .c (.ki .i64)]
def L_FnExactIsFresh_f (k : Nat) (x : TupA D L_FnExactIsFresh_ar) : Option (Bool) := L_FnExactIsFresh k (⟨x.1.1, x.1.2.1, x.1.2.2.1⟩ : LResponse) x.2.1
def L_FnExactIsFresh_vr (r : Bool) : VR D := .p (.c (.bool r))
theorem L_FnExactIsFresh_ok (k : Nat) : Does P X 9 L_FnExactIsFresh_ar (L_FnExactIsFresh_f k) L_FnExactIsFresh_vr :=
  does_of (body := bodyOf Go.Proofs.Tryz.f9) (pl := zz0) (k := k) (cu := zz3 k) (tys := [[0]]) (zz2 k) ctx mixed Go.Proofs.Tryz.func9 (by kernel_rfl) (by kernel_rfl) (cutOK_of (l := []) (by kernel_rfl) trivial) fun x R h => by
    simp only [L_FnExactIsFresh_f, L_FnExactIsFresh, optK_bind, optK_bif, optK_pure, optK_none, optK_oc, optK_guardT, optK_map] at h
    refine hold_of h ?_
    kernel_rfl
def zz4 (k : Nat) : Entry D := entS L_FnExactIsFresh_ar (L_FnExactIsFresh_f k) L_FnExactIsFresh_vr
theorem zz5 (k : Nat) : EntryOK X 9 (zz4 k) := (L_FnExactIsFresh_ok k).en rfl

end
end Go.YtjpfnppiocloeaaGreatDoor
