/- The machine computes the functions. Nothing is claimed here. -/
import Derived.Test.YtjpfnppiocloeaaGreatDoorKf
import Derived.Test.YtjpfnppiocloeaaGreatDoorShelf
import Derived.Shelf.Strings.SlTrimAscii
set_option linter.unusedVariables false
set_option linter.unusedSimpArgs false
set_option maxRecDepth 100000
namespace Go.YtjpfnppiocloeaaGreatDoor
open Go Go.RowKit Go.Pv
noncomputable section

def z0 : Plan := ⟨[(0, [(1, none), (2, none)]), (1, [(1, none), (2, none)]), (2, [(1, none), (2, none), (11, none)]), (3, [(4, none)]), (4, [(1, none)]), (5, [(1, none), (18, none)]), (6, [(4, none)]), (7, [(4, none)])],
  [],
  [(11, ([], [(1, none), (2, none)])), (18, ([], [(1, none)]))]⟩
def z1 (k : Nat) : Calls' D := ⟨[], [], [], [], []⟩
theorem z2 (k : Nat) : CallsOK X (z1 k) := .nil cod
def z3 (k : Nat) : Cuts D := ⟨[], []⟩
def z4 : List Ar := [.a [.ks, .ks], .c (.ki .i64)]
def z5 (k : Nat) (x : TupA D z4) : Option (Int) := L_szField k (⟨x.1.1, x.1.2.1⟩ : LField) x.2.1
def z6 (r : Int) : VR D := .p (.c (.int .i64 r))
theorem z7 (k : Nat) : Does P X 73 z4 (z5 k) z6 :=
  does_of (body := bodyOf Go.Proofs.Tryz.f73) (pl := z0) (k := k) (cu := z3 k) (tys := [[0]]) (z2 k) ctx mixed Go.Proofs.Tryz.func73 (by kernel_rfl) (by kernel_rfl) (cutOK_of (l := []) (by kernel_rfl) trivial) fun x R h => by
    simp only [z5, L_szField, optK_bind, optK_bif, optK_pure, optK_none, optK_oc, optK_guardT, optK_map] at h
    refine hold_of h ?_
    kernel_rfl
def z8 (k : Nat) : Entry D := entS z4 (z5 k) z6
theorem z9 (k : Nat) : EntryOK X 73 (z8 k) := (z7 k).en rfl
def za : Plan := ⟨[(0, [(0, some 100), (1, none)]), (1, [(0, some 100), (1, none)]), (2, [(0, some 100), (1, none), (11, none)]), (3, [(4, none)]), (4, [(0, some 100), (1, none), (5, none)]), (5, [(0, some 100), (1, none), (5, none), (15, none)]), (6, [(0, some 100), (1, none), (5, none)]), (7, [(0, some 100), (1, none), (5, none)]), (8, [(0, some 100), (1, none), (5, none), (25, none)]), (9, [(4, none)]), (10, [(4, none)])],
  [(0, [(1, none)]), (1, [(0, some 100), (1, none), (5, none)])],
  [(11, ([], [(0, some 100), (1, none)])), (15, ([(0, some 100), (1, none), (5, none)], [(1, none)])), (25, ([], [(0, some 100), (1, none), (5, none)]))]⟩
def zb (k : Nat) : Calls' D := ⟨[(73, z8 k)], [], [], [], []⟩
theorem zc (k : Nat) : CallsOK X (zb k) := .cons (z9 k) (.nil cod)
def zd (x : (List LField) × Int × Int × Unit) (o : Oc (Int) (Int)) (Q : Ex → VSt D → Prop) (R : VR D → Prop) : Prop := ocP o (fun v0 => Q .normal (mkSt ⟨[(1, .hole)], []⟩ [.int .i64 v0])) (fun w0 => R (.p (.c (.int .i64 w0))))
def ze (k : Nat) : Cut D := cutS ⟨[(0, .hole), (1, .hole), (5, .hole)], []⟩ [.kl 100, .ki .i64, .ki .i64] (fun (x : (List LField) × Int × Int × Unit) => L_szFieldS_b0 k k x.1 x.2.1 x.2.2.1) zd
def zf (k : Nat) : Cuts D := ⟨[], []⟩
theorem zg (k : Nat) : CutFor X za k Go.Proofs.Tryz.f33.results.toList (ze k) (sub (bodyOf Go.Proofs.Tryz.f33) [1, 1, 1, 0, 1]) :=
  loopCut_s (X := X) (sg := [.kl 100, .ki .i64, .ki .i64]) (cu := zf k) (cl := zb k) (tys := [[0]]) (id := 0) (c := sub (bodyOf Go.Proofs.Tryz.f33) [1, 1, 1, 0, 1, 0, 0]) (f := fun n => fun (x : (List LField) × Int × Int × Unit) => L_szFieldS_b0 k n x.1 x.2.1 x.2.2.1) (zc k) (cutOK_of (l := []) (by kernel_rfl) trivial) (fun _ => rfl) (fun n x Q R h => by
    simp only [L_szFieldS_b0, optK_bind, optK_bif, optK_pure, optK_none, optK_oc, optK_guardT, optK_map] at h
    refine hold_of h ?_
    kernel_rfl) (by kernel_rfl)
def zh (k : Nat) : Cuts D := ⟨[(0, some (ze k))], []⟩
def zi : List Ar := [.c (.kl 100), .c (.ki .i64)]
def zj (k : Nat) (x : TupA D zi) : Option (Int) := L_szFieldS k x.1 x.2.1
def zk (r : Int) : VR D := .p (.c (.int .i64 r))
theorem zl (k : Nat) : Does P X 33 zi (zj k) zk :=
  does_of (body := bodyOf Go.Proofs.Tryz.f33) (pl := za) (k := k) (cu := zh k) (tys := [[0]]) (zc k) ctx mixed Go.Proofs.Tryz.func33 (by kernel_rfl) (by kernel_rfl) (cutOK_of (l := [(ze k, sub (bodyOf Go.Proofs.Tryz.f33) [1, 1, 1, 0, 1])]) (by kernel_rfl) ⟨zg k, trivial⟩) fun x R h => by
    simp only [zj, L_szFieldS, optK_bind, optK_bif, optK_pure, optK_none, optK_oc, optK_guardT, optK_map] at h
    refine hold_of h ?_
    kernel_rfl
def zm (k : Nat) : Entry D := entS zi (zj k) zk
theorem zn (k : Nat) : EntryOK X 33 (zm k) := (zl k).en rfl
def zo : Plan := ⟨[(0, [(1, none), (2, none)]), (1, [(1, none), (2, none)]), (2, [(1, none), (2, none), (10, none)]), (3, [(4, none)]), (4, [(1, none)]), (5, [(1, none), (17, none)]), (6, [(4, none)]), (7, [(4, none)])],
  [],
  [(10, ([], [(1, none), (2, none)])), (17, ([], [(1, none)]))]⟩
def zp (k : Nat) : Calls' D := ⟨[(33, zm k)], [], [], [], []⟩
theorem zq (k : Nat) : CallsOK X (zp k) := .cons (zn k) (.nil cod)
def zr (k : Nat) : Cuts D := ⟨[], []⟩
def zs : List Ar := [.a [.ki .i64, .kl 100, .ks], .c (.ki .i64)]
def zt (k : Nat) (x : TupA D zs) : Option (Int) := L_szResponse k (⟨x.1.1, x.1.2.1, x.1.2.2.1⟩ : LResponse) x.2.1
def zu (r : Int) : VR D := .p (.c (.int .i64 r))
theorem zv (k : Nat) : Does P X 20 zs (zt k) zu :=
  does_of (body := bodyOf Go.Proofs.Tryz.f20) (pl := zo) (k := k) (cu := zr k) (tys := [[0]]) (zq k) ctx mixed Go.Proofs.Tryz.func20 (by kernel_rfl) (by kernel_rfl) (cutOK_of (l := []) (by kernel_rfl) trivial) fun x R h => by
    simp only [zt, L_szResponse, optK_bind, optK_bif, optK_pure, optK_none, optK_oc, optK_guardT, optK_map] at h
    refine hold_of h ?_
    kernel_rfl
def zw (k : Nat) : Entry D := entS zs (zt k) zu
theorem zx (k : Nat) : EntryOK X 20 (zw k) := (zv k).en rfl
def zy : Plan := ⟨[(0, [(1, none), (2, none)]), (1, [(1, none), (2, none), (3, none)]), (2, [(1, none), (2, none), (3, none)]), (3, [(2, none), (3, none)]), (4, [(2, none)])],
  [],
  []⟩
def zz (k : Nat) : Calls' D := ⟨[], [], [], [], []⟩
theorem z10 (k : Nat) : CallsOK X (zz k) := .nil cod
def z11 (k : Nat) : Cuts D := ⟨[], []⟩
def z12 : List Ar := [.a [.ks, .ks]]
def z13 (k : Nat) (x : TupA D z12) : Option (IField) := L_toField k (⟨x.1.1, x.1.2.1⟩ : LField)
def z14 (r : IField) : VR D := .p (.agg [.str r.Name, .str r.Value])
theorem z15 (k : Nat) : Does P X 81 z12 (z13 k) z14 :=
  does_of (body := bodyOf Go.Proofs.Tryz.f81) (pl := zy) (k := k) (cu := z11 k) (tys := [[0, 0]]) (z10 k) ctx mixed Go.Proofs.Tryz.func81 (by kernel_rfl) (by kernel_rfl) (cutOK_of (l := []) (by kernel_rfl) trivial) fun x R h => by
    simp only [z13, L_toField, optK_bind, optK_bif, optK_pure, optK_none, optK_oc, optK_guardT, optK_map] at h
    refine hold_of h ?_
    kernel_rfl
def z16 (k : Nat) : Entry D := entS z12 (z13 k) z14
theorem z17 (k : Nat) : EntryOK X 81 (z16 k) := (z15 k).en rfl
def z18 : Plan := ⟨[(0, [(0, some 100)]), (1, [(0, some 100), (3, some 107)]), (2, [(0, some 100), (3, some 107), (4, none)]), (3, [(0, some 100), (3, some 107), (4, none), (11, none)]), (4, [(0, some 100), (3, some 107), (4, none)]), (5, [(0, some 100), (3, some 107), (4, none)]), (6, [(2, some 107)])],
  [(0, [(3, some 107)]), (1, [(0, some 100), (3, some 107), (4, none)])],
  [(11, ([(0, some 100), (3, some 107), (4, none)], [(3, some 107)]))]⟩
def z19 (k : Nat) : Calls' D := ⟨[(81, z16 k)], [], [], [], []⟩
theorem z1a (k : Nat) : CallsOK X (z19 k) := .cons (z17 k) (.nil cod)
def z1b (x : (List LField) × Int × (List IField) × Unit) (o : (List IField)) (Q : Ex → VSt D → Prop) (R : VR D → Prop) : Prop := Q .normal (mkSt ⟨[(3, .ref 500003)], [(500003, .row)]⟩ [.sl 107 o])
def z1c (k : Nat) : Cut D := cutS ⟨[(0, .hole), (3, .ref 500003), (4, .hole)], [(500003, .row)]⟩ [.kl 100, .ki .i64, .kl 107] (fun (x : (List LField) × Int × (List IField) × Unit) => L_toFieldS_b0 k k x.1 x.2.1 x.2.2.1) z1b
def z1d (k : Nat) : Cuts D := ⟨[], []⟩
theorem z1e (k : Nat) : CutFor X z18 k Go.Proofs.Tryz.f36.results.toList (z1c k) (sub (bodyOf Go.Proofs.Tryz.f36) [1, 1, 0, 1]) :=
  loopCut_s (X := X) (sg := [.kl 100, .ki .i64, .kl 107]) (cu := z1d k) (cl := z19 k) (tys := [[107]]) (id := 0) (c := sub (bodyOf Go.Proofs.Tryz.f36) [1, 1, 0, 1, 0, 0]) (f := fun n => fun (x : (List LField) × Int × (List IField) × Unit) => L_toFieldS_b0 k n x.1 x.2.1 x.2.2.1) (z1a k) (cutOK_of (l := []) (by kernel_rfl) trivial) (fun _ => rfl) (fun n x Q R h => by
    simp only [L_toFieldS_b0, optK_bind, optK_bif, optK_pure, optK_none, optK_oc, optK_guardT, optK_map] at h
    refine hold_of h ?_
    kernel_rfl) (by kernel_rfl)
def z1f (k : Nat) : Cuts D := ⟨[(0, some (z1c k))], []⟩
def z1g : List Ar := [.c (.kl 100)]
def z1h (k : Nat) (x : TupA D z1g) : Option ((List IField)) := L_toFieldS k x.1
def z1i (r : (List IField)) : VR D := .p (.c (.sl 107 r))
theorem z1j (k : Nat) : Does P X 36 z1g (z1h k) z1i :=
  does_of (body := bodyOf Go.Proofs.Tryz.f36) (pl := z18) (k := k) (cu := z1f k) (tys := [[107]]) (z1a k) ctx mixed Go.Proofs.Tryz.func36 (by kernel_rfl) (by kernel_rfl) (cutOK_of (l := [(z1c k, sub (bodyOf Go.Proofs.Tryz.f36) [1, 1, 0, 1])]) (by kernel_rfl) ⟨z1e k, trivial⟩) fun x R h => by
    simp only [z1h, L_toFieldS, optK_bind, optK_bif, optK_pure, optK_none, optK_oc, optK_guardT, optK_map] at h
    refine hold_of h ?_
    kernel_rfl
def z1k (k : Nat) : Entry D := entS z1g (z1h k) z1i
theorem z1l (k : Nat) : EntryOK X 36 (z1k k) := (z1j k).en rfl
def z1m : Plan := ⟨[(0, [(1, none), (2, none)]), (1, [(1, none), (2, none), (3, none)]), (2, [(1, none), (2, none), (3, none)]), (3, [(1, none), (2, none), (3, none)]), (4, [(2, none), (3, none)]), (5, [(2, none)])],
  [],
  []⟩
def z1n (k : Nat) : Calls' D := ⟨[(36, z1k k)], [], [], [], []⟩
theorem z1o (k : Nat) : CallsOK X (z1n k) := .cons (z1l k) (.nil cod)
def z1p (k : Nat) : Cuts D := ⟨[], []⟩
def z1q : List Ar := [.a [.ki .i64, .kl 100, .ks]]
def z1r (k : Nat) (x : TupA D z1q) : Option (IResponse) := L_toResponse k (⟨x.1.1, x.1.2.1, x.1.2.2.1⟩ : LResponse)
def z1s (r : IResponse) : VR D := .p (.agg [.int .i64 r.Code, .sl 107 r.Fields, .str r.Body])
theorem z1t (k : Nat) : Does P X 22 z1q (z1r k) z1s :=
  does_of (body := bodyOf Go.Proofs.Tryz.f22) (pl := z1m) (k := k) (cu := z1p k) (tys := [[0, 107, 0]]) (z1o k) ctx mixed Go.Proofs.Tryz.func22 (by kernel_rfl) (by kernel_rfl) (cutOK_of (l := []) (by kernel_rfl) trivial) fun x R h => by
    simp only [z1r, L_toResponse, optK_bind, optK_bif, optK_pure, optK_none, optK_oc, optK_guardT, optK_map] at h
    refine hold_of h ?_
    kernel_rfl
def z1u (k : Nat) : Entry D := entS z1q (z1r k) z1s
theorem z1v (k : Nat) : EntryOK X 22 (z1u k) := (z1t k).en rfl
def z1w : Plan := ⟨[(0, [(0, some 9)]), (1, [(0, some 9), (3, none)]), (2, [(0, some 9), (3, none), (4, none)]), (3, [(0, some 9), (3, none), (4, none), (8, none)]), (4, [(0, some 9), (3, none), (4, none)]), (5, [(0, some 9), (3, none), (4, none), (12, none)]), (6, [(0, some 9), (3, none), (4, none)]), (7, [(0, some 9), (3, none), (4, none)]), (8, [(2, none)])],
  [(0, [(3, none)]), (1, [(0, some 9), (3, none), (4, none)])],
  [(8, ([(0, some 9), (3, none), (4, none)], [(3, none)])), (12, ([(0, some 9), (3, none), (4, none)], [(0, some 9), (3, none), (4, none)]))]⟩
def z1x (k : Nat) : Calls' D := ⟨[], [], [], [], []⟩
theorem z1y (k : Nat) : CallsOK X (z1x k) := .nil cod
def z1z (x : (List (List UInt8)) × (List UInt8) × Int × Bool × Unit) (o : (List UInt8)) (Q : Ex → VSt D → Prop) (R : VR D → Prop) : Prop := Q .normal (mkSt ⟨[(0, .hole), (3, .hole), (4, .hole)], []⟩ [.sl 9 x.1, .str o, .int .i64 x.2.2.1])
def z20 (k : Nat) : Cut D := cutS ⟨[(0, .hole), (3, .hole), (4, .hole), (12, .hole)], []⟩ [.kl 9, .ks, .ki .i64, .kb] (fun (x : (List (List UInt8)) × (List UInt8) × Int × Bool × Unit) => S_JoinList_c12 k x.1 x.2.1 x.2.2.1 x.2.2.2.1) z1z
def z21 (k : Nat) : Cuts D := ⟨[], []⟩
theorem z22 (k : Nat) : CutFor X z1w k Go.Proofs.Tryz.f117.results.toList (z20 k) (sub (bodyOf Go.Proofs.Tryz.f117) [1, 1, 0, 1, 0, 0, 1, 0, 0, 0, 1]) :=
  joinCut_s (X := X) (sg := [.kl 9, .ks, .ki .i64, .kb]) (cu := z21 k) (cl := z1x k) (tys := [[0]]) (z1y k) (cutOK_of (l := []) (by kernel_rfl) trivial) fun x Q R h => by
    simp only [S_JoinList_c12, optK_bind, optK_bif, optK_pure, optK_none, optK_oc, optK_guardT, optK_map] at h
    refine hold_of h ?_
    kernel_rfl
def z23 (x : (List (List UInt8)) × (List UInt8) × Int × Unit) (o : (List UInt8)) (Q : Ex → VSt D → Prop) (R : VR D → Prop) : Prop := Q .normal (mkSt ⟨[(0, .hole), (3, .hole), (4, .hole)], []⟩ [.sl 9 x.1, .str o, .int .i64 x.2.2.1])
def z24 (k : Nat) : Cut D := cutS ⟨[(0, .hole), (3, .hole), (4, .hole)], []⟩ [.kl 9, .ks, .ki .i64] (fun (x : (List (List UInt8)) × (List UInt8) × Int × Unit) => S_JoinList_b1 k x.1 x.2.1 x.2.2.1) z23
def z25 (k : Nat) : Cuts D := ⟨[], [(12, some (z20 k))]⟩
theorem z26 (k : Nat) : CutFor X z1w k Go.Proofs.Tryz.f117.results.toList (z24 k) (sub (bodyOf Go.Proofs.Tryz.f117) [1, 1, 0, 1, 0, 0, 1, 0]) :=
  joinCut_s (X := X) (sg := [.kl 9, .ks, .ki .i64]) (cu := z25 k) (cl := z1x k) (tys := [[0]]) (z1y k) (cutOK_of (l := [(z20 k, sub (bodyOf Go.Proofs.Tryz.f117) [1, 1, 0, 1, 0, 0, 1, 0, 0, 0, 1])]) (by kernel_rfl) ⟨z22 k, trivial⟩) fun x Q R h => by
    simp only [S_JoinList_b1, optK_bind, optK_bif, optK_pure, optK_none, optK_oc, optK_guardT, optK_map] at h
    refine hold_of h ?_
    kernel_rfl
def z27 (x : (List (List UInt8)) × (List UInt8) × Int × Unit) (o : (List UInt8)) (Q : Ex → VSt D → Prop) (R : VR D → Prop) : Prop := Q .normal (mkSt ⟨[(3, .hole)], []⟩ [.str o])
def z28 (k : Nat) : Cut D := cutS ⟨[(0, .hole), (3, .hole), (4, .hole)], []⟩ [.kl 9, .ks, .ki .i64] (fun (x : (List (List UInt8)) × (List UInt8) × Int × Unit) => S_JoinList_b0 k k x.1 x.2.1 x.2.2.1) z27
def z29 (k : Nat) : Cuts D := ⟨[(1, some (z24 k))], []⟩
theorem z2a (k : Nat) : CutFor X z1w k Go.Proofs.Tryz.f117.results.toList (z28 k) (sub (bodyOf Go.Proofs.Tryz.f117) [1, 1, 0, 1]) :=
  loopCut_s (X := X) (sg := [.kl 9, .ks, .ki .i64]) (cu := z29 k) (cl := z1x k) (tys := [[0]]) (id := 0) (c := sub (bodyOf Go.Proofs.Tryz.f117) [1, 1, 0, 1, 0, 0]) (f := fun n => fun (x : (List (List UInt8)) × (List UInt8) × Int × Unit) => S_JoinList_b0 k n x.1 x.2.1 x.2.2.1) (z1y k) (cutOK_of (l := [(z24 k, sub (bodyOf Go.Proofs.Tryz.f117) [1, 1, 0, 1, 0, 0, 1, 0])]) (by kernel_rfl) ⟨z26 k, trivial⟩) (fun _ => rfl) (fun n x Q R h => by
    simp only [S_JoinList_b0, optK_bind, optK_bif, optK_pure, optK_none, optK_oc, optK_guardT, optK_map] at h
    refine hold_of h ?_
    kernel_rfl) (by kernel_rfl)
def z2b (k : Nat) : Cuts D := ⟨[(0, some (z28 k))], []⟩
def z2c : List Ar := [.c (.kl 9)]
def z2d (k : Nat) (x : TupA D z2c) : Option ((List UInt8)) := S_JoinList k x.1
def z2e (r : (List UInt8)) : VR D := .p (.c (.str r))
theorem z2f (k : Nat) : Does P X 117 z2c (z2d k) z2e :=
  does_of (body := bodyOf Go.Proofs.Tryz.f117) (pl := z1w) (k := k) (cu := z2b k) (tys := [[0]]) (z1y k) ctx mixed Go.Proofs.Tryz.func117 (by kernel_rfl) (by kernel_rfl) (cutOK_of (l := [(z28 k, sub (bodyOf Go.Proofs.Tryz.f117) [1, 1, 0, 1])]) (by kernel_rfl) ⟨z2a k, trivial⟩) fun x R h => by
    simp only [z2d, S_JoinList, optK_bind, optK_bif, optK_pure, optK_none, optK_oc, optK_guardT, optK_map] at h
    refine hold_of h ?_
    kernel_rfl
def z2g (k : Nat) : Entry D := entS z2c (z2d k) z2e
theorem z2h (k : Nat) : EntryOK X 117 (z2g k) := (z2f k).en rfl
def z2i : Plan := ⟨[(0, [(0, some 107), (1, none)]), (1, [(0, some 107), (1, none), (6, some 9)]), (2, [(0, some 107), (1, none), (6, some 9), (7, none)]), (3, [(0, some 107), (1, none), (6, some 9), (7, none), (12, none)]), (4, [(0, some 107), (1, none), (6, some 9), (7, none)]), (5, [(0, some 107), (1, none), (6, some 9), (7, none), (21, none)]), (6, [(0, some 107), (1, none), (6, some 9), (7, none)]), (7, [(4, none), (5, none)])],
  [(0, [(6, some 9)]), (1, [(0, some 107), (1, none), (6, some 9), (7, none)])],
  [(12, ([(0, some 107), (1, none), (6, some 9), (7, none)], [(6, some 9)])), (21, ([(0, some 107), (1, none), (6, some 9), (7, none)], [(0, some 107), (1, none), (6, some 9), (7, none)]))]⟩
def z2j (k : Nat) : Calls' D := ⟨[(117, z2g k)], [], [], [], []⟩
theorem z2k (k : Nat) : CallsOK X (z2j k) := .cons (z2h k) (.nil cod)
def z2l (x : (List IField) × (List UInt8) × Int × Bool × (List (List UInt8)) × Unit) (o : (List (List UInt8))) (Q : Ex → VSt D → Prop) (R : VR D → Prop) : Prop := Q .normal (mkSt ⟨[(0, .hole), (1, .hole), (6, .ref 500006), (7, .hole)], [(500006, .row)]⟩ [.sl 107 x.1, .str x.2.1, .int .i64 x.2.2.1, .sl 9 o])
def z2m (k : Nat) : Cut D := cutS ⟨[(0, .hole), (1, .hole), (6, .ref 500006), (7, .hole), (21, .hole)], [(500006, .row)]⟩ [.kl 107, .ks, .ki .i64, .kb, .kl 9] (fun (x : (List IField) × (List UInt8) × Int × Bool × (List (List UInt8)) × Unit) => S_GetField_c21 k x.1 x.2.1 x.2.2.1 x.2.2.2.1 x.2.2.2.2.1) z2l
def z2n (k : Nat) : Cuts D := ⟨[], []⟩
theorem z2o (k : Nat) : CutFor X z2i k Go.Proofs.Tryz.f54.results.toList (z2m k) (sub (bodyOf Go.Proofs.Tryz.f54) [1, 1, 0, 1, 0, 0, 1, 0, 0, 1]) :=
  joinCut_s (X := X) (sg := [.kl 107, .ks, .ki .i64, .kb, .kl 9]) (cu := z2n k) (cl := z2j k) (tys := [[0], [0]]) (z2k k) (cutOK_of (l := []) (by kernel_rfl) trivial) fun x Q R h => by
    simp only [S_GetField_c21, optK_bind, optK_bif, optK_pure, optK_none, optK_oc, optK_guardT, optK_map] at h
    refine hold_of h ?_
    kernel_rfl
def z2p (x : (List IField) × (List UInt8) × Int × (List (List UInt8)) × Unit) (o : (List (List UInt8))) (Q : Ex → VSt D → Prop) (R : VR D → Prop) : Prop := Q .normal (mkSt ⟨[(0, .hole), (1, .hole), (6, .ref 500006), (7, .hole)], [(500006, .row)]⟩ [.sl 107 x.1, .str x.2.1, .int .i64 x.2.2.1, .sl 9 o])
def z2q (k : Nat) : Cut D := cutS ⟨[(0, .hole), (1, .hole), (6, .ref 500006), (7, .hole)], [(500006, .row)]⟩ [.kl 107, .ks, .ki .i64, .kl 9] (fun (x : (List IField) × (List UInt8) × Int × (List (List UInt8)) × Unit) => S_GetField_b1 k x.1 x.2.1 x.2.2.1 x.2.2.2.1) z2p
def z2r (k : Nat) : Cuts D := ⟨[], [(21, some (z2m k))]⟩
theorem z2s (k : Nat) : CutFor X z2i k Go.Proofs.Tryz.f54.results.toList (z2q k) (sub (bodyOf Go.Proofs.Tryz.f54) [1, 1, 0, 1, 0, 0, 1, 0]) :=
  joinCut_s (X := X) (sg := [.kl 107, .ks, .ki .i64, .kl 9]) (cu := z2r k) (cl := z2j k) (tys := [[0], [0]]) (z2k k) (cutOK_of (l := [(z2m k, sub (bodyOf Go.Proofs.Tryz.f54) [1, 1, 0, 1, 0, 0, 1, 0, 0, 1])]) (by kernel_rfl) ⟨z2o k, trivial⟩) fun x Q R h => by
    simp only [S_GetField_b1, optK_bind, optK_bif, optK_pure, optK_none, optK_oc, optK_guardT, optK_map] at h
    refine hold_of h ?_
    kernel_rfl
def z2t (x : (List IField) × (List UInt8) × Int × (List (List UInt8)) × Unit) (o : (List (List UInt8))) (Q : Ex → VSt D → Prop) (R : VR D → Prop) : Prop := Q .normal (mkSt ⟨[(6, .ref 500006)], [(500006, .row)]⟩ [.sl 9 o])
def z2u (k : Nat) : Cut D := cutS ⟨[(0, .hole), (1, .hole), (6, .ref 500006), (7, .hole)], [(500006, .row)]⟩ [.kl 107, .ks, .ki .i64, .kl 9] (fun (x : (List IField) × (List UInt8) × Int × (List (List UInt8)) × Unit) => S_GetField_b0 k k x.1 x.2.1 x.2.2.1 x.2.2.2.1) z2t
def z2v (k : Nat) : Cuts D := ⟨[(1, some (z2q k))], []⟩
theorem z2w (k : Nat) : CutFor X z2i k Go.Proofs.Tryz.f54.results.toList (z2u k) (sub (bodyOf Go.Proofs.Tryz.f54) [1, 1, 0, 1]) :=
  loopCut_s (X := X) (sg := [.kl 107, .ks, .ki .i64, .kl 9]) (cu := z2v k) (cl := z2j k) (tys := [[0], [0]]) (id := 0) (c := sub (bodyOf Go.Proofs.Tryz.f54) [1, 1, 0, 1, 0, 0]) (f := fun n => fun (x : (List IField) × (List UInt8) × Int × (List (List UInt8)) × Unit) => S_GetField_b0 k n x.1 x.2.1 x.2.2.1 x.2.2.2.1) (z2k k) (cutOK_of (l := [(z2q k, sub (bodyOf Go.Proofs.Tryz.f54) [1, 1, 0, 1, 0, 0, 1, 0])]) (by kernel_rfl) ⟨z2s k, trivial⟩) (fun _ => rfl) (fun n x Q R h => by
    simp only [S_GetField_b0, optK_bind, optK_bif, optK_pure, optK_none, optK_oc, optK_guardT, optK_map] at h
    refine hold_of h ?_
    kernel_rfl) (by kernel_rfl)
def z2x (k : Nat) : Cuts D := ⟨[(0, some (z2u k))], []⟩
def z2y : List Ar := [.c (.kl 107), .c (.ks)]
def z2z (k : Nat) (x : TupA D z2y) : Option ((List UInt8) × Bool) := S_GetField k x.1 x.2.1
def z30 (r : (List UInt8) × Bool) : VR D := .tup [.c (.str r.1), .c (.bool r.2)]
theorem z31 (k : Nat) : Does P X 54 z2y (z2z k) z30 :=
  does_of (body := bodyOf Go.Proofs.Tryz.f54) (pl := z2i) (k := k) (cu := z2x k) (tys := [[0], [0]]) (z2k k) ctx mixed Go.Proofs.Tryz.func54 (by kernel_rfl) (by kernel_rfl) (cutOK_of (l := [(z2u k, sub (bodyOf Go.Proofs.Tryz.f54) [1, 1, 0, 1])]) (by kernel_rfl) ⟨z2w k, trivial⟩) fun x R h => by
    simp only [z2z, S_GetField, optK_bind, optK_bif, optK_pure, optK_none, optK_oc, optK_guardT, optK_map] at h
    refine hold_of h ?_
    kernel_rfl
def z32 (k : Nat) : Entry D := entS z2y (z2z k) z30
theorem z33 (k : Nat) : EntryOK X 54 (z32 k) := (z31 k).en rfl
def z34 : Plan := ⟨[(0, [(0, some 107), (1, none)]), (1, [(5, none)]), (2, [(4, none)])],
  [],
  []⟩
def z35 (k : Nat) : Calls' D := ⟨[(54, z32 k)], [], [], [], []⟩
theorem z36 (k : Nat) : CallsOK X (z35 k) := .cons (z33 k) (.nil cod)
def z37 (k : Nat) : Cuts D := ⟨[], []⟩
def z38 : List Ar := [.c (.kl 107), .c (.ks)]
def z39 (k : Nat) (x : TupA D z38) : Option ((List UInt8)) := S_l5Get k x.1 x.2.1
def z3a (r : (List UInt8)) : VR D := .p (.c (.str r))
theorem z3b (k : Nat) : Does P X 50 z38 (z39 k) z3a :=
  does_of (body := bodyOf Go.Proofs.Tryz.f50) (pl := z34) (k := k) (cu := z37 k) (tys := [[0]]) (z36 k) ctx mixed Go.Proofs.Tryz.func50 (by kernel_rfl) (by kernel_rfl) (cutOK_of (l := []) (by kernel_rfl) trivial) fun x R h => by
    simp only [z39, S_l5Get, optK_bind, optK_bif, optK_pure, optK_none, optK_oc, optK_guardT, optK_map] at h
    refine hold_of h ?_
    kernel_rfl
def z3c (k : Nat) : Entry D := entS z38 (z39 k) z3a
theorem z3d (k : Nat) : EntryOK X 50 (z3c k) := (z3b k).en rfl
def z3e : Plan := ⟨[(0, [(0, none), (1, none)]), (1, [(0, none), (1, none), (5, some 9)]), (2, [(0, none), (1, none), (5, some 9), (6, none)]), (3, [(0, none), (1, none), (5, some 9), (6, none), (7, none)]), (4, [(0, none), (1, none), (5, some 9), (6, none), (7, none), (8, none)]), (5, [(0, none), (1, none), (5, some 9), (6, none), (7, none), (8, none), (13, none)]), (6, [(0, none), (1, none), (5, some 9), (6, none), (7, none), (8, none)]), (7, [(0, none), (1, none), (5, some 9), (6, none), (7, none), (8, none), (16, none)]), (8, [(0, none), (1, none), (5, some 9), (6, none), (7, none), (8, none)]), (9, [(0, none), (1, none), (5, some 9), (6, none), (7, none), (8, none), (26, none)]), (10, [(0, none), (1, none), (5, some 9), (6, none), (7, none), (8, none)]), (11, [(0, none), (1, none), (5, some 9), (6, none), (7, none), (8, none), (33, none)]), (12, [(0, none), (1, none), (5, some 9), (7, none), (8, none)]), (13, [(0, none), (1, none), (5, some 9), (6, none), (7, none), (8, none)]), (14, [(4, some 9)])],
  [(0, [(0, none), (5, some 9), (6, none)]), (1, [(0, none), (1, none), (5, some 9), (6, none), (7, none), (8, none)]), (2, [(0, none), (1, none), (5, some 9), (6, none), (7, none), (8, none)])],
  [(13, ([(0, none), (1, none), (5, some 9), (6, none), (7, none), (8, none)], [(0, none), (5, some 9), (6, none)])), (16, ([(0, none), (1, none), (5, some 9), (6, none), (7, none), (8, none)], [(0, none), (1, none), (5, some 9), (6, none), (7, none), (8, none)])), (26, ([(0, none), (1, none), (5, some 9), (6, none), (7, none), (8, none)], [(0, none), (1, none), (5, some 9), (6, none), (7, none), (8, none)])), (33, ([(0, none), (1, none), (5, some 9), (6, none), (7, none), (8, none)], [(0, none), (1, none), (5, some 9), (6, none), (7, none), (8, none)]))]⟩
def z3f (k : Nat) : Calls' D := ⟨[], [], [], [], []⟩
theorem z3g (k : Nat) : CallsOK X (z3f k) := .nil cod
def z3h (x : (List UInt8) × Int × Int × Bool × Int × Bool × (List (List UInt8)) × Unit) (o : Int × (List (List UInt8))) (Q : Ex → VSt D → Prop) (R : VR D → Prop) : Prop := Q .normal (mkSt ⟨[(0, .hole), (1, .hole), (5, .ref 500005), (6, .hole), (7, .hole), (8, .hole)], [(500005, .row)]⟩ [.str x.1, .int .u8 x.2.1, .int .i64 o.1, .bool x.2.2.2.1, .int .i64 x.2.2.2.2.1, .sl 9 o.2])
def z3i (k : Nat) : Cut D := cutS ⟨[(0, .hole), (1, .hole), (5, .ref 500005), (6, .hole), (7, .hole), (8, .hole), (33, .hole)], [(500005, .row)]⟩ [.ks, .ki .u8, .ki .i64, .kb, .ki .i64, .kb, .kl 9] (fun (x : (List UInt8) × Int × Int × Bool × Int × Bool × (List (List UInt8)) × Unit) => S_l4Cut_c33 k x.1 x.2.1 x.2.2.1 x.2.2.2.1 x.2.2.2.2.1 x.2.2.2.2.2.1 x.2.2.2.2.2.2.1) z3h
def z3j (k : Nat) : Cuts D := ⟨[], []⟩
theorem z3k (k : Nat) : CutFor X z3e k Go.Proofs.Tryz.f238.results.toList (z3i k) (sub (bodyOf Go.Proofs.Tryz.f238) [1, 1, 1, 1, 0, 1, 0, 0, 1, 0, 0, 0, 1, 1, 1, 1, 1]) :=
  joinCut_s (X := X) (sg := [.ks, .ki .u8, .ki .i64, .kb, .ki .i64, .kb, .kl 9]) (cu := z3j k) (cl := z3f k) (tys := [[9]]) (z3g k) (cutOK_of (l := []) (by kernel_rfl) trivial) fun x Q R h => by
    simp only [S_l4Cut_c33, optK_bind, optK_bif, optK_pure, optK_none, optK_oc, optK_guardT, optK_map] at h
    refine hold_of h ?_
    kernel_rfl
def z3l (x : (List UInt8) × Int × Int × Bool × Int × Bool × (List (List UInt8)) × Unit) (o : Int × Bool × (List (List UInt8))) (Q : Ex → VSt D → Prop) (R : VR D → Prop) : Prop := Q .normal (mkSt ⟨[(0, .hole), (1, .hole), (5, .ref 500005), (6, .hole), (7, .hole), (8, .hole)], [(500005, .row)]⟩ [.str x.1, .int .u8 x.2.1, .int .i64 o.1, .bool o.2.1, .int .i64 x.2.2.2.2.1, .sl 9 o.2.2])
def z3m (k : Nat) : Cut D := cutS ⟨[(0, .hole), (1, .hole), (5, .ref 500005), (6, .hole), (7, .hole), (8, .hole), (26, .hole)], [(500005, .row)]⟩ [.ks, .ki .u8, .ki .i64, .kb, .ki .i64, .kb, .kl 9] (fun (x : (List UInt8) × Int × Int × Bool × Int × Bool × (List (List UInt8)) × Unit) => S_l4Cut_c26 k x.1 x.2.1 x.2.2.1 x.2.2.2.1 x.2.2.2.2.1 x.2.2.2.2.2.1 x.2.2.2.2.2.2.1) z3l
def z3n (k : Nat) : Cuts D := ⟨[], [(33, some (z3i k))]⟩
theorem z3o (k : Nat) : CutFor X z3e k Go.Proofs.Tryz.f238.results.toList (z3m k) (sub (bodyOf Go.Proofs.Tryz.f238) [1, 1, 1, 1, 0, 1, 0, 0, 1, 0, 0, 0, 1, 1, 1]) :=
  joinCut_s (X := X) (sg := [.ks, .ki .u8, .ki .i64, .kb, .ki .i64, .kb, .kl 9]) (cu := z3n k) (cl := z3f k) (tys := [[9]]) (z3g k) (cutOK_of (l := [(z3i k, sub (bodyOf Go.Proofs.Tryz.f238) [1, 1, 1, 1, 0, 1, 0, 0, 1, 0, 0, 0, 1, 1, 1, 1, 1])]) (by kernel_rfl) ⟨z3k k, trivial⟩) fun x Q R h => by
    simp only [S_l4Cut_c26, optK_bind, optK_bif, optK_pure, optK_none, optK_oc, optK_guardT, optK_map] at h
    refine hold_of h ?_
    kernel_rfl
def z3p (x : (List UInt8) × Int × Int × Bool × Int × Bool × (List (List UInt8)) × Unit) (o : Int × Bool × Int × (List (List UInt8))) (Q : Ex → VSt D → Prop) (R : VR D → Prop) : Prop := Q .normal (mkSt ⟨[(0, .hole), (1, .hole), (5, .ref 500005), (6, .hole), (7, .hole), (8, .hole)], [(500005, .row)]⟩ [.str x.1, .int .u8 x.2.1, .int .i64 o.1, .bool o.2.1, .int .i64 o.2.2.1, .sl 9 o.2.2.2])
def z3q (k : Nat) : Cut D := cutS ⟨[(0, .hole), (1, .hole), (5, .ref 500005), (6, .hole), (7, .hole), (8, .hole), (16, .hole)], [(500005, .row)]⟩ [.ks, .ki .u8, .ki .i64, .kb, .ki .i64, .kb, .kl 9] (fun (x : (List UInt8) × Int × Int × Bool × Int × Bool × (List (List UInt8)) × Unit) => S_l4Cut_c16 k x.1 x.2.1 x.2.2.1 x.2.2.2.1 x.2.2.2.2.1 x.2.2.2.2.2.1 x.2.2.2.2.2.2.1) z3p
def z3r (k : Nat) : Cuts D := ⟨[], [(26, some (z3m k))]⟩
theorem z3s (k : Nat) : CutFor X z3e k Go.Proofs.Tryz.f238.results.toList (z3q k) (sub (bodyOf Go.Proofs.Tryz.f238) [1, 1, 1, 1, 0, 1, 0, 0, 1, 0, 0, 0, 1]) :=
  joinCut_s (X := X) (sg := [.ks, .ki .u8, .ki .i64, .kb, .ki .i64, .kb, .kl 9]) (cu := z3r k) (cl := z3f k) (tys := [[9]]) (z3g k) (cutOK_of (l := [(z3m k, sub (bodyOf Go.Proofs.Tryz.f238) [1, 1, 1, 1, 0, 1, 0, 0, 1, 0, 0, 0, 1, 1, 1])]) (by kernel_rfl) ⟨z3o k, trivial⟩) fun x Q R h => by
    simp only [S_l4Cut_c16, optK_bind, optK_bif, optK_pure, optK_none, optK_oc, optK_guardT, optK_map] at h
    refine hold_of h ?_
    kernel_rfl
def z3t (x : (List UInt8) × Int × Int × Bool × Int × (List (List UInt8)) × Unit) (o : Int × Bool × Int × (List (List UInt8))) (Q : Ex → VSt D → Prop) (R : VR D → Prop) : Prop := Q .normal (mkSt ⟨[(0, .hole), (1, .hole), (5, .ref 500005), (6, .hole), (7, .hole), (8, .hole)], [(500005, .row)]⟩ [.str x.1, .int .u8 x.2.1, .int .i64 o.1, .bool o.2.1, .int .i64 o.2.2.1, .sl 9 o.2.2.2])
def z3u (k : Nat) : Cut D := cutS ⟨[(0, .hole), (1, .hole), (5, .ref 500005), (6, .hole), (7, .hole), (8, .hole)], [(500005, .row)]⟩ [.ks, .ki .u8, .ki .i64, .kb, .ki .i64, .kl 9] (fun (x : (List UInt8) × Int × Int × Bool × Int × (List (List UInt8)) × Unit) => S_l4Cut_b2 k x.1 x.2.1 x.2.2.1 x.2.2.2.1 x.2.2.2.2.1 x.2.2.2.2.2.1) z3t
def z3v (k : Nat) : Cuts D := ⟨[], [(16, some (z3q k))]⟩
theorem z3w (k : Nat) : CutFor X z3e k Go.Proofs.Tryz.f238.results.toList (z3u k) (sub (bodyOf Go.Proofs.Tryz.f238) [1, 1, 1, 1, 0, 1, 0, 0, 1, 0, 0]) :=
  joinCut_s (X := X) (sg := [.ks, .ki .u8, .ki .i64, .kb, .ki .i64, .kl 9]) (cu := z3v k) (cl := z3f k) (tys := [[9]]) (z3g k) (cutOK_of (l := [(z3q k, sub (bodyOf Go.Proofs.Tryz.f238) [1, 1, 1, 1, 0, 1, 0, 0, 1, 0, 0, 0, 1])]) (by kernel_rfl) ⟨z3s k, trivial⟩) fun x Q R h => by
    simp only [S_l4Cut_b2, optK_bind, optK_bif, optK_pure, optK_none, optK_oc, optK_guardT, optK_map] at h
    refine hold_of h ?_
    kernel_rfl
def z3x (x : (List UInt8) × Int × Int × Bool × Int × (List (List UInt8)) × Unit) (o : Int × Bool × Int × (List (List UInt8))) (Q : Ex → VSt D → Prop) (R : VR D → Prop) : Prop := Q .normal (mkSt ⟨[(0, .hole), (1, .hole), (5, .ref 500005), (6, .hole), (7, .hole), (8, .hole)], [(500005, .row)]⟩ [.str x.1, .int .u8 x.2.1, .int .i64 o.1, .bool o.2.1, .int .i64 o.2.2.1, .sl 9 o.2.2.2])
def z3y (k : Nat) : Cut D := cutS ⟨[(0, .hole), (1, .hole), (5, .ref 500005), (6, .hole), (7, .hole), (8, .hole)], [(500005, .row)]⟩ [.ks, .ki .u8, .ki .i64, .kb, .ki .i64, .kl 9] (fun (x : (List UInt8) × Int × Int × Bool × Int × (List (List UInt8)) × Unit) => S_l4Cut_b1 k x.1 x.2.1 x.2.2.1 x.2.2.2.1 x.2.2.2.2.1 x.2.2.2.2.2.1) z3x
def z3z (k : Nat) : Cuts D := ⟨[(2, some (z3u k))], []⟩
theorem z40 (k : Nat) : CutFor X z3e k Go.Proofs.Tryz.f238.results.toList (z3y k) (sub (bodyOf Go.Proofs.Tryz.f238) [1, 1, 1, 1, 0, 1, 0, 0, 1, 0]) :=
  joinCut_s (X := X) (sg := [.ks, .ki .u8, .ki .i64, .kb, .ki .i64, .kl 9]) (cu := z3z k) (cl := z3f k) (tys := [[9]]) (z3g k) (cutOK_of (l := [(z3u k, sub (bodyOf Go.Proofs.Tryz.f238) [1, 1, 1, 1, 0, 1, 0, 0, 1, 0, 0])]) (by kernel_rfl) ⟨z3w k, trivial⟩) fun x Q R h => by
    simp only [S_l4Cut_b1, optK_bind, optK_bif, optK_pure, optK_none, optK_oc, optK_guardT, optK_map] at h
    refine hold_of h ?_
    kernel_rfl
def z41 (x : (List UInt8) × Int × Int × Bool × Int × (List (List UInt8)) × Unit) (o : Int × (List (List UInt8))) (Q : Ex → VSt D → Prop) (R : VR D → Prop) : Prop := Q .normal (mkSt ⟨[(0, .hole), (5, .ref 500005), (6, .hole)], [(500005, .row)]⟩ [.str x.1, .int .i64 o.1, .sl 9 o.2])
def z42 (k : Nat) : Cut D := cutS ⟨[(0, .hole), (1, .hole), (5, .ref 500005), (6, .hole), (7, .hole), (8, .hole)], [(500005, .row)]⟩ [.ks, .ki .u8, .ki .i64, .kb, .ki .i64, .kl 9] (fun (x : (List UInt8) × Int × Int × Bool × Int × (List (List UInt8)) × Unit) => S_l4Cut_b0 k k x.1 x.2.1 x.2.2.1 x.2.2.2.1 x.2.2.2.2.1 x.2.2.2.2.2.1) z41
def z43 (k : Nat) : Cuts D := ⟨[(1, some (z3y k))], []⟩
theorem z44 (k : Nat) : CutFor X z3e k Go.Proofs.Tryz.f238.results.toList (z42 k) (sub (bodyOf Go.Proofs.Tryz.f238) [1, 1, 1, 1, 0, 1]) :=
  loopCut_s (X := X) (sg := [.ks, .ki .u8, .ki .i64, .kb, .ki .i64, .kl 9]) (cu := z43 k) (cl := z3f k) (tys := [[9]]) (id := 0) (c := sub (bodyOf Go.Proofs.Tryz.f238) [1, 1, 1, 1, 0, 1, 0, 0]) (f := fun n => fun (x : (List UInt8) × Int × Int × Bool × Int × (List (List UInt8)) × Unit) => S_l4Cut_b0 k n x.1 x.2.1 x.2.2.1 x.2.2.2.1 x.2.2.2.2.1 x.2.2.2.2.2.1) (z3g k) (cutOK_of (l := [(z3y k, sub (bodyOf Go.Proofs.Tryz.f238) [1, 1, 1, 1, 0, 1, 0, 0, 1, 0])]) (by kernel_rfl) ⟨z40 k, trivial⟩) (fun _ => rfl) (fun n x Q R h => by
    simp only [S_l4Cut_b0, optK_bind, optK_bif, optK_pure, optK_none, optK_oc, optK_guardT, optK_map] at h
    refine hold_of h ?_
    kernel_rfl) (by kernel_rfl)
def z45 (k : Nat) : Cuts D := ⟨[(0, some (z42 k))], []⟩
def z46 : List Ar := [.c (.ks), .c (.ki .u8)]
def z47 (k : Nat) (x : TupA D z46) : Option ((List (List UInt8))) := S_l4Cut k x.1 x.2.1
def z48 (r : (List (List UInt8))) : VR D := .p (.c (.sl 9 r))
theorem z49 (k : Nat) : Does P X 238 z46 (z47 k) z48 :=
  does_of (body := bodyOf Go.Proofs.Tryz.f238) (pl := z3e) (k := k) (cu := z45 k) (tys := [[9]]) (z3g k) ctx mixed Go.Proofs.Tryz.func238 (by kernel_rfl) (by kernel_rfl) (cutOK_of (l := [(z42 k, sub (bodyOf Go.Proofs.Tryz.f238) [1, 1, 1, 1, 0, 1])]) (by kernel_rfl) ⟨z44 k, trivial⟩) fun x R h => by
    simp only [z47, S_l4Cut, optK_bind, optK_bif, optK_pure, optK_none, optK_oc, optK_guardT, optK_map] at h
    refine hold_of h ?_
    kernel_rfl
def z4a (k : Nat) : Entry D := entS z46 (z47 k) z48
theorem z4b (k : Nat) : EntryOK X 238 (z4a k) := (z49 k).en rfl
def z4c : Plan := ⟨[(0, [(0, none)]), (1, [(2, none)])],
  [],
  []⟩
def z4d (k : Nat) : Calls' D := ⟨[], [], [], [], []⟩
theorem z4e (k : Nat) : CallsOK X (z4d k) := .nil cod
def z4f (k : Nat) : Cuts D := ⟨[], []⟩
def z4g : List Ar := [.c (.ki .u8)]
def z4h (k : Nat) (x : TupA D z4g) : Option (Bool) := S_l4Blank k x.1
def z4i (r : Bool) : VR D := .p (.c (.bool r))
theorem z4j (k : Nat) : Does P X 223 z4g (z4h k) z4i :=
  does_of (body := bodyOf Go.Proofs.Tryz.f223) (pl := z4c) (k := k) (cu := z4f k) (tys := [[0]]) (z4e k) ctx mixed Go.Proofs.Tryz.func223 (by kernel_rfl) (by kernel_rfl) (cutOK_of (l := []) (by kernel_rfl) trivial) fun x R h => by
    simp only [z4h, S_l4Blank, optK_bind, optK_bif, optK_pure, optK_none, optK_oc, optK_guardT, optK_map] at h
    refine hold_of h ?_
    kernel_rfl
def z4k (k : Nat) : Entry D := entS z4g (z4h k) z4i
theorem z4l (k : Nat) : EntryOK X 223 (z4k k) := (z4j k).en rfl
def z4m : Plan := ⟨[(0, [(0, none)]), (1, [(0, none), (10, none)]), (2, [(0, none)]), (3, [(0, none), (23, none)]), (4, [(0, none)]), (5, [(2, none)])],
  [(0, [(0, none)]), (1, [(0, none)]), (2, [(0, none)]), (3, [(0, none)])],
  [(10, ([(0, none)], [(0, none)])), (23, ([(0, none)], [(0, none)]))]⟩
def z4n (k : Nat) : Calls' D := ⟨[(223, z4k k)], [], [], [], []⟩
theorem z4o (k : Nat) : CallsOK X (z4n k) := .cons (z4l k) (.nil cod)
def z4p (x : (List UInt8) × Unit) (o : (List UInt8)) (Q : Ex → VSt D → Prop) (R : VR D → Prop) : Prop := Q .normal (mkSt ⟨[(0, .hole)], []⟩ [.str o])
def z4q (k : Nat) : Cut D := cutS ⟨[(0, .hole)], []⟩ [.ks] (fun (x : (List UInt8) × Unit) => S_TrimText_b0 k k x.1) z4p
def z4r (k : Nat) : Cuts D := ⟨[], []⟩
theorem z4s (k : Nat) : CutFor X z4m k Go.Proofs.Tryz.f159.results.toList (z4q k) (sub (bodyOf Go.Proofs.Tryz.f159) [1, 0]) :=
  loopCut_s (X := X) (sg := [.ks]) (cu := z4r k) (cl := z4n k) (tys := [[0]]) (id := 0) (c := sub (bodyOf Go.Proofs.Tryz.f159) [1, 0, 0, 0]) (f := fun n => fun (x : (List UInt8) × Unit) => S_TrimText_b0 k n x.1) (z4o k) (cutOK_of (l := []) (by kernel_rfl) trivial) (fun _ => rfl) (fun n x Q R h => by
    simp only [S_TrimText_b0, optK_bind, optK_bif, optK_pure, optK_none, optK_oc, optK_guardT, optK_map] at h
    refine hold_of h ?_
    kernel_rfl) (by kernel_rfl)
def z4t (x : (List UInt8) × Unit) (o : (List UInt8)) (Q : Ex → VSt D → Prop) (R : VR D → Prop) : Prop := Q .normal (mkSt ⟨[(0, .hole)], []⟩ [.str o])
def z4u (k : Nat) : Cut D := cutS ⟨[(0, .hole)], []⟩ [.ks] (fun (x : (List UInt8) × Unit) => S_TrimText_b2 k k x.1) z4t
def z4v (k : Nat) : Cuts D := ⟨[], []⟩
theorem z4w (k : Nat) : CutFor X z4m k Go.Proofs.Tryz.f159.results.toList (z4u k) (sub (bodyOf Go.Proofs.Tryz.f159) [1, 1, 0]) :=
  loopCut_s (X := X) (sg := [.ks]) (cu := z4v k) (cl := z4n k) (tys := [[0]]) (id := 2) (c := sub (bodyOf Go.Proofs.Tryz.f159) [1, 1, 0, 0, 0]) (f := fun n => fun (x : (List UInt8) × Unit) => S_TrimText_b2 k n x.1) (z4o k) (cutOK_of (l := []) (by kernel_rfl) trivial) (fun _ => rfl) (fun n x Q R h => by
    simp only [S_TrimText_b2, optK_bind, optK_bif, optK_pure, optK_none, optK_oc, optK_guardT, optK_map] at h
    refine hold_of h ?_
    kernel_rfl) (by kernel_rfl)
def z4x (k : Nat) : Cuts D := ⟨[(0, some (z4q k)), (2, some (z4u k))], []⟩
def z4y : List Ar := [.c (.ks)]
def z4z (k : Nat) (x : TupA D z4y) : Option ((List UInt8)) := S_TrimText k x.1
def z50 (r : (List UInt8)) : VR D := .p (.c (.str r))
theorem z51 (k : Nat) : Does P X 159 z4y (z4z k) z50 :=
  does_of (body := bodyOf Go.Proofs.Tryz.f159) (pl := z4m) (k := k) (cu := z4x k) (tys := [[0]]) (z4o k) ctx mixed Go.Proofs.Tryz.func159 (by kernel_rfl) (by kernel_rfl) (cutOK_of (l := [(z4q k, sub (bodyOf Go.Proofs.Tryz.f159) [1, 0]), (z4u k, sub (bodyOf Go.Proofs.Tryz.f159) [1, 1, 0])]) (by kernel_rfl) ⟨z4s k, z4w k, trivial⟩) fun x R h => by
    simp only [z4z, S_TrimText, optK_bind, optK_bif, optK_pure, optK_none, optK_oc, optK_guardT, optK_map] at h
    refine hold_of h ?_
    kernel_rfl
def z52 (k : Nat) : Entry D := entS z4y (z4z k) z50
theorem z53 (k : Nat) : EntryOK X 159 (z52 k) := (z51 k).en rfl
def z54 : Plan := ⟨[(0, [(0, none)]), (1, [(3, some 9)]), (2, [(3, some 9), (4, some 9)]), (3, [(3, some 9), (4, some 9), (5, none)]), (4, [(3, some 9), (4, some 9), (5, none), (13, none)]), (5, [(3, some 9), (4, some 9), (5, none)]), (6, [(3, some 9), (4, some 9), (5, none), (6, none)]), (7, [(3, some 9), (4, some 9), (5, none), (6, none), (22, none)]), (8, [(3, some 9), (4, some 9), (5, none)]), (9, [(2, some 9)])],
  [(0, [(4, some 9)]), (1, [(3, some 9), (4, some 9), (5, none)])],
  [(13, ([(3, some 9), (4, some 9), (5, none)], [(4, some 9)])), (22, ([(3, some 9), (4, some 9), (5, none), (6, none)], [(3, some 9), (4, some 9), (5, none)]))]⟩
def z55 (k : Nat) : Calls' D := ⟨[(238, z4a k), (159, z52 k)], [], [], [], []⟩
theorem z56 (k : Nat) : CallsOK X (z55 k) := .cons (z4b k) (.cons (z53 k) (.nil cod))
def z57 (x : Int × (List UInt8) × Bool × (List (List UInt8)) × (List (List UInt8)) × Unit) (o : (List (List UInt8))) (Q : Ex → VSt D → Prop) (R : VR D → Prop) : Prop := Q .normal (mkSt ⟨[(3, .ref 500003), (4, .ref 500004), (5, .hole)], [(500003, .row), (500004, .row)]⟩ [.int .i64 x.1, .sl 9 x.2.2.2.1, .sl 9 o])
def z58 (k : Nat) : Cut D := cutS ⟨[(3, .ref 500003), (4, .ref 500004), (5, .hole), (6, .hole), (22, .hole)], [(500003, .row), (500004, .row)]⟩ [.ki .i64, .ks, .kb, .kl 9, .kl 9] (fun (x : Int × (List UInt8) × Bool × (List (List UInt8)) × (List (List UInt8)) × Unit) => S_SplitList_c22 k x.1 x.2.1 x.2.2.1 x.2.2.2.1 x.2.2.2.2.1) z57
def z59 (k : Nat) : Cuts D := ⟨[], []⟩
theorem z5a (k : Nat) : CutFor X z54 k Go.Proofs.Tryz.f193.results.toList (z58 k) (sub (bodyOf Go.Proofs.Tryz.f193) [1, 1, 1, 0, 1, 0, 0, 1, 0, 0, 1, 1]) :=
  joinCut_s (X := X) (sg := [.ki .i64, .ks, .kb, .kl 9, .kl 9]) (cu := z59 k) (cl := z55 k) (tys := [[9]]) (z56 k) (cutOK_of (l := []) (by kernel_rfl) trivial) fun x Q R h => by
    simp only [S_SplitList_c22, optK_bind, optK_bif, optK_pure, optK_none, optK_oc, optK_guardT, optK_map] at h
    refine hold_of h ?_
    kernel_rfl
def z5b (x : Int × (List (List UInt8)) × (List (List UInt8)) × Unit) (o : (List (List UInt8))) (Q : Ex → VSt D → Prop) (R : VR D → Prop) : Prop := Q .normal (mkSt ⟨[(3, .ref 500003), (4, .ref 500004), (5, .hole)], [(500003, .row), (500004, .row)]⟩ [.int .i64 x.1, .sl 9 x.2.1, .sl 9 o])
def z5c (k : Nat) : Cut D := cutS ⟨[(3, .ref 500003), (4, .ref 500004), (5, .hole)], [(500003, .row), (500004, .row)]⟩ [.ki .i64, .kl 9, .kl 9] (fun (x : Int × (List (List UInt8)) × (List (List UInt8)) × Unit) => S_SplitList_b1 k x.1 x.2.1 x.2.2.1) z5b
def z5d (k : Nat) : Cuts D := ⟨[], [(22, some (z58 k))]⟩
theorem z5e (k : Nat) : CutFor X z54 k Go.Proofs.Tryz.f193.results.toList (z5c k) (sub (bodyOf Go.Proofs.Tryz.f193) [1, 1, 1, 0, 1, 0, 0, 1, 0]) :=
  joinCut_s (X := X) (sg := [.ki .i64, .kl 9, .kl 9]) (cu := z5d k) (cl := z55 k) (tys := [[9]]) (z56 k) (cutOK_of (l := [(z58 k, sub (bodyOf Go.Proofs.Tryz.f193) [1, 1, 1, 0, 1, 0, 0, 1, 0, 0, 1, 1])]) (by kernel_rfl) ⟨z5a k, trivial⟩) fun x Q R h => by
    simp only [S_SplitList_b1, optK_bind, optK_bif, optK_pure, optK_none, optK_oc, optK_guardT, optK_map] at h
    refine hold_of h ?_
    kernel_rfl
def z5f (x : Int × (List (List UInt8)) × (List (List UInt8)) × Unit) (o : (List (List UInt8))) (Q : Ex → VSt D → Prop) (R : VR D → Prop) : Prop := Q .normal (mkSt ⟨[(4, .ref 500004)], [(500004, .row)]⟩ [.sl 9 o])
def z5g (k : Nat) : Cut D := cutS ⟨[(3, .ref 500003), (4, .ref 500004), (5, .hole)], [(500003, .row), (500004, .row)]⟩ [.ki .i64, .kl 9, .kl 9] (fun (x : Int × (List (List UInt8)) × (List (List UInt8)) × Unit) => S_SplitList_b0 k k x.1 x.2.1 x.2.2.1) z5f
def z5h (k : Nat) : Cuts D := ⟨[(1, some (z5c k))], []⟩
theorem z5i (k : Nat) : CutFor X z54 k Go.Proofs.Tryz.f193.results.toList (z5g k) (sub (bodyOf Go.Proofs.Tryz.f193) [1, 1, 1, 0, 1]) :=
  loopCut_s (X := X) (sg := [.ki .i64, .kl 9, .kl 9]) (cu := z5h k) (cl := z55 k) (tys := [[9]]) (id := 0) (c := sub (bodyOf Go.Proofs.Tryz.f193) [1, 1, 1, 0, 1, 0, 0]) (f := fun n => fun (x : Int × (List (List UInt8)) × (List (List UInt8)) × Unit) => S_SplitList_b0 k n x.1 x.2.1 x.2.2.1) (z56 k) (cutOK_of (l := [(z5c k, sub (bodyOf Go.Proofs.Tryz.f193) [1, 1, 1, 0, 1, 0, 0, 1, 0])]) (by kernel_rfl) ⟨z5e k, trivial⟩) (fun _ => rfl) (fun n x Q R h => by
    simp only [S_SplitList_b0, optK_bind, optK_bif, optK_pure, optK_none, optK_oc, optK_guardT, optK_map] at h
    refine hold_of h ?_
    kernel_rfl) (by kernel_rfl)
def z5j (k : Nat) : Cuts D := ⟨[(0, some (z5g k))], []⟩
def z5k : List Ar := [.c (.ks)]
def z5l (k : Nat) (x : TupA D z5k) : Option ((List (List UInt8))) := S_SplitList k x.1
def z5m (r : (List (List UInt8))) : VR D := .p (.c (.sl 9 r))
theorem z5n (k : Nat) : Does P X 193 z5k (z5l k) z5m :=
  does_of (body := bodyOf Go.Proofs.Tryz.f193) (pl := z54) (k := k) (cu := z5j k) (tys := [[9]]) (z56 k) ctx mixed Go.Proofs.Tryz.func193 (by kernel_rfl) (by kernel_rfl) (cutOK_of (l := [(z5g k, sub (bodyOf Go.Proofs.Tryz.f193) [1, 1, 1, 0, 1])]) (by kernel_rfl) ⟨z5i k, trivial⟩) fun x R h => by
    simp only [z5l, S_SplitList, optK_bind, optK_bif, optK_pure, optK_none, optK_oc, optK_guardT, optK_map] at h
    refine hold_of h ?_
    kernel_rfl
def z5o (k : Nat) : Entry D := entS z5k (z5l k) z5m
theorem z5p (k : Nat) : EntryOK X 193 (z5o k) := (z5n k).en rfl
def z5q : Plan := ⟨[(0, [(0, none)]), (1, [(0, none), (5, none)]), (2, [(0, none), (5, none), (9, none)]), (3, [(0, none), (5, none)]), (4, [(0, none), (5, none), (15, none)]), (5, [(2, none), (3, none), (4, none)]), (6, [(2, none), (3, none), (4, none)])],
  [(0, [(0, none)]), (1, [(0, none), (5, none)])],
  [(9, ([(0, none), (5, none)], [(0, none)])), (15, ([(0, none), (5, none)], [(0, none), (5, none)]))]⟩
def z5r (k : Nat) : Calls' D := ⟨[(159, z52 k)], [], [], [], []⟩
theorem z5s (k : Nat) : CallsOK X (z5r k) := .cons (z53 k) (.nil cod)
def z5t (x : (List UInt8) × Int × Unit) (o : Oc (Unit) ((List UInt8) × (List UInt8) × Bool)) (Q : Ex → VSt D → Prop) (R : VR D → Prop) : Prop := ocP o (fun v0 => Q .normal (mkSt ⟨[(0, .hole)], []⟩ [.str x.1])) (fun w0 => R (.tup [.c (.str w0.1), .c (.str w0.2.1), .c (.bool w0.2.2)]))
def z5u (k : Nat) : Cut D := cutS ⟨[(0, .hole), (5, .hole)], []⟩ [.ks, .ki .i64] (fun (x : (List UInt8) × Int × Unit) => S_SplitPair_b0 k k x.1 x.2.1) z5t
def z5v (k : Nat) : Cuts D := ⟨[], []⟩
theorem z5w (k : Nat) : CutFor X z5q k Go.Proofs.Tryz.f194.results.toList (z5u k) (sub (bodyOf Go.Proofs.Tryz.f194) [1, 0, 1]) :=
  loopCut_s (X := X) (sg := [.ks, .ki .i64]) (cu := z5v k) (cl := z5r k) (tys := [[0], [0], [0]]) (id := 0) (c := sub (bodyOf Go.Proofs.Tryz.f194) [1, 0, 1, 0, 0]) (f := fun n => fun (x : (List UInt8) × Int × Unit) => S_SplitPair_b0 k n x.1 x.2.1) (z5s k) (cutOK_of (l := []) (by kernel_rfl) trivial) (fun _ => rfl) (fun n x Q R h => by
    simp only [S_SplitPair_b0, optK_bind, optK_bif, optK_pure, optK_none, optK_oc, optK_guardT, optK_map] at h
    refine hold_of h ?_
    kernel_rfl) (by kernel_rfl)
def z5x (k : Nat) : Cuts D := ⟨[(0, some (z5u k))], []⟩
def z5y : List Ar := [.c (.ks)]
def z5z (k : Nat) (x : TupA D z5y) : Option ((List UInt8) × (List UInt8) × Bool) := S_SplitPair k x.1
def z60 (r : (List UInt8) × (List UInt8) × Bool) : VR D := .tup [.c (.str r.1), .c (.str r.2.1), .c (.bool r.2.2)]
theorem z61 (k : Nat) : Does P X 194 z5y (z5z k) z60 :=
  does_of (body := bodyOf Go.Proofs.Tryz.f194) (pl := z5q) (k := k) (cu := z5x k) (tys := [[0], [0], [0]]) (z5s k) ctx mixed Go.Proofs.Tryz.func194 (by kernel_rfl) (by kernel_rfl) (cutOK_of (l := [(z5u k, sub (bodyOf Go.Proofs.Tryz.f194) [1, 0, 1])]) (by kernel_rfl) ⟨z5w k, trivial⟩) fun x R h => by
    simp only [z5z, S_SplitPair, optK_bind, optK_bif, optK_pure, optK_none, optK_oc, optK_guardT, optK_map] at h
    refine hold_of h ?_
    kernel_rfl
def z62 (k : Nat) : Entry D := entS z5y (z5z k) z60
theorem z63 (k : Nat) : EntryOK X 194 (z62 k) := (z61 k).en rfl
def z64 : Plan := ⟨[(0, [(0, none), (1, none), (2, none)]), (1, [(6, none)])],
  [],
  []⟩
def z65 (k : Nat) : Calls' D := ⟨[], [], [], [], []⟩
theorem z66 (k : Nat) : CallsOK X (z65 k) := .nil cod
def z67 (k : Nat) : Cuts D := ⟨[], []⟩
def z68 : List Ar := [.c (.ki .i64), .c (.ki .i64), .c (.ki .i64)]
def z69 (k : Nat) (x : TupA D z68) : Option (Bool) := S_l1In k x.1 x.2.1 x.2.2.1
def z6a (r : Bool) : VR D := .p (.c (.bool r))
theorem z6b (k : Nat) : Does P X 78 z68 (z69 k) z6a :=
  does_of (body := bodyOf Go.Proofs.Tryz.f78) (pl := z64) (k := k) (cu := z67 k) (tys := [[0]]) (z66 k) ctx mixed Go.Proofs.Tryz.func78 (by kernel_rfl) (by kernel_rfl) (cutOK_of (l := []) (by kernel_rfl) trivial) fun x R h => by
    simp only [z69, S_l1In, optK_bind, optK_bif, optK_pure, optK_none, optK_oc, optK_guardT, optK_map] at h
    refine hold_of h ?_
    kernel_rfl
def z6c (k : Nat) : Entry D := entS z68 (z69 k) z6a
theorem z6d (k : Nat) : EntryOK X 78 (z6c k) := (z6b k).en rfl
def z6e : Plan := ⟨[(0, [(0, none)]), (1, [(3, some 5)]), (2, [(3, some 5), (4, none)]), (3, [(3, some 5), (4, none), (10, none)]), (4, [(3, some 5), (4, none)]), (5, [(3, some 5), (4, none), (18, none)]), (6, [(3, some 5), (4, none)]), (7, [(2, none)])],
  [(0, [(3, some 5)]), (1, [(3, some 5), (4, none)])],
  [(10, ([(3, some 5), (4, none)], [(3, some 5)])), (18, ([(3, some 5), (4, none)], [(3, some 5), (4, none)]))]⟩
def z6f (k : Nat) : Calls' D := ⟨[(78, z6c k)], [], [], [], []⟩
theorem z6g (k : Nat) : CallsOK X (z6f k) := .cons (z6d k) (.nil cod)
def z6h (x : Int × Bool × (List Int) × Unit) (o : (List Int)) (Q : Ex → VSt D → Prop) (R : VR D → Prop) : Prop := Q .normal (mkSt ⟨[(3, .ref 500003), (4, .hole)], [(500003, .row)]⟩ [.int .i64 x.1, .sl 5 o])
def z6i (k : Nat) : Cut D := cutS ⟨[(3, .ref 500003), (4, .hole), (18, .hole)], [(500003, .row)]⟩ [.ki .i64, .kb, .kl 5] (fun (x : Int × Bool × (List Int) × Unit) => S_LowerText_c18 k x.1 x.2.1 x.2.2.1) z6h
def z6j (k : Nat) : Cuts D := ⟨[], []⟩
theorem z6k (k : Nat) : CutFor X z6e k Go.Proofs.Tryz.f158.results.toList (z6i k) (sub (bodyOf Go.Proofs.Tryz.f158) [1, 1, 0, 1, 0, 0, 1, 0, 0, 1]) :=
  joinCut_s (X := X) (sg := [.ki .i64, .kb, .kl 5]) (cu := z6j k) (cl := z6f k) (tys := [[0]]) (z6g k) (cutOK_of (l := []) (by kernel_rfl) trivial) fun x Q R h => by
    simp only [S_LowerText_c18, optK_bind, optK_bif, optK_pure, optK_none, optK_oc, optK_guardT, optK_map] at h
    refine hold_of h ?_
    kernel_rfl
def z6l (x : Int × (List Int) × Unit) (o : (List Int)) (Q : Ex → VSt D → Prop) (R : VR D → Prop) : Prop := Q .normal (mkSt ⟨[(3, .ref 500003), (4, .hole)], [(500003, .row)]⟩ [.int .i64 x.1, .sl 5 o])
def z6m (k : Nat) : Cut D := cutS ⟨[(3, .ref 500003), (4, .hole)], [(500003, .row)]⟩ [.ki .i64, .kl 5] (fun (x : Int × (List Int) × Unit) => S_LowerText_b1 k x.1 x.2.1) z6l
def z6n (k : Nat) : Cuts D := ⟨[], [(18, some (z6i k))]⟩
theorem z6o (k : Nat) : CutFor X z6e k Go.Proofs.Tryz.f158.results.toList (z6m k) (sub (bodyOf Go.Proofs.Tryz.f158) [1, 1, 0, 1, 0, 0, 1, 0]) :=
  joinCut_s (X := X) (sg := [.ki .i64, .kl 5]) (cu := z6n k) (cl := z6f k) (tys := [[0]]) (z6g k) (cutOK_of (l := [(z6i k, sub (bodyOf Go.Proofs.Tryz.f158) [1, 1, 0, 1, 0, 0, 1, 0, 0, 1])]) (by kernel_rfl) ⟨z6k k, trivial⟩) fun x Q R h => by
    simp only [S_LowerText_b1, optK_bind, optK_bif, optK_pure, optK_none, optK_oc, optK_guardT, optK_map] at h
    refine hold_of h ?_
    kernel_rfl
def z6p (x : Int × (List Int) × Unit) (o : (List Int)) (Q : Ex → VSt D → Prop) (R : VR D → Prop) : Prop := Q .normal (mkSt ⟨[(3, .ref 500003)], [(500003, .row)]⟩ [.sl 5 o])
def z6q (k : Nat) : Cut D := cutS ⟨[(3, .ref 500003), (4, .hole)], [(500003, .row)]⟩ [.ki .i64, .kl 5] (fun (x : Int × (List Int) × Unit) => S_LowerText_b0 k k x.1 x.2.1) z6p
def z6r (k : Nat) : Cuts D := ⟨[(1, some (z6m k))], []⟩
theorem z6s (k : Nat) : CutFor X z6e k Go.Proofs.Tryz.f158.results.toList (z6q k) (sub (bodyOf Go.Proofs.Tryz.f158) [1, 1, 0, 1]) :=
  loopCut_s (X := X) (sg := [.ki .i64, .kl 5]) (cu := z6r k) (cl := z6f k) (tys := [[0]]) (id := 0) (c := sub (bodyOf Go.Proofs.Tryz.f158) [1, 1, 0, 1, 0, 0]) (f := fun n => fun (x : Int × (List Int) × Unit) => S_LowerText_b0 k n x.1 x.2.1) (z6g k) (cutOK_of (l := [(z6m k, sub (bodyOf Go.Proofs.Tryz.f158) [1, 1, 0, 1, 0, 0, 1, 0])]) (by kernel_rfl) ⟨z6o k, trivial⟩) (fun _ => rfl) (fun n x Q R h => by
    simp only [S_LowerText_b0, optK_bind, optK_bif, optK_pure, optK_none, optK_oc, optK_guardT, optK_map] at h
    refine hold_of h ?_
    kernel_rfl) (by kernel_rfl)
def z6t (k : Nat) : Cuts D := ⟨[(0, some (z6q k))], []⟩
def z6u : List Ar := [.c (.ks)]
def z6v (k : Nat) (x : TupA D z6u) : Option ((List UInt8)) := S_LowerText k x.1
def z6w (r : (List UInt8)) : VR D := .p (.c (.str r))
theorem z6x (k : Nat) : Does P X 158 z6u (z6v k) z6w :=
  does_of (body := bodyOf Go.Proofs.Tryz.f158) (pl := z6e) (k := k) (cu := z6t k) (tys := [[0]]) (z6g k) ctx mixed Go.Proofs.Tryz.func158 (by kernel_rfl) (by kernel_rfl) (cutOK_of (l := [(z6q k, sub (bodyOf Go.Proofs.Tryz.f158) [1, 1, 0, 1])]) (by kernel_rfl) ⟨z6s k, trivial⟩) fun x R h => by
    simp only [z6v, S_LowerText, optK_bind, optK_bif, optK_pure, optK_none, optK_oc, optK_guardT, optK_map] at h
    refine hold_of h ?_
    kernel_rfl
def z6y (k : Nat) : Entry D := entS z6u (z6v k) z6w
theorem z6z (k : Nat) : EntryOK X 158 (z6y k) := (z6x k).en rfl
def z70 : Plan := ⟨[(0, [(0, none)]), (1, [(0, none), (4, some 5)]), (2, [(0, none), (4, some 5), (5, none)]), (3, [(0, none), (4, some 5), (5, none), (10, none)]), (4, [(0, none), (4, some 5), (5, none)]), (5, [(0, none), (4, some 5), (5, none)]), (6, [(0, none), (4, some 5), (5, none), (19, none)]), (7, [(2, none), (3, none)]), (8, [(0, none), (4, some 5), (5, none), (36, none)]), (9, [(0, none), (4, some 5), (5, none)]), (10, [(0, none), (4, some 5), (5, none)]), (11, [(2, none), (3, none)])],
  [(0, [(4, some 5)]), (1, [(0, none), (4, some 5), (5, none)]), (2, [(0, none), (4, some 5), (5, none)])],
  [(10, ([(0, none), (4, some 5), (5, none)], [(4, some 5)])), (19, ([(0, none), (4, some 5), (5, none)], [(0, none), (4, some 5), (5, none)])), (36, ([(0, none), (4, some 5), (5, none)], [(0, none), (4, some 5), (5, none)]))]⟩
def z71 (k : Nat) : Calls' D := ⟨[], [], [], [], []⟩
theorem z72 (k : Nat) : CallsOK X (z71 k) := .nil cod
def z73 (x : (List UInt8) × Int × Bool × (List Int) × Unit) (o : Int × (List Int)) (Q : Ex → VSt D → Prop) (R : VR D → Prop) : Prop := Q .normal (mkSt ⟨[(0, .hole), (4, .ref 500004), (5, .hole)], [(500004, .row)]⟩ [.str x.1, .int .i64 o.1, .sl 5 o.2])
def z74 (k : Nat) : Cut D := cutS ⟨[(0, .hole), (4, .ref 500004), (5, .hole), (36, .hole)], [(500004, .row)]⟩ [.ks, .ki .i64, .kb, .kl 5] (fun (x : (List UInt8) × Int × Bool × (List Int) × Unit) => S_UnquoteText_c36 k x.1 x.2.1 x.2.2.1 x.2.2.2.1) z73
def z75 (k : Nat) : Cuts D := ⟨[], []⟩
theorem z76 (k : Nat) : CutFor X z70 k Go.Proofs.Tryz.f195.results.toList (z74 k) (sub (bodyOf Go.Proofs.Tryz.f195) [1, 1, 0, 1, 0, 0, 1, 0, 0, 0, 1, 1, 1]) :=
  joinCut_s (X := X) (sg := [.ks, .ki .i64, .kb, .kl 5]) (cu := z75 k) (cl := z71 k) (tys := [[0], [0]]) (z72 k) (cutOK_of (l := []) (by kernel_rfl) trivial) fun x Q R h => by
    simp only [S_UnquoteText_c36, optK_bind, optK_bif, optK_pure, optK_none, optK_oc, optK_guardT, optK_map] at h
    refine hold_of h ?_
    kernel_rfl
def z77 (x : (List UInt8) × Int × Bool × (List Int) × Unit) (o : Oc (Int × (List Int)) ((List UInt8) × Bool)) (Q : Ex → VSt D → Prop) (R : VR D → Prop) : Prop := ocP o (fun v0 => Q .normal (mkSt ⟨[(0, .hole), (4, .ref 500004), (5, .hole)], [(500004, .row)]⟩ [.str x.1, .int .i64 v0.1, .sl 5 v0.2])) (fun w0 => R (.tup [.c (.str w0.1), .c (.bool w0.2)]))
def z78 (k : Nat) : Cut D := cutS ⟨[(0, .hole), (4, .ref 500004), (5, .hole), (19, .hole)], [(500004, .row)]⟩ [.ks, .ki .i64, .kb, .kl 5] (fun (x : (List UInt8) × Int × Bool × (List Int) × Unit) => S_UnquoteText_c19 k x.1 x.2.1 x.2.2.1 x.2.2.2.1) z77
def z79 (k : Nat) : Cuts D := ⟨[], [(36, some (z74 k))]⟩
theorem z7a (k : Nat) : CutFor X z70 k Go.Proofs.Tryz.f195.results.toList (z78 k) (sub (bodyOf Go.Proofs.Tryz.f195) [1, 1, 0, 1, 0, 0, 1, 0, 0, 0, 1]) :=
  joinCut_s (X := X) (sg := [.ks, .ki .i64, .kb, .kl 5]) (cu := z79 k) (cl := z71 k) (tys := [[0], [0]]) (z72 k) (cutOK_of (l := [(z74 k, sub (bodyOf Go.Proofs.Tryz.f195) [1, 1, 0, 1, 0, 0, 1, 0, 0, 0, 1, 1, 1])]) (by kernel_rfl) ⟨z76 k, trivial⟩) fun x Q R h => by
    simp only [S_UnquoteText_c19, optK_bind, optK_bif, optK_pure, optK_none, optK_oc, optK_guardT, optK_map] at h
    refine hold_of h ?_
    kernel_rfl
def z7b (x : (List UInt8) × Int × (List Int) × Unit) (o : Oc (Int × (List Int)) ((List UInt8) × Bool)) (Q : Ex → VSt D → Prop) (R : VR D → Prop) : Prop := ocP o (fun v0 => Q .normal (mkSt ⟨[(0, .hole), (4, .ref 500004), (5, .hole)], [(500004, .row)]⟩ [.str x.1, .int .i64 v0.1, .sl 5 v0.2])) (fun w0 => R (.tup [.c (.str w0.1), .c (.bool w0.2)]))
def z7c (k : Nat) : Cut D := cutS ⟨[(0, .hole), (4, .ref 500004), (5, .hole)], [(500004, .row)]⟩ [.ks, .ki .i64, .kl 5] (fun (x : (List UInt8) × Int × (List Int) × Unit) => S_UnquoteText_b2 k x.1 x.2.1 x.2.2.1) z7b
def z7d (k : Nat) : Cuts D := ⟨[], [(19, some (z78 k))]⟩
theorem z7e (k : Nat) : CutFor X z70 k Go.Proofs.Tryz.f195.results.toList (z7c k) (sub (bodyOf Go.Proofs.Tryz.f195) [1, 1, 0, 1, 0, 0, 1, 0, 0]) :=
  joinCut_s (X := X) (sg := [.ks, .ki .i64, .kl 5]) (cu := z7d k) (cl := z71 k) (tys := [[0], [0]]) (z72 k) (cutOK_of (l := [(z78 k, sub (bodyOf Go.Proofs.Tryz.f195) [1, 1, 0, 1, 0, 0, 1, 0, 0, 0, 1])]) (by kernel_rfl) ⟨z7a k, trivial⟩) fun x Q R h => by
    simp only [S_UnquoteText_b2, optK_bind, optK_bif, optK_pure, optK_none, optK_oc, optK_guardT, optK_map] at h
    refine hold_of h ?_
    kernel_rfl
def z7f (x : (List UInt8) × Int × (List Int) × Unit) (o : Oc (Int × (List Int)) ((List UInt8) × Bool)) (Q : Ex → VSt D → Prop) (R : VR D → Prop) : Prop := ocP o (fun v0 => Q .normal (mkSt ⟨[(0, .hole), (4, .ref 500004), (5, .hole)], [(500004, .row)]⟩ [.str x.1, .int .i64 v0.1, .sl 5 v0.2])) (fun w0 => R (.tup [.c (.str w0.1), .c (.bool w0.2)]))
def z7g (k : Nat) : Cut D := cutS ⟨[(0, .hole), (4, .ref 500004), (5, .hole)], [(500004, .row)]⟩ [.ks, .ki .i64, .kl 5] (fun (x : (List UInt8) × Int × (List Int) × Unit) => S_UnquoteText_b1 k x.1 x.2.1 x.2.2.1) z7f
def z7h (k : Nat) : Cuts D := ⟨[(2, some (z7c k))], []⟩
theorem z7i (k : Nat) : CutFor X z70 k Go.Proofs.Tryz.f195.results.toList (z7g k) (sub (bodyOf Go.Proofs.Tryz.f195) [1, 1, 0, 1, 0, 0, 1, 0]) :=
  joinCut_s (X := X) (sg := [.ks, .ki .i64, .kl 5]) (cu := z7h k) (cl := z71 k) (tys := [[0], [0]]) (z72 k) (cutOK_of (l := [(z7c k, sub (bodyOf Go.Proofs.Tryz.f195) [1, 1, 0, 1, 0, 0, 1, 0, 0])]) (by kernel_rfl) ⟨z7e k, trivial⟩) fun x Q R h => by
    simp only [S_UnquoteText_b1, optK_bind, optK_bif, optK_pure, optK_none, optK_oc, optK_guardT, optK_map] at h
    refine hold_of h ?_
    kernel_rfl
def z7j (x : (List UInt8) × Int × (List Int) × Unit) (o : Oc ((List Int)) ((List UInt8) × Bool)) (Q : Ex → VSt D → Prop) (R : VR D → Prop) : Prop := ocP o (fun v0 => Q .normal (mkSt ⟨[(4, .ref 500004)], [(500004, .row)]⟩ [.sl 5 v0])) (fun w0 => R (.tup [.c (.str w0.1), .c (.bool w0.2)]))
def z7k (k : Nat) : Cut D := cutS ⟨[(0, .hole), (4, .ref 500004), (5, .hole)], [(500004, .row)]⟩ [.ks, .ki .i64, .kl 5] (fun (x : (List UInt8) × Int × (List Int) × Unit) => S_UnquoteText_b0 k k x.1 x.2.1 x.2.2.1) z7j
def z7l (k : Nat) : Cuts D := ⟨[(1, some (z7g k))], []⟩
theorem z7m (k : Nat) : CutFor X z70 k Go.Proofs.Tryz.f195.results.toList (z7k k) (sub (bodyOf Go.Proofs.Tryz.f195) [1, 1, 0, 1]) :=
  loopCut_s (X := X) (sg := [.ks, .ki .i64, .kl 5]) (cu := z7l k) (cl := z71 k) (tys := [[0], [0]]) (id := 0) (c := sub (bodyOf Go.Proofs.Tryz.f195) [1, 1, 0, 1, 0, 0]) (f := fun n => fun (x : (List UInt8) × Int × (List Int) × Unit) => S_UnquoteText_b0 k n x.1 x.2.1 x.2.2.1) (z72 k) (cutOK_of (l := [(z7g k, sub (bodyOf Go.Proofs.Tryz.f195) [1, 1, 0, 1, 0, 0, 1, 0])]) (by kernel_rfl) ⟨z7i k, trivial⟩) (fun _ => rfl) (fun n x Q R h => by
    simp only [S_UnquoteText_b0, optK_bind, optK_bif, optK_pure, optK_none, optK_oc, optK_guardT, optK_map] at h
    refine hold_of h ?_
    kernel_rfl) (by kernel_rfl)
def z7n (k : Nat) : Cuts D := ⟨[(0, some (z7k k))], []⟩
def z7o : List Ar := [.c (.ks)]
def z7p (k : Nat) (x : TupA D z7o) : Option ((List UInt8) × Bool) := S_UnquoteText k x.1
def z7q (r : (List UInt8) × Bool) : VR D := .tup [.c (.str r.1), .c (.bool r.2)]
theorem z7r (k : Nat) : Does P X 195 z7o (z7p k) z7q :=
  does_of (body := bodyOf Go.Proofs.Tryz.f195) (pl := z70) (k := k) (cu := z7n k) (tys := [[0], [0]]) (z72 k) ctx mixed Go.Proofs.Tryz.func195 (by kernel_rfl) (by kernel_rfl) (cutOK_of (l := [(z7k k, sub (bodyOf Go.Proofs.Tryz.f195) [1, 1, 0, 1])]) (by kernel_rfl) ⟨z7m k, trivial⟩) fun x R h => by
    simp only [z7p, S_UnquoteText, optK_bind, optK_bif, optK_pure, optK_none, optK_oc, optK_guardT, optK_map] at h
    refine hold_of h ?_
    kernel_rfl
def z7s (k : Nat) : Entry D := entS z7o (z7p k) z7q
theorem z7t (k : Nat) : EntryOK X 195 (z7s k) := (z7r k).en rfl
def z7u : Plan := ⟨[(0, [(0, none)]), (1, [(2, none)])],
  [],
  []⟩
def z7v (k : Nat) : Calls' D := ⟨[(78, z6c k)], [], [], [], []⟩
theorem z7w (k : Nat) : CallsOK X (z7v k) := .cons (z6d k) (.nil cod)
def z7x (k : Nat) : Cuts D := ⟨[], []⟩
def z7y : List Ar := [.c (.ki .u8)]
def z7z (k : Nat) (x : TupA D z7y) : Option (Bool) := S_l4Letter k x.1
def z80 (r : Bool) : VR D := .p (.c (.bool r))
theorem z81 (k : Nat) : Does P X 137 z7y (z7z k) z80 :=
  does_of (body := bodyOf Go.Proofs.Tryz.f137) (pl := z7u) (k := k) (cu := z7x k) (tys := [[0]]) (z7w k) ctx mixed Go.Proofs.Tryz.func137 (by kernel_rfl) (by kernel_rfl) (cutOK_of (l := []) (by kernel_rfl) trivial) fun x R h => by
    simp only [z7z, S_l4Letter, optK_bind, optK_bif, optK_pure, optK_none, optK_oc, optK_guardT, optK_map] at h
    refine hold_of h ?_
    kernel_rfl
def z82 (k : Nat) : Entry D := entS z7y (z7z k) z80
theorem z83 (k : Nat) : EntryOK X 137 (z82 k) := (z81 k).en rfl
def z84 : Plan := ⟨[(0, [(0, none)]), (1, [(0, none), (3, none)]), (2, [(0, none), (3, none), (5, none)]), (3, [(0, none), (3, none)]), (4, [(0, none), (3, none), (11, none)]), (5, [(2, none)]), (6, [(2, none)])],
  [(0, [(0, none)]), (1, [(0, none), (3, none)])],
  [(5, ([(0, none), (3, none)], [(0, none)])), (11, ([], [(0, none), (3, none)]))]⟩
def z85 (k : Nat) : Calls' D := ⟨[(137, z82 k)], [], [], [], []⟩
theorem z86 (k : Nat) : CallsOK X (z85 k) := .cons (z83 k) (.nil cod)
def z87 (x : Int × Int × Unit) (o : Oc (Unit) (Bool)) (Q : Ex → VSt D → Prop) (R : VR D → Prop) : Prop := ocP o (fun v0 => Q .normal (mkSt ⟨[(0, .hole)], []⟩ [.int .u8 x.1])) (fun w0 => R (.p (.c (.bool w0))))
def z88 (k : Nat) : Cut D := cutS ⟨[(0, .hole), (3, .hole)], []⟩ [.ki .u8, .ki .i64] (fun (x : Int × Int × Unit) => S_l4Token_b0 k k x.1 x.2.1) z87
def z89 (k : Nat) : Cuts D := ⟨[], []⟩
theorem z8a (k : Nat) : CutFor X z84 k Go.Proofs.Tryz.f139.results.toList (z88 k) (sub (bodyOf Go.Proofs.Tryz.f139) [1, 0, 1]) :=
  loopCut_s (X := X) (sg := [.ki .u8, .ki .i64]) (cu := z89 k) (cl := z85 k) (tys := [[0]]) (id := 0) (c := sub (bodyOf Go.Proofs.Tryz.f139) [1, 0, 1, 0, 0]) (f := fun n => fun (x : Int × Int × Unit) => S_l4Token_b0 k n x.1 x.2.1) (z86 k) (cutOK_of (l := []) (by kernel_rfl) trivial) (fun _ => rfl) (fun n x Q R h => by
    simp only [S_l4Token_b0, optK_bind, optK_bif, optK_pure, optK_none, optK_oc, optK_guardT, optK_map] at h
    refine hold_of h ?_
    kernel_rfl) (by kernel_rfl)
def z8b (k : Nat) : Cuts D := ⟨[(0, some (z88 k))], []⟩
def z8c : List Ar := [.c (.ki .u8)]
def z8d (k : Nat) (x : TupA D z8c) : Option (Bool) := S_l4Token k x.1
def z8e (r : Bool) : VR D := .p (.c (.bool r))
theorem z8f (k : Nat) : Does P X 139 z8c (z8d k) z8e :=
  does_of (body := bodyOf Go.Proofs.Tryz.f139) (pl := z84) (k := k) (cu := z8b k) (tys := [[0]]) (z86 k) ctx mixed Go.Proofs.Tryz.func139 (by kernel_rfl) (by kernel_rfl) (cutOK_of (l := [(z88 k, sub (bodyOf Go.Proofs.Tryz.f139) [1, 0, 1])]) (by kernel_rfl) ⟨z8a k, trivial⟩) fun x R h => by
    simp only [z8d, S_l4Token, optK_bind, optK_bif, optK_pure, optK_none, optK_oc, optK_guardT, optK_map] at h
    refine hold_of h ?_
    kernel_rfl
def z8g (k : Nat) : Entry D := entS z8c (z8d k) z8e
theorem z8h (k : Nat) : EntryOK X 139 (z8g k) := (z8f k).en rfl
def z8i : Plan := ⟨[(0, [(0, none)]), (1, [(0, none), (3, none)]), (2, [(0, none), (3, none), (7, none)]), (3, [(0, none), (3, none)]), (4, [(0, none), (3, none), (14, none)]), (5, [(2, none)]), (6, [(2, none)])],
  [(0, [(0, none)]), (1, [(0, none), (3, none)])],
  [(7, ([(0, none), (3, none)], [(0, none)])), (14, ([], [(0, none), (3, none)]))]⟩
def z8j (k : Nat) : Calls' D := ⟨[(139, z8g k), (78, z6c k)], [], [], [], []⟩
theorem z8k (k : Nat) : CallsOK X (z8j k) := .cons (z8h k) (.cons (z6d k) (.nil cod))
def z8l (x : (List UInt8) × Int × Unit) (o : Oc (Unit) (Bool)) (Q : Ex → VSt D → Prop) (R : VR D → Prop) : Prop := ocP o (fun v0 => Q .normal (mkSt ⟨[(0, .hole)], []⟩ [.str x.1])) (fun w0 => R (.p (.c (.bool w0))))
def z8m (k : Nat) : Cut D := cutS ⟨[(0, .hole), (3, .hole)], []⟩ [.ks, .ki .i64] (fun (x : (List UInt8) × Int × Unit) => S_IsToken_b0 k k x.1 x.2.1) z8l
def z8n (k : Nat) : Cuts D := ⟨[], []⟩
theorem z8o (k : Nat) : CutFor X z8i k Go.Proofs.Tryz.f79.results.toList (z8m k) (sub (bodyOf Go.Proofs.Tryz.f79) [1, 0, 1]) :=
  loopCut_s (X := X) (sg := [.ks, .ki .i64]) (cu := z8n k) (cl := z8j k) (tys := [[0]]) (id := 0) (c := sub (bodyOf Go.Proofs.Tryz.f79) [1, 0, 1, 0, 0]) (f := fun n => fun (x : (List UInt8) × Int × Unit) => S_IsToken_b0 k n x.1 x.2.1) (z8k k) (cutOK_of (l := []) (by kernel_rfl) trivial) (fun _ => rfl) (fun n x Q R h => by
    simp only [S_IsToken_b0, optK_bind, optK_bif, optK_pure, optK_none, optK_oc, optK_guardT, optK_map] at h
    refine hold_of h ?_
    kernel_rfl) (by kernel_rfl)
def z8p (k : Nat) : Cuts D := ⟨[(0, some (z8m k))], []⟩
def z8q : List Ar := [.c (.ks)]
def z8r (k : Nat) (x : TupA D z8q) : Option (Bool) := S_IsToken k x.1
def z8s (r : Bool) : VR D := .p (.c (.bool r))
theorem z8t (k : Nat) : Does P X 79 z8q (z8r k) z8s :=
  does_of (body := bodyOf Go.Proofs.Tryz.f79) (pl := z8i) (k := k) (cu := z8p k) (tys := [[0]]) (z8k k) ctx mixed Go.Proofs.Tryz.func79 (by kernel_rfl) (by kernel_rfl) (cutOK_of (l := [(z8m k, sub (bodyOf Go.Proofs.Tryz.f79) [1, 0, 1])]) (by kernel_rfl) ⟨z8o k, trivial⟩) fun x R h => by
    simp only [z8r, S_IsToken, optK_bind, optK_bif, optK_pure, optK_none, optK_oc, optK_guardT, optK_map] at h
    refine hold_of h ?_
    kernel_rfl
def z8u (k : Nat) : Entry D := entS z8q (z8r k) z8s
theorem z8v (k : Nat) : EntryOK X 79 (z8u k) := (z8t k).en rfl
def z8w : Plan := ⟨[(0, [(0, none)]), (1, [(3, some 9)]), (2, [(3, some 9), (4, some 140)]), (3, [(3, some 9), (4, some 140), (5, none)]), (4, [(3, some 9), (4, some 140), (5, none), (18, none)]), (5, [(3, some 9), (4, some 140), (5, none)]), (6, [(3, some 9), (4, some 140), (5, none), (6, none), (7, none), (8, none)]), (7, [(3, some 9), (4, some 140), (5, none), (7, none), (8, none), (9, none)]), (8, [(3, some 9), (4, some 140), (5, none), (7, none), (8, none), (9, none), (45, none)]), (9, [(3, some 9), (4, some 140), (5, none), (9, none), (10, none), (11, none)]), (10, [(3, some 9), (4, some 140), (5, none), (9, none), (10, none), (52, none)]), (11, [(3, some 9), (4, some 140), (5, none), (9, none)]), (12, [(3, some 9), (4, some 140), (5, none), (9, none), (60, none)]), (13, [(3, some 9), (4, some 140), (5, none), (9, none), (63, none)]), (14, [(3, some 9), (4, some 140), (5, none)]), (15, [(2, some 140)])],
  [(0, [(4, some 140)]), (1, [(3, some 9), (4, some 140), (5, none)])],
  [(18, ([(3, some 9), (4, some 140), (5, none)], [(4, some 140)])), (45, ([(3, some 9), (4, some 140), (5, none), (7, none), (9, none)], [(3, some 9), (4, some 140), (5, none), (7, none), (8, none), (9, none)])), (52, ([(3, some 9), (4, some 140), (5, none)], [(3, some 9), (4, some 140), (5, none), (9, none), (10, none)])), (60, ([(3, some 9), (4, some 140), (5, none)], [(3, some 9), (4, some 140), (5, none), (9, none)])), (63, ([(3, some 9), (4, some 140), (5, none), (9, none)], [(3, some 9), (4, some 140), (5, none)]))]⟩
def z8x (k : Nat) : Calls' D := ⟨[(193, z5o k), (194, z62 k), (158, z6y k), (195, z7s k), (79, z8u k)], [], [], [], []⟩
theorem z8y (k : Nat) : CallsOK X (z8x k) := .cons (z5p k) (.cons (z63 k) (.cons (z6z k) (.cons (z7t k) (.cons (z8v k) (.nil cod)))))
def z8z (x : Int × (List UInt8) × Bool × Bool × (List (List UInt8)) × (List IDirective) × (List UInt8) × (List UInt8) × Bool × Unit) (o : Oc ((List UInt8)) (Unit)) (Q : Ex → VSt D → Prop) (R : VR D → Prop) : Prop := ocP o (fun v0 => Q .normal (mkSt ⟨[(3, .ref 500003), (4, .ref 500004), (5, .hole), (9, .ptr 9 0)], [(500003, .row), (500004, .row), (9, .var [.hole, .hole, .hole])]⟩ [.int .i64 x.1, .sl 9 x.2.2.2.2.1, .sl 140 x.2.2.2.2.2.1, .str x.2.2.2.2.2.2.1, .str v0, .bool x.2.2.2.2.2.2.2.2.1])) (fun w0 => Q (.exit 1) (mkSt ⟨[(3, .ref 500003), (4, .ref 500004), (5, .hole)], [(500003, .row), (500004, .row)]⟩ [.int .i64 x.1, .sl 9 x.2.2.2.2.1, .sl 140 x.2.2.2.2.2.1]))
def z90 (k : Nat) : Cut D := cutS ⟨[(3, .ref 500003), (4, .ref 500004), (5, .hole), (7, .hole), (8, .hole), (9, .ptr 9 0), (45, .hole)], [(500003, .row), (500004, .row), (9, .var [.hole, .hole, .hole])]⟩ [.ki .i64, .ks, .kb, .kb, .kl 9, .kl 140, .ks, .ks, .kb] (fun (x : Int × (List UInt8) × Bool × Bool × (List (List UInt8)) × (List IDirective) × (List UInt8) × (List UInt8) × Bool × Unit) => S_ParseDirectives_c45 k x.1 x.2.1 x.2.2.1 x.2.2.2.1 x.2.2.2.2.1 x.2.2.2.2.2.1 x.2.2.2.2.2.2.1 x.2.2.2.2.2.2.2.1 x.2.2.2.2.2.2.2.2.1) z8z
def z91 (k : Nat) : Cuts D := ⟨[], []⟩
theorem z92 (k : Nat) : CutFor X z8w k Go.Proofs.Tryz.f130.results.toList (z90 k) (sub (bodyOf Go.Proofs.Tryz.f130) [1, 1, 1, 0, 1, 0, 0, 1, 0, 0, 1, 1, 0, 1]) :=
  joinCut_s (X := X) (sg := [.ki .i64, .ks, .kb, .kb, .kl 9, .kl 140, .ks, .ks, .kb]) (cu := z91 k) (cl := z8x k) (tys := [[140]]) (z8y k) (cutOK_of (l := []) (by kernel_rfl) trivial) fun x Q R h => by
    simp only [S_ParseDirectives_c45, optK_bind, optK_bif, optK_pure, optK_none, optK_oc, optK_guardT, optK_map] at h
    refine hold_of h ?_
    kernel_rfl
def z93 (x : Int × Bool × (List (List UInt8)) × (List IDirective) × (List UInt8) × (List UInt8) × Bool × Unit) (o : (List IDirective)) (Q : Ex → VSt D → Prop) (R : VR D → Prop) : Prop := Q .normal (mkSt ⟨[(3, .ref 500003), (4, .ref 500004), (5, .hole)], [(500003, .row), (500004, .row)]⟩ [.int .i64 x.1, .sl 9 x.2.2.1, .sl 140 o])
def z94 (k : Nat) : Cut D := cutS ⟨[(3, .ref 500003), (4, .ref 500004), (5, .hole), (9, .ptr 9 0), (63, .hole)], [(500003, .row), (500004, .row), (9, .var [.hole, .hole, .hole])]⟩ [.ki .i64, .kb, .kl 9, .kl 140, .ks, .ks, .kb] (fun (x : Int × Bool × (List (List UInt8)) × (List IDirective) × (List UInt8) × (List UInt8) × Bool × Unit) => S_ParseDirectives_c63 k x.1 x.2.1 x.2.2.1 x.2.2.2.1 x.2.2.2.2.1 x.2.2.2.2.2.1 x.2.2.2.2.2.2.1) z93
def z95 (k : Nat) : Cuts D := ⟨[], []⟩
theorem z96 (k : Nat) : CutFor X z8w k Go.Proofs.Tryz.f130.results.toList (z94 k) (sub (bodyOf Go.Proofs.Tryz.f130) [1, 1, 1, 0, 1, 0, 0, 1, 0, 0, 1, 1, 1, 1]) :=
  joinCut_s (X := X) (sg := [.ki .i64, .kb, .kl 9, .kl 140, .ks, .ks, .kb]) (cu := z95 k) (cl := z8x k) (tys := [[140]]) (z8y k) (cutOK_of (l := []) (by kernel_rfl) trivial) fun x Q R h => by
    simp only [S_ParseDirectives_c63, optK_bind, optK_bif, optK_pure, optK_none, optK_oc, optK_guardT, optK_map] at h
    refine hold_of h ?_
    kernel_rfl
def z97 (x : Int × (List (List UInt8)) × (List IDirective) × Unit) (o : (List IDirective)) (Q : Ex → VSt D → Prop) (R : VR D → Prop) : Prop := Q .normal (mkSt ⟨[(3, .ref 500003), (4, .ref 500004), (5, .hole)], [(500003, .row), (500004, .row)]⟩ [.int .i64 x.1, .sl 9 x.2.1, .sl 140 o])
def z98 (k : Nat) : Cut D := cutS ⟨[(3, .ref 500003), (4, .ref 500004), (5, .hole)], [(500003, .row), (500004, .row)]⟩ [.ki .i64, .kl 9, .kl 140] (fun (x : Int × (List (List UInt8)) × (List IDirective) × Unit) => S_ParseDirectives_b1 k x.1 x.2.1 x.2.2.1) z97
def z99 (k : Nat) : Cuts D := ⟨[], [(45, some (z90 k)), (63, some (z94 k))]⟩
theorem z9a (k : Nat) : CutFor X z8w k Go.Proofs.Tryz.f130.results.toList (z98 k) (sub (bodyOf Go.Proofs.Tryz.f130) [1, 1, 1, 0, 1, 0, 0, 1, 0]) :=
  joinCut_s (X := X) (sg := [.ki .i64, .kl 9, .kl 140]) (cu := z99 k) (cl := z8x k) (tys := [[140]]) (z8y k) (cutOK_of (l := [(z90 k, sub (bodyOf Go.Proofs.Tryz.f130) [1, 1, 1, 0, 1, 0, 0, 1, 0, 0, 1, 1, 0, 1]), (z94 k, sub (bodyOf Go.Proofs.Tryz.f130) [1, 1, 1, 0, 1, 0, 0, 1, 0, 0, 1, 1, 1, 1])]) (by kernel_rfl) ⟨z92 k, z96 k, trivial⟩) fun x Q R h => by
    simp only [S_ParseDirectives_b1, optK_bind, optK_bif, optK_pure, optK_none, optK_oc, optK_guardT, optK_map] at h
    refine hold_of h ?_
    kernel_rfl
def z9b (x : Int × (List (List UInt8)) × (List IDirective) × Unit) (o : (List IDirective)) (Q : Ex → VSt D → Prop) (R : VR D → Prop) : Prop := Q .normal (mkSt ⟨[(4, .ref 500004)], [(500004, .row)]⟩ [.sl 140 o])
def z9c (k : Nat) : Cut D := cutS ⟨[(3, .ref 500003), (4, .ref 500004), (5, .hole)], [(500003, .row), (500004, .row)]⟩ [.ki .i64, .kl 9, .kl 140] (fun (x : Int × (List (List UInt8)) × (List IDirective) × Unit) => S_ParseDirectives_b0 k k x.1 x.2.1 x.2.2.1) z9b
def z9d (k : Nat) : Cuts D := ⟨[(1, some (z98 k))], []⟩
theorem z9e (k : Nat) : CutFor X z8w k Go.Proofs.Tryz.f130.results.toList (z9c k) (sub (bodyOf Go.Proofs.Tryz.f130) [1, 1, 1, 0, 1]) :=
  loopCut_s (X := X) (sg := [.ki .i64, .kl 9, .kl 140]) (cu := z9d k) (cl := z8x k) (tys := [[140]]) (id := 0) (c := sub (bodyOf Go.Proofs.Tryz.f130) [1, 1, 1, 0, 1, 0, 0]) (f := fun n => fun (x : Int × (List (List UInt8)) × (List IDirective) × Unit) => S_ParseDirectives_b0 k n x.1 x.2.1 x.2.2.1) (z8y k) (cutOK_of (l := [(z98 k, sub (bodyOf Go.Proofs.Tryz.f130) [1, 1, 1, 0, 1, 0, 0, 1, 0])]) (by kernel_rfl) ⟨z9a k, trivial⟩) (fun _ => rfl) (fun n x Q R h => by
    simp only [S_ParseDirectives_b0, optK_bind, optK_bif, optK_pure, optK_none, optK_oc, optK_guardT, optK_map] at h
    refine hold_of h ?_
    kernel_rfl) (by kernel_rfl)
def z9f (k : Nat) : Cuts D := ⟨[(0, some (z9c k))], []⟩
def z9g : List Ar := [.c (.ks)]
def z9h (k : Nat) (x : TupA D z9g) : Option ((List IDirective)) := S_ParseDirectives k x.1
def z9i (r : (List IDirective)) : VR D := .p (.c (.sl 140 r))
theorem z9j (k : Nat) : Does P X 130 z9g (z9h k) z9i :=
  does_of (body := bodyOf Go.Proofs.Tryz.f130) (pl := z8w) (k := k) (cu := z9f k) (tys := [[140]]) (z8y k) ctx mixed Go.Proofs.Tryz.func130 (by kernel_rfl) (by kernel_rfl) (cutOK_of (l := [(z9c k, sub (bodyOf Go.Proofs.Tryz.f130) [1, 1, 1, 0, 1])]) (by kernel_rfl) ⟨z9e k, trivial⟩) fun x R h => by
    simp only [z9h, S_ParseDirectives, optK_bind, optK_bif, optK_pure, optK_none, optK_oc, optK_guardT, optK_map] at h
    refine hold_of h ?_
    kernel_rfl
def z9k (k : Nat) : Entry D := entS z9g (z9h k) z9i
theorem z9l (k : Nat) : EntryOK X 130 (z9k k) := (z9j k).en rfl
def z9m : Plan := ⟨[(0, [(0, some 107)]), (1, [(2, some 140)])],
  [],
  []⟩
def z9n (k : Nat) : Calls' D := ⟨[(50, z3c k), (130, z9k k)], [], [], [], []⟩
theorem z9o (k : Nat) : CallsOK X (z9n k) := .cons (z3d k) (.cons (z9l k) (.nil cod))
def z9p (k : Nat) : Cuts D := ⟨[], []⟩
def z9q : List Ar := [.c (.kl 107)]
def z9r (k : Nat) (x : TupA D z9q) : Option ((List IDirective)) := S_l19Rules k x.1
def z9s (r : (List IDirective)) : VR D := .p (.c (.sl 140 r))
theorem z9t (k : Nat) : Does P X 68 z9q (z9r k) z9s :=
  does_of (body := bodyOf Go.Proofs.Tryz.f68) (pl := z9m) (k := k) (cu := z9p k) (tys := [[140]]) (z9o k) ctx mixed Go.Proofs.Tryz.func68 (by kernel_rfl) (by kernel_rfl) (cutOK_of (l := []) (by kernel_rfl) trivial) fun x R h => by
    simp only [z9r, S_l19Rules, optK_bind, optK_bif, optK_pure, optK_none, optK_oc, optK_guardT, optK_map] at h
    refine hold_of h ?_
    kernel_rfl
def z9u (k : Nat) : Entry D := entS z9q (z9r k) z9s
theorem z9v (k : Nat) : EntryOK X 68 (z9u k) := (z9t k).en rfl
def z9w : Plan := ⟨[(0, [(0, some 140), (1, none)]), (1, [(0, some 140), (1, none), (5, none)]), (2, [(0, some 140), (1, none), (5, none), (9, none)]), (3, [(0, some 140), (1, none), (5, none)]), (4, [(0, some 140), (1, none), (5, none), (18, none)]), (5, [(4, none)]), (6, [(4, none)])],
  [(0, []), (1, [(0, some 140), (1, none), (5, none)])],
  [(9, ([(0, some 140), (1, none), (5, none)], [])), (18, ([(5, none)], [(0, some 140), (1, none), (5, none)]))]⟩
def z9x (k : Nat) : Calls' D := ⟨[], [], [], [], []⟩
theorem z9y (k : Nat) : CallsOK X (z9x k) := .nil cod
def z9z (x : (List IDirective) × (List UInt8) × Int × Unit) (o : Oc (Unit) (Int)) (Q : Ex → VSt D → Prop) (R : VR D → Prop) : Prop := ocP o (fun v0 => Q .normal (mkSt ⟨[], []⟩ [])) (fun w0 => R (.p (.c (.int .i64 w0))))
def za0 (k : Nat) : Cut D := cutS ⟨[(0, .hole), (1, .hole), (5, .hole)], []⟩ [.kl 140, .ks, .ki .i64] (fun (x : (List IDirective) × (List UInt8) × Int × Unit) => S_FindDirective_b0 k k x.1 x.2.1 x.2.2.1) z9z
def za1 (k : Nat) : Cuts D := ⟨[], []⟩
theorem za2 (k : Nat) : CutFor X z9w k Go.Proofs.Tryz.f131.results.toList (za0 k) (sub (bodyOf Go.Proofs.Tryz.f131) [1, 0, 1]) :=
  loopCut_s (X := X) (sg := [.kl 140, .ks, .ki .i64]) (cu := za1 k) (cl := z9x k) (tys := [[0]]) (id := 0) (c := sub (bodyOf Go.Proofs.Tryz.f131) [1, 0, 1, 0, 0]) (f := fun n => fun (x : (List IDirective) × (List UInt8) × Int × Unit) => S_FindDirective_b0 k n x.1 x.2.1 x.2.2.1) (z9y k) (cutOK_of (l := []) (by kernel_rfl) trivial) (fun _ => rfl) (fun n x Q R h => by
    simp only [S_FindDirective_b0, optK_bind, optK_bif, optK_pure, optK_none, optK_oc, optK_guardT, optK_map] at h
    refine hold_of h ?_
    kernel_rfl) (by kernel_rfl)
def za3 (k : Nat) : Cuts D := ⟨[(0, some (za0 k))], []⟩
def za4 : List Ar := [.c (.kl 140), .c (.ks)]
def za5 (k : Nat) (x : TupA D za4) : Option (Int) := S_FindDirective k x.1 x.2.1
def za6 (r : Int) : VR D := .p (.c (.int .i64 r))
theorem za7 (k : Nat) : Does P X 131 za4 (za5 k) za6 :=
  does_of (body := bodyOf Go.Proofs.Tryz.f131) (pl := z9w) (k := k) (cu := za3 k) (tys := [[0]]) (z9y k) ctx mixed Go.Proofs.Tryz.func131 (by kernel_rfl) (by kernel_rfl) (cutOK_of (l := [(za0 k, sub (bodyOf Go.Proofs.Tryz.f131) [1, 0, 1])]) (by kernel_rfl) ⟨za2 k, trivial⟩) fun x R h => by
    simp only [za5, S_FindDirective, optK_bind, optK_bif, optK_pure, optK_none, optK_oc, optK_guardT, optK_map] at h
    refine hold_of h ?_
    kernel_rfl
def za8 (k : Nat) : Entry D := entS za4 (za5 k) za6
theorem za9 (k : Nat) : EntryOK X 131 (za8 k) := (za7 k).en rfl
def zaa : Plan := ⟨[(0, [(0, none), (1, none)]), (1, [(0, none), (1, none), (7, none)]), (2, [(4, none)]), (3, [(4, none)])],
  [],
  [(7, ([(1, none)], [(0, none)]))]⟩
def zab (k : Nat) : Calls' D := ⟨[], [], [], [], []⟩
theorem zac (k : Nat) : CallsOK X (zab k) := .nil cod
def zad (k : Nat) : Cuts D := ⟨[], []⟩
def zae : List Ar := [.c (.ki .i64), .c (.ki .i64)]
def zaf (k : Nat) (x : TupA D zae) : Option (Int) := S_Min k x.1 x.2.1
def zag (r : Int) : VR D := .p (.c (.int .i64 r))
theorem zah (k : Nat) : Does P X 51 zae (zaf k) zag :=
  does_of (body := bodyOf Go.Proofs.Tryz.f51) (pl := zaa) (k := k) (cu := zad k) (tys := [[0]]) (zac k) ctx mixed Go.Proofs.Tryz.func51 (by kernel_rfl) (by kernel_rfl) (cutOK_of (l := []) (by kernel_rfl) trivial) fun x R h => by
    simp only [zaf, S_Min, optK_bind, optK_bif, optK_pure, optK_none, optK_oc, optK_guardT, optK_map] at h
    refine hold_of h ?_
    kernel_rfl
def zai (k : Nat) : Entry D := entS zae (zaf k) zag
theorem zaj (k : Nat) : EntryOK X 51 (zai k) := (zah k).en rfl
def zak : Plan := ⟨[(0, [(0, some 140), (1, none)]), (1, [(0, some 140), (6, none)]), (2, [(0, some 140), (6, none), (14, none)]), (3, [(4, none), (5, none)]), (4, [(0, some 140), (6, none), (7, none)]), (5, [(7, none), (8, none)]), (6, [(7, none), (8, none), (9, none)]), (7, [(7, none), (8, none), (9, none), (23, none)]), (8, [(7, none), (8, none), (9, none)]), (9, [(7, none), (8, none), (9, none), (31, none)]), (10, [(4, none), (5, none)]), (11, [(7, none), (8, none), (9, none)]), (12, [(4, none), (5, none)])],
  [(0, [(7, none)]), (1, [(7, none), (8, none), (9, none)])],
  [(14, ([], [(0, some 140), (6, none)])), (23, ([(7, none), (8, none), (9, none)], [(7, none)])), (31, ([], [(7, none), (8, none), (9, none)]))]⟩
def zal (k : Nat) : Calls' D := ⟨[(131, za8 k), (78, z6c k), (51, zai k)], [], [], [], []⟩
theorem zam (k : Nat) : CallsOK X (zal k) := .cons (za9 k) (.cons (z6d k) (.cons (zaj k) (.nil cod)))
def zan (x : Int × (List UInt8) × Int × Unit) (o : Oc (Int) (Int × Bool)) (Q : Ex → VSt D → Prop) (R : VR D → Prop) : Prop := ocP o (fun v0 => Q .normal (mkSt ⟨[(7, .hole)], []⟩ [.int .i64 v0])) (fun w0 => R (.tup [.c (.int .i64 w0.1), .c (.bool w0.2)]))
def zao (k : Nat) : Cut D := cutS ⟨[(7, .hole), (8, .hole), (9, .hole)], []⟩ [.ki .i64, .ks, .ki .i64] (fun (x : Int × (List UInt8) × Int × Unit) => S_SecondsOf_b0 k k x.1 x.2.1 x.2.2.1) zan
def zap (k : Nat) : Cuts D := ⟨[], []⟩
theorem zaq (k : Nat) : CutFor X zak k Go.Proofs.Tryz.f69.results.toList (zao k) (sub (bodyOf Go.Proofs.Tryz.f69) [1, 1, 1, 1, 1, 0, 1]) :=
  loopCut_s (X := X) (sg := [.ki .i64, .ks, .ki .i64]) (cu := zap k) (cl := zal k) (tys := [[0], [0]]) (id := 0) (c := sub (bodyOf Go.Proofs.Tryz.f69) [1, 1, 1, 1, 1, 0, 1, 0, 0]) (f := fun n => fun (x : Int × (List UInt8) × Int × Unit) => S_SecondsOf_b0 k n x.1 x.2.1 x.2.2.1) (zam k) (cutOK_of (l := []) (by kernel_rfl) trivial) (fun _ => rfl) (fun n x Q R h => by
    simp only [S_SecondsOf_b0, optK_bind, optK_bif, optK_pure, optK_none, optK_oc, optK_guardT, optK_map] at h
    refine hold_of h ?_
    kernel_rfl) (by kernel_rfl)
def zar (k : Nat) : Cuts D := ⟨[(0, some (zao k))], []⟩
def zas : List Ar := [.c (.kl 140), .c (.ks)]
def zat (k : Nat) (x : TupA D zas) : Option (Int × Bool) := S_SecondsOf k x.1 x.2.1
def zau (r : Int × Bool) : VR D := .tup [.c (.int .i64 r.1), .c (.bool r.2)]
theorem zav (k : Nat) : Does P X 69 zas (zat k) zau :=
  does_of (body := bodyOf Go.Proofs.Tryz.f69) (pl := zak) (k := k) (cu := zar k) (tys := [[0], [0]]) (zam k) ctx mixed Go.Proofs.Tryz.func69 (by kernel_rfl) (by kernel_rfl) (cutOK_of (l := [(zao k, sub (bodyOf Go.Proofs.Tryz.f69) [1, 1, 1, 1, 1, 0, 1])]) (by kernel_rfl) ⟨zaq k, trivial⟩) fun x R h => by
    simp only [zat, S_SecondsOf, optK_bind, optK_bif, optK_pure, optK_none, optK_oc, optK_guardT, optK_map] at h
    refine hold_of h ?_
    kernel_rfl
def zaw (k : Nat) : Entry D := entS zas (zat k) zau
theorem zax (k : Nat) : EntryOK X 69 (zaw k) := (zav k).en rfl
def zay : Plan := ⟨[(0, [(0, none), (1, none)]), (1, [(0, none), (1, none), (30, none)]), (2, [(4, none)]), (3, [(4, none)])],
  [],
  [(30, ([], [(0, none), (1, none)]))]⟩
def zaz (k : Nat) : Calls' D := ⟨[(78, z6c k)], [], [], [], []⟩
theorem zb0 (k : Nat) : CallsOK X (zaz k) := .cons (z6d k) (.nil cod)
def zb1 (k : Nat) : Cuts D := ⟨[], []⟩
def zb2 : List Ar := [.c (.ks), .c (.ki .i64)]
def zb3 (k : Nat) (x : TupA D zb2) : Option (Int) := S_l3Two k x.1 x.2.1
def zb4 (r : Int) : VR D := .p (.c (.int .i64 r))
theorem zb5 (k : Nat) : Does P X 112 zb2 (zb3 k) zb4 :=
  does_of (body := bodyOf Go.Proofs.Tryz.f112) (pl := zay) (k := k) (cu := zb1 k) (tys := [[0]]) (zb0 k) ctx mixed Go.Proofs.Tryz.func112 (by kernel_rfl) (by kernel_rfl) (cutOK_of (l := []) (by kernel_rfl) trivial) fun x R h => by
    simp only [zb3, S_l3Two, optK_bind, optK_bif, optK_pure, optK_none, optK_oc, optK_guardT, optK_map] at h
    refine hold_of h ?_
    kernel_rfl
def zb6 (k : Nat) : Entry D := entS zb2 (zb3 k) zb4
theorem zb7 (k : Nat) : EntryOK X 112 (zb6 k) := (zb5 k).en rfl
def zb8 : Plan := ⟨[(0, []), (1, [(0, some 9)])],
  [],
  []⟩
def zb9 (k : Nat) : Calls' D := ⟨[], [], [], [], []⟩
theorem zba (k : Nat) : CallsOK X (zb9 k) := .nil cod
def zbb (k : Nat) : Cuts D := ⟨[], []⟩
def zbc : List Ar := []
def zbd (k : Nat) (x : TupA D zbc) : Option ((List (List UInt8))) := S_l3Months k 
def zbe (r : (List (List UInt8))) : VR D := .p (.c (.sl 9 r))
theorem zbf (k : Nat) : Does P X 168 zbc (zbd k) zbe :=
  does_of (body := bodyOf Go.Proofs.Tryz.f168) (pl := zb8) (k := k) (cu := zbb k) (tys := [[9]]) (zba k) ctx mixed Go.Proofs.Tryz.func168 (by kernel_rfl) (by kernel_rfl) (cutOK_of (l := []) (by kernel_rfl) trivial) fun x R h => by
    simp only [zbd, S_l3Months, optK_bind, optK_bif, optK_pure, optK_none, optK_oc, optK_guardT, optK_map] at h
    refine hold_of h ?_
    kernel_rfl
def zbg (k : Nat) : Entry D := entS zbc (zbd k) zbe
theorem zbh (k : Nat) : EntryOK X 168 (zbg k) := (zbf k).en rfl
def zbi : Plan := ⟨[(0, [(0, none), (1, none)]), (1, [(0, none), (1, none), (5, some 9)]), (2, [(0, none), (1, none), (5, some 9), (6, none)]), (3, [(0, none), (1, none), (5, some 9), (6, none), (9, none)]), (4, [(0, none), (1, none), (5, some 9), (6, none)]), (5, [(0, none), (1, none), (5, some 9), (6, none), (32, none)]), (6, [(4, none)]), (7, [(4, none)])],
  [(0, []), (1, [(0, none), (1, none), (5, some 9), (6, none)])],
  [(9, ([(0, none), (1, none), (5, some 9), (6, none)], [])), (32, ([(6, none)], [(0, none), (1, none), (5, some 9), (6, none)]))]⟩
def zbj (k : Nat) : Calls' D := ⟨[(168, zbg k)], [], [], [], []⟩
theorem zbk (k : Nat) : CallsOK X (zbj k) := .cons (zbh k) (.nil cod)
def zbl (x : (List UInt8) × Int × Int × (List (List UInt8)) × Unit) (o : Oc (Unit) (Int)) (Q : Ex → VSt D → Prop) (R : VR D → Prop) : Prop := ocP o (fun v0 => Q .normal (mkSt ⟨[], []⟩ [])) (fun w0 => R (.p (.c (.int .i64 w0))))
def zbm (k : Nat) : Cut D := cutS ⟨[(0, .hole), (1, .hole), (5, .ref 500005), (6, .hole)], [(500005, .row)]⟩ [.ks, .ki .i64, .ki .i64, .kl 9] (fun (x : (List UInt8) × Int × Int × (List (List UInt8)) × Unit) => S_l3Month_b0 k k x.1 x.2.1 x.2.2.1 x.2.2.2.1) zbl
def zbn (k : Nat) : Cuts D := ⟨[], []⟩
theorem zbo (k : Nat) : CutFor X zbi k Go.Proofs.Tryz.f113.results.toList (zbm k) (sub (bodyOf Go.Proofs.Tryz.f113) [1, 1, 0, 1]) :=
  loopCut_s (X := X) (sg := [.ks, .ki .i64, .ki .i64, .kl 9]) (cu := zbn k) (cl := zbj k) (tys := [[0]]) (id := 0) (c := sub (bodyOf Go.Proofs.Tryz.f113) [1, 1, 0, 1, 0, 0]) (f := fun n => fun (x : (List UInt8) × Int × Int × (List (List UInt8)) × Unit) => S_l3Month_b0 k n x.1 x.2.1 x.2.2.1 x.2.2.2.1) (zbk k) (cutOK_of (l := []) (by kernel_rfl) trivial) (fun _ => rfl) (fun n x Q R h => by
    simp only [S_l3Month_b0, optK_bind, optK_bif, optK_pure, optK_none, optK_oc, optK_guardT, optK_map] at h
    refine hold_of h ?_
    kernel_rfl) (by kernel_rfl)
def zbp (k : Nat) : Cuts D := ⟨[(0, some (zbm k))], []⟩
def zbq : List Ar := [.c (.ks), .c (.ki .i64)]
def zbr (k : Nat) (x : TupA D zbq) : Option (Int) := S_l3Month k x.1 x.2.1
def zbs (r : Int) : VR D := .p (.c (.int .i64 r))
theorem zbt (k : Nat) : Does P X 113 zbq (zbr k) zbs :=
  does_of (body := bodyOf Go.Proofs.Tryz.f113) (pl := zbi) (k := k) (cu := zbp k) (tys := [[0]]) (zbk k) ctx mixed Go.Proofs.Tryz.func113 (by kernel_rfl) (by kernel_rfl) (cutOK_of (l := [(zbm k, sub (bodyOf Go.Proofs.Tryz.f113) [1, 1, 0, 1])]) (by kernel_rfl) ⟨zbo k, trivial⟩) fun x R h => by
    simp only [zbr, S_l3Month, optK_bind, optK_bif, optK_pure, optK_none, optK_oc, optK_guardT, optK_map] at h
    refine hold_of h ?_
    kernel_rfl
def zbu (k : Nat) : Entry D := entS zbq (zbr k) zbs
theorem zbv (k : Nat) : EntryOK X 113 (zbu k) := (zbt k).en rfl
def zbw : Plan := ⟨[(0, [(0, none), (1, none)]), (1, [(0, none), (1, none), (7, none)]), (2, [(4, none)]), (3, [(4, none)])],
  [],
  [(7, ([], [(0, none), (1, none)]))]⟩
def zbx (k : Nat) : Calls' D := ⟨[(78, z6c k)], [], [], [], []⟩
theorem zby (k : Nat) : CallsOK X (zbx k) := .cons (z6d k) (.nil cod)
def zbz (k : Nat) : Cuts D := ⟨[], []⟩
def zc0 : List Ar := [.c (.ki .i64), .c (.ki .i64)]
def zc1 (k : Nat) (x : TupA D zc0) : Option (Int) := S_Mod k x.1 x.2.1
def zc2 (r : Int) : VR D := .p (.c (.int .i64 r))
theorem zc3 (k : Nat) : Does P X 226 zc0 (zc1 k) zc2 :=
  does_of (body := bodyOf Go.Proofs.Tryz.f226) (pl := zbw) (k := k) (cu := zbz k) (tys := [[0]]) (zby k) ctx mixed Go.Proofs.Tryz.func226 (by kernel_rfl) (by kernel_rfl) (cutOK_of (l := []) (by kernel_rfl) trivial) fun x R h => by
    simp only [zc1, S_Mod, optK_bind, optK_bif, optK_pure, optK_none, optK_oc, optK_guardT, optK_map] at h
    refine hold_of h ?_
    kernel_rfl
def zc4 (k : Nat) : Entry D := entS zc0 (zc1 k) zc2
theorem zc5 (k : Nat) : EntryOK X 226 (zc4 k) := (zc3 k).en rfl
def zc6 : Plan := ⟨[(0, [(0, none)]), (1, [(2, none)])],
  [],
  []⟩
def zc7 (k : Nat) : Calls' D := ⟨[(226, zc4 k)], [], [], [], []⟩
theorem zc8 (k : Nat) : CallsOK X (zc7 k) := .cons (zc5 k) (.nil cod)
def zc9 (k : Nat) : Cuts D := ⟨[], []⟩
def zca : List Ar := [.c (.ki .i64)]
def zcb (k : Nat) (x : TupA D zca) : Option (Bool) := S_IsLeap k x.1
def zcc (r : Bool) : VR D := .p (.c (.bool r))
theorem zcd (k : Nat) : Does P X 170 zca (zcb k) zcc :=
  does_of (body := bodyOf Go.Proofs.Tryz.f170) (pl := zc6) (k := k) (cu := zc9 k) (tys := [[0]]) (zc8 k) ctx mixed Go.Proofs.Tryz.func170 (by kernel_rfl) (by kernel_rfl) (cutOK_of (l := []) (by kernel_rfl) trivial) fun x R h => by
    simp only [zcb, S_IsLeap, optK_bind, optK_bif, optK_pure, optK_none, optK_oc, optK_guardT, optK_map] at h
    refine hold_of h ?_
    kernel_rfl
def zce (k : Nat) : Entry D := entS zca (zcb k) zcc
theorem zcf (k : Nat) : EntryOK X 170 (zce k) := (zcd k).en rfl
def zcg : Plan := ⟨[(0, [(0, none), (1, none)]), (1, [(1, none), (10, none)]), (2, [(4, none)]), (3, [(4, none)])],
  [],
  [(10, ([], [(1, none)]))]⟩
def zch (k : Nat) : Calls' D := ⟨[(170, zce k)], [], [], [], []⟩
theorem zci (k : Nat) : CallsOK X (zch k) := .cons (zcf k) (.nil cod)
def zcj (k : Nat) : Cuts D := ⟨[], []⟩
def zck : List Ar := [.c (.ki .i64), .c (.ki .i64)]
def zcl (k : Nat) (x : TupA D zck) : Option (Int) := S_l3Long k x.1 x.2.1
def zcm (r : Int) : VR D := .p (.c (.int .i64 r))
theorem zcn (k : Nat) : Does P X 169 zck (zcl k) zcm :=
  does_of (body := bodyOf Go.Proofs.Tryz.f169) (pl := zcg) (k := k) (cu := zcj k) (tys := [[0]]) (zci k) ctx mixed Go.Proofs.Tryz.func169 (by kernel_rfl) (by kernel_rfl) (cutOK_of (l := []) (by kernel_rfl) trivial) fun x R h => by
    simp only [zcl, S_l3Long, optK_bind, optK_bif, optK_pure, optK_none, optK_oc, optK_guardT, optK_map] at h
    refine hold_of h ?_
    kernel_rfl
def zco (k : Nat) : Entry D := entS zck (zcl k) zcm
theorem zcp (k : Nat) : EntryOK X 169 (zco k) := (zcn k).en rfl
def zcq : Plan := ⟨[(0, [(0, none), (1, none), (2, none)]), (1, [(0, none), (1, none), (2, none), (25, none)]), (2, [(6, none)]), (3, [(0, none), (1, none), (7, none)]), (4, [(0, none), (1, none), (7, none), (8, none)]), (5, [(0, none), (1, none), (7, none), (8, none), (30, none)]), (6, [(0, none), (1, none), (7, none), (8, none)]), (7, [(0, none), (1, none), (7, none), (8, none)]), (8, [(0, none), (1, none), (7, none), (8, none), (36, none)]), (9, [(0, none), (1, none), (7, none), (8, none)]), (10, [(0, none), (1, none), (7, none), (9, none)]), (11, [(0, none), (1, none), (7, none), (9, none), (41, none)]), (12, [(0, none), (1, none), (7, none), (9, none)]), (13, [(0, none), (1, none), (7, none), (9, none)]), (14, [(6, none)])],
  [(0, [(0, none), (1, none), (7, none)]), (1, [(0, none), (1, none), (7, none), (8, none)]), (2, [(7, none)]), (3, [(0, none), (1, none), (7, none), (9, none)])],
  [(25, ([], [(0, none), (1, none), (2, none)])), (30, ([(0, none), (1, none), (7, none), (8, none)], [(0, none), (1, none), (7, none)])), (36, ([(0, none), (1, none), (7, none), (8, none)], [(0, none), (1, none), (7, none), (8, none)])), (41, ([(0, none), (1, none), (7, none), (9, none)], [(7, none)]))]⟩
def zcr (k : Nat) : Calls' D := ⟨[(78, z6c k), (169, zco k), (170, zce k)], [], [], [], []⟩
theorem zcs (k : Nat) : CallsOK X (zcr k) := .cons (z6d k) (.cons (zcp k) (.cons (zcf k) (.nil cod)))
def zct (x : Int × Int × Int × Int × Bool × Unit) (o : Int) (Q : Ex → VSt D → Prop) (R : VR D → Prop) : Prop := Q .normal (mkSt ⟨[(0, .hole), (1, .hole), (7, .hole), (8, .hole)], []⟩ [.int .i64 x.1, .int .i64 x.2.1, .int .i64 o, .int .i64 x.2.2.2.1])
def zcu (k : Nat) : Cut D := cutS ⟨[(0, .hole), (1, .hole), (7, .hole), (8, .hole), (36, .hole)], []⟩ [.ki .i64, .ki .i64, .ki .i64, .ki .i64, .kb] (fun (x : Int × Int × Int × Int × Bool × Unit) => S_DaysOf_c36 k x.1 x.2.1 x.2.2.1 x.2.2.2.1 x.2.2.2.2.1) zct
def zcv (k : Nat) : Cuts D := ⟨[], []⟩
theorem zcw (k : Nat) : CutFor X zcq k Go.Proofs.Tryz.f114.results.toList (zcu k) (sub (bodyOf Go.Proofs.Tryz.f114) [1, 1, 1, 0, 1, 0, 0, 1, 0, 0, 1, 1]) :=
  joinCut_s (X := X) (sg := [.ki .i64, .ki .i64, .ki .i64, .ki .i64, .kb]) (cu := zcv k) (cl := zcr k) (tys := [[0]]) (zcs k) (cutOK_of (l := []) (by kernel_rfl) trivial) fun x Q R h => by
    simp only [S_DaysOf_c36, optK_bind, optK_bif, optK_pure, optK_none, optK_oc, optK_guardT, optK_map] at h
    refine hold_of h ?_
    kernel_rfl
def zcx (x : Int × Int × Int × Int × Unit) (o : Int) (Q : Ex → VSt D → Prop) (R : VR D → Prop) : Prop := Q .normal (mkSt ⟨[(0, .hole), (1, .hole), (7, .hole), (8, .hole)], []⟩ [.int .i64 x.1, .int .i64 x.2.1, .int .i64 o, .int .i64 x.2.2.2.1])
def zcy (k : Nat) : Cut D := cutS ⟨[(0, .hole), (1, .hole), (7, .hole), (8, .hole)], []⟩ [.ki .i64, .ki .i64, .ki .i64, .ki .i64] (fun (x : Int × Int × Int × Int × Unit) => S_DaysOf_b1 k x.1 x.2.1 x.2.2.1 x.2.2.2.1) zcx
def zcz (k : Nat) : Cuts D := ⟨[], [(36, some (zcu k))]⟩
theorem zd0 (k : Nat) : CutFor X zcq k Go.Proofs.Tryz.f114.results.toList (zcy k) (sub (bodyOf Go.Proofs.Tryz.f114) [1, 1, 1, 0, 1, 0, 0, 1, 0]) :=
  joinCut_s (X := X) (sg := [.ki .i64, .ki .i64, .ki .i64, .ki .i64]) (cu := zcz k) (cl := zcr k) (tys := [[0]]) (zcs k) (cutOK_of (l := [(zcu k, sub (bodyOf Go.Proofs.Tryz.f114) [1, 1, 1, 0, 1, 0, 0, 1, 0, 0, 1, 1])]) (by kernel_rfl) ⟨zcw k, trivial⟩) fun x Q R h => by
    simp only [S_DaysOf_b1, optK_bind, optK_bif, optK_pure, optK_none, optK_oc, optK_guardT, optK_map] at h
    refine hold_of h ?_
    kernel_rfl
def zd1 (x : Int × Int × Int × Int × Unit) (o : Int) (Q : Ex → VSt D → Prop) (R : VR D → Prop) : Prop := Q .normal (mkSt ⟨[(0, .hole), (1, .hole), (7, .hole)], []⟩ [.int .i64 x.1, .int .i64 x.2.1, .int .i64 o])
def zd2 (k : Nat) : Cut D := cutS ⟨[(0, .hole), (1, .hole), (7, .hole), (8, .hole)], []⟩ [.ki .i64, .ki .i64, .ki .i64, .ki .i64] (fun (x : Int × Int × Int × Int × Unit) => S_DaysOf_b0 k k x.1 x.2.1 x.2.2.1 x.2.2.2.1) zd1
def zd3 (k : Nat) : Cuts D := ⟨[(1, some (zcy k))], []⟩
theorem zd4 (k : Nat) : CutFor X zcq k Go.Proofs.Tryz.f114.results.toList (zd2 k) (sub (bodyOf Go.Proofs.Tryz.f114) [1, 1, 1, 0, 1]) :=
  loopCut_s (X := X) (sg := [.ki .i64, .ki .i64, .ki .i64, .ki .i64]) (cu := zd3 k) (cl := zcr k) (tys := [[0]]) (id := 0) (c := sub (bodyOf Go.Proofs.Tryz.f114) [1, 1, 1, 0, 1, 0, 0]) (f := fun n => fun (x : Int × Int × Int × Int × Unit) => S_DaysOf_b0 k n x.1 x.2.1 x.2.2.1 x.2.2.2.1) (zcs k) (cutOK_of (l := [(zcy k, sub (bodyOf Go.Proofs.Tryz.f114) [1, 1, 1, 0, 1, 0, 0, 1, 0])]) (by kernel_rfl) ⟨zd0 k, trivial⟩) (fun _ => rfl) (fun n x Q R h => by
    simp only [S_DaysOf_b0, optK_bind, optK_bif, optK_pure, optK_none, optK_oc, optK_guardT, optK_map] at h
    refine hold_of h ?_
    kernel_rfl) (by kernel_rfl)
def zd5 (x : Int × Int × Int × Int × Unit) (o : Int) (Q : Ex → VSt D → Prop) (R : VR D → Prop) : Prop := Q .normal (mkSt ⟨[(7, .hole)], []⟩ [.int .i64 o])
def zd6 (k : Nat) : Cut D := cutS ⟨[(0, .hole), (1, .hole), (7, .hole), (9, .hole)], []⟩ [.ki .i64, .ki .i64, .ki .i64, .ki .i64] (fun (x : Int × Int × Int × Int × Unit) => S_DaysOf_b2 k k x.1 x.2.1 x.2.2.1 x.2.2.2.1) zd5
def zd7 (k : Nat) : Cuts D := ⟨[], []⟩
theorem zd8 (k : Nat) : CutFor X zcq k Go.Proofs.Tryz.f114.results.toList (zd6 k) (sub (bodyOf Go.Proofs.Tryz.f114) [1, 1, 1, 1, 0, 1]) :=
  loopCut_s (X := X) (sg := [.ki .i64, .ki .i64, .ki .i64, .ki .i64]) (cu := zd7 k) (cl := zcr k) (tys := [[0]]) (id := 2) (c := sub (bodyOf Go.Proofs.Tryz.f114) [1, 1, 1, 1, 0, 1, 0, 0]) (f := fun n => fun (x : Int × Int × Int × Int × Unit) => S_DaysOf_b2 k n x.1 x.2.1 x.2.2.1 x.2.2.2.1) (zcs k) (cutOK_of (l := []) (by kernel_rfl) trivial) (fun _ => rfl) (fun n x Q R h => by
    simp only [S_DaysOf_b2, optK_bind, optK_bif, optK_pure, optK_none, optK_oc, optK_guardT, optK_map] at h
    refine hold_of h ?_
    kernel_rfl) (by kernel_rfl)
def zd9 (k : Nat) : Cuts D := ⟨[(0, some (zd2 k)), (2, some (zd6 k))], []⟩
def zda : List Ar := [.c (.ki .i64), .c (.ki .i64), .c (.ki .i64)]
def zdb (k : Nat) (x : TupA D zda) : Option (Int) := S_DaysOf k x.1 x.2.1 x.2.2.1
def zdc (r : Int) : VR D := .p (.c (.int .i64 r))
theorem zdd (k : Nat) : Does P X 114 zda (zdb k) zdc :=
  does_of (body := bodyOf Go.Proofs.Tryz.f114) (pl := zcq) (k := k) (cu := zd9 k) (tys := [[0]]) (zcs k) ctx mixed Go.Proofs.Tryz.func114 (by kernel_rfl) (by kernel_rfl) (cutOK_of (l := [(zd2 k, sub (bodyOf Go.Proofs.Tryz.f114) [1, 1, 1, 0, 1]), (zd6 k, sub (bodyOf Go.Proofs.Tryz.f114) [1, 1, 1, 1, 0, 1])]) (by kernel_rfl) ⟨zd4 k, zd8 k, trivial⟩) fun x R h => by
    simp only [zdb, S_DaysOf, optK_bind, optK_bif, optK_pure, optK_none, optK_oc, optK_guardT, optK_map] at h
    refine hold_of h ?_
    kernel_rfl
def zde (k : Nat) : Entry D := entS zda (zdb k) zdc
theorem zdf (k : Nat) : EntryOK X 114 (zde k) := (zdd k).en rfl
def zdg : Plan := ⟨[(0, [(0, none)]), (1, [(0, none), (10, none)]), (2, [(2, none), (3, none), (4, none)]), (3, [(0, none), (5, none)]), (4, [(0, none), (5, none), (6, none)]), (5, [(0, none), (5, none), (6, none), (12, none)]), (6, [(0, none), (5, none), (6, none)]), (7, [(0, none), (5, none), (6, none), (15, none)]), (8, [(0, none), (5, none)]), (9, [(0, none), (5, none)]), (10, [(0, none), (5, none), (7, none)]), (11, [(0, none), (5, none), (7, none), (25, none)]), (12, [(0, none), (5, none), (7, none)]), (13, [(0, none), (5, none), (7, none)]), (14, [(2, none), (3, none), (4, none)])],
  [(0, [(0, none), (5, none)]), (1, [(0, none), (5, none)]), (2, [(0, none), (5, none), (7, none)]), (3, [(0, none), (5, none), (7, none)])],
  [(10, ([], [(0, none)])), (12, ([(0, none), (5, none)], [(0, none), (5, none), (6, none)])), (15, ([(0, none), (5, none)], [(0, none), (5, none), (6, none)])), (25, ([(0, none), (5, none), (7, none)], [(0, none), (5, none), (7, none)]))]⟩
def zdh (k : Nat) : Calls' D := ⟨[(78, z6c k), (170, zce k), (169, zco k)], [], [], [], []⟩
theorem zdi (k : Nat) : CallsOK X (zdh k) := .cons (z6d k) (.cons (zcf k) (.cons (zcp k) (.nil cod)))
def zdj (x : Int × Int × Int × Bool × Unit) (o : Int) (Q : Ex → VSt D → Prop) (R : VR D → Prop) : Prop := Q .normal (mkSt ⟨[(0, .hole), (5, .hole), (6, .hole)], []⟩ [.int .i64 x.1, .int .i64 x.2.1, .int .i64 o])
def zdk (k : Nat) : Cut D := cutS ⟨[(0, .hole), (5, .hole), (6, .hole), (12, .hole)], []⟩ [.ki .i64, .ki .i64, .ki .i64, .kb] (fun (x : Int × Int × Int × Bool × Unit) => S_CivilOf_c12 k x.1 x.2.1 x.2.2.1 x.2.2.2.1) zdj
def zdl (k : Nat) : Cuts D := ⟨[], []⟩
theorem zdm (k : Nat) : CutFor X zdg k Go.Proofs.Tryz.f171.results.toList (zdk k) (sub (bodyOf Go.Proofs.Tryz.f171) [1, 1, 1, 0, 0, 0, 0, 1, 0, 1]) :=
  joinCut_s (X := X) (sg := [.ki .i64, .ki .i64, .ki .i64, .kb]) (cu := zdl k) (cl := zdh k) (tys := [[0], [0], [0]]) (zdi k) (cutOK_of (l := []) (by kernel_rfl) trivial) fun x Q R h => by
    simp only [S_CivilOf_c12, optK_bind, optK_bif, optK_pure, optK_none, optK_oc, optK_guardT, optK_map] at h
    refine hold_of h ?_
    kernel_rfl
def zdn (x : Int × Int × Unit) (o : Oc (Int × Int) (Unit)) (Q : Ex → VSt D → Prop) (R : VR D → Prop) : Prop := ocP o (fun v0 => Q .normal (mkSt ⟨[(0, .hole), (5, .hole)], []⟩ [.int .i64 v0.1, .int .i64 v0.2])) (fun w0 => Q (.exit 0) (mkSt ⟨[(0, .hole), (5, .hole)], []⟩ [.int .i64 x.1, .int .i64 x.2.1]))
def zdo (k : Nat) : Cut D := cutS ⟨[(0, .hole), (5, .hole)], []⟩ [.ki .i64, .ki .i64] (fun (x : Int × Int × Unit) => S_CivilOf_b1 k x.1 x.2.1) zdn
def zdp (k : Nat) : Cuts D := ⟨[], [(12, some (zdk k))]⟩
theorem zdq (k : Nat) : CutFor X zdg k Go.Proofs.Tryz.f171.results.toList (zdo k) (sub (bodyOf Go.Proofs.Tryz.f171) [1, 1, 1, 0, 0, 0]) :=
  joinCut_s (X := X) (sg := [.ki .i64, .ki .i64]) (cu := zdp k) (cl := zdh k) (tys := [[0], [0], [0]]) (zdi k) (cutOK_of (l := [(zdk k, sub (bodyOf Go.Proofs.Tryz.f171) [1, 1, 1, 0, 0, 0, 0, 1, 0, 1])]) (by kernel_rfl) ⟨zdm k, trivial⟩) fun x Q R h => by
    simp only [S_CivilOf_b1, optK_bind, optK_bif, optK_pure, optK_none, optK_oc, optK_guardT, optK_map] at h
    refine hold_of h ?_
    kernel_rfl
def zdr (x : Int × Int × Unit) (o : Int × Int) (Q : Ex → VSt D → Prop) (R : VR D → Prop) : Prop := Q .normal (mkSt ⟨[(0, .hole), (5, .hole)], []⟩ [.int .i64 o.1, .int .i64 o.2])
def zds (k : Nat) : Cut D := cutS ⟨[(0, .hole), (5, .hole)], []⟩ [.ki .i64, .ki .i64] (fun (x : Int × Int × Unit) => S_CivilOf_b0 k k x.1 x.2.1) zdr
def zdt (k : Nat) : Cuts D := ⟨[(1, some (zdo k))], []⟩
theorem zdu (k : Nat) : CutFor X zdg k Go.Proofs.Tryz.f171.results.toList (zds k) (sub (bodyOf Go.Proofs.Tryz.f171) [1, 1, 1, 0]) :=
  loopCut_s (X := X) (sg := [.ki .i64, .ki .i64]) (cu := zdt k) (cl := zdh k) (tys := [[0], [0], [0]]) (id := 0) (c := sub (bodyOf Go.Proofs.Tryz.f171) [1, 1, 1, 0, 0, 0]) (f := fun n => fun (x : Int × Int × Unit) => S_CivilOf_b0 k n x.1 x.2.1) (zdi k) (cutOK_of (l := [(zdo k, sub (bodyOf Go.Proofs.Tryz.f171) [1, 1, 1, 0, 0, 0])]) (by kernel_rfl) ⟨zdq k, trivial⟩) (fun _ => rfl) (fun n x Q R h => by
    simp only [S_CivilOf_b0, optK_bind, optK_bif, optK_pure, optK_none, optK_oc, optK_guardT, optK_map] at h
    refine hold_of h ?_
    kernel_rfl) (by kernel_rfl)
def zdv (x : Int × Int × Int × Unit) (o : Int × Int) (Q : Ex → VSt D → Prop) (R : VR D → Prop) : Prop := Q .normal (mkSt ⟨[(0, .hole), (5, .hole), (7, .hole)], []⟩ [.int .i64 o.1, .int .i64 x.2.1, .int .i64 o.2])
def zdw (k : Nat) : Cut D := cutS ⟨[(0, .hole), (5, .hole), (7, .hole)], []⟩ [.ki .i64, .ki .i64, .ki .i64] (fun (x : Int × Int × Int × Unit) => S_CivilOf_b2 k k x.1 x.2.1 x.2.2.1) zdv
def zdx (k : Nat) : Cuts D := ⟨[], []⟩
theorem zdy (k : Nat) : CutFor X zdg k Go.Proofs.Tryz.f171.results.toList (zdw k) (sub (bodyOf Go.Proofs.Tryz.f171) [1, 1, 1, 1, 1, 0]) :=
  loopCut_s (X := X) (sg := [.ki .i64, .ki .i64, .ki .i64]) (cu := zdx k) (cl := zdh k) (tys := [[0], [0], [0]]) (id := 2) (c := sub (bodyOf Go.Proofs.Tryz.f171) [1, 1, 1, 1, 1, 0, 0, 0]) (f := fun n => fun (x : Int × Int × Int × Unit) => S_CivilOf_b2 k n x.1 x.2.1 x.2.2.1) (zdi k) (cutOK_of (l := []) (by kernel_rfl) trivial) (fun _ => rfl) (fun n x Q R h => by
    simp only [S_CivilOf_b2, optK_bind, optK_bif, optK_pure, optK_none, optK_oc, optK_guardT, optK_map] at h
    refine hold_of h ?_
    kernel_rfl) (by kernel_rfl)
def zdz (k : Nat) : Cuts D := ⟨[(0, some (zds k)), (2, some (zdw k))], []⟩
def ze0 : List Ar := [.c (.ki .i64)]
def ze1 (k : Nat) (x : TupA D ze0) : Option (Int × Int × Int) := S_CivilOf k x.1
def ze2 (r : Int × Int × Int) : VR D := .tup [.c (.int .i64 r.1), .c (.int .i64 r.2.1), .c (.int .i64 r.2.2)]
theorem ze3 (k : Nat) : Does P X 171 ze0 (ze1 k) ze2 :=
  does_of (body := bodyOf Go.Proofs.Tryz.f171) (pl := zdg) (k := k) (cu := zdz k) (tys := [[0], [0], [0]]) (zdi k) ctx mixed Go.Proofs.Tryz.func171 (by kernel_rfl) (by kernel_rfl) (cutOK_of (l := [(zds k, sub (bodyOf Go.Proofs.Tryz.f171) [1, 1, 1, 0]), (zdw k, sub (bodyOf Go.Proofs.Tryz.f171) [1, 1, 1, 1, 1, 0])]) (by kernel_rfl) ⟨zdu k, zdy k, trivial⟩) fun x R h => by
    simp only [ze1, S_CivilOf, optK_bind, optK_bif, optK_pure, optK_none, optK_oc, optK_guardT, optK_map] at h
    refine hold_of h ?_
    kernel_rfl
def ze4 (k : Nat) : Entry D := entS ze0 (ze1 k) ze2
theorem ze5 (k : Nat) : EntryOK X 171 (ze4 k) := (ze3 k).en rfl
def ze6 : Plan := ⟨[(0, []), (1, [(0, some 9)])],
  [],
  []⟩
def ze7 (k : Nat) : Calls' D := ⟨[], [], [], [], []⟩
theorem ze8 (k : Nat) : CallsOK X (ze7 k) := .nil cod
def ze9 (k : Nat) : Cuts D := ⟨[], []⟩
def zea : List Ar := []
def zeb (k : Nat) (x : TupA D zea) : Option ((List (List UInt8))) := S_l3Days k 
def zec (r : (List (List UInt8))) : VR D := .p (.c (.sl 9 r))
theorem zed (k : Nat) : Does P X 172 zea (zeb k) zec :=
  does_of (body := bodyOf Go.Proofs.Tryz.f172) (pl := ze6) (k := k) (cu := ze9 k) (tys := [[9]]) (ze8 k) ctx mixed Go.Proofs.Tryz.func172 (by kernel_rfl) (by kernel_rfl) (cutOK_of (l := []) (by kernel_rfl) trivial) fun x R h => by
    simp only [zeb, S_l3Days, optK_bind, optK_bif, optK_pure, optK_none, optK_oc, optK_guardT, optK_map] at h
    refine hold_of h ?_
    kernel_rfl
def zee (k : Nat) : Entry D := entS zea (zeb k) zec
theorem zef (k : Nat) : EntryOK X 172 (zee k) := (zed k).en rfl
def zeg : Plan := ⟨[(0, [(0, none)]), (1, [(2, none)])],
  [],
  []⟩
def zeh (k : Nat) : Calls' D := ⟨[(226, zc4 k)], [], [], [], []⟩
theorem zei (k : Nat) : CallsOK X (zeh k) := .cons (zc5 k) (.nil cod)
def zej (k : Nat) : Cuts D := ⟨[], []⟩
def zek : List Ar := [.c (.ki .i64)]
def zel (k : Nat) (x : TupA D zek) : Option (Int) := S_WeekdayOf k x.1
def zem (r : Int) : VR D := .p (.c (.int .i64 r))
theorem zen (k : Nat) : Does P X 173 zek (zel k) zem :=
  does_of (body := bodyOf Go.Proofs.Tryz.f173) (pl := zeg) (k := k) (cu := zej k) (tys := [[0]]) (zei k) ctx mixed Go.Proofs.Tryz.func173 (by kernel_rfl) (by kernel_rfl) (cutOK_of (l := []) (by kernel_rfl) trivial) fun x R h => by
    simp only [zel, S_WeekdayOf, optK_bind, optK_bif, optK_pure, optK_none, optK_oc, optK_guardT, optK_map] at h
    refine hold_of h ?_
    kernel_rfl
def zeo (k : Nat) : Entry D := entS zek (zel k) zem
theorem zep (k : Nat) : EntryOK X 173 (zeo k) := (zen k).en rfl
def zeq : Plan := ⟨[(0, [(0, none), (1, none)]), (1, [(0, none), (1, none), (7, none)]), (2, [(4, none)]), (3, [(4, none)])],
  [],
  [(7, ([(1, none)], [(0, none)]))]⟩
def zer (k : Nat) : Calls' D := ⟨[], [], [], [], []⟩
theorem zes (k : Nat) : CallsOK X (zer k) := .nil cod
def zet (k : Nat) : Cuts D := ⟨[], []⟩
def zeu : List Ar := [.c (.ki .i64), .c (.ki .i64)]
def zev (k : Nat) (x : TupA D zeu) : Option (Int) := S_Max k x.1 x.2.1
def zew (r : Int) : VR D := .p (.c (.int .i64 r))
theorem zex (k : Nat) : Does P X 48 zeu (zev k) zew :=
  does_of (body := bodyOf Go.Proofs.Tryz.f48) (pl := zeq) (k := k) (cu := zet k) (tys := [[0]]) (zes k) ctx mixed Go.Proofs.Tryz.func48 (by kernel_rfl) (by kernel_rfl) (cutOK_of (l := []) (by kernel_rfl) trivial) fun x R h => by
    simp only [zev, S_Max, optK_bind, optK_bif, optK_pure, optK_none, optK_oc, optK_guardT, optK_map] at h
    refine hold_of h ?_
    kernel_rfl
def zey (k : Nat) : Entry D := entS zeu (zev k) zew
theorem zez (k : Nat) : EntryOK X 48 (zey k) := (zex k).en rfl
def zf0 : Plan := ⟨[(0, [(0, none)]), (1, [(0, none), (7, none)]), (2, [(2, none)]), (3, [(0, none), (3, none)]), (4, [(0, none), (3, none), (4, none)]), (5, [(0, none), (3, none), (4, none), (10, none)]), (6, [(0, none), (3, none), (4, none)]), (7, [(0, none), (3, none), (4, none), (5, none)]), (8, [(0, none), (3, none), (4, none), (5, none), (16, none)]), (9, [(0, none), (3, none), (4, none), (5, none)]), (10, [(0, none), (3, none), (4, none)]), (11, [(3, none), (27, none)]), (12, [(2, none)]), (13, [(2, none)])],
  [(0, [(0, none), (3, none)]), (1, [(0, none), (3, none), (4, none)])],
  [(7, ([], [(0, none)])), (10, ([(0, none), (3, none), (4, none)], [(0, none), (3, none)])), (16, ([(0, none), (3, none), (4, none), (5, none)], [(0, none), (3, none), (4, none), (5, none)])), (27, ([(3, none)], [(3, none)]))]⟩
def zf1 (k : Nat) : Calls' D := ⟨[], [], [], [], []⟩
theorem zf2 (k : Nat) : CallsOK X (zf1 k) := .nil cod
def zf3 (x : Int × (List UInt8) × Int × Int × Bool × Unit) (o : Int) (Q : Ex → VSt D → Prop) (R : VR D → Prop) : Prop := Q .normal (mkSt ⟨[(0, .hole), (3, .hole), (4, .hole), (5, .hole)], []⟩ [.int .i64 x.1, .str x.2.1, .int .i64 x.2.2.1, .int .i64 o])
def zf4 (k : Nat) : Cut D := cutS ⟨[(0, .hole), (3, .hole), (4, .hole), (5, .hole), (16, .hole)], []⟩ [.ki .i64, .ks, .ki .i64, .ki .i64, .kb] (fun (x : Int × (List UInt8) × Int × Int × Bool × Unit) => S_FormatInt_c16 k x.1 x.2.1 x.2.2.1 x.2.2.2.1 x.2.2.2.2.1) zf3
def zf5 (k : Nat) : Cuts D := ⟨[], []⟩
theorem zf6 (k : Nat) : CutFor X zf0 k Go.Proofs.Tryz.f167.results.toList (zf4 k) (sub (bodyOf Go.Proofs.Tryz.f167) [1, 1, 1, 0, 1, 0, 0, 1, 0, 0, 1, 0, 1]) :=
  joinCut_s (X := X) (sg := [.ki .i64, .ks, .ki .i64, .ki .i64, .kb]) (cu := zf5 k) (cl := zf1 k) (tys := [[0]]) (zf2 k) (cutOK_of (l := []) (by kernel_rfl) trivial) fun x Q R h => by
    simp only [S_FormatInt_c16, optK_bind, optK_bif, optK_pure, optK_none, optK_oc, optK_guardT, optK_map] at h
    refine hold_of h ?_
    kernel_rfl
def zf7 (x : Int × (List UInt8) × Int × Unit) (o : (List UInt8)) (Q : Ex → VSt D → Prop) (R : VR D → Prop) : Prop := Q .normal (mkSt ⟨[(0, .hole), (3, .hole), (4, .hole)], []⟩ [.int .i64 x.1, .str o, .int .i64 x.2.2.1])
def zf8 (k : Nat) : Cut D := cutS ⟨[(0, .hole), (3, .hole), (4, .hole)], []⟩ [.ki .i64, .ks, .ki .i64] (fun (x : Int × (List UInt8) × Int × Unit) => S_FormatInt_b1 k x.1 x.2.1 x.2.2.1) zf7
def zf9 (k : Nat) : Cuts D := ⟨[], [(16, some (zf4 k))]⟩
theorem zfa (k : Nat) : CutFor X zf0 k Go.Proofs.Tryz.f167.results.toList (zf8 k) (sub (bodyOf Go.Proofs.Tryz.f167) [1, 1, 1, 0, 1, 0, 0, 1, 0]) :=
  joinCut_s (X := X) (sg := [.ki .i64, .ks, .ki .i64]) (cu := zf9 k) (cl := zf1 k) (tys := [[0]]) (zf2 k) (cutOK_of (l := [(zf4 k, sub (bodyOf Go.Proofs.Tryz.f167) [1, 1, 1, 0, 1, 0, 0, 1, 0, 0, 1, 0, 1])]) (by kernel_rfl) ⟨zf6 k, trivial⟩) fun x Q R h => by
    simp only [S_FormatInt_b1, optK_bind, optK_bif, optK_pure, optK_none, optK_oc, optK_guardT, optK_map] at h
    refine hold_of h ?_
    kernel_rfl
def zfb (x : Int × (List UInt8) × Int × Unit) (o : (List UInt8)) (Q : Ex → VSt D → Prop) (R : VR D → Prop) : Prop := Q .normal (mkSt ⟨[(0, .hole), (3, .hole)], []⟩ [.int .i64 x.1, .str o])
def zfc (k : Nat) : Cut D := cutS ⟨[(0, .hole), (3, .hole), (4, .hole)], []⟩ [.ki .i64, .ks, .ki .i64] (fun (x : Int × (List UInt8) × Int × Unit) => S_FormatInt_b0 k k x.1 x.2.1 x.2.2.1) zfb
def zfd (k : Nat) : Cuts D := ⟨[(1, some (zf8 k))], []⟩
theorem zfe (k : Nat) : CutFor X zf0 k Go.Proofs.Tryz.f167.results.toList (zfc k) (sub (bodyOf Go.Proofs.Tryz.f167) [1, 1, 1, 0, 1]) :=
  loopCut_s (X := X) (sg := [.ki .i64, .ks, .ki .i64]) (cu := zfd k) (cl := zf1 k) (tys := [[0]]) (id := 0) (c := sub (bodyOf Go.Proofs.Tryz.f167) [1, 1, 1, 0, 1, 0, 0]) (f := fun n => fun (x : Int × (List UInt8) × Int × Unit) => S_FormatInt_b0 k n x.1 x.2.1 x.2.2.1) (zf2 k) (cutOK_of (l := [(zf8 k, sub (bodyOf Go.Proofs.Tryz.f167) [1, 1, 1, 0, 1, 0, 0, 1, 0])]) (by kernel_rfl) ⟨zfa k, trivial⟩) (fun _ => rfl) (fun n x Q R h => by
    simp only [S_FormatInt_b0, optK_bind, optK_bif, optK_pure, optK_none, optK_oc, optK_guardT, optK_map] at h
    refine hold_of h ?_
    kernel_rfl) (by kernel_rfl)
def zff (k : Nat) : Cuts D := ⟨[(0, some (zfc k))], []⟩
def zfg : List Ar := [.c (.ki .i64)]
def zfh (k : Nat) (x : TupA D zfg) : Option ((List UInt8)) := S_FormatInt k x.1
def zfi (r : (List UInt8)) : VR D := .p (.c (.str r))
theorem zfj (k : Nat) : Does P X 167 zfg (zfh k) zfi :=
  does_of (body := bodyOf Go.Proofs.Tryz.f167) (pl := zf0) (k := k) (cu := zff k) (tys := [[0]]) (zf2 k) ctx mixed Go.Proofs.Tryz.func167 (by kernel_rfl) (by kernel_rfl) (cutOK_of (l := [(zfc k, sub (bodyOf Go.Proofs.Tryz.f167) [1, 1, 1, 0, 1])]) (by kernel_rfl) ⟨zfe k, trivial⟩) fun x R h => by
    simp only [zfh, S_FormatInt, optK_bind, optK_bif, optK_pure, optK_none, optK_oc, optK_guardT, optK_map] at h
    refine hold_of h ?_
    kernel_rfl
def zfk (k : Nat) : Entry D := entS zfg (zfh k) zfi
theorem zfl (k : Nat) : EntryOK X 167 (zfk k) := (zfj k).en rfl
def zfm : Plan := ⟨[(0, [(0, none), (1, none)]), (1, [(1, none), (5, none)]), (2, [(1, none), (5, none), (17, none)]), (3, [(1, none), (5, none)]), (4, [(4, none)])],
  [(0, [(5, none)]), (1, [(1, none), (5, none)])],
  [(17, ([(1, none), (5, none)], [(5, none)]))]⟩
def zfn (k : Nat) : Calls' D := ⟨[(48, zey k), (167, zfk k)], [], [], [], []⟩
theorem zfo (k : Nat) : CallsOK X (zfn k) := .cons (zez k) (.cons (zfl k) (.nil cod))
def zfp (x : Int × (List UInt8) × Unit) (o : (List UInt8)) (Q : Ex → VSt D → Prop) (R : VR D → Prop) : Prop := Q .normal (mkSt ⟨[(5, .hole)], []⟩ [.str o])
def zfq (k : Nat) : Cut D := cutS ⟨[(1, .hole), (5, .hole)], []⟩ [.ki .i64, .ks] (fun (x : Int × (List UInt8) × Unit) => S_Digits_b0 k k x.1 x.2.1) zfp
def zfr (k : Nat) : Cuts D := ⟨[], []⟩
theorem zfs (k : Nat) : CutFor X zfm k Go.Proofs.Tryz.f174.results.toList (zfq k) (sub (bodyOf Go.Proofs.Tryz.f174) [1, 1, 0]) :=
  loopCut_s (X := X) (sg := [.ki .i64, .ks]) (cu := zfr k) (cl := zfn k) (tys := [[0]]) (id := 0) (c := sub (bodyOf Go.Proofs.Tryz.f174) [1, 1, 0, 0, 0]) (f := fun n => fun (x : Int × (List UInt8) × Unit) => S_Digits_b0 k n x.1 x.2.1) (zfo k) (cutOK_of (l := []) (by kernel_rfl) trivial) (fun _ => rfl) (fun n x Q R h => by
    simp only [S_Digits_b0, optK_bind, optK_bif, optK_pure, optK_none, optK_oc, optK_guardT, optK_map] at h
    refine hold_of h ?_
    kernel_rfl) (by kernel_rfl)
def zft (k : Nat) : Cuts D := ⟨[(0, some (zfq k))], []⟩
def zfu : List Ar := [.c (.ki .i64), .c (.ki .i64)]
def zfv (k : Nat) (x : TupA D zfu) : Option ((List UInt8)) := S_Digits k x.1 x.2.1
def zfw (r : (List UInt8)) : VR D := .p (.c (.str r))
theorem zfx (k : Nat) : Does P X 174 zfu (zfv k) zfw :=
  does_of (body := bodyOf Go.Proofs.Tryz.f174) (pl := zfm) (k := k) (cu := zft k) (tys := [[0]]) (zfo k) ctx mixed Go.Proofs.Tryz.func174 (by kernel_rfl) (by kernel_rfl) (cutOK_of (l := [(zfq k, sub (bodyOf Go.Proofs.Tryz.f174) [1, 1, 0])]) (by kernel_rfl) ⟨zfs k, trivial⟩) fun x R h => by
    simp only [zfv, S_Digits, optK_bind, optK_bif, optK_pure, optK_none, optK_oc, optK_guardT, optK_map] at h
    refine hold_of h ?_
    kernel_rfl
def zfy (k : Nat) : Entry D := entS zfu (zfv k) zfw
theorem zfz (k : Nat) : EntryOK X 174 (zfy k) := (zfx k).en rfl
def zg0 : Plan := ⟨[(0, [(0, none)]), (1, [(3, none)]), (2, [(2, none)])],
  [],
  []⟩
def zg1 (k : Nat) : Calls' D := ⟨[(174, zfy k)], [], [], [], []⟩
theorem zg2 (k : Nat) : CallsOK X (zg1 k) := .cons (zfz k) (.nil cod)
def zg3 (k : Nat) : Cuts D := ⟨[], []⟩
def zg4 : List Ar := [.c (.ki .i64)]
def zg5 (k : Nat) (x : TupA D zg4) : Option ((List UInt8)) := S_l3Clock k x.1
def zg6 (r : (List UInt8)) : VR D := .p (.c (.str r))
theorem zg7 (k : Nat) : Does P X 175 zg4 (zg5 k) zg6 :=
  does_of (body := bodyOf Go.Proofs.Tryz.f175) (pl := zg0) (k := k) (cu := zg3 k) (tys := [[0]]) (zg2 k) ctx mixed Go.Proofs.Tryz.func175 (by kernel_rfl) (by kernel_rfl) (cutOK_of (l := []) (by kernel_rfl) trivial) fun x R h => by
    simp only [zg5, S_l3Clock, optK_bind, optK_bif, optK_pure, optK_none, optK_oc, optK_guardT, optK_map] at h
    refine hold_of h ?_
    kernel_rfl
def zg8 (k : Nat) : Entry D := entS zg4 (zg5 k) zg6
theorem zg9 (k : Nat) : EntryOK X 175 (zg8 k) := (zg7 k).en rfl
def zga : Plan := ⟨[(0, [(0, none)]), (1, [(0, none), (3, none), (4, none), (5, none)]), (2, [(0, none), (3, none), (4, none), (5, none), (6, none)]), (3, [(0, none), (3, none), (5, none), (6, none), (7, none)]), (4, [(0, none), (3, none), (5, none), (6, none), (7, none), (8, none)]), (5, [(0, none), (3, none), (5, none), (6, none), (7, none), (8, none), (9, none)]), (6, [(0, none), (3, none), (5, none), (6, none), (7, none), (8, none), (9, none), (10, none)]), (7, [(0, none), (3, none), (5, none), (6, none), (7, none), (8, none), (9, none), (10, none), (69, none)]), (8, [(0, none), (3, none), (6, none), (7, none), (8, none), (9, none), (10, none)]), (9, [(8, none), (9, none), (11, none)]), (10, [(2, some 9)])],
  [],
  [(69, ([(0, none), (3, none), (5, none), (6, none), (7, none), (8, none), (9, none)], [(0, none), (3, none), (6, none), (7, none), (8, none), (9, none), (10, none)]))]⟩
def zgb (k : Nat) : Calls' D := ⟨[(171, ze4 k), (172, zee k), (173, zeo k), (168, zbg k), (174, zfy k), (175, zg8 k), (167, zfk k)], [], [], [], []⟩
theorem zgc (k : Nat) : CallsOK X (zgb k) := .cons (ze5 k) (.cons (zef k) (.cons (zep k) (.cons (zbh k) (.cons (zfz k) (.cons (zg9 k) (.cons (zfl k) (.nil cod)))))))
def zgd (x : Int × Int × Int × (List UInt8) × (List UInt8) × (List UInt8) × (List UInt8) × (List UInt8) × Bool × Unit) (o : (List UInt8)) (Q : Ex → VSt D → Prop) (R : VR D → Prop) : Prop := Q .normal (mkSt ⟨[(0, .hole), (3, .hole), (6, .hole), (7, .hole), (8, .hole), (9, .hole), (10, .hole)], []⟩ [.int .i64 x.1, .int .i64 x.2.1, .str x.2.2.2.1, .str x.2.2.2.2.1, .str x.2.2.2.2.2.1, .str x.2.2.2.2.2.2.1, .str o])
def zge (k : Nat) : Cut D := cutS ⟨[(0, .hole), (3, .hole), (5, .hole), (6, .hole), (7, .hole), (8, .hole), (9, .hole), (10, .hole), (69, .hole)], []⟩ [.ki .i64, .ki .i64, .ki .i64, .ks, .ks, .ks, .ks, .ks, .kb] (fun (x : Int × Int × Int × (List UInt8) × (List UInt8) × (List UInt8) × (List UInt8) × (List UInt8) × Bool × Unit) => S_l3Forms_c69 k x.1 x.2.1 x.2.2.1 x.2.2.2.1 x.2.2.2.2.1 x.2.2.2.2.2.1 x.2.2.2.2.2.2.1 x.2.2.2.2.2.2.2.1 x.2.2.2.2.2.2.2.2.1) zgd
def zgf (k : Nat) : Cuts D := ⟨[], []⟩
theorem zgg (k : Nat) : CutFor X zga k Go.Proofs.Tryz.f115.results.toList (zge k) (sub (bodyOf Go.Proofs.Tryz.f115) [1, 1, 1, 1, 1, 1, 1, 0, 1]) :=
  joinCut_s (X := X) (sg := [.ki .i64, .ki .i64, .ki .i64, .ks, .ks, .ks, .ks, .ks, .kb]) (cu := zgf k) (cl := zgb k) (tys := [[9]]) (zgc k) (cutOK_of (l := []) (by kernel_rfl) trivial) fun x Q R h => by
    simp only [S_l3Forms_c69, optK_bind, optK_bif, optK_pure, optK_none, optK_oc, optK_guardT, optK_map] at h
    refine hold_of h ?_
    kernel_rfl
def zgh (k : Nat) : Cuts D := ⟨[], [(69, some (zge k))]⟩
def zgi : List Ar := [.c (.ki .i64)]
def zgj (k : Nat) (x : TupA D zgi) : Option ((List (List UInt8))) := S_l3Forms k x.1
def zgk (r : (List (List UInt8))) : VR D := .p (.c (.sl 9 r))
theorem zgl (k : Nat) : Does P X 115 zgi (zgj k) zgk :=
  does_of (body := bodyOf Go.Proofs.Tryz.f115) (pl := zga) (k := k) (cu := zgh k) (tys := [[9]]) (zgc k) ctx mixed Go.Proofs.Tryz.func115 (by kernel_rfl) (by kernel_rfl) (cutOK_of (l := [(zge k, sub (bodyOf Go.Proofs.Tryz.f115) [1, 1, 1, 1, 1, 1, 1, 0, 1])]) (by kernel_rfl) ⟨zgg k, trivial⟩) fun x R h => by
    simp only [zgj, S_l3Forms, optK_bind, optK_bif, optK_pure, optK_none, optK_oc, optK_guardT, optK_map] at h
    refine hold_of h ?_
    kernel_rfl
def zgm (k : Nat) : Entry D := entS zgi (zgj k) zgk
theorem zgn (k : Nat) : EntryOK X 115 (zgm k) := (zgl k).en rfl
def zgo : Plan := ⟨[(0, [(0, none)]), (1, [(0, none), (4, none)]), (2, [(0, none), (4, none), (5, none), (6, none), (7, none), (8, none)]), (3, [(0, none), (4, none), (5, none), (6, none), (7, none), (8, none), (15, none)]), (4, [(0, none), (5, none)]), (5, [(0, none), (5, none), (6, none)]), (6, [(0, none), (5, none), (6, none), (7, none)]), (7, [(0, none), (5, none), (6, none), (7, none), (8, none)]), (8, [(0, none), (4, none), (5, none), (6, none), (7, none), (8, none), (28, none)]), (9, [(0, none), (5, none)]), (10, [(0, none), (5, none), (6, none)]), (11, [(0, none), (5, none), (6, none), (7, none)]), (12, [(0, none), (5, none), (6, none), (7, none), (43, none)]), (13, [(0, none), (5, none), (6, none), (7, none)]), (14, [(0, none), (5, none), (6, none), (7, none), (8, none)]), (15, [(0, none), (4, none), (5, none), (6, none), (7, none), (8, none), (48, none)]), (16, [(0, none), (4, none), (5, none)]), (17, [(0, none), (4, none), (5, none), (57, none)]), (18, [(0, none), (4, none), (5, none)]), (19, [(0, none), (4, none), (5, none), (6, none)]), (20, [(0, none), (4, none), (5, none), (6, none), (7, none)]), (21, [(0, none), (5, none), (6, none), (7, none), (8, none)]), (22, [(0, none), (8, none), (9, none)]), (23, [(0, none), (8, none), (9, none), (75, none)]), (24, [(2, none), (3, none)]), (25, [(0, none), (10, none)]), (26, [(0, none), (10, none), (96, none)]), (27, [(2, none), (3, none)]), (28, [(0, none), (10, none), (11, some 9)]), (29, [(0, none), (10, none), (11, some 9), (12, none)]), (30, [(0, none), (10, none), (11, some 9), (12, none), (102, none)]), (31, [(0, none), (10, none), (11, some 9), (12, none)]), (32, [(0, none), (10, none), (11, some 9), (12, none), (110, none)]), (33, [(2, none), (3, none)]), (34, [(2, none), (3, none)])],
  [(0, [(0, none), (5, none), (6, none), (7, none), (8, none)]), (1, []), (2, [(0, none), (10, none), (11, some 9), (12, none)])],
  [(15, ([(0, none)], [(0, none), (4, none), (5, none), (6, none), (7, none), (8, none)])), (28, ([(0, none)], [(0, none), (4, none), (5, none), (6, none), (7, none), (8, none)])), (43, ([(0, none), (5, none), (6, none)], [(0, none), (5, none), (6, none), (7, none)])), (48, ([(0, none), (4, none)], [(0, none), (5, none), (6, none), (7, none), (8, none)])), (57, ([(0, none), (4, none), (5, none)], [(0, none), (4, none), (5, none)])), (75, ([], [(0, none), (8, none), (9, none)])), (96, ([], [(0, none), (10, none)])), (102, ([(0, none), (10, none), (11, some 9), (12, none)], [])), (110, ([(10, none)], [(0, none), (10, none), (11, some 9), (12, none)]))]⟩
def zgp (k : Nat) : Calls' D := ⟨[(112, zb6 k), (113, zbu k), (78, z6c k), (114, zde k), (115, zgm k)], [], [], [], []⟩
theorem zgq (k : Nat) : CallsOK X (zgp k) := .cons (zb7 k) (.cons (zbv k) (.cons (z6d k) (.cons (zdf k) (.cons (zgn k) (.nil cod)))))
def zgr (x : (List UInt8) × Int × Int × Int × Bool × Unit) (o : Int) (Q : Ex → VSt D → Prop) (R : VR D → Prop) : Prop := Q .normal (mkSt ⟨[(0, .hole), (5, .hole), (6, .hole), (7, .hole)], []⟩ [.str x.1, .int .i64 x.2.1, .int .i64 x.2.2.1, .int .i64 o])
def zgs (k : Nat) : Cut D := cutS ⟨[(0, .hole), (5, .hole), (6, .hole), (7, .hole), (43, .hole)], []⟩ [.ks, .ki .i64, .ki .i64, .ki .i64, .kb] (fun (x : (List UInt8) × Int × Int × Int × Bool × Unit) => S_ParseDate_c43 k x.1 x.2.1 x.2.2.1 x.2.2.2.1 x.2.2.2.2.1) zgr
def zgt (k : Nat) : Cuts D := ⟨[], []⟩
theorem zgu (k : Nat) : CutFor X zgo k Go.Proofs.Tryz.f49.results.toList (zgs k) (sub (bodyOf Go.Proofs.Tryz.f49) [1, 1, 1, 0, 0, 1, 1, 1, 0, 1, 1, 1, 0, 1]) :=
  joinCut_s (X := X) (sg := [.ks, .ki .i64, .ki .i64, .ki .i64, .kb]) (cu := zgt k) (cl := zgp k) (tys := [[0], [0]]) (zgq k) (cutOK_of (l := []) (by kernel_rfl) trivial) fun x Q R h => by
    simp only [S_ParseDate_c43, optK_bind, optK_bif, optK_pure, optK_none, optK_oc, optK_guardT, optK_map] at h
    refine hold_of h ?_
    kernel_rfl
def zgv (x : (List UInt8) × Int × Int × Bool × Unit) (o : Int) (Q : Ex → VSt D → Prop) (R : VR D → Prop) : Prop := Q .normal (mkSt ⟨[(0, .hole), (4, .hole), (5, .hole)], []⟩ [.str x.1, .int .i64 x.2.1, .int .i64 o])
def zgw (k : Nat) : Cut D := cutS ⟨[(0, .hole), (4, .hole), (5, .hole), (57, .hole)], []⟩ [.ks, .ki .i64, .ki .i64, .kb] (fun (x : (List UInt8) × Int × Int × Bool × Unit) => S_ParseDate_c57 k x.1 x.2.1 x.2.2.1 x.2.2.2.1) zgv
def zgx (k : Nat) : Cuts D := ⟨[], []⟩
theorem zgy (k : Nat) : CutFor X zgo k Go.Proofs.Tryz.f49.results.toList (zgw k) (sub (bodyOf Go.Proofs.Tryz.f49) [1, 1, 1, 0, 0, 1, 1, 1, 1, 1, 0, 1, 0, 1]) :=
  joinCut_s (X := X) (sg := [.ks, .ki .i64, .ki .i64, .kb]) (cu := zgx k) (cl := zgp k) (tys := [[0], [0]]) (zgq k) (cutOK_of (l := []) (by kernel_rfl) trivial) fun x Q R h => by
    simp only [S_ParseDate_c57, optK_bind, optK_bif, optK_pure, optK_none, optK_oc, optK_guardT, optK_map] at h
    refine hold_of h ?_
    kernel_rfl
def zgz (x : (List UInt8) × Int × Int × Int × Int × Int × Bool × Unit) (o : Int × Int × Int × Int) (Q : Ex → VSt D → Prop) (R : VR D → Prop) : Prop := Q .normal (mkSt ⟨[(0, .hole), (5, .hole), (6, .hole), (7, .hole), (8, .hole)], []⟩ [.str x.1, .int .i64 o.1, .int .i64 o.2.1, .int .i64 o.2.2.1, .int .i64 o.2.2.2])
def zh0 (k : Nat) : Cut D := cutS ⟨[(0, .hole), (4, .hole), (5, .hole), (6, .hole), (7, .hole), (8, .hole), (48, .hole)], []⟩ [.ks, .ki .i64, .ki .i64, .ki .i64, .ki .i64, .ki .i64, .kb] (fun (x : (List UInt8) × Int × Int × Int × Int × Int × Bool × Unit) => S_ParseDate_c48 k x.1 x.2.1 x.2.2.1 x.2.2.2.1 x.2.2.2.2.1 x.2.2.2.2.2.1 x.2.2.2.2.2.2.1) zgz
def zh1 (k : Nat) : Cuts D := ⟨[], [(57, some (zgw k))]⟩
theorem zh2 (k : Nat) : CutFor X zgo k Go.Proofs.Tryz.f49.results.toList (zh0 k) (sub (bodyOf Go.Proofs.Tryz.f49) [1, 1, 1, 0, 0, 1, 1, 1, 1, 1]) :=
  joinCut_s (X := X) (sg := [.ks, .ki .i64, .ki .i64, .ki .i64, .ki .i64, .ki .i64, .kb]) (cu := zh1 k) (cl := zgp k) (tys := [[0], [0]]) (zgq k) (cutOK_of (l := [(zgw k, sub (bodyOf Go.Proofs.Tryz.f49) [1, 1, 1, 0, 0, 1, 1, 1, 1, 1, 0, 1, 0, 1])]) (by kernel_rfl) ⟨zgy k, trivial⟩) fun x Q R h => by
    simp only [S_ParseDate_c48, optK_bind, optK_bif, optK_pure, optK_none, optK_oc, optK_guardT, optK_map] at h
    refine hold_of h ?_
    kernel_rfl
def zh3 (x : (List UInt8) × Int × Int × Int × Int × Int × Bool × Unit) (o : Int × Int × Int × Int) (Q : Ex → VSt D → Prop) (R : VR D → Prop) : Prop := Q .normal (mkSt ⟨[(0, .hole), (5, .hole), (6, .hole), (7, .hole), (8, .hole)], []⟩ [.str x.1, .int .i64 o.1, .int .i64 o.2.1, .int .i64 o.2.2.1, .int .i64 o.2.2.2])
def zh4 (k : Nat) : Cut D := cutS ⟨[(0, .hole), (4, .hole), (5, .hole), (6, .hole), (7, .hole), (8, .hole), (28, .hole)], []⟩ [.ks, .ki .i64, .ki .i64, .ki .i64, .ki .i64, .ki .i64, .kb] (fun (x : (List UInt8) × Int × Int × Int × Int × Int × Bool × Unit) => S_ParseDate_c28 k x.1 x.2.1 x.2.2.1 x.2.2.2.1 x.2.2.2.2.1 x.2.2.2.2.2.1 x.2.2.2.2.2.2.1) zh3
def zh5 (k : Nat) : Cuts D := ⟨[], [(43, some (zgs k)), (48, some (zh0 k))]⟩
theorem zh6 (k : Nat) : CutFor X zgo k Go.Proofs.Tryz.f49.results.toList (zh4 k) (sub (bodyOf Go.Proofs.Tryz.f49) [1, 1, 1, 0, 0, 1, 1, 1]) :=
  joinCut_s (X := X) (sg := [.ks, .ki .i64, .ki .i64, .ki .i64, .ki .i64, .ki .i64, .kb]) (cu := zh5 k) (cl := zgp k) (tys := [[0], [0]]) (zgq k) (cutOK_of (l := [(zgs k, sub (bodyOf Go.Proofs.Tryz.f49) [1, 1, 1, 0, 0, 1, 1, 1, 0, 1, 1, 1, 0, 1]), (zh0 k, sub (bodyOf Go.Proofs.Tryz.f49) [1, 1, 1, 0, 0, 1, 1, 1, 1, 1])]) (by kernel_rfl) ⟨zgu k, zh2 k, trivial⟩) fun x Q R h => by
    simp only [S_ParseDate_c28, optK_bind, optK_bif, optK_pure, optK_none, optK_oc, optK_guardT, optK_map] at h
    refine hold_of h ?_
    kernel_rfl
def zh7 (x : (List UInt8) × Int × Int × Int × Int × Int × Bool × Unit) (o : Int × Int × Int × Int) (Q : Ex → VSt D → Prop) (R : VR D → Prop) : Prop := Q .normal (mkSt ⟨[(0, .hole), (5, .hole), (6, .hole), (7, .hole), (8, .hole)], []⟩ [.str x.1, .int .i64 o.1, .int .i64 o.2.1, .int .i64 o.2.2.1, .int .i64 o.2.2.2])
def zh8 (k : Nat) : Cut D := cutS ⟨[(0, .hole), (4, .hole), (5, .hole), (6, .hole), (7, .hole), (8, .hole), (15, .hole)], []⟩ [.ks, .ki .i64, .ki .i64, .ki .i64, .ki .i64, .ki .i64, .kb] (fun (x : (List UInt8) × Int × Int × Int × Int × Int × Bool × Unit) => S_ParseDate_c15 k x.1 x.2.1 x.2.2.1 x.2.2.2.1 x.2.2.2.2.1 x.2.2.2.2.2.1 x.2.2.2.2.2.2.1) zh7
def zh9 (k : Nat) : Cuts D := ⟨[], [(28, some (zh4 k))]⟩
theorem zha (k : Nat) : CutFor X zgo k Go.Proofs.Tryz.f49.results.toList (zh8 k) (sub (bodyOf Go.Proofs.Tryz.f49) [1, 1, 1, 0, 0, 1]) :=
  joinCut_s (X := X) (sg := [.ks, .ki .i64, .ki .i64, .ki .i64, .ki .i64, .ki .i64, .kb]) (cu := zh9 k) (cl := zgp k) (tys := [[0], [0]]) (zgq k) (cutOK_of (l := [(zh4 k, sub (bodyOf Go.Proofs.Tryz.f49) [1, 1, 1, 0, 0, 1, 1, 1])]) (by kernel_rfl) ⟨zh6 k, trivial⟩) fun x Q R h => by
    simp only [S_ParseDate_c15, optK_bind, optK_bif, optK_pure, optK_none, optK_oc, optK_guardT, optK_map] at h
    refine hold_of h ?_
    kernel_rfl
def zhb (x : (List UInt8) × Int × Int × Int × Int × Int × Unit) (o : Int × Int × Int × Int) (Q : Ex → VSt D → Prop) (R : VR D → Prop) : Prop := Q .normal (mkSt ⟨[(0, .hole), (5, .hole), (6, .hole), (7, .hole), (8, .hole)], []⟩ [.str x.1, .int .i64 o.1, .int .i64 o.2.1, .int .i64 o.2.2.1, .int .i64 o.2.2.2])
def zhc (k : Nat) : Cut D := cutS ⟨[(0, .hole), (4, .hole), (5, .hole), (6, .hole), (7, .hole), (8, .hole)], []⟩ [.ks, .ki .i64, .ki .i64, .ki .i64, .ki .i64, .ki .i64] (fun (x : (List UInt8) × Int × Int × Int × Int × Int × Unit) => S_ParseDate_b0 k x.1 x.2.1 x.2.2.1 x.2.2.2.1 x.2.2.2.2.1 x.2.2.2.2.2.1) zhb
def zhd (k : Nat) : Cuts D := ⟨[], [(15, some (zh8 k))]⟩
theorem zhe (k : Nat) : CutFor X zgo k Go.Proofs.Tryz.f49.results.toList (zhc k) (sub (bodyOf Go.Proofs.Tryz.f49) [1, 1, 1, 0]) :=
  joinCut_s (X := X) (sg := [.ks, .ki .i64, .ki .i64, .ki .i64, .ki .i64, .ki .i64]) (cu := zhd k) (cl := zgp k) (tys := [[0], [0]]) (zgq k) (cutOK_of (l := [(zh8 k, sub (bodyOf Go.Proofs.Tryz.f49) [1, 1, 1, 0, 0, 1])]) (by kernel_rfl) ⟨zha k, trivial⟩) fun x Q R h => by
    simp only [S_ParseDate_b0, optK_bind, optK_bif, optK_pure, optK_none, optK_oc, optK_guardT, optK_map] at h
    refine hold_of h ?_
    kernel_rfl
def zhf (x : (List UInt8) × Int × Int × (List (List UInt8)) × Unit) (o : Oc (Unit) (Int × Bool)) (Q : Ex → VSt D → Prop) (R : VR D → Prop) : Prop := ocP o (fun v0 => Q .normal (mkSt ⟨[], []⟩ [])) (fun w0 => R (.tup [.c (.int .i64 w0.1), .c (.bool w0.2)]))
def zhg (k : Nat) : Cut D := cutS ⟨[(0, .hole), (10, .hole), (11, .ref 500011), (12, .hole)], [(500011, .row)]⟩ [.ks, .ki .i64, .ki .i64, .kl 9] (fun (x : (List UInt8) × Int × Int × (List (List UInt8)) × Unit) => S_ParseDate_b1 k k x.1 x.2.1 x.2.2.1 x.2.2.2.1) zhf
def zhh (k : Nat) : Cuts D := ⟨[], []⟩
theorem zhi (k : Nat) : CutFor X zgo k Go.Proofs.Tryz.f49.results.toList (zhg k) (sub (bodyOf Go.Proofs.Tryz.f49) [1, 1, 1, 1, 1, 1, 1, 1, 1, 0, 1]) :=
  loopCut_s (X := X) (sg := [.ks, .ki .i64, .ki .i64, .kl 9]) (cu := zhh k) (cl := zgp k) (tys := [[0], [0]]) (id := 1) (c := sub (bodyOf Go.Proofs.Tryz.f49) [1, 1, 1, 1, 1, 1, 1, 1, 1, 0, 1, 0, 0]) (f := fun n => fun (x : (List UInt8) × Int × Int × (List (List UInt8)) × Unit) => S_ParseDate_b1 k n x.1 x.2.1 x.2.2.1 x.2.2.2.1) (zgq k) (cutOK_of (l := []) (by kernel_rfl) trivial) (fun _ => rfl) (fun n x Q R h => by
    simp only [S_ParseDate_b1, optK_bind, optK_bif, optK_pure, optK_none, optK_oc, optK_guardT, optK_map] at h
    refine hold_of h ?_
    kernel_rfl) (by kernel_rfl)
def zhj (k : Nat) : Cuts D := ⟨[(0, some (zhc k)), (1, some (zhg k))], []⟩
def zhk : List Ar := [.c (.ks)]
def zhl (k : Nat) (x : TupA D zhk) : Option (Int × Bool) := S_ParseDate k x.1
def zhm (r : Int × Bool) : VR D := .tup [.c (.int .i64 r.1), .c (.bool r.2)]
theorem zhn (k : Nat) : Does P X 49 zhk (zhl k) zhm :=
  does_of (body := bodyOf Go.Proofs.Tryz.f49) (pl := zgo) (k := k) (cu := zhj k) (tys := [[0], [0]]) (zgq k) ctx mixed Go.Proofs.Tryz.func49 (by kernel_rfl) (by kernel_rfl) (cutOK_of (l := [(zhc k, sub (bodyOf Go.Proofs.Tryz.f49) [1, 1, 1, 0]), (zhg k, sub (bodyOf Go.Proofs.Tryz.f49) [1, 1, 1, 1, 1, 1, 1, 1, 1, 0, 1])]) (by kernel_rfl) ⟨zhe k, zhi k, trivial⟩) fun x R h => by
    simp only [zhl, S_ParseDate, optK_bind, optK_bif, optK_pure, optK_none, optK_oc, optK_guardT, optK_map] at h
    refine hold_of h ?_
    kernel_rfl
def zho (k : Nat) : Entry D := entS zhk (zhl k) zhm
theorem zhp (k : Nat) : EntryOK X 49 (zho k) := (zhn k).en rfl
def zhq : Plan := ⟨[(0, [(1, none)]), (1, [(1, none), (3, some 140)]), (2, [(1, none), (3, some 140), (4, none), (5, none)]), (3, [(1, none), (3, some 140), (4, none), (22, none)]), (4, [(2, none)]), (5, [(1, none), (4, none), (5, none)]), (6, [(1, none), (4, none), (29, none)]), (7, [(2, none)]), (8, [(1, none), (6, none), (7, none)]), (9, [(1, none), (6, none), (7, none), (8, none), (9, none)]), (10, [(1, none), (6, none), (7, none), (8, none), (44, none)]), (11, [(6, none), (7, none), (10, none), (11, none)]), (12, [(6, none), (10, none), (55, none)]), (13, [(2, none)]), (14, [(2, none)]), (15, [(1, none), (6, none), (7, none), (12, none), (13, none)]), (16, [(6, none), (12, none), (75, none)]), (17, [(2, none)]), (18, [(2, none)])],
  [],
  [(22, ([(4, none)], [(1, none), (3, some 140)])), (29, ([(4, none)], [(1, none)])), (44, ([(6, none), (7, none), (8, none)], [(1, none), (6, none), (7, none)])), (55, ([], [(6, none), (10, none)])), (75, ([(6, none), (12, none)], []))]⟩
def zhr (k : Nat) : Calls' D := ⟨[(68, z9u k), (69, zaw k), (50, z3c k), (49, zho k), (54, z32 k), (48, zey k), (51, zai k)], [], [], [], []⟩
theorem zhs (k : Nat) : CallsOK X (zhr k) := .cons (z9v k) (.cons (zax k) (.cons (z3d k) (.cons (zhp k) (.cons (z33 k) (.cons (zez k) (.cons (zaj k) (.nil cod)))))))
def zht (k : Nat) : Cuts D := ⟨[], []⟩
def zhu : List Ar := [.a [.ki .i64, .kl 107, .ks]]
def zhv (k : Nat) (x : TupA D zhu) : Option (Int) := S_LifetimeOf k (⟨x.1.1, x.1.2.1, x.1.2.2.1⟩ : IResponse)
def zhw (r : Int) : VR D := .p (.c (.int .i64 r))
theorem zhx (k : Nat) : Does P X 29 zhu (zhv k) zhw :=
  does_of (body := bodyOf Go.Proofs.Tryz.f29) (pl := zhq) (k := k) (cu := zht k) (tys := [[0]]) (zhs k) ctx mixed Go.Proofs.Tryz.func29 (by kernel_rfl) (by kernel_rfl) (cutOK_of (l := []) (by kernel_rfl) trivial) fun x R h => by
    simp only [zhv, S_LifetimeOf, optK_bind, optK_bif, optK_pure, optK_none, optK_oc, optK_guardT, optK_map] at h
    refine hold_of h ?_
    kernel_rfl
def zhy (k : Nat) : Entry D := entS zhu (zhv k) zhw
theorem zhz (k : Nat) : EntryOK X 29 (zhy k) := (zhx k).en rfl
def zi0 : List Ar := [.c (.kl 9), .c (.ks)]
def zi1 (k : Nat) (x : TupA D zi0) : Option ((List UInt8)) := strings_Join k x.1 x.2.1
def zi2 (r : (List UInt8)) : VR D := .p (.c (.str r))
theorem zi3 (k : Nat) : Does P X 85 zi0 (zi1 k) zi2 := does_join (P := P) (D := D) (X := X) (el := 9) ⟨Go.Proofs.Tryz.f85, Go.Proofs.Tryz.func85, by kernel_rfl, by kernel_rfl⟩ (fun (s : List UInt8) => s) (fun (l : List (List UInt8)) s => joinO l s) (fun _ => rfl) (by kernel_rfl) (fun (l : List (List UInt8)) s => congrArg (fun t => joinO t s) (List.map_id' l).symm) (fun a c sep w => Go.Proofs.Tryz.strings_Join_none a c sep w) (fun bk o c xs sep w hg h1 h2 h3 h4 h5 => Go.Proofs.Tryz.strings_Join bk o c xs sep w h1 h2 h3 h4 h5)
def zi4 (k : Nat) : Entry D := entS zi0 (zi1 k) zi2
theorem zi5 (k : Nat) : EntryOK X 85 (zi4 k) := (zi3 k).en rfl
def zi6 : Plan := ⟨[(0, [(0, some 9)]), (1, [(2, none)])],
  [],
  []⟩
def zi7 (k : Nat) : Calls' D := ⟨[(85, zi4 k)], [], [], [], []⟩
theorem zi8 (k : Nat) : CallsOK X (zi7 k) := .cons (zi5 k) (.nil cod)
def zi9 (k : Nat) : Cuts D := ⟨[], []⟩
def zia : List Ar := [.c (.kl 9)]
def zib (k : Nat) (x : TupA D zia) : Option ((List UInt8)) := I_JoinList k x.1
def zic (r : (List UInt8)) : VR D := .p (.c (.str r))
theorem zid (k : Nat) : Does P X 119 zia (zib k) zic :=
  does_of (body := bodyOf Go.Proofs.Tryz.f119) (pl := zi6) (k := k) (cu := zi9 k) (tys := [[0]]) (zi8 k) ctx mixed Go.Proofs.Tryz.func119 (by kernel_rfl) (by kernel_rfl) (cutOK_of (l := []) (by kernel_rfl) trivial) fun x R h => by
    simp only [zib, I_JoinList, optK_bind, optK_bif, optK_pure, optK_none, optK_oc, optK_guardT, optK_map] at h
    refine hold_of h ?_
    kernel_rfl
def zie (k : Nat) : Entry D := entS zia (zib k) zic
theorem zif (k : Nat) : EntryOK X 119 (zie k) := (zid k).en rfl
def zig : Plan := ⟨[(0, [(0, some 107), (1, none)]), (1, [(0, some 107), (1, none), (6, some 9)]), (2, [(1, none), (6, some 9), (10, some 107), (11, none), (12, none)]), (3, [(1, none), (6, some 9), (10, some 107), (11, none), (12, none), (13, none)]), (4, [(1, none), (6, some 9), (8, none), (10, some 107), (11, none), (12, none)]), (5, [(1, none), (6, some 9), (8, none), (10, some 107), (11, none), (12, none), (19, none)]), (6, [(1, none), (6, some 9), (10, some 107), (11, none), (12, none)]), (7, [(1, none), (6, some 9), (10, some 107), (11, none), (12, none)]), (8, [(4, none), (5, none)])],
  [(0, [(6, some 9)]), (1, [(1, none), (6, some 9), (10, some 107), (11, none), (12, none)])],
  [(13, ([(1, none), (6, some 9), (10, some 107), (11, none), (12, none)], [(6, some 9)])), (19, ([(1, none), (6, some 9), (8, none), (10, some 107), (11, none), (12, none)], [(1, none), (6, some 9), (10, some 107), (11, none), (12, none)]))]⟩
def zih (k : Nat) : Calls' D := ⟨[(119, zie k)], [], [], [], []⟩
theorem zii (k : Nat) : CallsOK X (zih k) := .cons (zif k) (.nil cod)
def zij (x : (List UInt8) × (List IField) × Int × Int × Bool × (List (List UInt8)) × (List UInt8) × (List UInt8) × Unit) (o : (List (List UInt8))) (Q : Ex → VSt D → Prop) (R : VR D → Prop) : Prop := Q .normal (mkSt ⟨[(1, .hole), (6, .ref 500006), (10, .hole), (11, .hole), (12, .hole)], [(500006, .row)]⟩ [.str x.1, .sl 107 x.2.1, .int .i64 x.2.2.1, .int .i64 x.2.2.2.1, .sl 9 o])
def zik (k : Nat) : Cut D := cutS ⟨[(1, .hole), (6, .ref 500006), (8, .ptr 8 0), (10, .hole), (11, .hole), (12, .hole), (19, .hole)], [(500006, .row), (8, .var [.hole, .hole])]⟩ [.ks, .kl 107, .ki .i64, .ki .i64, .kb, .kl 9, .ks, .ks] (fun (x : (List UInt8) × (List IField) × Int × Int × Bool × (List (List UInt8)) × (List UInt8) × (List UInt8) × Unit) => I_GetField_c19 k x.1 x.2.1 x.2.2.1 x.2.2.2.1 x.2.2.2.2.1 x.2.2.2.2.2.1 x.2.2.2.2.2.2.1 x.2.2.2.2.2.2.2.1) zij
def zil (k : Nat) : Cuts D := ⟨[], []⟩
theorem zim (k : Nat) : CutFor X zig k Go.Proofs.Tryz.f57.results.toList (zik k) (sub (bodyOf Go.Proofs.Tryz.f57) [1, 1, 0, 1, 0, 0, 1, 1, 0, 0, 1, 1]) :=
  joinCut_s (X := X) (sg := [.ks, .kl 107, .ki .i64, .ki .i64, .kb, .kl 9, .ks, .ks]) (cu := zil k) (cl := zih k) (tys := [[0], [0]]) (zii k) (cutOK_of (l := []) (by kernel_rfl) trivial) fun x Q R h => by
    simp only [I_GetField_c19, optK_bind, optK_bif, optK_pure, optK_none, optK_oc, optK_guardT, optK_map] at h
    refine hold_of h ?_
    kernel_rfl
def zin (x : (List UInt8) × (List IField) × Int × Int × (List (List UInt8)) × Unit) (o : (List (List UInt8))) (Q : Ex → VSt D → Prop) (R : VR D → Prop) : Prop := Q .normal (mkSt ⟨[(1, .hole), (6, .ref 500006), (10, .hole), (11, .hole), (12, .hole)], [(500006, .row)]⟩ [.str x.1, .sl 107 x.2.1, .int .i64 x.2.2.1, .int .i64 x.2.2.2.1, .sl 9 o])
def zio (k : Nat) : Cut D := cutS ⟨[(1, .hole), (6, .ref 500006), (10, .hole), (11, .hole), (12, .hole)], [(500006, .row)]⟩ [.ks, .kl 107, .ki .i64, .ki .i64, .kl 9] (fun (x : (List UInt8) × (List IField) × Int × Int × (List (List UInt8)) × Unit) => I_GetField_b1 k x.1 x.2.1 x.2.2.1 x.2.2.2.1 x.2.2.2.2.1) zin
def zip (k : Nat) : Cuts D := ⟨[], [(19, some (zik k))]⟩
theorem ziq (k : Nat) : CutFor X zig k Go.Proofs.Tryz.f57.results.toList (zio k) (sub (bodyOf Go.Proofs.Tryz.f57) [1, 1, 0, 1, 0, 0, 1, 1, 0]) :=
  joinCut_s (X := X) (sg := [.ks, .kl 107, .ki .i64, .ki .i64, .kl 9]) (cu := zip k) (cl := zih k) (tys := [[0], [0]]) (zii k) (cutOK_of (l := [(zik k, sub (bodyOf Go.Proofs.Tryz.f57) [1, 1, 0, 1, 0, 0, 1, 1, 0, 0, 1, 1])]) (by kernel_rfl) ⟨zim k, trivial⟩) fun x Q R h => by
    simp only [I_GetField_b1, optK_bind, optK_bif, optK_pure, optK_none, optK_oc, optK_guardT, optK_map] at h
    refine hold_of h ?_
    kernel_rfl
def zir (x : (List UInt8) × (List IField) × Int × Int × (List (List UInt8)) × Unit) (o : (List (List UInt8))) (Q : Ex → VSt D → Prop) (R : VR D → Prop) : Prop := Q .normal (mkSt ⟨[(6, .ref 500006)], [(500006, .row)]⟩ [.sl 9 o])
def zis (k : Nat) : Cut D := cutS ⟨[(1, .hole), (6, .ref 500006), (10, .hole), (11, .hole), (12, .hole)], [(500006, .row)]⟩ [.ks, .kl 107, .ki .i64, .ki .i64, .kl 9] (fun (x : (List UInt8) × (List IField) × Int × Int × (List (List UInt8)) × Unit) => I_GetField_b0 k k x.1 x.2.1 x.2.2.1 x.2.2.2.1 x.2.2.2.2.1) zir
def zit (k : Nat) : Cuts D := ⟨[(1, some (zio k))], []⟩
theorem ziu (k : Nat) : CutFor X zig k Go.Proofs.Tryz.f57.results.toList (zis k) (sub (bodyOf Go.Proofs.Tryz.f57) [1, 1, 0, 1]) :=
  loopCut_s (X := X) (sg := [.ks, .kl 107, .ki .i64, .ki .i64, .kl 9]) (cu := zit k) (cl := zih k) (tys := [[0], [0]]) (id := 0) (c := sub (bodyOf Go.Proofs.Tryz.f57) [1, 1, 0, 1, 0, 0]) (f := fun n => fun (x : (List UInt8) × (List IField) × Int × Int × (List (List UInt8)) × Unit) => I_GetField_b0 k n x.1 x.2.1 x.2.2.1 x.2.2.2.1 x.2.2.2.2.1) (zii k) (cutOK_of (l := [(zio k, sub (bodyOf Go.Proofs.Tryz.f57) [1, 1, 0, 1, 0, 0, 1, 1, 0])]) (by kernel_rfl) ⟨ziq k, trivial⟩) (fun _ => rfl) (fun n x Q R h => by
    simp only [I_GetField_b0, optK_bind, optK_bif, optK_pure, optK_none, optK_oc, optK_guardT, optK_map] at h
    refine hold_of h ?_
    kernel_rfl) (by kernel_rfl)
def ziv (k : Nat) : Cuts D := ⟨[(0, some (zis k))], []⟩
def ziw : List Ar := [.c (.kl 107), .c (.ks)]
def zix (k : Nat) (x : TupA D ziw) : Option ((List UInt8) × Bool) := I_GetField k x.1 x.2.1
def ziy (r : (List UInt8) × Bool) : VR D := .tup [.c (.str r.1), .c (.bool r.2)]
theorem ziz (k : Nat) : Does P X 57 ziw (zix k) ziy :=
  does_of (body := bodyOf Go.Proofs.Tryz.f57) (pl := zig) (k := k) (cu := ziv k) (tys := [[0], [0]]) (zii k) ctx mixed Go.Proofs.Tryz.func57 (by kernel_rfl) (by kernel_rfl) (cutOK_of (l := [(zis k, sub (bodyOf Go.Proofs.Tryz.f57) [1, 1, 0, 1])]) (by kernel_rfl) ⟨ziu k, trivial⟩) fun x R h => by
    simp only [zix, I_GetField, optK_bind, optK_bif, optK_pure, optK_none, optK_oc, optK_guardT, optK_map] at h
    refine hold_of h ?_
    kernel_rfl
def zj0 (k : Nat) : Entry D := entS ziw (zix k) ziy
theorem zj1 (k : Nat) : EntryOK X 57 (zj0 k) := (ziz k).en rfl
def zj2 : List Ar := [.c (.ks), .c (.ks)]
def zj3 (k : Nat) (x : TupA D zj2) : Option ((List UInt8)) := strings_Trim k x.1 x.2.1
def zj4 (r : (List UInt8)) : VR D := .p (.c (.str r))
theorem zj5 (k : Nat) : Does P X 121 zj2 (zj3 k) zj4 := does_trim ⟨Go.Proofs.Tryz.f121, Go.Proofs.Tryz.func121, by kernel_rfl, by kernel_rfl⟩ (fun s cs w hg h1 h2 h3 => Go.Proofs.Any.strings_Trim_laid Go.Proofs.Tryz.lays160 (by kernel_rfl) s cs w h1 h2 h3)
def zj6 (k : Nat) : Entry D := entS zj2 (zj3 k) zj4
theorem zj7 (k : Nat) : EntryOK X 121 (zj6 k) := (zj5 k).en rfl
def zj8 : Plan := ⟨[(0, [(0, none)]), (1, [(2, none)])],
  [],
  []⟩
def zj9 (k : Nat) : Calls' D := ⟨[(121, zj6 k)], [], [], [], []⟩
theorem zja (k : Nat) : CallsOK X (zj9 k) := .cons (zj7 k) (.nil cod)
def zjb (k : Nat) : Cuts D := ⟨[], []⟩
def zjc : List Ar := [.c (.ks)]
def zjd (k : Nat) (x : TupA D zjc) : Option ((List UInt8)) := I_TrimText k x.1
def zje (r : (List UInt8)) : VR D := .p (.c (.str r))
theorem zjf (k : Nat) : Does P X 127 zjc (zjd k) zje :=
  does_of (body := bodyOf Go.Proofs.Tryz.f127) (pl := zj8) (k := k) (cu := zjb k) (tys := [[0]]) (zja k) ctx mixed Go.Proofs.Tryz.func127 (by kernel_rfl) (by kernel_rfl) (cutOK_of (l := []) (by kernel_rfl) trivial) fun x R h => by
    simp only [zjd, I_TrimText, optK_bind, optK_bif, optK_pure, optK_none, optK_oc, optK_guardT, optK_map] at h
    refine hold_of h ?_
    kernel_rfl
def zjg (k : Nat) : Entry D := entS zjc (zjd k) zje
theorem zjh (k : Nat) : EntryOK X 127 (zjg k) := (zjf k).en rfl
def zji : Plan := ⟨[(0, [(0, none)]), (1, [(0, none), (3, some 9)]), (2, [(0, none), (3, some 9), (4, none)]), (3, [(0, none), (3, some 9), (4, none), (5, none)]), (4, [(0, none), (3, some 9), (4, none), (5, none), (6, none)]), (5, [(0, none), (3, some 9), (4, none), (5, none), (6, none), (13, none)]), (6, [(0, none), (3, some 9), (4, none), (5, none), (6, none)]), (7, [(0, none), (3, some 9), (4, none), (5, none), (6, none), (28, none)]), (8, [(0, none), (3, some 9), (4, none), (5, none), (6, none), (32, none)]), (9, [(0, none), (3, some 9), (4, none), (5, none), (6, none)]), (10, [(0, none), (3, some 9), (4, none), (5, none), (6, none), (41, none)]), (11, [(0, none), (3, some 9), (4, none), (5, none), (6, none)]), (12, [(0, none), (3, some 9), (5, none), (6, none), (7, none)]), (13, [(0, none), (3, some 9), (5, none), (6, none), (7, none), (53, none)]), (14, [(0, none), (3, some 9), (5, none), (6, none)]), (15, [(0, none), (3, some 9), (4, none), (5, none), (6, none)]), (16, [(0, none), (3, some 9), (4, none), (63, none)]), (17, [(3, some 9), (8, none)]), (18, [(3, some 9), (8, none), (69, none)]), (19, [(3, some 9)]), (20, [(2, some 9)])],
  [(0, [(0, none), (3, some 9), (4, none)]), (1, [(0, none), (3, some 9), (4, none), (5, none), (6, none)])],
  [(13, ([(0, none), (3, some 9), (4, none), (5, none), (6, none)], [(0, none), (3, some 9), (4, none)])), (28, ([(0, none), (3, some 9), (4, none), (5, none), (6, none)], [(0, none), (3, some 9), (4, none), (5, none), (6, none)])), (32, ([(0, none), (3, some 9), (4, none), (5, none), (6, none)], [(0, none), (3, some 9), (4, none), (5, none), (6, none)])), (41, ([(0, none), (3, some 9), (4, none), (5, none), (6, none)], [(0, none), (3, some 9), (4, none), (5, none), (6, none)])), (53, ([(0, none), (3, some 9), (5, none), (6, none), (7, none)], [(0, none), (3, some 9), (5, none), (6, none)])), (63, ([(0, none), (3, some 9), (4, none)], [(3, some 9)])), (69, ([(3, some 9), (8, none)], [(3, some 9)]))]⟩
def zjj (k : Nat) : Calls' D := ⟨[(127, zjg k)], [], [], [], []⟩
theorem zjk (k : Nat) : CallsOK X (zjj k) := .cons (zjh k) (.nil cod)
def zjl (x : (List UInt8) × Int × Bool × Int × Bool × (List (List UInt8)) × Unit) (o : Bool) (Q : Ex → VSt D → Prop) (R : VR D → Prop) : Prop := Q .normal (mkSt ⟨[(0, .hole), (3, .ref 500003), (4, .hole), (5, .hole), (6, .hole)], [(500003, .row)]⟩ [.str x.1, .int .i64 x.2.1, .bool o, .int .i64 x.2.2.2.1, .sl 9 x.2.2.2.2.2.1])
def zjm (k : Nat) : Cut D := cutS ⟨[(0, .hole), (3, .ref 500003), (4, .hole), (5, .hole), (6, .hole), (32, .hole)], [(500003, .row)]⟩ [.ks, .ki .i64, .kb, .ki .i64, .kb, .kl 9] (fun (x : (List UInt8) × Int × Bool × Int × Bool × (List (List UInt8)) × Unit) => I_SplitList_c32 k x.1 x.2.1 x.2.2.1 x.2.2.2.1 x.2.2.2.2.1 x.2.2.2.2.2.1) zjl
def zjn (k : Nat) : Cuts D := ⟨[], []⟩
theorem zjo (k : Nat) : CutFor X zji k Go.Proofs.Tryz.f128.results.toList (zjm k) (sub (bodyOf Go.Proofs.Tryz.f128) [1, 1, 1, 1, 0, 1, 0, 0, 1, 0, 0, 0, 1, 0, 0, 1]) :=
  joinCut_s (X := X) (sg := [.ks, .ki .i64, .kb, .ki .i64, .kb, .kl 9]) (cu := zjn k) (cl := zjj k) (tys := [[9]]) (zjk k) (cutOK_of (l := []) (by kernel_rfl) trivial) fun x Q R h => by
    simp only [I_SplitList_c32, optK_bind, optK_bif, optK_pure, optK_none, optK_oc, optK_guardT, optK_map] at h
    refine hold_of h ?_
    kernel_rfl
def zjp (x : (List UInt8) × Int × Bool × Int × Bool × (List (List UInt8)) × Unit) (o : Int) (Q : Ex → VSt D → Prop) (R : VR D → Prop) : Prop := Q .normal (mkSt ⟨[(0, .hole), (3, .ref 500003), (4, .hole), (5, .hole), (6, .hole)], [(500003, .row)]⟩ [.str x.1, .int .i64 x.2.1, .bool x.2.2.1, .int .i64 o, .sl 9 x.2.2.2.2.2.1])
def zjq (k : Nat) : Cut D := cutS ⟨[(0, .hole), (3, .ref 500003), (4, .hole), (5, .hole), (6, .hole), (41, .hole)], [(500003, .row)]⟩ [.ks, .ki .i64, .kb, .ki .i64, .kb, .kl 9] (fun (x : (List UInt8) × Int × Bool × Int × Bool × (List (List UInt8)) × Unit) => I_SplitList_c41 k x.1 x.2.1 x.2.2.1 x.2.2.2.1 x.2.2.2.2.1 x.2.2.2.2.2.1) zjp
def zjr (k : Nat) : Cuts D := ⟨[], []⟩
theorem zjs (k : Nat) : CutFor X zji k Go.Proofs.Tryz.f128.results.toList (zjq k) (sub (bodyOf Go.Proofs.Tryz.f128) [1, 1, 1, 1, 0, 1, 0, 0, 1, 0, 0, 0, 1, 0, 1, 0, 1]) :=
  joinCut_s (X := X) (sg := [.ks, .ki .i64, .kb, .ki .i64, .kb, .kl 9]) (cu := zjr k) (cl := zjj k) (tys := [[9]]) (zjk k) (cutOK_of (l := []) (by kernel_rfl) trivial) fun x Q R h => by
    simp only [I_SplitList_c41, optK_bind, optK_bif, optK_pure, optK_none, optK_oc, optK_guardT, optK_map] at h
    refine hold_of h ?_
    kernel_rfl
def zjt (x : (List UInt8) × Bool × Int × (List UInt8) × Bool × (List (List UInt8)) × Unit) (o : (List (List UInt8))) (Q : Ex → VSt D → Prop) (R : VR D → Prop) : Prop := Q .normal (mkSt ⟨[(0, .hole), (3, .ref 500003), (5, .hole), (6, .hole)], [(500003, .row)]⟩ [.str x.1, .bool x.2.1, .int .i64 x.2.2.1, .sl 9 o])
def zju (k : Nat) : Cut D := cutS ⟨[(0, .hole), (3, .ref 500003), (5, .hole), (6, .hole), (7, .hole), (53, .hole)], [(500003, .row)]⟩ [.ks, .kb, .ki .i64, .ks, .kb, .kl 9] (fun (x : (List UInt8) × Bool × Int × (List UInt8) × Bool × (List (List UInt8)) × Unit) => I_SplitList_c53 k x.1 x.2.1 x.2.2.1 x.2.2.2.1 x.2.2.2.2.1 x.2.2.2.2.2.1) zjt
def zjv (k : Nat) : Cuts D := ⟨[], []⟩
theorem zjw (k : Nat) : CutFor X zji k Go.Proofs.Tryz.f128.results.toList (zju k) (sub (bodyOf Go.Proofs.Tryz.f128) [1, 1, 1, 1, 0, 1, 0, 0, 1, 0, 0, 1, 0, 1, 1]) :=
  joinCut_s (X := X) (sg := [.ks, .kb, .ki .i64, .ks, .kb, .kl 9]) (cu := zjv k) (cl := zjj k) (tys := [[9]]) (zjk k) (cutOK_of (l := []) (by kernel_rfl) trivial) fun x Q R h => by
    simp only [I_SplitList_c53, optK_bind, optK_bif, optK_pure, optK_none, optK_oc, optK_guardT, optK_map] at h
    refine hold_of h ?_
    kernel_rfl
def zjx (x : (List UInt8) × Int × Bool × Int × (List (List UInt8)) × Unit) (o : Int × Bool × Int × (List (List UInt8))) (Q : Ex → VSt D → Prop) (R : VR D → Prop) : Prop := Q .normal (mkSt ⟨[(0, .hole), (3, .ref 500003), (4, .hole), (5, .hole), (6, .hole)], [(500003, .row)]⟩ [.str x.1, .int .i64 o.1, .bool o.2.1, .int .i64 o.2.2.1, .sl 9 o.2.2.2])
def zjy (k : Nat) : Cut D := cutS ⟨[(0, .hole), (3, .ref 500003), (4, .hole), (5, .hole), (6, .hole)], [(500003, .row)]⟩ [.ks, .ki .i64, .kb, .ki .i64, .kl 9] (fun (x : (List UInt8) × Int × Bool × Int × (List (List UInt8)) × Unit) => I_SplitList_b1 k x.1 x.2.1 x.2.2.1 x.2.2.2.1 x.2.2.2.2.1) zjx
def zjz (k : Nat) : Cuts D := ⟨[], [(32, some (zjm k)), (41, some (zjq k)), (53, some (zju k))]⟩
theorem zk0 (k : Nat) : CutFor X zji k Go.Proofs.Tryz.f128.results.toList (zjy k) (sub (bodyOf Go.Proofs.Tryz.f128) [1, 1, 1, 1, 0, 1, 0, 0, 1, 0]) :=
  joinCut_s (X := X) (sg := [.ks, .ki .i64, .kb, .ki .i64, .kl 9]) (cu := zjz k) (cl := zjj k) (tys := [[9]]) (zjk k) (cutOK_of (l := [(zjm k, sub (bodyOf Go.Proofs.Tryz.f128) [1, 1, 1, 1, 0, 1, 0, 0, 1, 0, 0, 0, 1, 0, 0, 1]), (zjq k, sub (bodyOf Go.Proofs.Tryz.f128) [1, 1, 1, 1, 0, 1, 0, 0, 1, 0, 0, 0, 1, 0, 1, 0, 1]), (zju k, sub (bodyOf Go.Proofs.Tryz.f128) [1, 1, 1, 1, 0, 1, 0, 0, 1, 0, 0, 1, 0, 1, 1])]) (by kernel_rfl) ⟨zjo k, zjs k, zjw k, trivial⟩) fun x Q R h => by
    simp only [I_SplitList_b1, optK_bind, optK_bif, optK_pure, optK_none, optK_oc, optK_guardT, optK_map] at h
    refine hold_of h ?_
    kernel_rfl
def zk1 (x : (List UInt8) × Int × Bool × Int × (List (List UInt8)) × Unit) (o : Int × (List (List UInt8))) (Q : Ex → VSt D → Prop) (R : VR D → Prop) : Prop := Q .normal (mkSt ⟨[(0, .hole), (3, .ref 500003), (4, .hole)], [(500003, .row)]⟩ [.str x.1, .int .i64 o.1, .sl 9 o.2])
def zk2 (k : Nat) : Cut D := cutS ⟨[(0, .hole), (3, .ref 500003), (4, .hole), (5, .hole), (6, .hole)], [(500003, .row)]⟩ [.ks, .ki .i64, .kb, .ki .i64, .kl 9] (fun (x : (List UInt8) × Int × Bool × Int × (List (List UInt8)) × Unit) => I_SplitList_b0 k k x.1 x.2.1 x.2.2.1 x.2.2.2.1 x.2.2.2.2.1) zk1
def zk3 (k : Nat) : Cuts D := ⟨[(1, some (zjy k))], []⟩
theorem zk4 (k : Nat) : CutFor X zji k Go.Proofs.Tryz.f128.results.toList (zk2 k) (sub (bodyOf Go.Proofs.Tryz.f128) [1, 1, 1, 1, 0, 1]) :=
  loopCut_s (X := X) (sg := [.ks, .ki .i64, .kb, .ki .i64, .kl 9]) (cu := zk3 k) (cl := zjj k) (tys := [[9]]) (id := 0) (c := sub (bodyOf Go.Proofs.Tryz.f128) [1, 1, 1, 1, 0, 1, 0, 0]) (f := fun n => fun (x : (List UInt8) × Int × Bool × Int × (List (List UInt8)) × Unit) => I_SplitList_b0 k n x.1 x.2.1 x.2.2.1 x.2.2.2.1 x.2.2.2.2.1) (zjk k) (cutOK_of (l := [(zjy k, sub (bodyOf Go.Proofs.Tryz.f128) [1, 1, 1, 1, 0, 1, 0, 0, 1, 0])]) (by kernel_rfl) ⟨zk0 k, trivial⟩) (fun _ => rfl) (fun n x Q R h => by
    simp only [I_SplitList_b0, optK_bind, optK_bif, optK_pure, optK_none, optK_oc, optK_guardT, optK_map] at h
    refine hold_of h ?_
    kernel_rfl) (by kernel_rfl)
def zk5 (x : (List UInt8) × Bool × (List (List UInt8)) × Unit) (o : (List (List UInt8))) (Q : Ex → VSt D → Prop) (R : VR D → Prop) : Prop := Q .normal (mkSt ⟨[(3, .ref 500003)], [(500003, .row)]⟩ [.sl 9 o])
def zk6 (k : Nat) : Cut D := cutS ⟨[(3, .ref 500003), (8, .hole), (69, .hole)], [(500003, .row)]⟩ [.ks, .kb, .kl 9] (fun (x : (List UInt8) × Bool × (List (List UInt8)) × Unit) => I_SplitList_c69 k x.1 x.2.1 x.2.2.1) zk5
def zk7 (k : Nat) : Cuts D := ⟨[], []⟩
theorem zk8 (k : Nat) : CutFor X zji k Go.Proofs.Tryz.f128.results.toList (zk6 k) (sub (bodyOf Go.Proofs.Tryz.f128) [1, 1, 1, 1, 1, 0, 1, 0, 1, 1]) :=
  joinCut_s (X := X) (sg := [.ks, .kb, .kl 9]) (cu := zk7 k) (cl := zjj k) (tys := [[9]]) (zjk k) (cutOK_of (l := []) (by kernel_rfl) trivial) fun x Q R h => by
    simp only [I_SplitList_c69, optK_bind, optK_bif, optK_pure, optK_none, optK_oc, optK_guardT, optK_map] at h
    refine hold_of h ?_
    kernel_rfl
def zk9 (x : (List UInt8) × Int × Bool × (List (List UInt8)) × Unit) (o : (List (List UInt8))) (Q : Ex → VSt D → Prop) (R : VR D → Prop) : Prop := Q .normal (mkSt ⟨[(3, .ref 500003)], [(500003, .row)]⟩ [.sl 9 o])
def zka (k : Nat) : Cut D := cutS ⟨[(0, .hole), (3, .ref 500003), (4, .hole), (63, .hole)], [(500003, .row)]⟩ [.ks, .ki .i64, .kb, .kl 9] (fun (x : (List UInt8) × Int × Bool × (List (List UInt8)) × Unit) => I_SplitList_c63 k x.1 x.2.1 x.2.2.1 x.2.2.2.1) zk9
def zkb (k : Nat) : Cuts D := ⟨[], [(69, some (zk6 k))]⟩
theorem zkc (k : Nat) : CutFor X zji k Go.Proofs.Tryz.f128.results.toList (zka k) (sub (bodyOf Go.Proofs.Tryz.f128) [1, 1, 1, 1, 1, 0, 1]) :=
  joinCut_s (X := X) (sg := [.ks, .ki .i64, .kb, .kl 9]) (cu := zkb k) (cl := zjj k) (tys := [[9]]) (zjk k) (cutOK_of (l := [(zk6 k, sub (bodyOf Go.Proofs.Tryz.f128) [1, 1, 1, 1, 1, 0, 1, 0, 1, 1])]) (by kernel_rfl) ⟨zk8 k, trivial⟩) fun x Q R h => by
    simp only [I_SplitList_c63, optK_bind, optK_bif, optK_pure, optK_none, optK_oc, optK_guardT, optK_map] at h
    refine hold_of h ?_
    kernel_rfl
def zkd (k : Nat) : Cuts D := ⟨[(0, some (zk2 k))], [(63, some (zka k))]⟩
def zke : List Ar := [.c (.ks)]
def zkf (k : Nat) (x : TupA D zke) : Option ((List (List UInt8))) := I_SplitList k x.1
def zkg (r : (List (List UInt8))) : VR D := .p (.c (.sl 9 r))
theorem zkh (k : Nat) : Does P X 128 zke (zkf k) zkg :=
  does_of (body := bodyOf Go.Proofs.Tryz.f128) (pl := zji) (k := k) (cu := zkd k) (tys := [[9]]) (zjk k) ctx mixed Go.Proofs.Tryz.func128 (by kernel_rfl) (by kernel_rfl) (cutOK_of (l := [(zk2 k, sub (bodyOf Go.Proofs.Tryz.f128) [1, 1, 1, 1, 0, 1]), (zka k, sub (bodyOf Go.Proofs.Tryz.f128) [1, 1, 1, 1, 1, 0, 1])]) (by kernel_rfl) ⟨zk4 k, zkc k, trivial⟩) fun x R h => by
    simp only [zkf, I_SplitList, optK_bind, optK_bif, optK_pure, optK_none, optK_oc, optK_guardT, optK_map] at h
    refine hold_of h ?_
    kernel_rfl
def zki (k : Nat) : Entry D := entS zke (zkf k) zkg
theorem zkj (k : Nat) : EntryOK X 128 (zki k) := (zkh k).en rfl
def zkk : List Ar := [.c (.ks), .c (.ks)]
def zkl (k : Nat) (x : TupA D zkk) : Option ((List UInt8) × (List UInt8) × Bool) := strings_Cut k x.1 x.2.1
def zkm (r : (List UInt8) × (List UInt8) × Bool) : VR D := .tup [.c (.str r.1), .c (.str r.2.1), .c (.bool r.2.2)]
theorem zkn (k : Nat) : Does P X 141 zkk (zkl k) zkm := does_cut ⟨Go.Proofs.Tryz.f141, Go.Proofs.Tryz.func141, by kernel_rfl, by kernel_rfl⟩ (fun s sep w hg hs => let ⟨m, hm⟩ := hg.1; Go.Proofs.Tryz.strings_Cut s sep m w hs hm)
def zko (k : Nat) : Entry D := entS zkk (zkl k) zkm
theorem zkp (k : Nat) : EntryOK X 141 (zko k) := (zkn k).en rfl
def zkq : Plan := ⟨[(0, [(0, none)]), (1, [(5, none), (6, none), (7, none)]), (2, [(2, none), (3, none), (4, none)])],
  [],
  []⟩
def zkr (k : Nat) : Calls' D := ⟨[(141, zko k), (127, zjg k)], [], [], [], []⟩
theorem zks (k : Nat) : CallsOK X (zkr k) := .cons (zkp k) (.cons (zjh k) (.nil cod))
def zkt (k : Nat) : Cuts D := ⟨[], []⟩
def zku : List Ar := [.c (.ks)]
def zkv (k : Nat) (x : TupA D zku) : Option ((List UInt8) × (List UInt8) × Bool) := I_SplitPair k x.1
def zkw (r : (List UInt8) × (List UInt8) × Bool) : VR D := .tup [.c (.str r.1), .c (.str r.2.1), .c (.bool r.2.2)]
theorem zkx (k : Nat) : Does P X 196 zku (zkv k) zkw :=
  does_of (body := bodyOf Go.Proofs.Tryz.f196) (pl := zkq) (k := k) (cu := zkt k) (tys := [[0], [0], [0]]) (zks k) ctx mixed Go.Proofs.Tryz.func196 (by kernel_rfl) (by kernel_rfl) (cutOK_of (l := []) (by kernel_rfl) trivial) fun x R h => by
    simp only [zkv, I_SplitPair, optK_bind, optK_bif, optK_pure, optK_none, optK_oc, optK_guardT, optK_map] at h
    refine hold_of h ?_
    kernel_rfl
def zky (k : Nat) : Entry D := entS zku (zkv k) zkw
theorem zkz (k : Nat) : EntryOK X 196 (zky k) := (zkx k).en rfl
def zl0 : Plan := ⟨[(0, [(0, none)]), (1, [(3, some 5)]), (2, [(3, some 5), (8, some 5), (9, none), (10, none)]), (3, [(3, some 5), (8, some 5), (9, none), (10, none), (11, none)]), (4, [(3, some 5), (4, none), (5, none), (8, some 5), (9, none), (10, none)]), (5, [(3, some 5), (4, none), (5, none), (8, some 5), (9, none), (10, none), (20, none)]), (6, [(3, some 5), (8, some 5), (9, none), (10, none)]), (7, [(3, some 5), (8, some 5), (9, none), (10, none)]), (8, [(2, none)])],
  [(0, [(3, some 5)]), (1, [(3, some 5), (8, some 5), (9, none), (10, none)])],
  [(11, ([(3, some 5), (8, some 5), (9, none), (10, none)], [(3, some 5)])), (20, ([(3, some 5), (4, none), (5, none), (8, some 5), (9, none), (10, none)], [(3, some 5), (8, some 5), (9, none), (10, none)]))]⟩
def zl1 (k : Nat) : Calls' D := ⟨[], [], [], [], []⟩
theorem zl2 (k : Nat) : CallsOK X (zl1 k) := .nil cod
def zl3 (x : Int × Int × Int × Int × Bool × (List Int) × Unit) (o : (List Int)) (Q : Ex → VSt D → Prop) (R : VR D → Prop) : Prop := Q .normal (mkSt ⟨[(3, .ref 500008), (8, .ref 500008), (9, .hole), (10, .hole)], [(500008, .row)]⟩ [.int .i64 x.2.2.1, .int .i64 x.2.2.2.1, .sl 5 o])
def zl4 (k : Nat) : Cut D := cutS ⟨[(3, .ref 500008), (4, .hole), (5, .hole), (8, .ref 500008), (9, .hole), (10, .hole), (20, .hole)], [(500008, .row)]⟩ [.ki .i64, .ki .u8, .ki .i64, .ki .i64, .kb, .kl 5] (fun (x : Int × Int × Int × Int × Bool × (List Int) × Unit) => I_LowerText_c20 k x.1 x.2.1 x.2.2.1 x.2.2.2.1 x.2.2.2.2.1 x.2.2.2.2.2.1) zl3
def zl5 (k : Nat) : Cuts D := ⟨[], []⟩
theorem zl6 (k : Nat) : CutFor X zl0 k Go.Proofs.Tryz.f108.results.toList (zl4 k) (sub (bodyOf Go.Proofs.Tryz.f108) [1, 1, 0, 1, 0, 0, 1, 1, 0, 0, 1, 1]) :=
  joinCut_s (X := X) (sg := [.ki .i64, .ki .u8, .ki .i64, .ki .i64, .kb, .kl 5]) (cu := zl5 k) (cl := zl1 k) (tys := [[0]]) (zl2 k) (cutOK_of (l := []) (by kernel_rfl) trivial) fun x Q R h => by
    simp only [I_LowerText_c20, optK_bind, optK_bif, optK_pure, optK_none, optK_oc, optK_guardT, optK_map] at h
    refine hold_of h ?_
    kernel_rfl
def zl7 (x : Int × Int × (List Int) × Unit) (o : (List Int)) (Q : Ex → VSt D → Prop) (R : VR D → Prop) : Prop := Q .normal (mkSt ⟨[(3, .ref 500008), (8, .ref 500008), (9, .hole), (10, .hole)], [(500008, .row)]⟩ [.int .i64 x.1, .int .i64 x.2.1, .sl 5 o])
def zl8 (k : Nat) : Cut D := cutS ⟨[(3, .ref 500008), (8, .ref 500008), (9, .hole), (10, .hole)], [(500008, .row)]⟩ [.ki .i64, .ki .i64, .kl 5] (fun (x : Int × Int × (List Int) × Unit) => I_LowerText_b1 k x.1 x.2.1 x.2.2.1) zl7
def zl9 (k : Nat) : Cuts D := ⟨[], [(20, some (zl4 k))]⟩
theorem zla (k : Nat) : CutFor X zl0 k Go.Proofs.Tryz.f108.results.toList (zl8 k) (sub (bodyOf Go.Proofs.Tryz.f108) [1, 1, 0, 1, 0, 0, 1, 1, 0]) :=
  joinCut_s (X := X) (sg := [.ki .i64, .ki .i64, .kl 5]) (cu := zl9 k) (cl := zl1 k) (tys := [[0]]) (zl2 k) (cutOK_of (l := [(zl4 k, sub (bodyOf Go.Proofs.Tryz.f108) [1, 1, 0, 1, 0, 0, 1, 1, 0, 0, 1, 1])]) (by kernel_rfl) ⟨zl6 k, trivial⟩) fun x Q R h => by
    simp only [I_LowerText_b1, optK_bind, optK_bif, optK_pure, optK_none, optK_oc, optK_guardT, optK_map] at h
    refine hold_of h ?_
    kernel_rfl
def zlb (x : Int × Int × (List Int) × Unit) (o : (List Int)) (Q : Ex → VSt D → Prop) (R : VR D → Prop) : Prop := Q .normal (mkSt ⟨[(3, .ref 500003)], [(500003, .row)]⟩ [.sl 5 o])
def zlc (k : Nat) : Cut D := cutS ⟨[(3, .ref 500008), (8, .ref 500008), (9, .hole), (10, .hole)], [(500008, .row)]⟩ [.ki .i64, .ki .i64, .kl 5] (fun (x : Int × Int × (List Int) × Unit) => I_LowerText_b0 k k x.1 x.2.1 x.2.2.1) zlb
def zld (k : Nat) : Cuts D := ⟨[(1, some (zl8 k))], []⟩
theorem zle (k : Nat) : CutFor X zl0 k Go.Proofs.Tryz.f108.results.toList (zlc k) (sub (bodyOf Go.Proofs.Tryz.f108) [1, 1, 0, 1]) :=
  loopCut_s (X := X) (sg := [.ki .i64, .ki .i64, .kl 5]) (cu := zld k) (cl := zl1 k) (tys := [[0]]) (id := 0) (c := sub (bodyOf Go.Proofs.Tryz.f108) [1, 1, 0, 1, 0, 0]) (f := fun n => fun (x : Int × Int × (List Int) × Unit) => I_LowerText_b0 k n x.1 x.2.1 x.2.2.1) (zl2 k) (cutOK_of (l := [(zl8 k, sub (bodyOf Go.Proofs.Tryz.f108) [1, 1, 0, 1, 0, 0, 1, 1, 0])]) (by kernel_rfl) ⟨zla k, trivial⟩) (fun _ => rfl) (fun n x Q R h => by
    simp only [I_LowerText_b0, optK_bind, optK_bif, optK_pure, optK_none, optK_oc, optK_guardT, optK_map] at h
    refine hold_of h ?_
    kernel_rfl) (by kernel_rfl)
def zlf (k : Nat) : Cuts D := ⟨[(0, some (zlc k))], []⟩
def zlg : List Ar := [.c (.ks)]
def zlh (k : Nat) (x : TupA D zlg) : Option ((List UInt8)) := I_LowerText k x.1
def zli (r : (List UInt8)) : VR D := .p (.c (.str r))
theorem zlj (k : Nat) : Does P X 108 zlg (zlh k) zli :=
  does_of (body := bodyOf Go.Proofs.Tryz.f108) (pl := zl0) (k := k) (cu := zlf k) (tys := [[0]]) (zl2 k) ctx mixed Go.Proofs.Tryz.func108 (by kernel_rfl) (by kernel_rfl) (cutOK_of (l := [(zlc k, sub (bodyOf Go.Proofs.Tryz.f108) [1, 1, 0, 1])]) (by kernel_rfl) ⟨zle k, trivial⟩) fun x R h => by
    simp only [zlh, I_LowerText, optK_bind, optK_bif, optK_pure, optK_none, optK_oc, optK_guardT, optK_map] at h
    refine hold_of h ?_
    kernel_rfl
def zlk (k : Nat) : Entry D := entS zlg (zlh k) zli
theorem zll (k : Nat) : EntryOK X 108 (zlk k) := (zlj k).en rfl
def zlm : Plan := ⟨[(0, [(0, none), (1, none)]), (1, [(4, none)])],
  [],
  []⟩
def zln (k : Nat) : Calls' D := ⟨[], [], [], [], []⟩
theorem zlo (k : Nat) : CallsOK X (zln k) := .nil cod
def zlp (k : Nat) : Cuts D := ⟨[], []⟩
def zlq : List Ar := [.c (.ks), .c (.ks)]
def zlr (k : Nat) (x : TupA D zlq) : Option (Bool) := internal_stringslite_HasPrefix k x.1 x.2.1
def zls (r : Bool) : VR D := .p (.c (.bool r))
theorem zlt (k : Nat) : Does P X 144 zlq (zlr k) zls :=
  does_of (body := bodyOf Go.Proofs.Tryz.f144) (pl := zlm) (k := k) (cu := zlp k) (tys := [[0]]) (zlo k) ctx mixed Go.Proofs.Tryz.func144 (by kernel_rfl) (by kernel_rfl) (cutOK_of (l := []) (by kernel_rfl) trivial) fun x R h => by
    simp only [zlr, internal_stringslite_HasPrefix, optK_bind, optK_bif, optK_pure, optK_none, optK_oc, optK_guardT, optK_map] at h
    refine hold_of h ?_
    kernel_rfl
def zlu (k : Nat) : Entry D := entS zlq (zlr k) zls
theorem zlv (k : Nat) : EntryOK X 144 (zlu k) := (zlt k).en rfl
def zlw : Plan := ⟨[(0, [(0, none), (1, none)]), (1, [(4, none)])],
  [],
  []⟩
def zlx (k : Nat) : Calls' D := ⟨[(144, zlu k)], [], [], [], []⟩
theorem zly (k : Nat) : CallsOK X (zlx k) := .cons (zlv k) (.nil cod)
def zlz (k : Nat) : Cuts D := ⟨[], []⟩
def zm0 : List Ar := [.c (.ks), .c (.ks)]
def zm1 (k : Nat) (x : TupA D zm0) : Option (Bool) := strings_HasPrefix k x.1 x.2.1
def zm2 (r : Bool) : VR D := .p (.c (.bool r))
theorem zm3 (k : Nat) : Does P X 84 zm0 (zm1 k) zm2 :=
  does_of (body := bodyOf Go.Proofs.Tryz.f84) (pl := zlw) (k := k) (cu := zlz k) (tys := [[0]]) (zly k) ctx mixed Go.Proofs.Tryz.func84 (by kernel_rfl) (by kernel_rfl) (cutOK_of (l := []) (by kernel_rfl) trivial) fun x R h => by
    simp only [zm1, strings_HasPrefix, optK_bind, optK_bif, optK_pure, optK_none, optK_oc, optK_guardT, optK_map] at h
    refine hold_of h ?_
    kernel_rfl
def zm4 (k : Nat) : Entry D := entS zm0 (zm1 k) zm2
theorem zm5 (k : Nat) : EntryOK X 84 (zm4 k) := (zm3 k).en rfl
def zm6 : Plan := ⟨[(0, [(0, none)]), (1, [(0, none), (4, some 5)]), (2, [(0, none), (4, some 5), (5, none)]), (3, [(0, none), (4, some 5), (5, none), (16, none)]), (4, [(0, none), (4, some 5), (5, none), (27, none)]), (5, [(0, none), (4, some 5), (5, none)]), (6, [(0, none), (4, some 5), (5, none)]), (7, [(0, none), (4, some 5), (5, none)]), (8, [(2, none), (3, none)])],
  [(0, [(0, none), (4, some 5), (5, none)]), (1, [(0, none), (4, some 5), (5, none)])],
  [(16, ([(0, none), (4, some 5), (5, none)], [(0, none), (4, some 5), (5, none)])), (27, ([(0, none), (4, some 5), (5, none)], [(0, none), (4, some 5), (5, none)]))]⟩
def zm7 (k : Nat) : Calls' D := ⟨[(84, zm4 k)], [], [], [], []⟩
theorem zm8 (k : Nat) : CallsOK X (zm7 k) := .cons (zm5 k) (.nil cod)
def zm9 (x : (List UInt8) × Int × Bool × (List Int) × Unit) (o : Int) (Q : Ex → VSt D → Prop) (R : VR D → Prop) : Prop := Q .normal (mkSt ⟨[(0, .hole), (4, .ref 500004), (5, .hole)], [(500004, .row)]⟩ [.str x.1, .int .i64 o, .sl 5 x.2.2.2.1])
def zma (k : Nat) : Cut D := cutS ⟨[(0, .hole), (4, .ref 500004), (5, .hole), (27, .hole)], [(500004, .row)]⟩ [.ks, .ki .i64, .kb, .kl 5] (fun (x : (List UInt8) × Int × Bool × (List Int) × Unit) => I_UnquoteText_c27 k x.1 x.2.1 x.2.2.1 x.2.2.2.1) zm9
def zmb (k : Nat) : Cuts D := ⟨[], []⟩
theorem zmc (k : Nat) : CutFor X zm6 k Go.Proofs.Tryz.f197.results.toList (zma k) (sub (bodyOf Go.Proofs.Tryz.f197) [1, 1, 1, 0, 0, 0, 1, 0, 0, 1]) :=
  joinCut_s (X := X) (sg := [.ks, .ki .i64, .kb, .kl 5]) (cu := zmb k) (cl := zm7 k) (tys := [[0], [0]]) (zm8 k) (cutOK_of (l := []) (by kernel_rfl) trivial) fun x Q R h => by
    simp only [I_UnquoteText_c27, optK_bind, optK_bif, optK_pure, optK_none, optK_oc, optK_guardT, optK_map] at h
    refine hold_of h ?_
    kernel_rfl
def zmd (x : (List UInt8) × Int × (List Int) × Unit) (o : Int × (List Int)) (Q : Ex → VSt D → Prop) (R : VR D → Prop) : Prop := Q .normal (mkSt ⟨[(0, .hole), (4, .ref 500004), (5, .hole)], [(500004, .row)]⟩ [.str x.1, .int .i64 o.1, .sl 5 o.2])
def zme (k : Nat) : Cut D := cutS ⟨[(0, .hole), (4, .ref 500004), (5, .hole)], [(500004, .row)]⟩ [.ks, .ki .i64, .kl 5] (fun (x : (List UInt8) × Int × (List Int) × Unit) => I_UnquoteText_b1 k x.1 x.2.1 x.2.2.1) zmd
def zmf (k : Nat) : Cuts D := ⟨[], [(27, some (zma k))]⟩
theorem zmg (k : Nat) : CutFor X zm6 k Go.Proofs.Tryz.f197.results.toList (zme k) (sub (bodyOf Go.Proofs.Tryz.f197) [1, 1, 1, 0, 0, 0, 1]) :=
  joinCut_s (X := X) (sg := [.ks, .ki .i64, .kl 5]) (cu := zmf k) (cl := zm7 k) (tys := [[0], [0]]) (zm8 k) (cutOK_of (l := [(zma k, sub (bodyOf Go.Proofs.Tryz.f197) [1, 1, 1, 0, 0, 0, 1, 0, 0, 1])]) (by kernel_rfl) ⟨zmc k, trivial⟩) fun x Q R h => by
    simp only [I_UnquoteText_b1, optK_bind, optK_bif, optK_pure, optK_none, optK_oc, optK_guardT, optK_map] at h
    refine hold_of h ?_
    kernel_rfl
def zmh (x : (List UInt8) × Int × (List Int) × Unit) (o : Int × (List Int)) (Q : Ex → VSt D → Prop) (R : VR D → Prop) : Prop := Q .normal (mkSt ⟨[(0, .hole), (4, .ref 500004), (5, .hole)], [(500004, .row)]⟩ [.str x.1, .int .i64 o.1, .sl 5 o.2])
def zmi (k : Nat) : Cut D := cutS ⟨[(0, .hole), (4, .ref 500004), (5, .hole)], [(500004, .row)]⟩ [.ks, .ki .i64, .kl 5] (fun (x : (List UInt8) × Int × (List Int) × Unit) => I_UnquoteText_b0 k k x.1 x.2.1 x.2.2.1) zmh
def zmj (k : Nat) : Cuts D := ⟨[(1, some (zme k))], []⟩
theorem zmk (k : Nat) : CutFor X zm6 k Go.Proofs.Tryz.f197.results.toList (zmi k) (sub (bodyOf Go.Proofs.Tryz.f197) [1, 1, 1, 0]) :=
  loopCut_s (X := X) (sg := [.ks, .ki .i64, .kl 5]) (cu := zmj k) (cl := zm7 k) (tys := [[0], [0]]) (id := 0) (c := sub (bodyOf Go.Proofs.Tryz.f197) [1, 1, 1, 0, 0, 0]) (f := fun n => fun (x : (List UInt8) × Int × (List Int) × Unit) => I_UnquoteText_b0 k n x.1 x.2.1 x.2.2.1) (zm8 k) (cutOK_of (l := [(zme k, sub (bodyOf Go.Proofs.Tryz.f197) [1, 1, 1, 0, 0, 0, 1])]) (by kernel_rfl) ⟨zmg k, trivial⟩) (fun _ => rfl) (fun n x Q R h => by
    simp only [I_UnquoteText_b0, optK_bind, optK_bif, optK_pure, optK_none, optK_oc, optK_guardT, optK_map] at h
    refine hold_of h ?_
    kernel_rfl) (by kernel_rfl)
def zml (k : Nat) : Cuts D := ⟨[(0, some (zmi k))], []⟩
def zmm : List Ar := [.c (.ks)]
def zmn (k : Nat) (x : TupA D zmm) : Option ((List UInt8) × Bool) := I_UnquoteText k x.1
def zmo (r : (List UInt8) × Bool) : VR D := .tup [.c (.str r.1), .c (.bool r.2)]
theorem zmp (k : Nat) : Does P X 197 zmm (zmn k) zmo :=
  does_of (body := bodyOf Go.Proofs.Tryz.f197) (pl := zm6) (k := k) (cu := zml k) (tys := [[0], [0]]) (zm8 k) ctx mixed Go.Proofs.Tryz.func197 (by kernel_rfl) (by kernel_rfl) (cutOK_of (l := [(zmi k, sub (bodyOf Go.Proofs.Tryz.f197) [1, 1, 1, 0])]) (by kernel_rfl) ⟨zmk k, trivial⟩) fun x R h => by
    simp only [zmn, I_UnquoteText, optK_bind, optK_bif, optK_pure, optK_none, optK_oc, optK_guardT, optK_map] at h
    refine hold_of h ?_
    kernel_rfl
def zmq (k : Nat) : Entry D := entS zmm (zmn k) zmo
theorem zmr (k : Nat) : EntryOK X 197 (zmq k) := (zmp k).en rfl
def zms : List Ar := [.c (.ks), .c (.ki .u8)]
def zmt (k : Nat) (x : TupA D zms) : Option (Int) := strings_IndexByte k x.1 x.2.1
def zmu (r : Int) : VR D := .p (.c (.int .i64 r))
theorem zmv (k : Nat) : Does P X 143 zms (zmt k) zmu := does_indexByte ⟨Go.Proofs.Tryz.f143, Go.Proofs.Tryz.func143, by kernel_rfl, by kernel_rfl⟩ (fun s c w hg => Go.Proofs.Tryz.strings_IndexByte s c w)
def zmw (k : Nat) : Entry D := entS zms (zmt k) zmu
theorem zmx (k : Nat) : EntryOK X 143 (zmw k) := (zmv k).en rfl
def zmy : Plan := ⟨[(0, [(0, none)]), (1, [(2, none)])],
  [],
  []⟩
def zmz (k : Nat) : Calls' D := ⟨[(143, zmw k)], [], [], [], []⟩
theorem zn0 (k : Nat) : CallsOK X (zmz k) := .cons (zmx k) (.nil cod)
def zn1 (k : Nat) : Cuts D := ⟨[], []⟩
def zn2 : List Ar := [.c (.ki .u8)]
def zn3 (k : Nat) (x : TupA D zn2) : Option (Bool) := I_isTokenByte k x.1
def zn4 (r : Bool) : VR D := .p (.c (.bool r))
theorem zn5 (k : Nat) : Does P X 152 zn2 (zn3 k) zn4 :=
  does_of (body := bodyOf Go.Proofs.Tryz.f152) (pl := zmy) (k := k) (cu := zn1 k) (tys := [[0]]) (zn0 k) ctx mixed Go.Proofs.Tryz.func152 (by kernel_rfl) (by kernel_rfl) (cutOK_of (l := []) (by kernel_rfl) trivial) fun x R h => by
    simp only [zn3, I_isTokenByte, optK_bind, optK_bif, optK_pure, optK_none, optK_oc, optK_guardT, optK_map] at h
    refine hold_of h ?_
    kernel_rfl
def zn6 (k : Nat) : Entry D := entS zn2 (zn3 k) zn4
theorem zn7 (k : Nat) : EntryOK X 152 (zn6 k) := (zn5 k).en rfl
def zn8 : Plan := ⟨[(0, [(0, none), (1, none), (2, none)]), (1, [(6, none)])],
  [],
  []⟩
def zn9 (k : Nat) : Calls' D := ⟨[], [], [], [], []⟩
theorem zna (k : Nat) : CallsOK X (zn9 k) := .nil cod
def znb (k : Nat) : Cuts D := ⟨[], []⟩
def znc : List Ar := [.c (.ki .i64), .c (.ki .i64), .c (.ki .i64)]
def znd (k : Nat) (x : TupA D znc) : Option (Bool) := I_inRange k x.1 x.2.1 x.2.2.1
def zne (r : Bool) : VR D := .p (.c (.bool r))
theorem znf (k : Nat) : Does P X 94 znc (znd k) zne :=
  does_of (body := bodyOf Go.Proofs.Tryz.f94) (pl := zn8) (k := k) (cu := znb k) (tys := [[0]]) (zna k) ctx mixed Go.Proofs.Tryz.func94 (by kernel_rfl) (by kernel_rfl) (cutOK_of (l := []) (by kernel_rfl) trivial) fun x R h => by
    simp only [znd, I_inRange, optK_bind, optK_bif, optK_pure, optK_none, optK_oc, optK_guardT, optK_map] at h
    refine hold_of h ?_
    kernel_rfl
def zng (k : Nat) : Entry D := entS znc (znd k) zne
theorem znh (k : Nat) : EntryOK X 94 (zng k) := (znf k).en rfl
def zni : Plan := ⟨[(0, [(0, none)]), (1, [(0, none), (5, none), (6, none)]), (2, [(0, none), (5, none), (6, none), (7, none)]), (3, [(0, none), (3, none), (5, none), (6, none)]), (4, [(0, none), (5, none), (6, none), (13, none)]), (5, [(2, none)]), (6, [(0, none), (5, none), (6, none)]), (7, [(2, none)])],
  [(0, [(0, none)]), (1, [(0, none), (5, none), (6, none)])],
  [(7, ([(0, none), (5, none), (6, none)], [(0, none)])), (13, ([], [(0, none), (5, none), (6, none)]))]⟩
def znj (k : Nat) : Calls' D := ⟨[(152, zn6 k), (94, zng k)], [], [], [], []⟩
theorem znk (k : Nat) : CallsOK X (znj k) := .cons (zn7 k) (.cons (znh k) (.nil cod))
def znl (x : (List UInt8) × Int × Int × Unit) (o : Oc (Unit) (Bool)) (Q : Ex → VSt D → Prop) (R : VR D → Prop) : Prop := ocP o (fun v0 => Q .normal (mkSt ⟨[(0, .hole)], []⟩ [.str x.1])) (fun w0 => R (.p (.c (.bool w0))))
def znm (k : Nat) : Cut D := cutS ⟨[(0, .hole), (5, .hole), (6, .hole)], []⟩ [.ks, .ki .i64, .ki .i64] (fun (x : (List UInt8) × Int × Int × Unit) => I_IsToken_b0 k k x.1 x.2.1 x.2.2.1) znl
def znn (k : Nat) : Cuts D := ⟨[], []⟩
theorem zno (k : Nat) : CutFor X zni k Go.Proofs.Tryz.f91.results.toList (znm k) (sub (bodyOf Go.Proofs.Tryz.f91) [1, 0, 1]) :=
  loopCut_s (X := X) (sg := [.ks, .ki .i64, .ki .i64]) (cu := znn k) (cl := znj k) (tys := [[0]]) (id := 0) (c := sub (bodyOf Go.Proofs.Tryz.f91) [1, 0, 1, 0, 0]) (f := fun n => fun (x : (List UInt8) × Int × Int × Unit) => I_IsToken_b0 k n x.1 x.2.1 x.2.2.1) (znk k) (cutOK_of (l := []) (by kernel_rfl) trivial) (fun _ => rfl) (fun n x Q R h => by
    simp only [I_IsToken_b0, optK_bind, optK_bif, optK_pure, optK_none, optK_oc, optK_guardT, optK_map] at h
    refine hold_of h ?_
    kernel_rfl) (by kernel_rfl)
def znp (k : Nat) : Cuts D := ⟨[(0, some (znm k))], []⟩
def znq : List Ar := [.c (.ks)]
def znr (k : Nat) (x : TupA D znq) : Option (Bool) := I_IsToken k x.1
def zns (r : Bool) : VR D := .p (.c (.bool r))
theorem znt (k : Nat) : Does P X 91 znq (znr k) zns :=
  does_of (body := bodyOf Go.Proofs.Tryz.f91) (pl := zni) (k := k) (cu := znp k) (tys := [[0]]) (znk k) ctx mixed Go.Proofs.Tryz.func91 (by kernel_rfl) (by kernel_rfl) (cutOK_of (l := [(znm k, sub (bodyOf Go.Proofs.Tryz.f91) [1, 0, 1])]) (by kernel_rfl) ⟨zno k, trivial⟩) fun x R h => by
    simp only [znr, I_IsToken, optK_bind, optK_bif, optK_pure, optK_none, optK_oc, optK_guardT, optK_map] at h
    refine hold_of h ?_
    kernel_rfl
def znu (k : Nat) : Entry D := entS znq (znr k) zns
theorem znv (k : Nat) : EntryOK X 91 (znu k) := (znt k).en rfl
def znw : Plan := ⟨[(0, [(0, none)]), (1, [(0, none), (3, some 140)]), (2, [(3, some 140), (13, some 9), (14, none), (15, none)]), (3, [(3, some 140), (13, some 9), (14, none), (15, none), (16, none)]), (4, [(3, some 140), (5, none), (13, some 9), (14, none), (15, none)]), (5, [(3, some 140), (6, none), (7, none), (8, none), (13, some 9), (14, none), (15, none)]), (6, [(3, some 140), (6, none), (7, none), (8, none), (9, none), (13, some 9), (14, none), (15, none)]), (7, [(3, some 140), (6, none), (7, none), (8, none), (9, none), (10, none), (13, some 9), (14, none), (15, none)]), (8, [(3, some 140), (6, none), (7, none), (9, none), (10, none), (13, some 9), (14, none), (15, none), (40, none)]), (9, [(3, some 140), (6, none), (9, none), (10, none), (13, some 9), (14, none), (15, none)]), (10, [(3, some 140), (9, none), (13, some 9), (14, none), (15, none), (51, none)]), (11, [(3, some 140), (13, some 9), (14, none), (15, none)]), (12, [(3, some 140), (13, some 9), (14, none), (15, none)]), (13, [(2, some 140)])],
  [(0, [(3, some 140)]), (1, [(3, some 140), (13, some 9), (14, none), (15, none)])],
  [(16, ([(3, some 140), (13, some 9), (14, none), (15, none)], [(3, some 140)])), (40, ([(3, some 140), (6, none), (7, none), (9, none), (13, some 9), (14, none), (15, none)], [(3, some 140), (6, none), (9, none), (10, none), (13, some 9), (14, none), (15, none)])), (51, ([(3, some 140), (9, none), (13, some 9), (14, none), (15, none)], [(3, some 140), (13, some 9), (14, none), (15, none)]))]⟩
def znx (k : Nat) : Calls' D := ⟨[(128, zki k), (196, zky k), (108, zlk k), (84, zm4 k), (197, zmq k), (91, znu k)], [], [], [], []⟩
theorem zny (k : Nat) : CallsOK X (znx k) := .cons (zkj k) (.cons (zkz k) (.cons (zll k) (.cons (zm5 k) (.cons (zmr k) (.cons (znv k) (.nil cod))))))
def znz (x : (List UInt8) × (List UInt8) × Bool × Int × Int × Bool × (List IDirective) × (List UInt8) × (List UInt8) × Bool × (List (List UInt8)) × Unit) (o : Bool × (List UInt8)) (Q : Ex → VSt D → Prop) (R : VR D → Prop) : Prop := Q .normal (mkSt ⟨[(3, .ref 500003), (6, .hole), (9, .ptr 9 0), (10, .hole), (13, .ref 500013), (14, .hole), (15, .hole)], [(500003, .row), (9, .var [.hole, .hole, .hole]), (500013, .row)]⟩ [.str x.1, .bool o.1, .int .i64 x.2.2.2.1, .int .i64 x.2.2.2.2.1, .sl 140 x.2.2.2.2.2.2.1, .str x.2.2.2.2.2.2.2.1, .str o.2, .bool x.2.2.2.2.2.2.2.2.2.1, .sl 9 x.2.2.2.2.2.2.2.2.2.2.1])
def zo0 (k : Nat) : Cut D := cutS ⟨[(3, .ref 500003), (6, .hole), (7, .hole), (9, .ptr 9 0), (10, .hole), (13, .ref 500013), (14, .hole), (15, .hole), (40, .hole)], [(500003, .row), (9, .var [.hole, .hole, .hole]), (500013, .row)]⟩ [.ks, .ks, .kb, .ki .i64, .ki .i64, .kb, .kl 140, .ks, .ks, .kb, .kl 9] (fun (x : (List UInt8) × (List UInt8) × Bool × Int × Int × Bool × (List IDirective) × (List UInt8) × (List UInt8) × Bool × (List (List UInt8)) × Unit) => I_ParseDirectives_c40 k x.1 x.2.1 x.2.2.1 x.2.2.2.1 x.2.2.2.2.1 x.2.2.2.2.2.1 x.2.2.2.2.2.2.1 x.2.2.2.2.2.2.2.1 x.2.2.2.2.2.2.2.2.1 x.2.2.2.2.2.2.2.2.2.1 x.2.2.2.2.2.2.2.2.2.2.1) znz
def zo1 (k : Nat) : Cuts D := ⟨[], []⟩
theorem zo2 (k : Nat) : CutFor X znw k Go.Proofs.Tryz.f132.results.toList (zo0 k) (sub (bodyOf Go.Proofs.Tryz.f132) [1, 1, 0, 1, 0, 0, 1, 1, 0, 0, 1, 1, 1, 1, 0, 1]) :=
  joinCut_s (X := X) (sg := [.ks, .ks, .kb, .ki .i64, .ki .i64, .kb, .kl 140, .ks, .ks, .kb, .kl 9]) (cu := zo1 k) (cl := znx k) (tys := [[140]]) (zny k) (cutOK_of (l := []) (by kernel_rfl) trivial) fun x Q R h => by
    simp only [I_ParseDirectives_c40, optK_bind, optK_bif, optK_pure, optK_none, optK_oc, optK_guardT, optK_map] at h
    refine hold_of h ?_
    kernel_rfl
def zo3 (x : Int × Int × Bool × (List IDirective) × (List UInt8) × (List UInt8) × Bool × (List (List UInt8)) × Unit) (o : (List IDirective)) (Q : Ex → VSt D → Prop) (R : VR D → Prop) : Prop := Q .normal (mkSt ⟨[(3, .ref 500003), (13, .ref 500013), (14, .hole), (15, .hole)], [(500003, .row), (500013, .row)]⟩ [.int .i64 x.1, .int .i64 x.2.1, .sl 140 o, .sl 9 x.2.2.2.2.2.2.2.1])
def zo4 (k : Nat) : Cut D := cutS ⟨[(3, .ref 500003), (9, .ptr 9 0), (13, .ref 500013), (14, .hole), (15, .hole), (51, .hole)], [(500003, .row), (9, .var [.hole, .hole, .hole]), (500013, .row)]⟩ [.ki .i64, .ki .i64, .kb, .kl 140, .ks, .ks, .kb, .kl 9] (fun (x : Int × Int × Bool × (List IDirective) × (List UInt8) × (List UInt8) × Bool × (List (List UInt8)) × Unit) => I_ParseDirectives_c51 k x.1 x.2.1 x.2.2.1 x.2.2.2.1 x.2.2.2.2.1 x.2.2.2.2.2.1 x.2.2.2.2.2.2.1 x.2.2.2.2.2.2.2.1) zo3
def zo5 (k : Nat) : Cuts D := ⟨[], []⟩
theorem zo6 (k : Nat) : CutFor X znw k Go.Proofs.Tryz.f132.results.toList (zo4 k) (sub (bodyOf Go.Proofs.Tryz.f132) [1, 1, 0, 1, 0, 0, 1, 1, 0, 0, 1, 1, 1, 1, 1, 1]) :=
  joinCut_s (X := X) (sg := [.ki .i64, .ki .i64, .kb, .kl 140, .ks, .ks, .kb, .kl 9]) (cu := zo5 k) (cl := znx k) (tys := [[140]]) (zny k) (cutOK_of (l := []) (by kernel_rfl) trivial) fun x Q R h => by
    simp only [I_ParseDirectives_c51, optK_bind, optK_bif, optK_pure, optK_none, optK_oc, optK_guardT, optK_map] at h
    refine hold_of h ?_
    kernel_rfl
def zo7 (x : Int × Int × (List IDirective) × (List (List UInt8)) × Unit) (o : (List IDirective)) (Q : Ex → VSt D → Prop) (R : VR D → Prop) : Prop := Q .normal (mkSt ⟨[(3, .ref 500003), (13, .ref 500013), (14, .hole), (15, .hole)], [(500003, .row), (500013, .row)]⟩ [.int .i64 x.1, .int .i64 x.2.1, .sl 140 o, .sl 9 x.2.2.2.1])
def zo8 (k : Nat) : Cut D := cutS ⟨[(3, .ref 500003), (13, .ref 500013), (14, .hole), (15, .hole)], [(500003, .row), (500013, .row)]⟩ [.ki .i64, .ki .i64, .kl 140, .kl 9] (fun (x : Int × Int × (List IDirective) × (List (List UInt8)) × Unit) => I_ParseDirectives_b1 k x.1 x.2.1 x.2.2.1 x.2.2.2.1) zo7
def zo9 (k : Nat) : Cuts D := ⟨[], [(40, some (zo0 k)), (51, some (zo4 k))]⟩
theorem zoa (k : Nat) : CutFor X znw k Go.Proofs.Tryz.f132.results.toList (zo8 k) (sub (bodyOf Go.Proofs.Tryz.f132) [1, 1, 0, 1, 0, 0, 1, 1, 0]) :=
  joinCut_s (X := X) (sg := [.ki .i64, .ki .i64, .kl 140, .kl 9]) (cu := zo9 k) (cl := znx k) (tys := [[140]]) (zny k) (cutOK_of (l := [(zo0 k, sub (bodyOf Go.Proofs.Tryz.f132) [1, 1, 0, 1, 0, 0, 1, 1, 0, 0, 1, 1, 1, 1, 0, 1]), (zo4 k, sub (bodyOf Go.Proofs.Tryz.f132) [1, 1, 0, 1, 0, 0, 1, 1, 0, 0, 1, 1, 1, 1, 1, 1])]) (by kernel_rfl) ⟨zo2 k, zo6 k, trivial⟩) fun x Q R h => by
    simp only [I_ParseDirectives_b1, optK_bind, optK_bif, optK_pure, optK_none, optK_oc, optK_guardT, optK_map] at h
    refine hold_of h ?_
    kernel_rfl
def zob (x : Int × Int × (List IDirective) × (List (List UInt8)) × Unit) (o : (List IDirective)) (Q : Ex → VSt D → Prop) (R : VR D → Prop) : Prop := Q .normal (mkSt ⟨[(3, .ref 500003)], [(500003, .row)]⟩ [.sl 140 o])
def zoc (k : Nat) : Cut D := cutS ⟨[(3, .ref 500003), (13, .ref 500013), (14, .hole), (15, .hole)], [(500003, .row), (500013, .row)]⟩ [.ki .i64, .ki .i64, .kl 140, .kl 9] (fun (x : Int × Int × (List IDirective) × (List (List UInt8)) × Unit) => I_ParseDirectives_b0 k k x.1 x.2.1 x.2.2.1 x.2.2.2.1) zob
def zod (k : Nat) : Cuts D := ⟨[(1, some (zo8 k))], []⟩
theorem zoe (k : Nat) : CutFor X znw k Go.Proofs.Tryz.f132.results.toList (zoc k) (sub (bodyOf Go.Proofs.Tryz.f132) [1, 1, 0, 1]) :=
  loopCut_s (X := X) (sg := [.ki .i64, .ki .i64, .kl 140, .kl 9]) (cu := zod k) (cl := znx k) (tys := [[140]]) (id := 0) (c := sub (bodyOf Go.Proofs.Tryz.f132) [1, 1, 0, 1, 0, 0]) (f := fun n => fun (x : Int × Int × (List IDirective) × (List (List UInt8)) × Unit) => I_ParseDirectives_b0 k n x.1 x.2.1 x.2.2.1 x.2.2.2.1) (zny k) (cutOK_of (l := [(zo8 k, sub (bodyOf Go.Proofs.Tryz.f132) [1, 1, 0, 1, 0, 0, 1, 1, 0])]) (by kernel_rfl) ⟨zoa k, trivial⟩) (fun _ => rfl) (fun n x Q R h => by
    simp only [I_ParseDirectives_b0, optK_bind, optK_bif, optK_pure, optK_none, optK_oc, optK_guardT, optK_map] at h
    refine hold_of h ?_
    kernel_rfl) (by kernel_rfl)
def zof (k : Nat) : Cuts D := ⟨[(0, some (zoc k))], []⟩
def zog : List Ar := [.c (.ks)]
def zoh (k : Nat) (x : TupA D zog) : Option ((List IDirective)) := I_ParseDirectives k x.1
def zoi (r : (List IDirective)) : VR D := .p (.c (.sl 140 r))
theorem zoj (k : Nat) : Does P X 132 zog (zoh k) zoi :=
  does_of (body := bodyOf Go.Proofs.Tryz.f132) (pl := znw) (k := k) (cu := zof k) (tys := [[140]]) (zny k) ctx mixed Go.Proofs.Tryz.func132 (by kernel_rfl) (by kernel_rfl) (cutOK_of (l := [(zoc k, sub (bodyOf Go.Proofs.Tryz.f132) [1, 1, 0, 1])]) (by kernel_rfl) ⟨zoe k, trivial⟩) fun x R h => by
    simp only [zoh, I_ParseDirectives, optK_bind, optK_bif, optK_pure, optK_none, optK_oc, optK_guardT, optK_map] at h
    refine hold_of h ?_
    kernel_rfl
def zok (k : Nat) : Entry D := entS zog (zoh k) zoi
theorem zol (k : Nat) : EntryOK X 132 (zok k) := (zoj k).en rfl
def zom : Plan := ⟨[(0, [(0, some 107)]), (1, [(3, none)]), (2, [(2, some 140)])],
  [],
  []⟩
def zon (k : Nat) : Calls' D := ⟨[(57, zj0 k), (132, zok k)], [], [], [], []⟩
theorem zoo (k : Nat) : CallsOK X (zon k) := .cons (zj1 k) (.cons (zol k) (.nil cod))
def zop (k : Nat) : Cuts D := ⟨[], []⟩
def zoq : List Ar := [.c (.kl 107)]
def zor (k : Nat) (x : TupA D zoq) : Option ((List IDirective)) := I_rulesOf k x.1
def zos (r : (List IDirective)) : VR D := .p (.c (.sl 140 r))
theorem zot (k : Nat) : Does P X 70 zoq (zor k) zos :=
  does_of (body := bodyOf Go.Proofs.Tryz.f70) (pl := zom) (k := k) (cu := zop k) (tys := [[140]]) (zoo k) ctx mixed Go.Proofs.Tryz.func70 (by kernel_rfl) (by kernel_rfl) (cutOK_of (l := []) (by kernel_rfl) trivial) fun x R h => by
    simp only [zor, I_rulesOf, optK_bind, optK_bif, optK_pure, optK_none, optK_oc, optK_guardT, optK_map] at h
    refine hold_of h ?_
    kernel_rfl
def zou (k : Nat) : Entry D := entS zoq (zor k) zos
theorem zov (k : Nat) : EntryOK X 70 (zou k) := (zot k).en rfl
def zow : Plan := ⟨[(0, [(0, some 140), (1, none)]), (1, [(1, none), (7, some 140), (8, none), (9, none)]), (2, [(1, none), (7, some 140), (8, none), (9, none), (10, none)]), (3, [(1, none), (5, none), (6, none), (7, some 140), (8, none), (9, none)]), (4, [(1, none), (5, none), (7, some 140), (8, none), (9, none), (17, none)]), (5, [(4, none)]), (6, [(1, none), (7, some 140), (8, none), (9, none)]), (7, [(4, none)])],
  [(0, []), (1, [(1, none), (7, some 140), (8, none), (9, none)])],
  [(10, ([(1, none), (7, some 140), (8, none), (9, none)], [])), (17, ([(5, none)], [(1, none), (7, some 140), (8, none), (9, none)]))]⟩
def zox (k : Nat) : Calls' D := ⟨[], [], [], [], []⟩
theorem zoy (k : Nat) : CallsOK X (zox k) := .nil cod
def zoz (x : (List UInt8) × (List IDirective) × Int × Int × Unit) (o : Oc (Unit) (Int)) (Q : Ex → VSt D → Prop) (R : VR D → Prop) : Prop := ocP o (fun v0 => Q .normal (mkSt ⟨[], []⟩ [])) (fun w0 => R (.p (.c (.int .i64 w0))))
def zp0 (k : Nat) : Cut D := cutS ⟨[(1, .hole), (7, .hole), (8, .hole), (9, .hole)], []⟩ [.ks, .kl 140, .ki .i64, .ki .i64] (fun (x : (List UInt8) × (List IDirective) × Int × Int × Unit) => I_FindDirective_b0 k k x.1 x.2.1 x.2.2.1 x.2.2.2.1) zoz
def zp1 (k : Nat) : Cuts D := ⟨[], []⟩
theorem zp2 (k : Nat) : CutFor X zow k Go.Proofs.Tryz.f133.results.toList (zp0 k) (sub (bodyOf Go.Proofs.Tryz.f133) [1, 0, 1]) :=
  loopCut_s (X := X) (sg := [.ks, .kl 140, .ki .i64, .ki .i64]) (cu := zp1 k) (cl := zox k) (tys := [[0]]) (id := 0) (c := sub (bodyOf Go.Proofs.Tryz.f133) [1, 0, 1, 0, 0]) (f := fun n => fun (x : (List UInt8) × (List IDirective) × Int × Int × Unit) => I_FindDirective_b0 k n x.1 x.2.1 x.2.2.1 x.2.2.2.1) (zoy k) (cutOK_of (l := []) (by kernel_rfl) trivial) (fun _ => rfl) (fun n x Q R h => by
    simp only [I_FindDirective_b0, optK_bind, optK_bif, optK_pure, optK_none, optK_oc, optK_guardT, optK_map] at h
    refine hold_of h ?_
    kernel_rfl) (by kernel_rfl)
def zp3 (k : Nat) : Cuts D := ⟨[(0, some (zp0 k))], []⟩
def zp4 : List Ar := [.c (.kl 140), .c (.ks)]
def zp5 (k : Nat) (x : TupA D zp4) : Option (Int) := I_FindDirective k x.1 x.2.1
def zp6 (r : Int) : VR D := .p (.c (.int .i64 r))
theorem zp7 (k : Nat) : Does P X 133 zp4 (zp5 k) zp6 :=
  does_of (body := bodyOf Go.Proofs.Tryz.f133) (pl := zow) (k := k) (cu := zp3 k) (tys := [[0]]) (zoy k) ctx mixed Go.Proofs.Tryz.func133 (by kernel_rfl) (by kernel_rfl) (cutOK_of (l := [(zp0 k, sub (bodyOf Go.Proofs.Tryz.f133) [1, 0, 1])]) (by kernel_rfl) ⟨zp2 k, trivial⟩) fun x R h => by
    simp only [zp5, I_FindDirective, optK_bind, optK_bif, optK_pure, optK_none, optK_oc, optK_guardT, optK_map] at h
    refine hold_of h ?_
    kernel_rfl
def zp8 (k : Nat) : Entry D := entS zp4 (zp5 k) zp6
theorem zp9 (k : Nat) : EntryOK X 133 (zp8 k) := (zp7 k).en rfl
def zpa : Plan := ⟨[(0, [(0, some 140), (1, none)]), (1, [(0, some 140), (6, none)]), (2, [(0, some 140), (6, none), (14, none)]), (3, [(4, none), (5, none)]), (4, [(0, some 140), (6, none), (7, none)]), (5, [(7, none), (20, some 5), (21, none), (22, none)]), (6, [(7, none), (20, some 5), (21, none), (22, none), (23, none)]), (7, [(7, none), (9, none), (20, some 5), (21, none), (22, none)]), (8, [(7, none), (9, none), (20, some 5), (21, none), (22, none), (31, none)]), (9, [(4, none), (5, none)]), (10, [(7, none), (20, some 5), (21, none), (22, none)]), (11, [(7, none), (20, some 5), (21, none), (22, none)]), (12, [(4, none), (5, none)])],
  [(0, [(7, none)]), (1, [(7, none), (20, some 5), (21, none), (22, none)])],
  [(14, ([], [(0, some 140), (6, none)])), (23, ([(7, none), (20, some 5), (21, none), (22, none)], [(7, none)])), (31, ([], [(7, none), (9, none), (20, some 5), (21, none), (22, none)]))]⟩
def zpb (k : Nat) : Calls' D := ⟨[(133, zp8 k)], [], [], [], []⟩
theorem zpc (k : Nat) : CallsOK X (zpb k) := .cons (zp9 k) (.nil cod)
def zpd (x : Int × Int × Int × (List Int) × Unit) (o : Oc (Int) (Int × Bool)) (Q : Ex → VSt D → Prop) (R : VR D → Prop) : Prop := ocP o (fun v0 => Q .normal (mkSt ⟨[(7, .hole)], []⟩ [.int .i64 v0])) (fun w0 => R (.tup [.c (.int .i64 w0.1), .c (.bool w0.2)]))
def zpe (k : Nat) : Cut D := cutS ⟨[(7, .hole), (20, .ref 500020), (21, .hole), (22, .hole)], [(500020, .row)]⟩ [.ki .i64, .ki .i64, .ki .i64, .kl 5] (fun (x : Int × Int × Int × (List Int) × Unit) => I_SecondsOf_b0 k k x.1 x.2.1 x.2.2.1 x.2.2.2.1) zpd
def zpf (k : Nat) : Cuts D := ⟨[], []⟩
theorem zpg (k : Nat) : CutFor X zpa k Go.Proofs.Tryz.f71.results.toList (zpe k) (sub (bodyOf Go.Proofs.Tryz.f71) [1, 1, 1, 1, 0, 1]) :=
  loopCut_s (X := X) (sg := [.ki .i64, .ki .i64, .ki .i64, .kl 5]) (cu := zpf k) (cl := zpb k) (tys := [[0], [0]]) (id := 0) (c := sub (bodyOf Go.Proofs.Tryz.f71) [1, 1, 1, 1, 0, 1, 0, 0]) (f := fun n => fun (x : Int × Int × Int × (List Int) × Unit) => I_SecondsOf_b0 k n x.1 x.2.1 x.2.2.1 x.2.2.2.1) (zpc k) (cutOK_of (l := []) (by kernel_rfl) trivial) (fun _ => rfl) (fun n x Q R h => by
    simp only [I_SecondsOf_b0, optK_bind, optK_bif, optK_pure, optK_none, optK_oc, optK_guardT, optK_map] at h
    refine hold_of h ?_
    kernel_rfl) (by kernel_rfl)
def zph (k : Nat) : Cuts D := ⟨[(0, some (zpe k))], []⟩
def zpi : List Ar := [.c (.kl 140), .c (.ks)]
def zpj (k : Nat) (x : TupA D zpi) : Option (Int × Bool) := I_SecondsOf k x.1 x.2.1
def zpk (r : Int × Bool) : VR D := .tup [.c (.int .i64 r.1), .c (.bool r.2)]
theorem zpl (k : Nat) : Does P X 71 zpi (zpj k) zpk :=
  does_of (body := bodyOf Go.Proofs.Tryz.f71) (pl := zpa) (k := k) (cu := zph k) (tys := [[0], [0]]) (zpc k) ctx mixed Go.Proofs.Tryz.func71 (by kernel_rfl) (by kernel_rfl) (cutOK_of (l := [(zpe k, sub (bodyOf Go.Proofs.Tryz.f71) [1, 1, 1, 1, 0, 1])]) (by kernel_rfl) ⟨zpg k, trivial⟩) fun x R h => by
    simp only [zpj, I_SecondsOf, optK_bind, optK_bif, optK_pure, optK_none, optK_oc, optK_guardT, optK_map] at h
    refine hold_of h ?_
    kernel_rfl
def zpm (k : Nat) : Entry D := entS zpi (zpj k) zpk
theorem zpn (k : Nat) : EntryOK X 71 (zpm k) := (zpl k).en rfl
def zpo : List Ar := [.c (.ks), .c (.ks)]
def zpp (k : Nat) (x : TupA D zpo) : Option ((List UInt8)) := strings_TrimLeft k x.1 x.2.1
def zpq (r : (List UInt8)) : VR D := .p (.c (.str r))
theorem zpr (k : Nat) : Does P X 233 zpo (zpp k) zpq := does_trimLeft ⟨Go.Proofs.Tryz.f233, Go.Proofs.Tryz.func233, by kernel_rfl, by kernel_rfl⟩ (fun s c w hg h => Go.Proofs.Tryz.strings_TrimLeft_one s c h w)
def zps (k : Nat) : Entry D := entS zpo (zpp k) zpq
theorem zpt (k : Nat) : EntryOK X 233 (zps k) := (zpr k).en rfl
def zpu : List Ar := [.c (.ks)]
def zpv (k : Nat) (x : TupA D zpu) : Option (Int × Bool) := strconv_Atoi k x.1
def zpw (r : Int × Bool) : VR D := .tup [.c (.int .i64 r.1), .c (.err r.2)]
theorem zpx (k : Nat) : Does P X 176 zpu (zpv k) zpw := does_atoi ⟨Go.Proofs.Tryz.f176, Go.Proofs.Tryz.func176, by kernel_rfl, by kernel_rfl⟩ (fun s v w hg h1 h2 => Go.Proofs.Tryz.strconv_Atoi_ok s h1 v h2 w) (fun s w hg h1 h2 => let ⟨tp, p, hv⟩ := hg.2.1; (Go.Proofs.Tryz.strconv_Atoi_range_var s h1 h2 tp p w hv).mono fun e w1 ⟨N, h, _, _, hb⟩ => ⟨_, h, hb⟩) (fun s w hg h1 h2 h3 => let ⟨tp, p, hv⟩ := hg.2.2.1; (Go.Proofs.Any.strconv_Atoi_syntax_var Go.Proofs.Tryz.laysC172 s h1 (atoi_bad h2 h3) tp p w hv).mono fun e w1 ⟨N, h, _, _, hb⟩ => ⟨_, h, hb⟩)
def zpy (k : Nat) : Entry D := entS zpu (zpv k) zpw
theorem zpz (k : Nat) : EntryOK X 176 (zpy k) := (zpx k).en rfl
def zq0 : Plan := ⟨[(0, [(0, none)]), (1, [(3, none), (4, none)]), (2, [(3, none), (12, none)]), (3, [(2, none)]), (4, [(2, none)])],
  [],
  [(12, ([], [(3, none)]))]⟩
def zq1 (k : Nat) : Calls' D := ⟨[(233, zps k), (176, zpy k)], [], [], [], []⟩
theorem zq2 (k : Nat) : CallsOK X (zq1 k) := .cons (zpt k) (.cons (zpz k) (.nil cod))
def zq3 (k : Nat) : Cuts D := ⟨[], []⟩
def zq4 : List Ar := [.c (.ks)]
def zq5 (k : Nat) (x : TupA D zq4) : Option (Int) := I_digitsIn k x.1
def zq6 (r : Int) : VR D := .p (.c (.int .i64 r))
theorem zq7 (k : Nat) : Does P X 187 zq4 (zq5 k) zq6 :=
  does_of (body := bodyOf Go.Proofs.Tryz.f187) (pl := zq0) (k := k) (cu := zq3 k) (tys := [[0]]) (zq2 k) ctx mixed Go.Proofs.Tryz.func187 (by kernel_rfl) (by kernel_rfl) (cutOK_of (l := []) (by kernel_rfl) trivial) fun x R h => by
    simp only [zq5, I_digitsIn, optK_bind, optK_bif, optK_pure, optK_none, optK_oc, optK_guardT, optK_map] at h
    refine hold_of h ?_
    kernel_rfl
def zq8 (k : Nat) : Entry D := entS zq4 (zq5 k) zq6
theorem zq9 (k : Nat) : EntryOK X 187 (zq8 k) := (zq7 k).en rfl
def zqa : List Ar := [.c (.ks), .c (.ks)]
def zqb (k : Nat) (x : TupA D zqa) : Option (Int) := strings_Index k x.1 x.2.1
def zqc (r : Int) : VR D := .p (.c (.int .i64 r))
theorem zqd (k : Nat) : Does P X 205 zqa (zqb k) zqc := does_index ⟨Go.Proofs.Tryz.f205, Go.Proofs.Tryz.func205, by kernel_rfl, by kernel_rfl⟩ (fun s sub w hg hs => let ⟨m, hm⟩ := hg.1; Go.Proofs.Tryz.strings_Index s sub m w hs hm)
def zqe (k : Nat) : Entry D := entS zqa (zqb k) zqc
theorem zqf (k : Nat) : EntryOK X 205 (zqe k) := (zqd k).en rfl
def zqg : Plan := ⟨[(0, [(0, none), (1, none)]), (1, [(0, none), (1, none), (7, none)]), (2, [(4, none)]), (3, [(4, none)])],
  [],
  [(7, ([], [(0, none), (1, none)]))]⟩
def zqh (k : Nat) : Calls' D := ⟨[(94, zng k)], [], [], [], []⟩
theorem zqi (k : Nat) : CallsOK X (zqh k) := .cons (znh k) (.nil cod)
def zqj (k : Nat) : Cuts D := ⟨[], []⟩
def zqk : List Ar := [.c (.ki .i64), .c (.ki .i64)]
def zql (k : Nat) (x : TupA D zqk) : Option (Int) := I_Mod k x.1 x.2.1
def zqm (r : Int) : VR D := .p (.c (.int .i64 r))
theorem zqn (k : Nat) : Does P X 237 zqk (zql k) zqm :=
  does_of (body := bodyOf Go.Proofs.Tryz.f237) (pl := zqg) (k := k) (cu := zqj k) (tys := [[0]]) (zqi k) ctx mixed Go.Proofs.Tryz.func237 (by kernel_rfl) (by kernel_rfl) (cutOK_of (l := []) (by kernel_rfl) trivial) fun x R h => by
    simp only [zql, I_Mod, optK_bind, optK_bif, optK_pure, optK_none, optK_oc, optK_guardT, optK_map] at h
    refine hold_of h ?_
    kernel_rfl
def zqo (k : Nat) : Entry D := entS zqk (zql k) zqm
theorem zqp (k : Nat) : EntryOK X 237 (zqo k) := (zqn k).en rfl
def zqq : Plan := ⟨[(0, [(0, none)]), (1, [(2, none)])],
  [],
  []⟩
def zqr (k : Nat) : Calls' D := ⟨[(237, zqo k)], [], [], [], []⟩
theorem zqs (k : Nat) : CallsOK X (zqr k) := .cons (zqp k) (.nil cod)
def zqt (k : Nat) : Cuts D := ⟨[], []⟩
def zqu : List Ar := [.c (.ki .i64)]
def zqv (k : Nat) (x : TupA D zqu) : Option (Bool) := I_IsLeap k x.1
def zqw (r : Bool) : VR D := .p (.c (.bool r))
theorem zqx (k : Nat) : Does P X 262 zqu (zqv k) zqw :=
  does_of (body := bodyOf Go.Proofs.Tryz.f262) (pl := zqq) (k := k) (cu := zqt k) (tys := [[0]]) (zqs k) ctx mixed Go.Proofs.Tryz.func262 (by kernel_rfl) (by kernel_rfl) (cutOK_of (l := []) (by kernel_rfl) trivial) fun x R h => by
    simp only [zqv, I_IsLeap, optK_bind, optK_bif, optK_pure, optK_none, optK_oc, optK_guardT, optK_map] at h
    refine hold_of h ?_
    kernel_rfl
def zqy (k : Nat) : Entry D := entS zqu (zqv k) zqw
theorem zqz (k : Nat) : EntryOK X 262 (zqy k) := (zqx k).en rfl
def zr0 : Plan := ⟨[(0, [(0, none), (1, none)]), (1, [(0, none), (5, none)]), (2, [(0, none), (5, none), (6, none)]), (3, [(9, none)]), (4, [(4, none)]), (5, [(4, none)]), (6, [(5, none), (10, none)]), (7, [(5, none), (10, none)]), (8, [(5, none), (10, none)]), (9, [(10, none)]), (10, [(4, none)]), (11, [(4, none)])],
  [(0, [])],
  [(6, ([(0, none)], [(5, none)])), (9, ([], [])), (10, ([(10, none)], [(5, none)]))]⟩
def zr1 (k : Nat) : Calls' D := ⟨[(262, zqy k)], [], [], [], []⟩
theorem zr2 (k : Nat) : CallsOK X (zr1 k) := .cons (zqz k) (.nil cod)
def zr3 (x : Int × Int × Bool × Unit) (o : Oc (Unit) (Int)) (Q : Ex → VSt D → Prop) (R : VR D → Prop) : Prop := ocP o (fun v0 => Q .normal (mkSt ⟨[(5, .gone)], []⟩ [])) (fun w0 => R (.p (.c (.int .i64 w0))))
def zr4 (k : Nat) : Cut D := cutS ⟨[(0, .hole), (5, .hole), (6, .hole)], []⟩ [.ki .i64, .ki .i64, .kb] (fun (x : Int × Int × Bool × Unit) => I_monthDays_c6 k x.1 x.2.1 x.2.2.1) zr3
def zr5 (k : Nat) : Cuts D := ⟨[], []⟩
theorem zr6 (k : Nat) : CutFor X zr0 k Go.Proofs.Tryz.f236.results.toList (zr4 k) (sub (bodyOf Go.Proofs.Tryz.f236) [1, 0, 1, 0, 1]) :=
  joinCut_s (X := X) (sg := [.ki .i64, .ki .i64, .kb]) (cu := zr5 k) (cl := zr1 k) (tys := [[0]]) (zr2 k) (cutOK_of (l := []) (by kernel_rfl) trivial) fun x Q R h => by
    simp only [I_monthDays_c6, optK_bind, optK_bif, optK_pure, optK_none, optK_oc, optK_guardT, optK_map] at h
    refine hold_of h ?_
    kernel_rfl
def zr7 (x : Int × Int × Unit) (o : Oc (Unit) (Int)) (Q : Ex → VSt D → Prop) (R : VR D → Prop) : Prop := ocP o (fun v0 => Q .normal (mkSt ⟨[], []⟩ [])) (fun w0 => R (.p (.c (.int .i64 w0))))
def zr8 (k : Nat) : Cut D := cutS ⟨[(0, .hole), (5, .hole)], []⟩ [.ki .i64, .ki .i64] (fun (x : Int × Int × Unit) => I_monthDays_b0 k x.1 x.2.1) zr7
def zr9 (k : Nat) : Cuts D := ⟨[], [(6, some (zr4 k))]⟩
theorem zra (k : Nat) : CutFor X zr0 k Go.Proofs.Tryz.f236.results.toList (zr8 k) (sub (bodyOf Go.Proofs.Tryz.f236) [1, 0, 1]) :=
  joinCut_s (X := X) (sg := [.ki .i64, .ki .i64]) (cu := zr9 k) (cl := zr1 k) (tys := [[0]]) (zr2 k) (cutOK_of (l := [(zr4 k, sub (bodyOf Go.Proofs.Tryz.f236) [1, 0, 1, 0, 1])]) (by kernel_rfl) ⟨zr6 k, trivial⟩) fun x Q R h => by
    simp only [I_monthDays_b0, optK_bind, optK_bif, optK_pure, optK_none, optK_oc, optK_guardT, optK_map] at h
    refine hold_of h ?_
    kernel_rfl
def zrb (k : Nat) : Cuts D := ⟨[(0, some (zr8 k))], []⟩
def zrc : List Ar := [.c (.ki .i64), .c (.ki .i64)]
def zrd (k : Nat) (x : TupA D zrc) : Option (Int) := I_monthDays k x.1 x.2.1
def zre (r : Int) : VR D := .p (.c (.int .i64 r))
theorem zrf (k : Nat) : Does P X 236 zrc (zrd k) zre :=
  does_of (body := bodyOf Go.Proofs.Tryz.f236) (pl := zr0) (k := k) (cu := zrb k) (tys := [[0]]) (zr2 k) ctx mixed Go.Proofs.Tryz.func236 (by kernel_rfl) (by kernel_rfl) (cutOK_of (l := [(zr8 k, sub (bodyOf Go.Proofs.Tryz.f236) [1, 0, 1])]) (by kernel_rfl) ⟨zra k, trivial⟩) fun x R h => by
    simp only [zrd, I_monthDays, optK_bind, optK_bif, optK_pure, optK_none, optK_oc, optK_guardT, optK_map] at h
    refine hold_of h ?_
    kernel_rfl
def zrg (k : Nat) : Entry D := entS zrc (zrd k) zre
theorem zrh (k : Nat) : EntryOK X 236 (zrg k) := (zrf k).en rfl
def zri : Plan := ⟨[(0, [(0, none)]), (1, [(4, none)]), (2, [(2, none)]), (3, [(2, none)])],
  [],
  [(4, ([], []))]⟩
def zrj (k : Nat) : Calls' D := ⟨[(262, zqy k)], [], [], [], []⟩
theorem zrk (k : Nat) : CallsOK X (zrj k) := .cons (zqz k) (.nil cod)
def zrl (k : Nat) : Cuts D := ⟨[], []⟩
def zrm : List Ar := [.c (.ki .i64)]
def zrn (k : Nat) (x : TupA D zrm) : Option (Int) := I_yearDays k x.1
def zro (r : Int) : VR D := .p (.c (.int .i64 r))
theorem zrp (k : Nat) : Does P X 235 zrm (zrn k) zro :=
  does_of (body := bodyOf Go.Proofs.Tryz.f235) (pl := zri) (k := k) (cu := zrl k) (tys := [[0]]) (zrk k) ctx mixed Go.Proofs.Tryz.func235 (by kernel_rfl) (by kernel_rfl) (cutOK_of (l := []) (by kernel_rfl) trivial) fun x R h => by
    simp only [zrn, I_yearDays, optK_bind, optK_bif, optK_pure, optK_none, optK_oc, optK_guardT, optK_map] at h
    refine hold_of h ?_
    kernel_rfl
def zrq (k : Nat) : Entry D := entS zrm (zrn k) zro
theorem zrr (k : Nat) : EntryOK X 235 (zrq k) := (zrp k).en rfl
def zrs : Plan := ⟨[(0, [(0, none), (1, none), (2, none)]), (1, [(0, none), (1, none), (2, none), (25, none)]), (2, [(6, none)]), (3, [(0, none), (1, none), (7, none)]), (4, [(0, none), (1, none), (7, none), (8, none)]), (5, [(0, none), (1, none), (7, none), (8, none), (30, none)]), (6, [(0, none), (1, none), (7, none), (8, none)]), (7, [(0, none), (1, none), (7, none), (8, none)]), (8, [(0, none), (1, none), (7, none), (9, none)]), (9, [(0, none), (1, none), (7, none), (9, none), (39, none)]), (10, [(0, none), (1, none), (7, none), (9, none)]), (11, [(0, none), (1, none), (7, none), (9, none)]), (12, [(6, none)])],
  [(0, [(0, none), (1, none), (7, none)]), (1, [(0, none), (1, none), (7, none), (8, none)]), (2, [(7, none)]), (3, [(0, none), (1, none), (7, none), (9, none)])],
  [(25, ([], [(0, none), (1, none), (2, none)])), (30, ([(0, none), (1, none), (7, none), (8, none)], [(0, none), (1, none), (7, none)])), (39, ([(0, none), (1, none), (7, none), (9, none)], [(7, none)]))]⟩
def zrt (k : Nat) : Calls' D := ⟨[(94, zng k), (236, zrg k), (235, zrq k)], [], [], [], []⟩
theorem zru (k : Nat) : CallsOK X (zrt k) := .cons (znh k) (.cons (zrh k) (.cons (zrr k) (.nil cod)))
def zrv (x : Int × Int × Int × Int × Unit) (o : Int) (Q : Ex → VSt D → Prop) (R : VR D → Prop) : Prop := Q .normal (mkSt ⟨[(0, .hole), (1, .hole), (7, .hole)], []⟩ [.int .i64 x.1, .int .i64 x.2.1, .int .i64 o])
def zrw (k : Nat) : Cut D := cutS ⟨[(0, .hole), (1, .hole), (7, .hole), (8, .hole)], []⟩ [.ki .i64, .ki .i64, .ki .i64, .ki .i64] (fun (x : Int × Int × Int × Int × Unit) => I_DaysOf_b0 k k x.1 x.2.1 x.2.2.1 x.2.2.2.1) zrv
def zrx (k : Nat) : Cuts D := ⟨[], []⟩
theorem zry (k : Nat) : CutFor X zrs k Go.Proofs.Tryz.f234.results.toList (zrw k) (sub (bodyOf Go.Proofs.Tryz.f234) [1, 1, 1, 0, 1]) :=
  loopCut_s (X := X) (sg := [.ki .i64, .ki .i64, .ki .i64, .ki .i64]) (cu := zrx k) (cl := zrt k) (tys := [[0]]) (id := 0) (c := sub (bodyOf Go.Proofs.Tryz.f234) [1, 1, 1, 0, 1, 0, 0]) (f := fun n => fun (x : Int × Int × Int × Int × Unit) => I_DaysOf_b0 k n x.1 x.2.1 x.2.2.1 x.2.2.2.1) (zru k) (cutOK_of (l := []) (by kernel_rfl) trivial) (fun _ => rfl) (fun n x Q R h => by
    simp only [I_DaysOf_b0, optK_bind, optK_bif, optK_pure, optK_none, optK_oc, optK_guardT, optK_map] at h
    refine hold_of h ?_
    kernel_rfl) (by kernel_rfl)
def zrz (x : Int × Int × Int × Int × Unit) (o : Int) (Q : Ex → VSt D → Prop) (R : VR D → Prop) : Prop := Q .normal (mkSt ⟨[(7, .hole)], []⟩ [.int .i64 o])
def zs0 (k : Nat) : Cut D := cutS ⟨[(0, .hole), (1, .hole), (7, .hole), (9, .hole)], []⟩ [.ki .i64, .ki .i64, .ki .i64, .ki .i64] (fun (x : Int × Int × Int × Int × Unit) => I_DaysOf_b2 k k x.1 x.2.1 x.2.2.1 x.2.2.2.1) zrz
def zs1 (k : Nat) : Cuts D := ⟨[], []⟩
theorem zs2 (k : Nat) : CutFor X zrs k Go.Proofs.Tryz.f234.results.toList (zs0 k) (sub (bodyOf Go.Proofs.Tryz.f234) [1, 1, 1, 1, 0, 1]) :=
  loopCut_s (X := X) (sg := [.ki .i64, .ki .i64, .ki .i64, .ki .i64]) (cu := zs1 k) (cl := zrt k) (tys := [[0]]) (id := 2) (c := sub (bodyOf Go.Proofs.Tryz.f234) [1, 1, 1, 1, 0, 1, 0, 0]) (f := fun n => fun (x : Int × Int × Int × Int × Unit) => I_DaysOf_b2 k n x.1 x.2.1 x.2.2.1 x.2.2.2.1) (zru k) (cutOK_of (l := []) (by kernel_rfl) trivial) (fun _ => rfl) (fun n x Q R h => by
    simp only [I_DaysOf_b2, optK_bind, optK_bif, optK_pure, optK_none, optK_oc, optK_guardT, optK_map] at h
    refine hold_of h ?_
    kernel_rfl) (by kernel_rfl)
def zs3 (k : Nat) : Cuts D := ⟨[(0, some (zrw k)), (2, some (zs0 k))], []⟩
def zs4 : List Ar := [.c (.ki .i64), .c (.ki .i64), .c (.ki .i64)]
def zs5 (k : Nat) (x : TupA D zs4) : Option (Int) := I_DaysOf k x.1 x.2.1 x.2.2.1
def zs6 (r : Int) : VR D := .p (.c (.int .i64 r))
theorem zs7 (k : Nat) : Does P X 234 zs4 (zs5 k) zs6 :=
  does_of (body := bodyOf Go.Proofs.Tryz.f234) (pl := zrs) (k := k) (cu := zs3 k) (tys := [[0]]) (zru k) ctx mixed Go.Proofs.Tryz.func234 (by kernel_rfl) (by kernel_rfl) (cutOK_of (l := [(zrw k, sub (bodyOf Go.Proofs.Tryz.f234) [1, 1, 1, 0, 1]), (zs0 k, sub (bodyOf Go.Proofs.Tryz.f234) [1, 1, 1, 1, 0, 1])]) (by kernel_rfl) ⟨zry k, zs2 k, trivial⟩) fun x R h => by
    simp only [zs5, I_DaysOf, optK_bind, optK_bif, optK_pure, optK_none, optK_oc, optK_guardT, optK_map] at h
    refine hold_of h ?_
    kernel_rfl
def zs8 (k : Nat) : Entry D := entS zs4 (zs5 k) zs6
theorem zs9 (k : Nat) : EntryOK X 234 (zs8 k) := (zs7 k).en rfl
def zsa : Plan := ⟨[(0, [(0, none), (1, none), (2, none), (3, none)]), (1, [(3, none), (10, none)]), (2, [(3, none), (10, none), (19, none)]), (3, [(8, none), (9, none)]), (4, [(8, none), (9, none)])],
  [],
  [(19, ([], [(3, none), (10, none)]))]⟩
def zsb (k : Nat) : Calls' D := ⟨[(205, zqe k), (234, zs8 k), (187, zq8 k)], [], [], [], []⟩
theorem zsc (k : Nat) : CallsOK X (zsb k) := .cons (zqf k) (.cons (zs9 k) (.cons (zq9 k) (.nil cod)))
def zsd (k : Nat) : Cuts D := ⟨[], []⟩
def zse : List Ar := [.c (.ki .i64), .c (.ks), .c (.ki .i64), .c (.ks)]
def zsf (k : Nat) (x : TupA D zse) : Option (Int × Bool) := I_timeOf k x.1 x.2.1 x.2.2.1 x.2.2.2.1
def zsg (r : Int × Bool) : VR D := .tup [.c (.int .i64 r.1), .c (.bool r.2)]
theorem zsh (k : Nat) : Does P X 188 zse (zsf k) zsg :=
  does_of (body := bodyOf Go.Proofs.Tryz.f188) (pl := zsa) (k := k) (cu := zsd k) (tys := [[0], [0]]) (zsc k) ctx mixed Go.Proofs.Tryz.func188 (by kernel_rfl) (by kernel_rfl) (cutOK_of (l := []) (by kernel_rfl) trivial) fun x R h => by
    simp only [zsf, I_timeOf, optK_bind, optK_bif, optK_pure, optK_none, optK_oc, optK_guardT, optK_map] at h
    refine hold_of h ?_
    kernel_rfl
def zsi (k : Nat) : Entry D := entS zse (zsf k) zsg
theorem zsj (k : Nat) : EntryOK X 188 (zsi k) := (zsh k).en rfl
def zsk : Plan := ⟨[(0, [(0, none), (1, none)]), (1, [(0, none), (1, none), (11, none)]), (2, [(6, none), (7, none), (8, none)]), (3, [(7, none), (29, none)]), (4, [(4, none), (5, none)]), (5, [(7, none), (9, none)]), (6, [(7, none), (9, none), (34, none)]), (7, [(7, none), (9, none)]), (8, [(4, none), (5, none)]), (9, [(0, none), (1, none), (55, none)]), (10, [(4, none), (5, none)]), (11, [(0, none), (75, none)]), (12, [(4, none), (5, none)]), (13, [(4, none), (5, none)])],
  [],
  [(11, ([(0, none)], [(0, none), (1, none)])), (29, ([], [(7, none)])), (34, ([(7, none), (9, none)], [(7, none), (9, none)])), (55, ([(0, none)], [(0, none), (1, none)])), (75, ([(0, none)], []))]⟩
def zsl (k : Nat) : Calls' D := ⟨[(141, zko k), (187, zq8 k), (188, zsi k)], [], [], [], []⟩
theorem zsm (k : Nat) : CallsOK X (zsl k) := .cons (zkp k) (.cons (zq9 k) (.cons (zsj k) (.nil cod)))
def zsn (x : (List UInt8) × Int × Bool × Unit) (o : Int) (Q : Ex → VSt D → Prop) (R : VR D → Prop) : Prop := Q .normal (mkSt ⟨[(7, .hole), (9, .hole)], []⟩ [.str x.1, .int .i64 o])
def zso (k : Nat) : Cut D := cutS ⟨[(7, .hole), (9, .hole), (34, .hole)], []⟩ [.ks, .ki .i64, .kb] (fun (x : (List UInt8) × Int × Bool × Unit) => I_dateIn_c34 k x.1 x.2.1 x.2.2.1) zsn
def zsp (k : Nat) : Cuts D := ⟨[], []⟩
theorem zsq (k : Nat) : CutFor X zsk k Go.Proofs.Tryz.f123.results.toList (zso k) (sub (bodyOf Go.Proofs.Tryz.f123) [1, 0, 1, 0, 1, 1, 1, 0, 1]) :=
  joinCut_s (X := X) (sg := [.ks, .ki .i64, .kb]) (cu := zsp k) (cl := zsl k) (tys := [[0], [0]]) (zsm k) (cutOK_of (l := []) (by kernel_rfl) trivial) fun x Q R h => by
    simp only [I_dateIn_c34, optK_bind, optK_bif, optK_pure, optK_none, optK_oc, optK_guardT, optK_map] at h
    refine hold_of h ?_
    kernel_rfl
def zsr (k : Nat) : Cuts D := ⟨[], [(34, some (zso k))]⟩
def zss : List Ar := [.c (.ks), .c (.ki .i64)]
def zst (k : Nat) (x : TupA D zss) : Option (Int × Bool) := I_dateIn k x.1 x.2.1
def zsu (r : Int × Bool) : VR D := .tup [.c (.int .i64 r.1), .c (.bool r.2)]
theorem zsv (k : Nat) : Does P X 123 zss (zst k) zsu :=
  does_of (body := bodyOf Go.Proofs.Tryz.f123) (pl := zsk) (k := k) (cu := zsr k) (tys := [[0], [0]]) (zsm k) ctx mixed Go.Proofs.Tryz.func123 (by kernel_rfl) (by kernel_rfl) (cutOK_of (l := [(zso k, sub (bodyOf Go.Proofs.Tryz.f123) [1, 0, 1, 0, 1, 1, 1, 0, 1])]) (by kernel_rfl) ⟨zsq k, trivial⟩) fun x R h => by
    simp only [zst, I_dateIn, optK_bind, optK_bif, optK_pure, optK_none, optK_oc, optK_guardT, optK_map] at h
    refine hold_of h ?_
    kernel_rfl
def zsw (k : Nat) : Entry D := entS zss (zst k) zsu
theorem zsx (k : Nat) : EntryOK X 123 (zsw k) := (zsv k).en rfl
def zsy : Plan := ⟨[(0, [(0, none)]), (1, [(0, none), (9, none)]), (2, [(2, none), (3, none), (4, none)]), (3, [(0, none), (5, none), (6, none)]), (4, [(0, none), (5, none), (6, none), (13, none)]), (5, [(0, none), (5, none), (6, none)]), (6, [(0, none), (5, none), (6, none)]), (7, [(0, none), (5, none), (6, none), (24, none)]), (8, [(0, none), (5, none), (6, none)]), (9, [(0, none), (5, none), (6, none)]), (10, [(2, none), (3, none), (4, none)])],
  [(0, [(0, none), (5, none), (6, none)]), (1, [(0, none), (5, none), (6, none)]), (2, [(0, none), (5, none), (6, none)]), (3, [(0, none), (5, none), (6, none)])],
  [(9, ([], [(0, none)])), (13, ([(0, none), (5, none), (6, none)], [(0, none), (5, none), (6, none)])), (24, ([(0, none), (5, none), (6, none)], [(0, none), (5, none), (6, none)]))]⟩
def zsz (k : Nat) : Calls' D := ⟨[(94, zng k), (235, zrq k), (236, zrg k)], [], [], [], []⟩
theorem zt0 (k : Nat) : CallsOK X (zsz k) := .cons (znh k) (.cons (zrr k) (.cons (zrh k) (.nil cod)))
def zt1 (x : Int × Int × Int × Unit) (o : Int × Int) (Q : Ex → VSt D → Prop) (R : VR D → Prop) : Prop := Q .normal (mkSt ⟨[(0, .hole), (5, .hole), (6, .hole)], []⟩ [.int .i64 o.1, .int .i64 o.2, .int .i64 x.2.2.1])
def zt2 (k : Nat) : Cut D := cutS ⟨[(0, .hole), (5, .hole), (6, .hole)], []⟩ [.ki .i64, .ki .i64, .ki .i64] (fun (x : Int × Int × Int × Unit) => I_CivilOf_b0 k k x.1 x.2.1 x.2.2.1) zt1
def zt3 (k : Nat) : Cuts D := ⟨[], []⟩
theorem zt4 (k : Nat) : CutFor X zsy k Go.Proofs.Tryz.f189.results.toList (zt2 k) (sub (bodyOf Go.Proofs.Tryz.f189) [1, 1, 1, 0]) :=
  loopCut_s (X := X) (sg := [.ki .i64, .ki .i64, .ki .i64]) (cu := zt3 k) (cl := zsz k) (tys := [[0], [0], [0]]) (id := 0) (c := sub (bodyOf Go.Proofs.Tryz.f189) [1, 1, 1, 0, 0, 0]) (f := fun n => fun (x : Int × Int × Int × Unit) => I_CivilOf_b0 k n x.1 x.2.1 x.2.2.1) (zt0 k) (cutOK_of (l := []) (by kernel_rfl) trivial) (fun _ => rfl) (fun n x Q R h => by
    simp only [I_CivilOf_b0, optK_bind, optK_bif, optK_pure, optK_none, optK_oc, optK_guardT, optK_map] at h
    refine hold_of h ?_
    kernel_rfl) (by kernel_rfl)
def zt5 (x : Int × Int × Int × Unit) (o : Int × Int) (Q : Ex → VSt D → Prop) (R : VR D → Prop) : Prop := Q .normal (mkSt ⟨[(0, .hole), (5, .hole), (6, .hole)], []⟩ [.int .i64 o.1, .int .i64 x.2.1, .int .i64 o.2])
def zt6 (k : Nat) : Cut D := cutS ⟨[(0, .hole), (5, .hole), (6, .hole)], []⟩ [.ki .i64, .ki .i64, .ki .i64] (fun (x : Int × Int × Int × Unit) => I_CivilOf_b2 k k x.1 x.2.1 x.2.2.1) zt5
def zt7 (k : Nat) : Cuts D := ⟨[], []⟩
theorem zt8 (k : Nat) : CutFor X zsy k Go.Proofs.Tryz.f189.results.toList (zt6 k) (sub (bodyOf Go.Proofs.Tryz.f189) [1, 1, 1, 1, 0]) :=
  loopCut_s (X := X) (sg := [.ki .i64, .ki .i64, .ki .i64]) (cu := zt7 k) (cl := zsz k) (tys := [[0], [0], [0]]) (id := 2) (c := sub (bodyOf Go.Proofs.Tryz.f189) [1, 1, 1, 1, 0, 0, 0]) (f := fun n => fun (x : Int × Int × Int × Unit) => I_CivilOf_b2 k n x.1 x.2.1 x.2.2.1) (zt0 k) (cutOK_of (l := []) (by kernel_rfl) trivial) (fun _ => rfl) (fun n x Q R h => by
    simp only [I_CivilOf_b2, optK_bind, optK_bif, optK_pure, optK_none, optK_oc, optK_guardT, optK_map] at h
    refine hold_of h ?_
    kernel_rfl) (by kernel_rfl)
def zt9 (k : Nat) : Cuts D := ⟨[(0, some (zt2 k)), (2, some (zt6 k))], []⟩
def zta : List Ar := [.c (.ki .i64)]
def ztb (k : Nat) (x : TupA D zta) : Option (Int × Int × Int) := I_CivilOf k x.1
def ztc (r : Int × Int × Int) : VR D := .tup [.c (.int .i64 r.1), .c (.int .i64 r.2.1), .c (.int .i64 r.2.2)]
theorem ztd (k : Nat) : Does P X 189 zta (ztb k) ztc :=
  does_of (body := bodyOf Go.Proofs.Tryz.f189) (pl := zsy) (k := k) (cu := zt9 k) (tys := [[0], [0], [0]]) (zt0 k) ctx mixed Go.Proofs.Tryz.func189 (by kernel_rfl) (by kernel_rfl) (cutOK_of (l := [(zt2 k, sub (bodyOf Go.Proofs.Tryz.f189) [1, 1, 1, 0]), (zt6 k, sub (bodyOf Go.Proofs.Tryz.f189) [1, 1, 1, 1, 0])]) (by kernel_rfl) ⟨zt4 k, zt8 k, trivial⟩) fun x R h => by
    simp only [ztb, I_CivilOf, optK_bind, optK_bif, optK_pure, optK_none, optK_oc, optK_guardT, optK_map] at h
    refine hold_of h ?_
    kernel_rfl
def zte (k : Nat) : Entry D := entS zta (ztb k) ztc
theorem ztf (k : Nat) : EntryOK X 189 (zte k) := (ztd k).en rfl
def ztg : Plan := ⟨[(0, [(0, none)]), (1, [(2, none)])],
  [],
  []⟩
def zth (k : Nat) : Calls' D := ⟨[(237, zqo k)], [], [], [], []⟩
theorem zti (k : Nat) : CallsOK X (zth k) := .cons (zqp k) (.nil cod)
def ztj (k : Nat) : Cuts D := ⟨[], []⟩
def ztk : List Ar := [.c (.ki .i64)]
def ztl (k : Nat) (x : TupA D ztk) : Option (Int) := I_WeekdayOf k x.1
def ztm (r : Int) : VR D := .p (.c (.int .i64 r))
theorem ztn (k : Nat) : Does P X 190 ztk (ztl k) ztm :=
  does_of (body := bodyOf Go.Proofs.Tryz.f190) (pl := ztg) (k := k) (cu := ztj k) (tys := [[0]]) (zti k) ctx mixed Go.Proofs.Tryz.func190 (by kernel_rfl) (by kernel_rfl) (cutOK_of (l := []) (by kernel_rfl) trivial) fun x R h => by
    simp only [ztl, I_WeekdayOf, optK_bind, optK_bif, optK_pure, optK_none, optK_oc, optK_guardT, optK_map] at h
    refine hold_of h ?_
    kernel_rfl
def zto (k : Nat) : Entry D := entS ztk (ztl k) ztm
theorem ztp (k : Nat) : EntryOK X 190 (zto k) := (ztn k).en rfl
def ztq : List Ar := [.c (.ki .i64)]
def ztr (k : Nat) (x : TupA D ztq) : Option ((List UInt8)) := strconv_Itoa k x.1
def zts (r : (List UInt8)) : VR D := .p (.c (.str r))
theorem ztt (k : Nat) : Does P X 229 ztq (ztr k) zts := does_itoa ⟨Go.Proofs.Tryz.f229, Go.Proofs.Tryz.func229, by kernel_rfl, by kernel_rfl⟩ (fun n w hg h0 h1 => Go.Proofs.Tryz.strconv_Itoa n h0 h1 w hg.2.2.2)
def ztu (k : Nat) : Entry D := entS ztq (ztr k) zts
theorem ztv (k : Nat) : EntryOK X 229 (ztu k) := (ztt k).en rfl
def ztw : Plan := ⟨[(0, [(0, none)]), (1, [(2, none)])],
  [],
  []⟩
def ztx (k : Nat) : Calls' D := ⟨[(229, ztu k)], [], [], [], []⟩
theorem zty (k : Nat) : CallsOK X (ztx k) := .cons (ztv k) (.nil cod)
def ztz (k : Nat) : Cuts D := ⟨[], []⟩
def zu0 : List Ar := [.c (.ki .i64)]
def zu1 (k : Nat) (x : TupA D zu0) : Option ((List UInt8)) := I_FormatInt k x.1
def zu2 (r : (List UInt8)) : VR D := .p (.c (.str r))
theorem zu3 (k : Nat) : Does P X 177 zu0 (zu1 k) zu2 :=
  does_of (body := bodyOf Go.Proofs.Tryz.f177) (pl := ztw) (k := k) (cu := ztz k) (tys := [[0]]) (zty k) ctx mixed Go.Proofs.Tryz.func177 (by kernel_rfl) (by kernel_rfl) (cutOK_of (l := []) (by kernel_rfl) trivial) fun x R h => by
    simp only [zu1, I_FormatInt, optK_bind, optK_bif, optK_pure, optK_none, optK_oc, optK_guardT, optK_map] at h
    refine hold_of h ?_
    kernel_rfl
def zu4 (k : Nat) : Entry D := entS zu0 (zu1 k) zu2
theorem zu5 (k : Nat) : EntryOK X 177 (zu4 k) := (zu3 k).en rfl
def zu6 : Plan := ⟨[(0, [(0, none), (1, none)]), (1, [(1, none), (5, none)]), (2, [(1, none), (5, none), (17, none)]), (3, [(1, none), (5, none)]), (4, [(4, none)])],
  [(0, [(5, none)]), (1, [(1, none), (5, none)])],
  [(17, ([(1, none), (5, none)], [(5, none)]))]⟩
def zu7 (k : Nat) : Calls' D := ⟨[(177, zu4 k)], [], [], [], []⟩
theorem zu8 (k : Nat) : CallsOK X (zu7 k) := .cons (zu5 k) (.nil cod)
def zu9 (x : Int × (List UInt8) × Unit) (o : (List UInt8)) (Q : Ex → VSt D → Prop) (R : VR D → Prop) : Prop := Q .normal (mkSt ⟨[(5, .hole)], []⟩ [.str o])
def zua (k : Nat) : Cut D := cutS ⟨[(1, .hole), (5, .hole)], []⟩ [.ki .i64, .ks] (fun (x : Int × (List UInt8) × Unit) => I_Digits_b0 k k x.1 x.2.1) zu9
def zub (k : Nat) : Cuts D := ⟨[], []⟩
theorem zuc (k : Nat) : CutFor X zu6 k Go.Proofs.Tryz.f191.results.toList (zua k) (sub (bodyOf Go.Proofs.Tryz.f191) [1, 1, 0]) :=
  loopCut_s (X := X) (sg := [.ki .i64, .ks]) (cu := zub k) (cl := zu7 k) (tys := [[0]]) (id := 0) (c := sub (bodyOf Go.Proofs.Tryz.f191) [1, 1, 0, 0, 0]) (f := fun n => fun (x : Int × (List UInt8) × Unit) => I_Digits_b0 k n x.1 x.2.1) (zu8 k) (cutOK_of (l := []) (by kernel_rfl) trivial) (fun _ => rfl) (fun n x Q R h => by
    simp only [I_Digits_b0, optK_bind, optK_bif, optK_pure, optK_none, optK_oc, optK_guardT, optK_map] at h
    refine hold_of h ?_
    kernel_rfl) (by kernel_rfl)
def zud (k : Nat) : Cuts D := ⟨[(0, some (zua k))], []⟩
def zue : List Ar := [.c (.ki .i64), .c (.ki .i64)]
def zuf (k : Nat) (x : TupA D zue) : Option ((List UInt8)) := I_Digits k x.1 x.2.1
def zug (r : (List UInt8)) : VR D := .p (.c (.str r))
theorem zuh (k : Nat) : Does P X 191 zue (zuf k) zug :=
  does_of (body := bodyOf Go.Proofs.Tryz.f191) (pl := zu6) (k := k) (cu := zud k) (tys := [[0]]) (zu8 k) ctx mixed Go.Proofs.Tryz.func191 (by kernel_rfl) (by kernel_rfl) (cutOK_of (l := [(zua k, sub (bodyOf Go.Proofs.Tryz.f191) [1, 1, 0])]) (by kernel_rfl) ⟨zuc k, trivial⟩) fun x R h => by
    simp only [zuf, I_Digits, optK_bind, optK_bif, optK_pure, optK_none, optK_oc, optK_guardT, optK_map] at h
    refine hold_of h ?_
    kernel_rfl
def zui (k : Nat) : Entry D := entS zue (zuf k) zug
theorem zuj (k : Nat) : EntryOK X 191 (zui k) := (zuh k).en rfl
def zuk : Plan := ⟨[(0, [(0, none)]), (1, [(2, none)])],
  [],
  []⟩
def zul (k : Nat) : Calls' D := ⟨[], [], [], [], []⟩
theorem zum (k : Nat) : CallsOK X (zul k) := .nil cod
def zun (k : Nat) : Cuts D := ⟨[], []⟩
def zuo : List Ar := [.c (.ki .i64)]
def zup (k : Nat) (x : TupA D zuo) : Option ((List UInt8)) := I_fullDay k x.1
def zuq (r : (List UInt8)) : VR D := .p (.c (.str r))
theorem zur (k : Nat) : Does P X 192 zuo (zup k) zuq :=
  does_of (body := bodyOf Go.Proofs.Tryz.f192) (pl := zuk) (k := k) (cu := zun k) (tys := [[0]]) (zum k) ctx mixed Go.Proofs.Tryz.func192 (by kernel_rfl) (by kernel_rfl) (cutOK_of (l := []) (by kernel_rfl) trivial) fun x R h => by
    simp only [zup, I_fullDay, optK_bind, optK_bif, optK_pure, optK_none, optK_oc, optK_guardT, optK_map] at h
    refine hold_of h ?_
    kernel_rfl
def zus (k : Nat) : Entry D := entS zuo (zup k) zuq
theorem zut (k : Nat) : EntryOK X 192 (zus k) := (zur k).en rfl
def zuu : Plan := ⟨[(0, [(0, none), (1, none)]), (1, [(0, none), (1, none), (15, none)]), (2, [(4, none)]), (3, [(0, none), (1, none), (5, none), (6, none), (7, none)]), (4, [(0, none), (1, none), (5, none), (6, none), (7, none), (8, none)]), (5, [(1, none), (5, none), (6, none), (7, none), (8, none), (9, none)]), (6, [(1, none), (5, none), (7, none), (8, none), (9, none), (10, none), (11, none)]), (7, [(5, none), (7, none), (8, none), (9, none), (10, none), (11, none), (53, none)]), (8, [(5, none), (7, none), (8, none), (9, none), (10, none), (11, none), (53, none), (54, none)]), (9, [(4, none)]), (10, [(5, none), (7, none), (8, none), (9, none), (10, none), (11, none), (72, none)]), (11, [(5, none), (7, none), (8, none), (9, none), (11, none), (75, none)]), (12, [(4, none)]), (13, [(4, none)]), (14, [(5, none), (7, none), (9, none), (10, none), (11, none), (12, none)]), (15, [(5, none), (9, none), (10, none), (11, none), (12, none), (97, none)]), (16, [(5, none), (9, none), (10, none), (11, none), (12, none)]), (17, [(4, none)])],
  [(0, [(5, none), (7, none), (9, none), (10, none), (11, none)])],
  [(15, ([], [(0, none), (1, none)])), (54, ([(5, none), (7, none), (9, none), (10, none), (11, none)], [(5, none), (7, none), (8, none), (9, none), (10, none), (11, none), (53, none)])), (72, ([(5, none), (7, none), (8, none), (9, none), (11, none)], [(5, none), (7, none), (9, none), (10, none), (11, none)])), (75, ([], [(5, none), (7, none), (8, none), (9, none), (11, none)])), (97, ([(5, none), (9, none), (10, none), (11, none), (12, none)], [(5, none), (9, none), (10, none), (11, none), (12, none)]))]⟩
def zuv (k : Nat) : Calls' D := ⟨[(94, zng k), (189, zte k), (190, zto k), (191, zui k), (177, zu4 k), (192, zus k)], [], [], [], []⟩
theorem zuw (k : Nat) : CallsOK X (zuv k) := .cons (znh k) (.cons (ztf k) (.cons (ztp k) (.cons (zuj k) (.cons (zu5 k) (.cons (zut k) (.nil cod))))))
def zux (x : Int × (List UInt8) × (List UInt8) × (List UInt8) × (List UInt8) × Bool × Unit) (o : (List UInt8)) (Q : Ex → VSt D → Prop) (R : VR D → Prop) : Prop := Q .normal (mkSt ⟨[(5, .hole), (9, .hole), (10, .hole), (11, .hole), (12, .hole)], []⟩ [.int .i64 x.1, .str x.2.1, .str x.2.2.1, .str x.2.2.2.1, .str o])
def zuy (k : Nat) : Cut D := cutS ⟨[(5, .hole), (9, .hole), (10, .hole), (11, .hole), (12, .hole), (97, .hole)], []⟩ [.ki .i64, .ks, .ks, .ks, .ks, .kb] (fun (x : Int × (List UInt8) × (List UInt8) × (List UInt8) × (List UInt8) × Bool × Unit) => I_dateText_c97 k x.1 x.2.1 x.2.2.1 x.2.2.2.1 x.2.2.2.2.1 x.2.2.2.2.2.1) zux
def zuz (k : Nat) : Cuts D := ⟨[], []⟩
theorem zv0 (k : Nat) : CutFor X zuu k Go.Proofs.Tryz.f124.results.toList (zuy k) (sub (bodyOf Go.Proofs.Tryz.f124) [1, 1, 1, 1, 1, 1, 1, 1, 0, 1]) :=
  joinCut_s (X := X) (sg := [.ki .i64, .ks, .ks, .ks, .ks, .kb]) (cu := zuz k) (cl := zuv k) (tys := [[0]]) (zuw k) (cutOK_of (l := []) (by kernel_rfl) trivial) fun x Q R h => by
    simp only [I_dateText_c97, optK_bind, optK_bif, optK_pure, optK_none, optK_oc, optK_guardT, optK_map] at h
    refine hold_of h ?_
    kernel_rfl
def zv1 (k : Nat) : Cuts D := ⟨[], [(97, some (zuy k))]⟩
def zv2 : List Ar := [.c (.ki .i64), .c (.ki .i64)]
def zv3 (k : Nat) (x : TupA D zv2) : Option ((List UInt8)) := I_dateText k x.1 x.2.1
def zv4 (r : (List UInt8)) : VR D := .p (.c (.str r))
theorem zv5 (k : Nat) : Does P X 124 zv2 (zv3 k) zv4 :=
  does_of (body := bodyOf Go.Proofs.Tryz.f124) (pl := zuu) (k := k) (cu := zv1 k) (tys := [[0]]) (zuw k) ctx mixed Go.Proofs.Tryz.func124 (by kernel_rfl) (by kernel_rfl) (cutOK_of (l := [(zuy k, sub (bodyOf Go.Proofs.Tryz.f124) [1, 1, 1, 1, 1, 1, 1, 1, 0, 1])]) (by kernel_rfl) ⟨zv0 k, trivial⟩) fun x R h => by
    simp only [zv3, I_dateText, optK_bind, optK_bif, optK_pure, optK_none, optK_oc, optK_guardT, optK_map] at h
    refine hold_of h ?_
    kernel_rfl
def zv6 (k : Nat) : Entry D := entS zv2 (zv3 k) zv4
theorem zv7 (k : Nat) : EntryOK X 124 (zv6 k) := (zv5 k).en rfl
def zv8 : Plan := ⟨[(0, [(0, none)]), (1, [(0, none), (4, none)]), (2, [(0, none), (4, none), (8, none)]), (3, [(0, none), (4, none)]), (4, [(0, none), (4, none), (5, none), (6, none)]), (5, [(0, none), (4, none), (5, none), (24, none)]), (6, [(2, none), (3, none)]), (7, [(2, none), (3, none)])],
  [(0, []), (1, [(0, none), (4, none)])],
  [(8, ([(0, none), (4, none)], [])), (24, ([(5, none)], [(0, none), (4, none)]))]⟩
def zv9 (k : Nat) : Calls' D := ⟨[(123, zsw k), (124, zv6 k)], [], [], [], []⟩
theorem zva (k : Nat) : CallsOK X (zv9 k) := .cons (zsx k) (.cons (zv7 k) (.nil cod))
def zvb (x : (List UInt8) × Int × Unit) (o : Oc (Unit) (Int × Bool)) (Q : Ex → VSt D → Prop) (R : VR D → Prop) : Prop := ocP o (fun v0 => Q .normal (mkSt ⟨[], []⟩ [])) (fun w0 => R (.tup [.c (.int .i64 w0.1), .c (.bool w0.2)]))
def zvc (k : Nat) : Cut D := cutS ⟨[(0, .hole), (4, .hole)], []⟩ [.ks, .ki .i64] (fun (x : (List UInt8) × Int × Unit) => I_ParseDate_b0 k k x.1 x.2.1) zvb
def zvd (k : Nat) : Cuts D := ⟨[], []⟩
theorem zve (k : Nat) : CutFor X zv8 k Go.Proofs.Tryz.f61.results.toList (zvc k) (sub (bodyOf Go.Proofs.Tryz.f61) [1, 0, 1]) :=
  loopCut_s (X := X) (sg := [.ks, .ki .i64]) (cu := zvd k) (cl := zv9 k) (tys := [[0], [0]]) (id := 0) (c := sub (bodyOf Go.Proofs.Tryz.f61) [1, 0, 1, 0, 0]) (f := fun n => fun (x : (List UInt8) × Int × Unit) => I_ParseDate_b0 k n x.1 x.2.1) (zva k) (cutOK_of (l := []) (by kernel_rfl) trivial) (fun _ => rfl) (fun n x Q R h => by
    simp only [I_ParseDate_b0, optK_bind, optK_bif, optK_pure, optK_none, optK_oc, optK_guardT, optK_map] at h
    refine hold_of h ?_
    kernel_rfl) (by kernel_rfl)
def zvf (k : Nat) : Cuts D := ⟨[(0, some (zvc k))], []⟩
def zvg : List Ar := [.c (.ks)]
def zvh (k : Nat) (x : TupA D zvg) : Option (Int × Bool) := I_ParseDate k x.1
def zvi (r : Int × Bool) : VR D := .tup [.c (.int .i64 r.1), .c (.bool r.2)]
theorem zvj (k : Nat) : Does P X 61 zvg (zvh k) zvi :=
  does_of (body := bodyOf Go.Proofs.Tryz.f61) (pl := zv8) (k := k) (cu := zvf k) (tys := [[0], [0]]) (zva k) ctx mixed Go.Proofs.Tryz.func61 (by kernel_rfl) (by kernel_rfl) (cutOK_of (l := [(zvc k, sub (bodyOf Go.Proofs.Tryz.f61) [1, 0, 1])]) (by kernel_rfl) ⟨zve k, trivial⟩) fun x R h => by
    simp only [zvh, I_ParseDate, optK_bind, optK_bif, optK_pure, optK_none, optK_oc, optK_guardT, optK_map] at h
    refine hold_of h ?_
    kernel_rfl
def zvk (k : Nat) : Entry D := entS zvg (zvh k) zvi
theorem zvl (k : Nat) : EntryOK X 61 (zvk k) := (zvj k).en rfl
def zvm : Plan := ⟨[(0, [(1, none), (2, none)]), (1, [(6, none)]), (2, [(4, none), (5, none)])],
  [],
  []⟩
def zvn (k : Nat) : Calls' D := ⟨[(57, zj0 k), (61, zvk k)], [], [], [], []⟩
theorem zvo (k : Nat) : CallsOK X (zvn k) := .cons (zj1 k) (.cons (zvl k) (.nil cod))
def zvp (k : Nat) : Cuts D := ⟨[], []⟩
def zvq : List Ar := [.a [.ki .i64, .kl 107, .ks], .c (.ks)]
def zvr (k : Nat) (x : TupA D zvq) : Option (Int × Bool) := I_dateField k (⟨x.1.1, x.1.2.1, x.1.2.2.1⟩ : IResponse) x.2.1
def zvs (r : Int × Bool) : VR D := .tup [.c (.int .i64 r.1), .c (.bool r.2)]
theorem zvt (k : Nat) : Does P X 53 zvq (zvr k) zvs :=
  does_of (body := bodyOf Go.Proofs.Tryz.f53) (pl := zvm) (k := k) (cu := zvp k) (tys := [[0], [0]]) (zvo k) ctx mixed Go.Proofs.Tryz.func53 (by kernel_rfl) (by kernel_rfl) (cutOK_of (l := []) (by kernel_rfl) trivial) fun x R h => by
    simp only [zvr, I_dateField, optK_bind, optK_bif, optK_pure, optK_none, optK_oc, optK_guardT, optK_map] at h
    refine hold_of h ?_
    kernel_rfl
def zvu (k : Nat) : Entry D := entS zvq (zvr k) zvs
theorem zvv (k : Nat) : EntryOK X 53 (zvu k) := (zvt k).en rfl
def zvw : Plan := ⟨[(0, [(1, none), (2, none)]), (1, [(3, none)])],
  [],
  []⟩
def zvx (k : Nat) : Calls' D := ⟨[], [], [], [], []⟩
theorem zvy (k : Nat) : CallsOK X (zvx k) := .nil cod
def zvz (k : Nat) : Cuts D := ⟨[], []⟩
def zw0 : List Ar := [.a [.ks, .ks], .x [.ks]]
def zw1 (k : Nat) (x : TupA D zw0) : Option (Bool) := I_hasField_1 k (⟨x.1.1, x.1.2.1⟩ : IField) x.2.1.1
def zw2 (r : Bool) : VR D := .p (.c (.bool r))
theorem zw3 (k : Nat) : Does P X 135 zw0 (zw1 k) zw2 :=
  does_of (body := bodyOf Go.Proofs.Tryz.f135) (pl := zvw) (k := k) (cu := zvz k) (tys := [[0]]) (zvy k) ctx mixed Go.Proofs.Tryz.func135 (by kernel_rfl) (by kernel_rfl) (cutOK_of (l := []) (by kernel_rfl) trivial) fun x R h => by
    simp only [zw1, I_hasField_1, optK_bind, optK_bif, optK_pure, optK_none, optK_oc, optK_guardT, optK_map] at h
    refine hold_of h ?_
    kernel_rfl
def zw4 (k : Nat) : Entry D := entS zw0 (zw1 k) zw2
theorem zw5 (k : Nat) : EntryOK X 135 (zw4 k) := (zw3 k).en rfl
def zw6 : Plan := ⟨[(0, [(0, some 107), (1, none)]), (1, [(0, some 107), (1, none), (7, none), (8, none)]), (2, [(0, some 107), (1, none), (7, none), (8, none), (9, none)]), (3, [(0, some 107), (1, none), (5, none), (7, none), (8, none)]), (4, [(0, some 107), (1, none), (5, none), (7, none), (8, none), (16, none)]), (5, [(4, none)]), (6, [(0, some 107), (1, none), (7, none), (8, none)]), (7, [(4, none)])],
  [(0, []), (1, [(0, some 107), (1, none), (7, none), (8, none)])],
  [(9, ([(0, some 107), (1, none), (7, none), (8, none)], [])), (16, ([(5, none)], [(0, some 107), (1, none), (7, none), (8, none)]))]⟩
def zw7 (k : Nat) : Calls' D := ⟨[(135, zw4 k)], [], [], [], []⟩
theorem zw8 (k : Nat) : CallsOK X (zw7 k) := .cons (zw5 k) (.nil cod)
def zw9 (x : (List IField) × (List UInt8) × Int × Int × Unit) (o : Oc (Unit) (Int)) (Q : Ex → VSt D → Prop) (R : VR D → Prop) : Prop := ocP o (fun v0 => Q .normal (mkSt ⟨[], []⟩ [])) (fun w0 => R (.p (.c (.int .i64 w0))))
def zwa (k : Nat) : Cut D := cutS ⟨[(0, .hole), (1, .clo 135 [.rptr 1]), (7, .hole), (8, .hole)], []⟩ [.kl 107, .ks, .ki .i64, .ki .i64] (fun (x : (List IField) × (List UInt8) × Int × Int × Unit) => slices_IndexFunc_IField_at_I_hasField_1_b0 k k x.1 x.2.1 x.2.2.1 x.2.2.2.1) zw9
def zwb (k : Nat) : Cuts D := ⟨[], []⟩
theorem zwc (k : Nat) : CutFor X zw6 k Go.Proofs.Tryz.f198.results.toList (zwa k) (sub (bodyOf Go.Proofs.Tryz.f198) [1, 0, 1]) :=
  loopCut_s (X := X) (sg := [.kl 107, .ks, .ki .i64, .ki .i64]) (cu := zwb k) (cl := zw7 k) (tys := [[0]]) (id := 0) (c := sub (bodyOf Go.Proofs.Tryz.f198) [1, 0, 1, 0, 0]) (f := fun n => fun (x : (List IField) × (List UInt8) × Int × Int × Unit) => slices_IndexFunc_IField_at_I_hasField_1_b0 k n x.1 x.2.1 x.2.2.1 x.2.2.2.1) (zw8 k) (cutOK_of (l := []) (by kernel_rfl) trivial) (fun _ => rfl) (fun n x Q R h => by
    simp only [slices_IndexFunc_IField_at_I_hasField_1_b0, optK_bind, optK_bif, optK_pure, optK_none, optK_oc, optK_guardT, optK_map] at h
    refine hold_of h ?_
    kernel_rfl) (by kernel_rfl)
def zwd (k : Nat) : Cuts D := ⟨[(0, some (zwa k))], []⟩
def zwe : List Ar := [.c (.kl 107), .f 135 [[.ks]]]
def zwf (k : Nat) (x : TupA D zwe) : Option (Int) := slices_IndexFunc_IField_at_I_hasField_1 k x.1 x.2.1.1.1
def zwg (r : Int) : VR D := .p (.c (.int .i64 r))
theorem zwh (k : Nat) : Does P X 198 zwe (zwf k) zwg :=
  does_of (body := bodyOf Go.Proofs.Tryz.f198) (pl := zw6) (k := k) (cu := zwd k) (tys := [[0]]) (zw8 k) ctx mixed Go.Proofs.Tryz.func198 (by kernel_rfl) (by kernel_rfl) (cutOK_of (l := [(zwa k, sub (bodyOf Go.Proofs.Tryz.f198) [1, 0, 1])]) (by kernel_rfl) ⟨zwc k, trivial⟩) fun x R h => by
    simp only [zwf, slices_IndexFunc_IField_at_I_hasField_1, optK_bind, optK_bif, optK_pure, optK_none, optK_oc, optK_guardT, optK_map] at h
    refine hold_of h ?_
    kernel_rfl
def zwi (k : Nat) : Entry D := entS zwe (zwf k) zwg
theorem zwj (k : Nat) : EntryOK X 198 (zwi k) := (zwh k).en rfl
def zwk : Plan := ⟨[(0, [(0, some 107), (1, none)]), (1, [(4, none)])],
  [],
  []⟩
def zwl (k : Nat) : Calls' D := ⟨[(198, zwi k)], [], [], [], []⟩
theorem zwm (k : Nat) : CallsOK X (zwl k) := .cons (zwj k) (.nil cod)
def zwn (k : Nat) : Cuts D := ⟨[], []⟩
def zwo : List Ar := [.c (.kl 107), .f 135 [[.ks]]]
def zwp (k : Nat) (x : TupA D zwo) : Option (Bool) := slices_ContainsFunc_IField_at_I_hasField_1 k x.1 x.2.1.1.1
def zwq (r : Bool) : VR D := .p (.c (.bool r))
theorem zwr (k : Nat) : Does P X 134 zwo (zwp k) zwq :=
  does_of (body := bodyOf Go.Proofs.Tryz.f134) (pl := zwk) (k := k) (cu := zwn k) (tys := [[0]]) (zwm k) ctx mixed Go.Proofs.Tryz.func134 (by kernel_rfl) (by kernel_rfl) (cutOK_of (l := []) (by kernel_rfl) trivial) fun x R h => by
    simp only [zwp, slices_ContainsFunc_IField_at_I_hasField_1, optK_bind, optK_bif, optK_pure, optK_none, optK_oc, optK_guardT, optK_map] at h
    refine hold_of h ?_
    kernel_rfl
def zws (k : Nat) : Entry D := entS zwo (zwp k) zwq
theorem zwt (k : Nat) : EntryOK X 134 (zws k) := (zwr k).en rfl
def zwu : Plan := ⟨[(0, [(0, some 107), (3, none)]), (1, [(4, none)])],
  [],
  []⟩
def zwv (k : Nat) : Calls' D := ⟨[(134, zws k)], [], [], [], []⟩
theorem zww (k : Nat) : CallsOK X (zwv k) := .cons (zwt k) (.nil cod)
def zwx (k : Nat) : Cuts D := ⟨[], []⟩
def zwy : List Ar := [.c (.kl 107), .c (.ks)]
def zwz (k : Nat) (x : TupA D zwy) : Option (Bool) := I_hasField k x.1 x.2.1
def zx0 (r : Bool) : VR D := .p (.c (.bool r))
theorem zx1 (k : Nat) : Does P X 72 zwy (zwz k) zx0 :=
  does_of (body := bodyOf Go.Proofs.Tryz.f72) (pl := zwu) (k := k) (cu := zwx k) (tys := [[0]]) (zww k) ctx mixed Go.Proofs.Tryz.func72 (by kernel_rfl) (by kernel_rfl) (cutOK_of (l := []) (by kernel_rfl) trivial) fun x R h => by
    simp only [zwz, I_hasField, optK_bind, optK_bif, optK_pure, optK_none, optK_oc, optK_guardT, optK_map] at h
    refine hold_of h ?_
    kernel_rfl
def zx2 (k : Nat) : Entry D := entS zwy (zwz k) zx0
theorem zx3 (k : Nat) : EntryOK X 72 (zx2 k) := (zx1 k).en rfl
def zx4 : Plan := ⟨[(0, [(1, none)]), (1, [(1, none), (3, some 140)]), (2, [(1, none), (3, some 140), (17, some 9), (18, none), (19, none)]), (3, [(1, none), (3, some 140), (17, some 9), (18, none), (19, none), (20, none)]), (4, [(1, none), (3, some 140), (5, none), (17, some 9), (18, none), (19, none)]), (5, [(1, none), (3, some 140), (6, none), (7, none), (17, some 9), (18, none), (19, none)]), (6, [(1, none), (3, some 140), (6, none), (17, some 9), (18, none), (19, none), (29, none)]), (7, [(2, none)]), (8, [(1, none), (3, some 140), (17, some 9), (18, none), (19, none)]), (9, [(1, none), (8, none), (9, none)]), (10, [(1, none), (8, none), (9, none), (39, none)]), (11, [(8, none), (9, none), (10, none), (11, none)]), (12, [(8, none), (10, none), (50, none)]), (13, [(2, none)]), (14, [(2, none)]), (15, [(1, none), (8, none), (9, none), (12, none), (13, none)]), (16, [(8, none), (12, none), (70, none)]), (17, [(2, none)]), (18, [(2, none)])],
  [(0, [(1, none)]), (1, [(1, none), (3, some 140), (17, some 9), (18, none), (19, none)])],
  [(20, ([(1, none), (3, some 140), (17, some 9), (18, none), (19, none)], [(1, none)])), (29, ([(6, none)], [(1, none), (3, some 140), (17, some 9), (18, none), (19, none)])), (39, ([(1, none), (8, none), (9, none)], [(1, none), (8, none), (9, none)])), (50, ([], [(8, none), (10, none)])), (70, ([], [(8, none), (12, none)]))]⟩
def zx5 (k : Nat) : Calls' D := ⟨[(70, zou k), (71, zpm k), (53, zvu k), (72, zx2 k)], [], [], [], []⟩
theorem zx6 (k : Nat) : CallsOK X (zx5 k) := .cons (zov k) (.cons (zpn k) (.cons (zvv k) (.cons (zx3 k) (.nil cod))))
def zx7 (x : Int × Int × Int × (List IField) × (List UInt8) × (List IDirective) × (List (List UInt8)) × Unit) (o : Oc (Unit) (Int)) (Q : Ex → VSt D → Prop) (R : VR D → Prop) : Prop := ocP o (fun v0 => Q .normal (mkSt ⟨[(1, .ptr 1 0)], [(1, .var [.hole, .hole, .hole])]⟩ [.int .i64 x.2.2.1, .sl 107 x.2.2.2.1, .str x.2.2.2.2.1])) (fun w0 => R (.p (.c (.int .i64 w0))))
def zx8 (k : Nat) : Cut D := cutS ⟨[(1, .ptr 1 0), (3, .ref 500003), (17, .ref 500017), (18, .hole), (19, .hole)], [(1, .var [.hole, .hole, .hole]), (500003, .row), (500017, .row)]⟩ [.ki .i64, .ki .i64, .ki .i64, .kl 107, .ks, .kl 140, .kl 9] (fun (x : Int × Int × Int × (List IField) × (List UInt8) × (List IDirective) × (List (List UInt8)) × Unit) => I_LifetimeOf_b0 k k x.1 x.2.1 x.2.2.1 x.2.2.2.1 x.2.2.2.2.1 x.2.2.2.2.2.1 x.2.2.2.2.2.2.1) zx7
def zx9 (k : Nat) : Cuts D := ⟨[], []⟩
theorem zxa (k : Nat) : CutFor X zx4 k Go.Proofs.Tryz.f30.results.toList (zx8 k) (sub (bodyOf Go.Proofs.Tryz.f30) [1, 1, 0, 1]) :=
  loopCut_s (X := X) (sg := [.ki .i64, .ki .i64, .ki .i64, .kl 107, .ks, .kl 140, .kl 9]) (cu := zx9 k) (cl := zx5 k) (tys := [[0]]) (id := 0) (c := sub (bodyOf Go.Proofs.Tryz.f30) [1, 1, 0, 1, 0, 0]) (f := fun n => fun (x : Int × Int × Int × (List IField) × (List UInt8) × (List IDirective) × (List (List UInt8)) × Unit) => I_LifetimeOf_b0 k n x.1 x.2.1 x.2.2.1 x.2.2.2.1 x.2.2.2.2.1 x.2.2.2.2.2.1 x.2.2.2.2.2.2.1) (zx6 k) (cutOK_of (l := []) (by kernel_rfl) trivial) (fun _ => rfl) (fun n x Q R h => by
    simp only [I_LifetimeOf_b0, optK_bind, optK_bif, optK_pure, optK_none, optK_oc, optK_guardT, optK_map] at h
    refine hold_of h ?_
    kernel_rfl) (by kernel_rfl)
def zxb (k : Nat) : Cuts D := ⟨[(0, some (zx8 k))], []⟩
def zxc : List Ar := [.a [.ki .i64, .kl 107, .ks]]
def zxd (k : Nat) (x : TupA D zxc) : Option (Int) := I_LifetimeOf k (⟨x.1.1, x.1.2.1, x.1.2.2.1⟩ : IResponse)
def zxe (r : Int) : VR D := .p (.c (.int .i64 r))
theorem zxf (k : Nat) : Does P X 30 zxc (zxd k) zxe :=
  does_of (body := bodyOf Go.Proofs.Tryz.f30) (pl := zx4) (k := k) (cu := zxb k) (tys := [[0]]) (zx6 k) ctx mixed Go.Proofs.Tryz.func30 (by kernel_rfl) (by kernel_rfl) (cutOK_of (l := [(zx8 k, sub (bodyOf Go.Proofs.Tryz.f30) [1, 1, 0, 1])]) (by kernel_rfl) ⟨zxa k, trivial⟩) fun x R h => by
    simp only [zxd, I_LifetimeOf, optK_bind, optK_bif, optK_pure, optK_none, optK_oc, optK_guardT, optK_map] at h
    refine hold_of h ?_
    kernel_rfl
def zxg (k : Nat) : Entry D := entS zxc (zxd k) zxe
theorem zxh (k : Nat) : EntryOK X 30 (zxg k) := (zxf k).en rfl
def zxi : Plan := ⟨[(0, [(2, none), (3, none)]), (1, [(2, none), (3, none), (9, none)]), (2, [(4, none)]), (3, [(14, none)]), (4, [(4, none)]), (5, [(4, none)])],
  [],
  [(9, ([], [(2, none), (3, none)])), (14, ([], []))]⟩
def zxj (k : Nat) : Calls' D := ⟨[], [], [], [], []⟩
theorem zxk (k : Nat) : CallsOK X (zxj k) := .nil cod
def zxl (k : Nat) : Cuts D := ⟨[], []⟩
def zxm : List Ar := [.a [.ks, .ks], .a [.ks, .ks]]
def zxn (k : Nat) (x : TupA D zxm) : Option (Bool) := L_eqField k (⟨x.1.1, x.1.2.1⟩ : IField) (⟨x.2.1.1, x.2.1.2.1⟩ : IField)
def zxo (r : Bool) : VR D := .p (.c (.bool r))
theorem zxp (k : Nat) : Does P X 96 zxm (zxn k) zxo :=
  does_of (body := bodyOf Go.Proofs.Tryz.f96) (pl := zxi) (k := k) (cu := zxl k) (tys := [[0]]) (zxk k) ctx mixed Go.Proofs.Tryz.func96 (by kernel_rfl) (by kernel_rfl) (cutOK_of (l := []) (by kernel_rfl) trivial) fun x R h => by
    simp only [zxn, L_eqField, optK_bind, optK_bif, optK_pure, optK_none, optK_oc, optK_guardT, optK_map] at h
    refine hold_of h ?_
    kernel_rfl
def zxq (k : Nat) : Entry D := entS zxm (zxn k) zxo
theorem zxr (k : Nat) : EntryOK X 96 (zxq k) := (zxp k).en rfl
def zxs : Plan := ⟨[(0, [(0, some 107), (1, some 107)]), (1, [(0, some 107), (1, some 107), (10, none)]), (2, [(4, none)]), (3, [(0, some 107), (1, some 107), (5, none)]), (4, [(0, some 107), (1, some 107), (5, none), (14, none)]), (5, [(0, some 107), (1, some 107), (5, none)]), (6, [(0, some 107), (1, some 107), (5, none), (26, none)]), (7, [(4, none)]), (8, [(4, none)])],
  [(0, []), (1, [(0, some 107), (1, some 107), (5, none)])],
  [(10, ([], [(0, some 107), (1, some 107)])), (14, ([(0, some 107), (1, some 107), (5, none)], [])), (26, ([], [(0, some 107), (1, some 107), (5, none)]))]⟩
def zxt (k : Nat) : Calls' D := ⟨[(96, zxq k)], [], [], [], []⟩
theorem zxu (k : Nat) : CallsOK X (zxt k) := .cons (zxr k) (.nil cod)
def zxv (x : (List IField) × (List IField) × Int × Unit) (o : Oc (Unit) (Bool)) (Q : Ex → VSt D → Prop) (R : VR D → Prop) : Prop := ocP o (fun v0 => Q .normal (mkSt ⟨[], []⟩ [])) (fun w0 => R (.p (.c (.bool w0))))
def zxw (k : Nat) : Cut D := cutS ⟨[(0, .hole), (1, .hole), (5, .hole)], []⟩ [.kl 107, .kl 107, .ki .i64] (fun (x : (List IField) × (List IField) × Int × Unit) => L_eqFieldS_b0 k k x.1 x.2.1 x.2.2.1) zxv
def zxx (k : Nat) : Cuts D := ⟨[], []⟩
theorem zxy (k : Nat) : CutFor X zxs k Go.Proofs.Tryz.f39.results.toList (zxw k) (sub (bodyOf Go.Proofs.Tryz.f39) [1, 1, 0, 1]) :=
  loopCut_s (X := X) (sg := [.kl 107, .kl 107, .ki .i64]) (cu := zxx k) (cl := zxt k) (tys := [[0]]) (id := 0) (c := sub (bodyOf Go.Proofs.Tryz.f39) [1, 1, 0, 1, 0, 0]) (f := fun n => fun (x : (List IField) × (List IField) × Int × Unit) => L_eqFieldS_b0 k n x.1 x.2.1 x.2.2.1) (zxu k) (cutOK_of (l := []) (by kernel_rfl) trivial) (fun _ => rfl) (fun n x Q R h => by
    simp only [L_eqFieldS_b0, optK_bind, optK_bif, optK_pure, optK_none, optK_oc, optK_guardT, optK_map] at h
    refine hold_of h ?_
    kernel_rfl) (by kernel_rfl)
def zxz (k : Nat) : Cuts D := ⟨[(0, some (zxw k))], []⟩
def zy0 : List Ar := [.c (.kl 107), .c (.kl 107)]
def zy1 (k : Nat) (x : TupA D zy0) : Option (Bool) := L_eqFieldS k x.1 x.2.1
def zy2 (r : Bool) : VR D := .p (.c (.bool r))
theorem zy3 (k : Nat) : Does P X 39 zy0 (zy1 k) zy2 :=
  does_of (body := bodyOf Go.Proofs.Tryz.f39) (pl := zxs) (k := k) (cu := zxz k) (tys := [[0]]) (zxu k) ctx mixed Go.Proofs.Tryz.func39 (by kernel_rfl) (by kernel_rfl) (cutOK_of (l := [(zxw k, sub (bodyOf Go.Proofs.Tryz.f39) [1, 1, 0, 1])]) (by kernel_rfl) ⟨zxy k, trivial⟩) fun x R h => by
    simp only [zy1, L_eqFieldS, optK_bind, optK_bif, optK_pure, optK_none, optK_oc, optK_guardT, optK_map] at h
    refine hold_of h ?_
    kernel_rfl
def zy4 (k : Nat) : Entry D := entS zy0 (zy1 k) zy2
theorem zy5 (k : Nat) : EntryOK X 39 (zy4 k) := (zy3 k).en rfl
def zy6 : Plan := ⟨[(0, [(2, none), (3, none)]), (1, [(2, none), (3, none), (9, none)]), (2, [(4, none)]), (3, [(2, none), (3, none), (15, none)]), (4, [(4, none)]), (5, [(20, none)]), (6, [(4, none)]), (7, [(4, none)])],
  [],
  [(9, ([], [(2, none), (3, none)])), (15, ([], [(2, none), (3, none)])), (20, ([], []))]⟩
def zy7 (k : Nat) : Calls' D := ⟨[(39, zy4 k)], [], [], [], []⟩
theorem zy8 (k : Nat) : CallsOK X (zy7 k) := .cons (zy5 k) (.nil cod)
def zy9 (k : Nat) : Cuts D := ⟨[], []⟩
def zya : List Ar := [.a [.ki .i64, .kl 107, .ks], .a [.ki .i64, .kl 107, .ks]]
def zyb (k : Nat) (x : TupA D zya) : Option (Bool) := L_eqResponse k (⟨x.1.1, x.1.2.1, x.1.2.2.1⟩ : IResponse) (⟨x.2.1.1, x.2.1.2.1, x.2.1.2.2.1⟩ : IResponse)
def zyc (r : Bool) : VR D := .p (.c (.bool r))
theorem zyd (k : Nat) : Does P X 24 zya (zyb k) zyc :=
  does_of (body := bodyOf Go.Proofs.Tryz.f24) (pl := zy6) (k := k) (cu := zy9 k) (tys := [[0]]) (zy8 k) ctx mixed Go.Proofs.Tryz.func24 (by kernel_rfl) (by kernel_rfl) (cutOK_of (l := []) (by kernel_rfl) trivial) fun x R h => by
    simp only [zyb, L_eqResponse, optK_bind, optK_bif, optK_pure, optK_none, optK_oc, optK_guardT, optK_map] at h
    refine hold_of h ?_
    kernel_rfl
def zye (k : Nat) : Entry D := entS zya (zyb k) zyc
theorem zyf (k : Nat) : EntryOK X 24 (zye k) := (zyd k).en rfl
def zyg : Plan := ⟨[(0, [(1, none)]), (1, [(1, none), (3, none)]), (2, [(1, none), (3, none)]), (3, [(1, none), (11, none)]), (4, [(2, none)]), (5, [(1, none), (4, none)]), (6, [(1, none), (4, none), (5, none)]), (7, [(1, none), (4, none), (5, none), (6, none)]), (8, [(1, none), (5, none), (21, none)]), (9, [(2, none)]), (10, [(26, none)]), (11, [(2, none)]), (12, [(2, none)])],
  [],
  [(11, ([], [(1, none)])), (21, ([], [(1, none), (5, none)])), (26, ([], []))]⟩
def zyh (k : Nat) : Calls' D := ⟨[(20, zw k), (22, z1u k), (29, zhy k), (30, zxg k), (24, zye k)], [], [], [], []⟩
theorem zyi (k : Nat) : CallsOK X (zyh k) := .cons (zx k) (.cons (z1v k) (.cons (zhz k) (.cons (zxh k) (.cons (zyf k) (.nil cod)))))
def zyj (k : Nat) : Cuts D := ⟨[], []⟩
def L_FnExactLifetimeOf_ar : List Ar := [.a [.ki .i64, .kl 100, .ks]]
def L_FnExactLifetimeOf_f (k : Nat) (x : TupA D L_FnExactLifetimeOf_ar) : Option (Bool) := L_FnExactLifetimeOf k (⟨x.1.1, x.1.2.1, x.1.2.2.1⟩ : LResponse)
def L_FnExactLifetimeOf_vr (r : Bool) : VR D := .p (.c (.bool r))
theorem L_FnExactLifetimeOf_ok (k : Nat) : Does P X 8 L_FnExactLifetimeOf_ar (L_FnExactLifetimeOf_f k) L_FnExactLifetimeOf_vr :=
  does_of (body := bodyOf Go.Proofs.Tryz.f8) (pl := zyg) (k := k) (cu := zyj k) (tys := [[0]]) (zyi k) ctx mixed Go.Proofs.Tryz.func8 (by kernel_rfl) (by kernel_rfl) (cutOK_of (l := []) (by kernel_rfl) trivial) fun x R h => by
    simp only [L_FnExactLifetimeOf_f, L_FnExactLifetimeOf, optK_bind, optK_bif, optK_pure, optK_none, optK_oc, optK_guardT, optK_map] at h
    refine hold_of h ?_
    kernel_rfl
def zyk (k : Nat) : Entry D := entS L_FnExactLifetimeOf_ar (L_FnExactLifetimeOf_f k) L_FnExactLifetimeOf_vr
theorem zyl (k : Nat) : EntryOK X 8 (zyk k) := (L_FnExactLifetimeOf_ok k).en rfl

end
end Go.YtjpfnppiocloeaaGreatDoor
