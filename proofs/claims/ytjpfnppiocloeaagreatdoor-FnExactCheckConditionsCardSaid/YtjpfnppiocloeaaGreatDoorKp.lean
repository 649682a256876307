/- The machine computes the functions. Nothing is claimed here. -/
import Derived.Test.YtjpfnppiocloeaaGreatDoorKf
import Derived.Test.YtjpfnppiocloeaaGreatDoorShelf
import Derived.Shelf.Strings.SlTrimAscii
set_option linter.unusedVariables false
set_option linter.unusedSimpArgs false
set_option maxRecDepth 100000
namespace Go.YtjpfnppiocloeaaGreatDoor
open Go Go.RowKit Go.Pv
noncomputable section

def z0 : Plan := ⟨[(0, [(1, none), (2, none)]), (1, [(1, none), (2, none)]), (2, [(1, none), (2, none), (11, none)]), (3, [(4, none)]), (4, [(1, none)]), (5, [(1, none), (18, none)]), (6, [(4, none)]), (7, [(4, none)])],
  [],
  [(11, ([], [(1, none), (2, none)])), (18, ([], [(1, none)]))]⟩
def z1 (k : Nat) : Calls' D := ⟨[], [], [], [], []⟩
theorem z2 (k : Nat) : CallsOK X (z1 k) := .nil cod
def z3 (k : Nat) : Cuts D := ⟨[], []⟩
def z4 : List Ar := [.a [.ks, .ks], .c (.ki .i64)]
def z5 (k : Nat) (x : TupA D z4) : Option (Int) := L_szField k (⟨x.1.1, x.1.2.1⟩ : LField) x.2.1
def z6 (r : Int) : VR D := .p (.c (.int .i64 r))
theorem z7 (k : Nat) : Does P X 73 z4 (z5 k) z6 :=
  does_of (body := bodyOf Go.Proofs.Tryz.f73) (pl := z0) (k := k) (cu := z3 k) (tys := [[0]]) (z2 k) ctx mixed Go.Proofs.Tryz.func73 (by kernel_rfl) (by kernel_rfl) (cutOK_of (l := []) (by kernel_rfl) trivial) fun x R h => by
    simp only [z5, L_szField, optK_bind, optK_bif, optK_pure, optK_none, optK_oc, optK_guardT, optK_map] at h
    refine hold_of h ?_
    kernel_rfl
def z8 (k : Nat) : Entry D := entS z4 (z5 k) z6
theorem z9 (k : Nat) : EntryOK X 73 (z8 k) := (z7 k).en rfl
def za : Plan := ⟨[(0, [(0, some 100), (1, none)]), (1, [(0, some 100), (1, none)]), (2, [(0, some 100), (1, none), (11, none)]), (3, [(4, none)]), (4, [(0, some 100), (1, none), (5, none)]), (5, [(0, some 100), (1, none), (5, none), (15, none)]), (6, [(0, some 100), (1, none), (5, none)]), (7, [(0, some 100), (1, none), (5, none)]), (8, [(0, some 100), (1, none), (5, none), (25, none)]), (9, [(4, none)]), (10, [(4, none)])],
  [(0, [(1, none)]), (1, [(0, some 100), (1, none), (5, none)])],
  [(11, ([], [(0, some 100), (1, none)])), (15, ([(0, some 100), (1, none), (5, none)], [(1, none)])), (25, ([], [(0, some 100), (1, none), (5, none)]))]⟩
def zb (k : Nat) : Calls' D := ⟨[(73, z8 k)], [], [], [], []⟩
theorem zc (k : Nat) : CallsOK X (zb k) := .cons (z9 k) (.nil cod)
def zd (x : (List LField) × Int × Int × Unit) (o : Oc (Int) (Int)) (Q : Ex → VSt D → Prop) (R : VR D → Prop) : Prop := ocP o (fun v0 => Q .normal (mkSt ⟨[(1, .hole)], []⟩ [.int .i64 v0])) (fun w0 => R (.p (.c (.int .i64 w0))))
def ze (k : Nat) : Cut D := cutS ⟨[(0, .hole), (1, .hole), (5, .hole)], []⟩ [.kl 100, .ki .i64, .ki .i64] (fun (x : (List LField) × Int × Int × Unit) => L_szFieldS_b0 k k x.1 x.2.1 x.2.2.1) zd
def zf (k : Nat) : Cuts D := ⟨[], []⟩
theorem zg (k : Nat) : CutFor X za k Go.Proofs.Tryz.f33.results.toList (ze k) (sub (bodyOf Go.Proofs.Tryz.f33) [1, 1, 1, 0, 1]) :=
  loopCut_s (X := X) (sg := [.kl 100, .ki .i64, .ki .i64]) (cu := zf k) (cl := zb k) (tys := [[0]]) (id := 0) (c := sub (bodyOf Go.Proofs.Tryz.f33) [1, 1, 1, 0, 1, 0, 0]) (f := fun n => fun (x : (List LField) × Int × Int × Unit) => L_szFieldS_b0 k n x.1 x.2.1 x.2.2.1) (zc k) (cutOK_of (l := []) (by kernel_rfl) trivial) (fun _ => rfl) (fun n x Q R h => by
    simp only [L_szFieldS_b0, optK_bind, optK_bif, optK_pure, optK_none, optK_oc, optK_guardT, optK_map] at h
    refine hold_of h ?_
    kernel_rfl) (by kernel_rfl)
def zh (k : Nat) : Cuts D := ⟨[(0, some (ze k))], []⟩
def zi : List Ar := [.c (.kl 100), .c (.ki .i64)]
def zj (k : Nat) (x : TupA D zi) : Option (Int) := L_szFieldS k x.1 x.2.1
def zk (r : Int) : VR D := .p (.c (.int .i64 r))
theorem zl (k : Nat) : Does P X 33 zi (zj k) zk :=
  does_of (body := bodyOf Go.Proofs.Tryz.f33) (pl := za) (k := k) (cu := zh k) (tys := [[0]]) (zc k) ctx mixed Go.Proofs.Tryz.func33 (by kernel_rfl) (by kernel_rfl) (cutOK_of (l := [(ze k, sub (bodyOf Go.Proofs.Tryz.f33) [1, 1, 1, 0, 1])]) (by kernel_rfl) ⟨zg k, trivial⟩) fun x R h => by
    simp only [zj, L_szFieldS, optK_bind, optK_bif, optK_pure, optK_none, optK_oc, optK_guardT, optK_map] at h
    refine hold_of h ?_
    kernel_rfl
def zm (k : Nat) : Entry D := entS zi (zj k) zk
theorem zn (k : Nat) : EntryOK X 33 (zm k) := (zl k).en rfl
def zo : Plan := ⟨[(0, [(1, none), (2, none)]), (1, [(1, none), (2, none)]), (2, [(1, none), (2, none), (11, none)]), (3, [(4, none)]), (4, [(1, none), (2, none)]), (5, [(1, none), (2, none), (18, none)]), (6, [(4, none)]), (7, [(1, none), (2, none)]), (8, [(1, none), (2, none), (25, none)]), (9, [(4, none)]), (10, [(1, none)]), (11, [(1, none), (31, none)]), (12, [(4, none)]), (13, [(4, none)])],
  [],
  [(11, ([], [(1, none), (2, none)])), (18, ([], [(1, none), (2, none)])), (25, ([], [(1, none), (2, none)])), (31, ([], [(1, none)]))]⟩
def zp (k : Nat) : Calls' D := ⟨[(33, zm k)], [], [], [], []⟩
theorem zq (k : Nat) : CallsOK X (zp k) := .cons (zn k) (.nil cod)
def zr (k : Nat) : Cuts D := ⟨[], []⟩
def zs : List Ar := [.a [.ks, .ks, .ks, .kl 100], .c (.ki .i64)]
def zt (k : Nat) (x : TupA D zs) : Option (Int) := L_szRequest k (⟨x.1.1, x.1.2.1, x.1.2.2.1, x.1.2.2.2.1⟩ : LRequest) x.2.1
def zu (r : Int) : VR D := .p (.c (.int .i64 r))
theorem zv (k : Nat) : Does P X 10 zs (zt k) zu :=
  does_of (body := bodyOf Go.Proofs.Tryz.f10) (pl := zo) (k := k) (cu := zr k) (tys := [[0]]) (zq k) ctx mixed Go.Proofs.Tryz.func10 (by kernel_rfl) (by kernel_rfl) (cutOK_of (l := []) (by kernel_rfl) trivial) fun x R h => by
    simp only [zt, L_szRequest, optK_bind, optK_bif, optK_pure, optK_none, optK_oc, optK_guardT, optK_map] at h
    refine hold_of h ?_
    kernel_rfl
def zw (k : Nat) : Entry D := entS zs (zt k) zu
theorem zx (k : Nat) : EntryOK X 10 (zw k) := (zv k).en rfl
def zy : Plan := ⟨[(0, [(1, none), (2, none)]), (1, [(1, none), (2, none)]), (2, [(1, none), (2, none), (10, none)]), (3, [(4, none)]), (4, [(1, none)]), (5, [(1, none), (17, none)]), (6, [(4, none)]), (7, [(4, none)])],
  [],
  [(10, ([], [(1, none), (2, none)])), (17, ([], [(1, none)]))]⟩
def zz (k : Nat) : Calls' D := ⟨[(33, zm k)], [], [], [], []⟩
theorem z10 (k : Nat) : CallsOK X (zz k) := .cons (zn k) (.nil cod)
def z11 (k : Nat) : Cuts D := ⟨[], []⟩
def z12 : List Ar := [.a [.ki .i64, .kl 100, .ks], .c (.ki .i64)]
def z13 (k : Nat) (x : TupA D z12) : Option (Int) := L_szResponse k (⟨x.1.1, x.1.2.1, x.1.2.2.1⟩ : LResponse) x.2.1
def z14 (r : Int) : VR D := .p (.c (.int .i64 r))
theorem z15 (k : Nat) : Does P X 20 z12 (z13 k) z14 :=
  does_of (body := bodyOf Go.Proofs.Tryz.f20) (pl := zy) (k := k) (cu := z11 k) (tys := [[0]]) (z10 k) ctx mixed Go.Proofs.Tryz.func20 (by kernel_rfl) (by kernel_rfl) (cutOK_of (l := []) (by kernel_rfl) trivial) fun x R h => by
    simp only [z13, L_szResponse, optK_bind, optK_bif, optK_pure, optK_none, optK_oc, optK_guardT, optK_map] at h
    refine hold_of h ?_
    kernel_rfl
def z16 (k : Nat) : Entry D := entS z12 (z13 k) z14
theorem z17 (k : Nat) : EntryOK X 20 (z16 k) := (z15 k).en rfl
def z18 : Plan := ⟨[(0, [(1, none), (2, none)]), (1, [(1, none), (2, none), (3, none)]), (2, [(1, none), (2, none), (3, none)]), (3, [(2, none), (3, none)]), (4, [(2, none)])],
  [],
  []⟩
def z19 (k : Nat) : Calls' D := ⟨[], [], [], [], []⟩
theorem z1a (k : Nat) : CallsOK X (z19 k) := .nil cod
def z1b (k : Nat) : Cuts D := ⟨[], []⟩
def z1c : List Ar := [.a [.ks, .ks]]
def z1d (k : Nat) (x : TupA D z1c) : Option (IField) := L_toField k (⟨x.1.1, x.1.2.1⟩ : LField)
def z1e (r : IField) : VR D := .p (.agg [.str r.Name, .str r.Value])
theorem z1f (k : Nat) : Does P X 81 z1c (z1d k) z1e :=
  does_of (body := bodyOf Go.Proofs.Tryz.f81) (pl := z18) (k := k) (cu := z1b k) (tys := [[0, 0]]) (z1a k) ctx mixed Go.Proofs.Tryz.func81 (by kernel_rfl) (by kernel_rfl) (cutOK_of (l := []) (by kernel_rfl) trivial) fun x R h => by
    simp only [z1d, L_toField, optK_bind, optK_bif, optK_pure, optK_none, optK_oc, optK_guardT, optK_map] at h
    refine hold_of h ?_
    kernel_rfl
def z1g (k : Nat) : Entry D := entS z1c (z1d k) z1e
theorem z1h (k : Nat) : EntryOK X 81 (z1g k) := (z1f k).en rfl
def z1i : Plan := ⟨[(0, [(0, some 100)]), (1, [(0, some 100), (3, some 107)]), (2, [(0, some 100), (3, some 107), (4, none)]), (3, [(0, some 100), (3, some 107), (4, none), (11, none)]), (4, [(0, some 100), (3, some 107), (4, none)]), (5, [(0, some 100), (3, some 107), (4, none)]), (6, [(2, some 107)])],
  [(0, [(3, some 107)]), (1, [(0, some 100), (3, some 107), (4, none)])],
  [(11, ([(0, some 100), (3, some 107), (4, none)], [(3, some 107)]))]⟩
def z1j (k : Nat) : Calls' D := ⟨[(81, z1g k)], [], [], [], []⟩
theorem z1k (k : Nat) : CallsOK X (z1j k) := .cons (z1h k) (.nil cod)
def z1l (x : (List LField) × Int × (List IField) × Unit) (o : (List IField)) (Q : Ex → VSt D → Prop) (R : VR D → Prop) : Prop := Q .normal (mkSt ⟨[(3, .ref 500003)], [(500003, .row)]⟩ [.sl 107 o])
def z1m (k : Nat) : Cut D := cutS ⟨[(0, .hole), (3, .ref 500003), (4, .hole)], [(500003, .row)]⟩ [.kl 100, .ki .i64, .kl 107] (fun (x : (List LField) × Int × (List IField) × Unit) => L_toFieldS_b0 k k x.1 x.2.1 x.2.2.1) z1l
def z1n (k : Nat) : Cuts D := ⟨[], []⟩
theorem z1o (k : Nat) : CutFor X z1i k Go.Proofs.Tryz.f36.results.toList (z1m k) (sub (bodyOf Go.Proofs.Tryz.f36) [1, 1, 0, 1]) :=
  loopCut_s (X := X) (sg := [.kl 100, .ki .i64, .kl 107]) (cu := z1n k) (cl := z1j k) (tys := [[107]]) (id := 0) (c := sub (bodyOf Go.Proofs.Tryz.f36) [1, 1, 0, 1, 0, 0]) (f := fun n => fun (x : (List LField) × Int × (List IField) × Unit) => L_toFieldS_b0 k n x.1 x.2.1 x.2.2.1) (z1k k) (cutOK_of (l := []) (by kernel_rfl) trivial) (fun _ => rfl) (fun n x Q R h => by
    simp only [L_toFieldS_b0, optK_bind, optK_bif, optK_pure, optK_none, optK_oc, optK_guardT, optK_map] at h
    refine hold_of h ?_
    kernel_rfl) (by kernel_rfl)
def z1p (k : Nat) : Cuts D := ⟨[(0, some (z1m k))], []⟩
def z1q : List Ar := [.c (.kl 100)]
def z1r (k : Nat) (x : TupA D z1q) : Option ((List IField)) := L_toFieldS k x.1
def z1s (r : (List IField)) : VR D := .p (.c (.sl 107 r))
theorem z1t (k : Nat) : Does P X 36 z1q (z1r k) z1s :=
  does_of (body := bodyOf Go.Proofs.Tryz.f36) (pl := z1i) (k := k) (cu := z1p k) (tys := [[107]]) (z1k k) ctx mixed Go.Proofs.Tryz.func36 (by kernel_rfl) (by kernel_rfl) (cutOK_of (l := [(z1m k, sub (bodyOf Go.Proofs.Tryz.f36) [1, 1, 0, 1])]) (by kernel_rfl) ⟨z1o k, trivial⟩) fun x R h => by
    simp only [z1r, L_toFieldS, optK_bind, optK_bif, optK_pure, optK_none, optK_oc, optK_guardT, optK_map] at h
    refine hold_of h ?_
    kernel_rfl
def z1u (k : Nat) : Entry D := entS z1q (z1r k) z1s
theorem z1v (k : Nat) : EntryOK X 36 (z1u k) := (z1t k).en rfl
def z1w : Plan := ⟨[(0, [(1, none), (2, none)]), (1, [(1, none), (2, none), (3, none)]), (2, [(1, none), (2, none), (3, none)]), (3, [(1, none), (2, none), (3, none)]), (4, [(1, none), (2, none), (3, none)]), (5, [(2, none), (3, none)]), (6, [(2, none)])],
  [],
  []⟩
def z1x (k : Nat) : Calls' D := ⟨[(36, z1u k)], [], [], [], []⟩
theorem z1y (k : Nat) : CallsOK X (z1x k) := .cons (z1v k) (.nil cod)
def z1z (k : Nat) : Cuts D := ⟨[], []⟩
def z20 : List Ar := [.a [.ks, .ks, .ks, .kl 100]]
def z21 (k : Nat) (x : TupA D z20) : Option (IRequest) := L_toRequest k (⟨x.1.1, x.1.2.1, x.1.2.2.1, x.1.2.2.2.1⟩ : LRequest)
def z22 (r : IRequest) : VR D := .p (.agg [.str r.Method, .str r.Host, .str r.Target, .sl 107 r.Fields])
theorem z23 (k : Nat) : Does P X 12 z20 (z21 k) z22 :=
  does_of (body := bodyOf Go.Proofs.Tryz.f12) (pl := z1w) (k := k) (cu := z1z k) (tys := [[0, 0, 0, 107]]) (z1y k) ctx mixed Go.Proofs.Tryz.func12 (by kernel_rfl) (by kernel_rfl) (cutOK_of (l := []) (by kernel_rfl) trivial) fun x R h => by
    simp only [z21, L_toRequest, optK_bind, optK_bif, optK_pure, optK_none, optK_oc, optK_guardT, optK_map] at h
    refine hold_of h ?_
    kernel_rfl
def z24 (k : Nat) : Entry D := entS z20 (z21 k) z22
theorem z25 (k : Nat) : EntryOK X 12 (z24 k) := (z23 k).en rfl
def z26 : Plan := ⟨[(0, [(1, none), (2, none)]), (1, [(1, none), (2, none), (3, none)]), (2, [(1, none), (2, none), (3, none)]), (3, [(1, none), (2, none), (3, none)]), (4, [(2, none), (3, none)]), (5, [(2, none)])],
  [],
  []⟩
def z27 (k : Nat) : Calls' D := ⟨[(36, z1u k)], [], [], [], []⟩
theorem z28 (k : Nat) : CallsOK X (z27 k) := .cons (z1v k) (.nil cod)
def z29 (k : Nat) : Cuts D := ⟨[], []⟩
def z2a : List Ar := [.a [.ki .i64, .kl 100, .ks]]
def z2b (k : Nat) (x : TupA D z2a) : Option (IResponse) := L_toResponse k (⟨x.1.1, x.1.2.1, x.1.2.2.1⟩ : LResponse)
def z2c (r : IResponse) : VR D := .p (.agg [.int .i64 r.Code, .sl 107 r.Fields, .str r.Body])
theorem z2d (k : Nat) : Does P X 22 z2a (z2b k) z2c :=
  does_of (body := bodyOf Go.Proofs.Tryz.f22) (pl := z26) (k := k) (cu := z29 k) (tys := [[0, 107, 0]]) (z28 k) ctx mixed Go.Proofs.Tryz.func22 (by kernel_rfl) (by kernel_rfl) (cutOK_of (l := []) (by kernel_rfl) trivial) fun x R h => by
    simp only [z2b, L_toResponse, optK_bind, optK_bif, optK_pure, optK_none, optK_oc, optK_guardT, optK_map] at h
    refine hold_of h ?_
    kernel_rfl
def z2e (k : Nat) : Entry D := entS z2a (z2b k) z2c
theorem z2f (k : Nat) : EntryOK X 22 (z2e k) := (z2d k).en rfl
def z2g : Plan := ⟨[(0, [(0, some 9)]), (1, [(0, some 9), (3, none)]), (2, [(0, some 9), (3, none), (4, none)]), (3, [(0, some 9), (3, none), (4, none), (8, none)]), (4, [(0, some 9), (3, none), (4, none)]), (5, [(0, some 9), (3, none), (4, none), (12, none)]), (6, [(0, some 9), (3, none), (4, none)]), (7, [(0, some 9), (3, none), (4, none)]), (8, [(2, none)])],
  [(0, [(3, none)]), (1, [(0, some 9), (3, none), (4, none)])],
  [(8, ([(0, some 9), (3, none), (4, none)], [(3, none)])), (12, ([(0, some 9), (3, none), (4, none)], [(0, some 9), (3, none), (4, none)]))]⟩
def z2h (k : Nat) : Calls' D := ⟨[], [], [], [], []⟩
theorem z2i (k : Nat) : CallsOK X (z2h k) := .nil cod
def z2j (x : (List (List UInt8)) × (List UInt8) × Int × Bool × Unit) (o : (List UInt8)) (Q : Ex → VSt D → Prop) (R : VR D → Prop) : Prop := Q .normal (mkSt ⟨[(0, .hole), (3, .hole), (4, .hole)], []⟩ [.sl 9 x.1, .str o, .int .i64 x.2.2.1])
def z2k (k : Nat) : Cut D := cutS ⟨[(0, .hole), (3, .hole), (4, .hole), (12, .hole)], []⟩ [.kl 9, .ks, .ki .i64, .kb] (fun (x : (List (List UInt8)) × (List UInt8) × Int × Bool × Unit) => S_JoinList_c12 k x.1 x.2.1 x.2.2.1 x.2.2.2.1) z2j
def z2l (k : Nat) : Cuts D := ⟨[], []⟩
theorem z2m (k : Nat) : CutFor X z2g k Go.Proofs.Tryz.f117.results.toList (z2k k) (sub (bodyOf Go.Proofs.Tryz.f117) [1, 1, 0, 1, 0, 0, 1, 0, 0, 0, 1]) :=
  joinCut_s (X := X) (sg := [.kl 9, .ks, .ki .i64, .kb]) (cu := z2l k) (cl := z2h k) (tys := [[0]]) (z2i k) (cutOK_of (l := []) (by kernel_rfl) trivial) fun x Q R h => by
    simp only [S_JoinList_c12, optK_bind, optK_bif, optK_pure, optK_none, optK_oc, optK_guardT, optK_map] at h
    refine hold_of h ?_
    kernel_rfl
def z2n (x : (List (List UInt8)) × (List UInt8) × Int × Unit) (o : (List UInt8)) (Q : Ex → VSt D → Prop) (R : VR D → Prop) : Prop := Q .normal (mkSt ⟨[(0, .hole), (3, .hole), (4, .hole)], []⟩ [.sl 9 x.1, .str o, .int .i64 x.2.2.1])
def z2o (k : Nat) : Cut D := cutS ⟨[(0, .hole), (3, .hole), (4, .hole)], []⟩ [.kl 9, .ks, .ki .i64] (fun (x : (List (List UInt8)) × (List UInt8) × Int × Unit) => S_JoinList_b1 k x.1 x.2.1 x.2.2.1) z2n
def z2p (k : Nat) : Cuts D := ⟨[], [(12, some (z2k k))]⟩
theorem z2q (k : Nat) : CutFor X z2g k Go.Proofs.Tryz.f117.results.toList (z2o k) (sub (bodyOf Go.Proofs.Tryz.f117) [1, 1, 0, 1, 0, 0, 1, 0]) :=
  joinCut_s (X := X) (sg := [.kl 9, .ks, .ki .i64]) (cu := z2p k) (cl := z2h k) (tys := [[0]]) (z2i k) (cutOK_of (l := [(z2k k, sub (bodyOf Go.Proofs.Tryz.f117) [1, 1, 0, 1, 0, 0, 1, 0, 0, 0, 1])]) (by kernel_rfl) ⟨z2m k, trivial⟩) fun x Q R h => by
    simp only [S_JoinList_b1, optK_bind, optK_bif, optK_pure, optK_none, optK_oc, optK_guardT, optK_map] at h
    refine hold_of h ?_
    kernel_rfl
def z2r (x : (List (List UInt8)) × (List UInt8) × Int × Unit) (o : (List UInt8)) (Q : Ex → VSt D → Prop) (R : VR D → Prop) : Prop := Q .normal (mkSt ⟨[(3, .hole)], []⟩ [.str o])
def z2s (k : Nat) : Cut D := cutS ⟨[(0, .hole), (3, .hole), (4, .hole)], []⟩ [.kl 9, .ks, .ki .i64] (fun (x : (List (List UInt8)) × (List UInt8) × Int × Unit) => S_JoinList_b0 k k x.1 x.2.1 x.2.2.1) z2r
def z2t (k : Nat) : Cuts D := ⟨[(1, some (z2o k))], []⟩
theorem z2u (k : Nat) : CutFor X z2g k Go.Proofs.Tryz.f117.results.toList (z2s k) (sub (bodyOf Go.Proofs.Tryz.f117) [1, 1, 0, 1]) :=
  loopCut_s (X := X) (sg := [.kl 9, .ks, .ki .i64]) (cu := z2t k) (cl := z2h k) (tys := [[0]]) (id := 0) (c := sub (bodyOf Go.Proofs.Tryz.f117) [1, 1, 0, 1, 0, 0]) (f := fun n => fun (x : (List (List UInt8)) × (List UInt8) × Int × Unit) => S_JoinList_b0 k n x.1 x.2.1 x.2.2.1) (z2i k) (cutOK_of (l := [(z2o k, sub (bodyOf Go.Proofs.Tryz.f117) [1, 1, 0, 1, 0, 0, 1, 0])]) (by kernel_rfl) ⟨z2q k, trivial⟩) (fun _ => rfl) (fun n x Q R h => by
    simp only [S_JoinList_b0, optK_bind, optK_bif, optK_pure, optK_none, optK_oc, optK_guardT, optK_map] at h
    refine hold_of h ?_
    kernel_rfl) (by kernel_rfl)
def z2v (k : Nat) : Cuts D := ⟨[(0, some (z2s k))], []⟩
def z2w : List Ar := [.c (.kl 9)]
def z2x (k : Nat) (x : TupA D z2w) : Option ((List UInt8)) := S_JoinList k x.1
def z2y (r : (List UInt8)) : VR D := .p (.c (.str r))
theorem z2z (k : Nat) : Does P X 117 z2w (z2x k) z2y :=
  does_of (body := bodyOf Go.Proofs.Tryz.f117) (pl := z2g) (k := k) (cu := z2v k) (tys := [[0]]) (z2i k) ctx mixed Go.Proofs.Tryz.func117 (by kernel_rfl) (by kernel_rfl) (cutOK_of (l := [(z2s k, sub (bodyOf Go.Proofs.Tryz.f117) [1, 1, 0, 1])]) (by kernel_rfl) ⟨z2u k, trivial⟩) fun x R h => by
    simp only [z2x, S_JoinList, optK_bind, optK_bif, optK_pure, optK_none, optK_oc, optK_guardT, optK_map] at h
    refine hold_of h ?_
    kernel_rfl
def z30 (k : Nat) : Entry D := entS z2w (z2x k) z2y
theorem z31 (k : Nat) : EntryOK X 117 (z30 k) := (z2z k).en rfl
def z32 : Plan := ⟨[(0, [(0, some 107), (1, none)]), (1, [(0, some 107), (1, none), (6, some 9)]), (2, [(0, some 107), (1, none), (6, some 9), (7, none)]), (3, [(0, some 107), (1, none), (6, some 9), (7, none), (12, none)]), (4, [(0, some 107), (1, none), (6, some 9), (7, none)]), (5, [(0, some 107), (1, none), (6, some 9), (7, none), (21, none)]), (6, [(0, some 107), (1, none), (6, some 9), (7, none)]), (7, [(4, none), (5, none)])],
  [(0, [(6, some 9)]), (1, [(0, some 107), (1, none), (6, some 9), (7, none)])],
  [(12, ([(0, some 107), (1, none), (6, some 9), (7, none)], [(6, some 9)])), (21, ([(0, some 107), (1, none), (6, some 9), (7, none)], [(0, some 107), (1, none), (6, some 9), (7, none)]))]⟩
def z33 (k : Nat) : Calls' D := ⟨[(117, z30 k)], [], [], [], []⟩
theorem z34 (k : Nat) : CallsOK X (z33 k) := .cons (z31 k) (.nil cod)
def z35 (x : (List IField) × (List UInt8) × Int × Bool × (List (List UInt8)) × Unit) (o : (List (List UInt8))) (Q : Ex → VSt D → Prop) (R : VR D → Prop) : Prop := Q .normal (mkSt ⟨[(0, .hole), (1, .hole), (6, .ref 500006), (7, .hole)], [(500006, .row)]⟩ [.sl 107 x.1, .str x.2.1, .int .i64 x.2.2.1, .sl 9 o])
def z36 (k : Nat) : Cut D := cutS ⟨[(0, .hole), (1, .hole), (6, .ref 500006), (7, .hole), (21, .hole)], [(500006, .row)]⟩ [.kl 107, .ks, .ki .i64, .kb, .kl 9] (fun (x : (List IField) × (List UInt8) × Int × Bool × (List (List UInt8)) × Unit) => S_GetField_c21 k x.1 x.2.1 x.2.2.1 x.2.2.2.1 x.2.2.2.2.1) z35
def z37 (k : Nat) : Cuts D := ⟨[], []⟩
theorem z38 (k : Nat) : CutFor X z32 k Go.Proofs.Tryz.f54.results.toList (z36 k) (sub (bodyOf Go.Proofs.Tryz.f54) [1, 1, 0, 1, 0, 0, 1, 0, 0, 1]) :=
  joinCut_s (X := X) (sg := [.kl 107, .ks, .ki .i64, .kb, .kl 9]) (cu := z37 k) (cl := z33 k) (tys := [[0], [0]]) (z34 k) (cutOK_of (l := []) (by kernel_rfl) trivial) fun x Q R h => by
    simp only [S_GetField_c21, optK_bind, optK_bif, optK_pure, optK_none, optK_oc, optK_guardT, optK_map] at h
    refine hold_of h ?_
    kernel_rfl
def z39 (x : (List IField) × (List UInt8) × Int × (List (List UInt8)) × Unit) (o : (List (List UInt8))) (Q : Ex → VSt D → Prop) (R : VR D → Prop) : Prop := Q .normal (mkSt ⟨[(0, .hole), (1, .hole), (6, .ref 500006), (7, .hole)], [(500006, .row)]⟩ [.sl 107 x.1, .str x.2.1, .int .i64 x.2.2.1, .sl 9 o])
def z3a (k : Nat) : Cut D := cutS ⟨[(0, .hole), (1, .hole), (6, .ref 500006), (7, .hole)], [(500006, .row)]⟩ [.kl 107, .ks, .ki .i64, .kl 9] (fun (x : (List IField) × (List UInt8) × Int × (List (List UInt8)) × Unit) => S_GetField_b1 k x.1 x.2.1 x.2.2.1 x.2.2.2.1) z39
def z3b (k : Nat) : Cuts D := ⟨[], [(21, some (z36 k))]⟩
theorem z3c (k : Nat) : CutFor X z32 k Go.Proofs.Tryz.f54.results.toList (z3a k) (sub (bodyOf Go.Proofs.Tryz.f54) [1, 1, 0, 1, 0, 0, 1, 0]) :=
  joinCut_s (X := X) (sg := [.kl 107, .ks, .ki .i64, .kl 9]) (cu := z3b k) (cl := z33 k) (tys := [[0], [0]]) (z34 k) (cutOK_of (l := [(z36 k, sub (bodyOf Go.Proofs.Tryz.f54) [1, 1, 0, 1, 0, 0, 1, 0, 0, 1])]) (by kernel_rfl) ⟨z38 k, trivial⟩) fun x Q R h => by
    simp only [S_GetField_b1, optK_bind, optK_bif, optK_pure, optK_none, optK_oc, optK_guardT, optK_map] at h
    refine hold_of h ?_
    kernel_rfl
def z3d (x : (List IField) × (List UInt8) × Int × (List (List UInt8)) × Unit) (o : (List (List UInt8))) (Q : Ex → VSt D → Prop) (R : VR D → Prop) : Prop := Q .normal (mkSt ⟨[(6, .ref 500006)], [(500006, .row)]⟩ [.sl 9 o])
def z3e (k : Nat) : Cut D := cutS ⟨[(0, .hole), (1, .hole), (6, .ref 500006), (7, .hole)], [(500006, .row)]⟩ [.kl 107, .ks, .ki .i64, .kl 9] (fun (x : (List IField) × (List UInt8) × Int × (List (List UInt8)) × Unit) => S_GetField_b0 k k x.1 x.2.1 x.2.2.1 x.2.2.2.1) z3d
def z3f (k : Nat) : Cuts D := ⟨[(1, some (z3a k))], []⟩
theorem z3g (k : Nat) : CutFor X z32 k Go.Proofs.Tryz.f54.results.toList (z3e k) (sub (bodyOf Go.Proofs.Tryz.f54) [1, 1, 0, 1]) :=
  loopCut_s (X := X) (sg := [.kl 107, .ks, .ki .i64, .kl 9]) (cu := z3f k) (cl := z33 k) (tys := [[0], [0]]) (id := 0) (c := sub (bodyOf Go.Proofs.Tryz.f54) [1, 1, 0, 1, 0, 0]) (f := fun n => fun (x : (List IField) × (List UInt8) × Int × (List (List UInt8)) × Unit) => S_GetField_b0 k n x.1 x.2.1 x.2.2.1 x.2.2.2.1) (z34 k) (cutOK_of (l := [(z3a k, sub (bodyOf Go.Proofs.Tryz.f54) [1, 1, 0, 1, 0, 0, 1, 0])]) (by kernel_rfl) ⟨z3c k, trivial⟩) (fun _ => rfl) (fun n x Q R h => by
    simp only [S_GetField_b0, optK_bind, optK_bif, optK_pure, optK_none, optK_oc, optK_guardT, optK_map] at h
    refine hold_of h ?_
    kernel_rfl) (by kernel_rfl)
def z3h (k : Nat) : Cuts D := ⟨[(0, some (z3e k))], []⟩
def z3i : List Ar := [.c (.kl 107), .c (.ks)]
def z3j (k : Nat) (x : TupA D z3i) : Option ((List UInt8) × Bool) := S_GetField k x.1 x.2.1
def z3k (r : (List UInt8) × Bool) : VR D := .tup [.c (.str r.1), .c (.bool r.2)]
theorem z3l (k : Nat) : Does P X 54 z3i (z3j k) z3k :=
  does_of (body := bodyOf Go.Proofs.Tryz.f54) (pl := z32) (k := k) (cu := z3h k) (tys := [[0], [0]]) (z34 k) ctx mixed Go.Proofs.Tryz.func54 (by kernel_rfl) (by kernel_rfl) (cutOK_of (l := [(z3e k, sub (bodyOf Go.Proofs.Tryz.f54) [1, 1, 0, 1])]) (by kernel_rfl) ⟨z3g k, trivial⟩) fun x R h => by
    simp only [z3j, S_GetField, optK_bind, optK_bif, optK_pure, optK_none, optK_oc, optK_guardT, optK_map] at h
    refine hold_of h ?_
    kernel_rfl
def z3m (k : Nat) : Entry D := entS z3i (z3j k) z3k
theorem z3n (k : Nat) : EntryOK X 54 (z3m k) := (z3l k).en rfl
def z3o : Plan := ⟨[(0, [(0, some 107), (1, none)]), (1, [(5, none)]), (2, [(4, none)])],
  [],
  []⟩
def z3p (k : Nat) : Calls' D := ⟨[(54, z3m k)], [], [], [], []⟩
theorem z3q (k : Nat) : CallsOK X (z3p k) := .cons (z3n k) (.nil cod)
def z3r (k : Nat) : Cuts D := ⟨[], []⟩
def z3s : List Ar := [.c (.kl 107), .c (.ks)]
def z3t (k : Nat) (x : TupA D z3s) : Option ((List UInt8)) := S_l5Get k x.1 x.2.1
def z3u (r : (List UInt8)) : VR D := .p (.c (.str r))
theorem z3v (k : Nat) : Does P X 50 z3s (z3t k) z3u :=
  does_of (body := bodyOf Go.Proofs.Tryz.f50) (pl := z3o) (k := k) (cu := z3r k) (tys := [[0]]) (z3q k) ctx mixed Go.Proofs.Tryz.func50 (by kernel_rfl) (by kernel_rfl) (cutOK_of (l := []) (by kernel_rfl) trivial) fun x R h => by
    simp only [z3t, S_l5Get, optK_bind, optK_bif, optK_pure, optK_none, optK_oc, optK_guardT, optK_map] at h
    refine hold_of h ?_
    kernel_rfl
def z3w (k : Nat) : Entry D := entS z3s (z3t k) z3u
theorem z3x (k : Nat) : EntryOK X 50 (z3w k) := (z3v k).en rfl
def z3y : Plan := ⟨[(0, [(0, none), (1, none), (2, none)]), (1, [(6, none)])],
  [],
  []⟩
def z3z (k : Nat) : Calls' D := ⟨[], [], [], [], []⟩
theorem z40 (k : Nat) : CallsOK X (z3z k) := .nil cod
def z41 (k : Nat) : Cuts D := ⟨[], []⟩
def z42 : List Ar := [.c (.ki .i64), .c (.ki .i64), .c (.ki .i64)]
def z43 (k : Nat) (x : TupA D z42) : Option (Bool) := S_l1In k x.1 x.2.1 x.2.2.1
def z44 (r : Bool) : VR D := .p (.c (.bool r))
theorem z45 (k : Nat) : Does P X 78 z42 (z43 k) z44 :=
  does_of (body := bodyOf Go.Proofs.Tryz.f78) (pl := z3y) (k := k) (cu := z41 k) (tys := [[0]]) (z40 k) ctx mixed Go.Proofs.Tryz.func78 (by kernel_rfl) (by kernel_rfl) (cutOK_of (l := []) (by kernel_rfl) trivial) fun x R h => by
    simp only [z43, S_l1In, optK_bind, optK_bif, optK_pure, optK_none, optK_oc, optK_guardT, optK_map] at h
    refine hold_of h ?_
    kernel_rfl
def z46 (k : Nat) : Entry D := entS z42 (z43 k) z44
theorem z47 (k : Nat) : EntryOK X 78 (z46 k) := (z45 k).en rfl
def z48 : Plan := ⟨[(0, [(1, none)]), (1, [(1, none), (3, none)]), (2, [(1, none), (3, none), (8, none)]), (3, [(1, none), (3, none)]), (4, [(1, none), (3, none), (24, none)]), (5, [(2, none)]), (6, [(2, none)])],
  [(0, [(1, none)]), (1, [(1, none), (3, none)])],
  [(8, ([(1, none), (3, none)], [(1, none)])), (24, ([], [(1, none), (3, none)]))]⟩
def z49 (k : Nat) : Calls' D := ⟨[(78, z46 k)], [], [], [], []⟩
theorem z4a (k : Nat) : CallsOK X (z49 k) := .cons (z47 k) (.nil cod)
def z4b (x : Int × Bool × (List UInt8) × Unit) (o : Oc (Unit) (Bool)) (Q : Ex → VSt D → Prop) (R : VR D → Prop) : Prop := ocP o (fun v0 => Q .normal (mkSt ⟨[(1, .ptr 1 0)], [(1, .var [.hole, .hole])]⟩ [.bool x.2.1, .str x.2.2.1])) (fun w0 => R (.p (.c (.bool w0))))
def z4c (k : Nat) : Cut D := cutS ⟨[(1, .ptr 1 0), (3, .hole)], [(1, .var [.hole, .hole])]⟩ [.ki .i64, .kb, .ks] (fun (x : Int × Bool × (List UInt8) × Unit) => S_IsTag_b0 k k x.1 x.2.1 x.2.2.1) z4b
def z4d (k : Nat) : Cuts D := ⟨[], []⟩
theorem z4e (k : Nat) : CutFor X z48 k Go.Proofs.Tryz.f118.results.toList (z4c k) (sub (bodyOf Go.Proofs.Tryz.f118) [1, 0, 1]) :=
  loopCut_s (X := X) (sg := [.ki .i64, .kb, .ks]) (cu := z4d k) (cl := z49 k) (tys := [[0]]) (id := 0) (c := sub (bodyOf Go.Proofs.Tryz.f118) [1, 0, 1, 0, 0]) (f := fun n => fun (x : Int × Bool × (List UInt8) × Unit) => S_IsTag_b0 k n x.1 x.2.1 x.2.2.1) (z4a k) (cutOK_of (l := []) (by kernel_rfl) trivial) (fun _ => rfl) (fun n x Q R h => by
    simp only [S_IsTag_b0, optK_bind, optK_bif, optK_pure, optK_none, optK_oc, optK_guardT, optK_map] at h
    refine hold_of h ?_
    kernel_rfl) (by kernel_rfl)
def z4f (k : Nat) : Cuts D := ⟨[(0, some (z4c k))], []⟩
def z4g : List Ar := [.a [.kb, .ks]]
def z4h (k : Nat) (x : TupA D z4g) : Option (Bool) := S_IsTag k (⟨x.1.1, x.1.2.1⟩ : ITag)
def z4i (r : Bool) : VR D := .p (.c (.bool r))
theorem z4j (k : Nat) : Does P X 118 z4g (z4h k) z4i :=
  does_of (body := bodyOf Go.Proofs.Tryz.f118) (pl := z48) (k := k) (cu := z4f k) (tys := [[0]]) (z4a k) ctx mixed Go.Proofs.Tryz.func118 (by kernel_rfl) (by kernel_rfl) (cutOK_of (l := [(z4c k, sub (bodyOf Go.Proofs.Tryz.f118) [1, 0, 1])]) (by kernel_rfl) ⟨z4e k, trivial⟩) fun x R h => by
    simp only [z4h, S_IsTag, optK_bind, optK_bif, optK_pure, optK_none, optK_oc, optK_guardT, optK_map] at h
    refine hold_of h ?_
    kernel_rfl
def z4k (k : Nat) : Entry D := entS z4g (z4h k) z4i
theorem z4l (k : Nat) : EntryOK X 118 (z4k k) := (z4j k).en rfl
def z4m : Plan := ⟨[(0, [(0, none), (2, none)]), (1, [(0, none), (2, none), (4, none)]), (2, [(0, none), (2, none), (4, none), (13, none)]), (3, [(0, none), (2, none), (4, none)]), (4, [(0, none), (2, none), (4, none)]), (5, [(0, none), (2, none), (4, none), (32, none)]), (6, [(2, none), (3, none)]), (7, [(2, none), (4, none)]), (8, [(2, none), (4, none), (42, none)]), (9, [(2, none), (3, none)]), (10, [(2, none), (3, none)])],
  [],
  [(13, ([(0, none), (2, none), (4, none)], [(0, none), (2, none), (4, none)])), (32, ([(2, none)], [(0, none), (2, none), (4, none)])), (42, ([(2, none)], [(2, none), (4, none)]))]⟩
def z4n (k : Nat) : Calls' D := ⟨[(118, z4k k)], [], [], [], []⟩
theorem z4o (k : Nat) : CallsOK X (z4n k) := .cons (z4l k) (.nil cod)
def z4p (x : (List UInt8) × Bool × Bool × (List UInt8) × Bool × (List UInt8) × Unit) (o : (List UInt8) × Bool) (Q : Ex → VSt D → Prop) (R : VR D → Prop) : Prop := Q .normal (mkSt ⟨[(0, .hole), (2, .ptr 2 0), (4, .ptr 4 0)], [(2, .var [.hole, .hole]), (4, .var [.hole, .hole])]⟩ [.str o.1, .bool x.2.2.1, .str x.2.2.2.1, .bool o.2, .str x.2.2.2.2.2.1])
def z4q (k : Nat) : Cut D := cutS ⟨[(0, .hole), (2, .ptr 2 0), (4, .ptr 4 0), (13, .hole)], [(2, .var [.hole, .hole]), (4, .var [.hole, .hole])]⟩ [.ks, .kb, .kb, .ks, .kb, .ks] (fun (x : (List UInt8) × Bool × Bool × (List UInt8) × Bool × (List UInt8) × Unit) => S_ParseTag_c13 k x.1 x.2.1 x.2.2.1 x.2.2.2.1 x.2.2.2.2.1 x.2.2.2.2.2.1) z4p
def z4r (k : Nat) : Cuts D := ⟨[], []⟩
theorem z4s (k : Nat) : CutFor X z4m k Go.Proofs.Tryz.f55.results.toList (z4q k) (sub (bodyOf Go.Proofs.Tryz.f55) [1, 1, 0, 1]) :=
  joinCut_s (X := X) (sg := [.ks, .kb, .kb, .ks, .kb, .ks]) (cu := z4r k) (cl := z4n k) (tys := [[0, 0], [0]]) (z4o k) (cutOK_of (l := []) (by kernel_rfl) trivial) fun x Q R h => by
    simp only [S_ParseTag_c13, optK_bind, optK_bif, optK_pure, optK_none, optK_oc, optK_guardT, optK_map] at h
    refine hold_of h ?_
    kernel_rfl
def z4t (k : Nat) : Cuts D := ⟨[], [(13, some (z4q k))]⟩
def z4u : List Ar := [.c (.ks)]
def z4v (k : Nat) (x : TupA D z4u) : Option (ITag × Bool) := S_ParseTag k x.1
def z4w (r : ITag × Bool) : VR D := .tup [.agg [.bool r.1.Weak, .str r.1.Text], .c (.bool r.2)]
theorem z4x (k : Nat) : Does P X 55 z4u (z4v k) z4w :=
  does_of (body := bodyOf Go.Proofs.Tryz.f55) (pl := z4m) (k := k) (cu := z4t k) (tys := [[0, 0], [0]]) (z4o k) ctx mixed Go.Proofs.Tryz.func55 (by kernel_rfl) (by kernel_rfl) (cutOK_of (l := [(z4q k, sub (bodyOf Go.Proofs.Tryz.f55) [1, 1, 0, 1])]) (by kernel_rfl) ⟨z4s k, trivial⟩) fun x R h => by
    simp only [z4v, S_ParseTag, optK_bind, optK_bif, optK_pure, optK_none, optK_oc, optK_guardT, optK_map] at h
    refine hold_of h ?_
    kernel_rfl
def z4y (k : Nat) : Entry D := entS z4u (z4v k) z4w
theorem z4z (k : Nat) : EntryOK X 55 (z4y k) := (z4x k).en rfl
def z50 : Plan := ⟨[(0, [(0, none), (1, none)]), (1, [(0, none), (1, none), (30, none)]), (2, [(4, none)]), (3, [(4, none)])],
  [],
  [(30, ([], [(0, none), (1, none)]))]⟩
def z51 (k : Nat) : Calls' D := ⟨[(78, z46 k)], [], [], [], []⟩
theorem z52 (k : Nat) : CallsOK X (z51 k) := .cons (z47 k) (.nil cod)
def z53 (k : Nat) : Cuts D := ⟨[], []⟩
def z54 : List Ar := [.c (.ks), .c (.ki .i64)]
def z55 (k : Nat) (x : TupA D z54) : Option (Int) := S_l3Two k x.1 x.2.1
def z56 (r : Int) : VR D := .p (.c (.int .i64 r))
theorem z57 (k : Nat) : Does P X 112 z54 (z55 k) z56 :=
  does_of (body := bodyOf Go.Proofs.Tryz.f112) (pl := z50) (k := k) (cu := z53 k) (tys := [[0]]) (z52 k) ctx mixed Go.Proofs.Tryz.func112 (by kernel_rfl) (by kernel_rfl) (cutOK_of (l := []) (by kernel_rfl) trivial) fun x R h => by
    simp only [z55, S_l3Two, optK_bind, optK_bif, optK_pure, optK_none, optK_oc, optK_guardT, optK_map] at h
    refine hold_of h ?_
    kernel_rfl
def z58 (k : Nat) : Entry D := entS z54 (z55 k) z56
theorem z59 (k : Nat) : EntryOK X 112 (z58 k) := (z57 k).en rfl
def z5a : Plan := ⟨[(0, []), (1, [(0, some 9)])],
  [],
  []⟩
def z5b (k : Nat) : Calls' D := ⟨[], [], [], [], []⟩
theorem z5c (k : Nat) : CallsOK X (z5b k) := .nil cod
def z5d (k : Nat) : Cuts D := ⟨[], []⟩
def z5e : List Ar := []
def z5f (k : Nat) (x : TupA D z5e) : Option ((List (List UInt8))) := S_l3Months k 
def z5g (r : (List (List UInt8))) : VR D := .p (.c (.sl 9 r))
theorem z5h (k : Nat) : Does P X 168 z5e (z5f k) z5g :=
  does_of (body := bodyOf Go.Proofs.Tryz.f168) (pl := z5a) (k := k) (cu := z5d k) (tys := [[9]]) (z5c k) ctx mixed Go.Proofs.Tryz.func168 (by kernel_rfl) (by kernel_rfl) (cutOK_of (l := []) (by kernel_rfl) trivial) fun x R h => by
    simp only [z5f, S_l3Months, optK_bind, optK_bif, optK_pure, optK_none, optK_oc, optK_guardT, optK_map] at h
    refine hold_of h ?_
    kernel_rfl
def z5i (k : Nat) : Entry D := entS z5e (z5f k) z5g
theorem z5j (k : Nat) : EntryOK X 168 (z5i k) := (z5h k).en rfl
def z5k : Plan := ⟨[(0, [(0, none), (1, none)]), (1, [(0, none), (1, none), (5, some 9)]), (2, [(0, none), (1, none), (5, some 9), (6, none)]), (3, [(0, none), (1, none), (5, some 9), (6, none), (9, none)]), (4, [(0, none), (1, none), (5, some 9), (6, none)]), (5, [(0, none), (1, none), (5, some 9), (6, none), (32, none)]), (6, [(4, none)]), (7, [(4, none)])],
  [(0, []), (1, [(0, none), (1, none), (5, some 9), (6, none)])],
  [(9, ([(0, none), (1, none), (5, some 9), (6, none)], [])), (32, ([(6, none)], [(0, none), (1, none), (5, some 9), (6, none)]))]⟩
def z5l (k : Nat) : Calls' D := ⟨[(168, z5i k)], [], [], [], []⟩
theorem z5m (k : Nat) : CallsOK X (z5l k) := .cons (z5j k) (.nil cod)
def z5n (x : (List UInt8) × Int × Int × (List (List UInt8)) × Unit) (o : Oc (Unit) (Int)) (Q : Ex → VSt D → Prop) (R : VR D → Prop) : Prop := ocP o (fun v0 => Q .normal (mkSt ⟨[], []⟩ [])) (fun w0 => R (.p (.c (.int .i64 w0))))
def z5o (k : Nat) : Cut D := cutS ⟨[(0, .hole), (1, .hole), (5, .ref 500005), (6, .hole)], [(500005, .row)]⟩ [.ks, .ki .i64, .ki .i64, .kl 9] (fun (x : (List UInt8) × Int × Int × (List (List UInt8)) × Unit) => S_l3Month_b0 k k x.1 x.2.1 x.2.2.1 x.2.2.2.1) z5n
def z5p (k : Nat) : Cuts D := ⟨[], []⟩
theorem z5q (k : Nat) : CutFor X z5k k Go.Proofs.Tryz.f113.results.toList (z5o k) (sub (bodyOf Go.Proofs.Tryz.f113) [1, 1, 0, 1]) :=
  loopCut_s (X := X) (sg := [.ks, .ki .i64, .ki .i64, .kl 9]) (cu := z5p k) (cl := z5l k) (tys := [[0]]) (id := 0) (c := sub (bodyOf Go.Proofs.Tryz.f113) [1, 1, 0, 1, 0, 0]) (f := fun n => fun (x : (List UInt8) × Int × Int × (List (List UInt8)) × Unit) => S_l3Month_b0 k n x.1 x.2.1 x.2.2.1 x.2.2.2.1) (z5m k) (cutOK_of (l := []) (by kernel_rfl) trivial) (fun _ => rfl) (fun n x Q R h => by
    simp only [S_l3Month_b0, optK_bind, optK_bif, optK_pure, optK_none, optK_oc, optK_guardT, optK_map] at h
    refine hold_of h ?_
    kernel_rfl) (by kernel_rfl)
def z5r (k : Nat) : Cuts D := ⟨[(0, some (z5o k))], []⟩
def z5s : List Ar := [.c (.ks), .c (.ki .i64)]
def z5t (k : Nat) (x : TupA D z5s) : Option (Int) := S_l3Month k x.1 x.2.1
def z5u (r : Int) : VR D := .p (.c (.int .i64 r))
theorem z5v (k : Nat) : Does P X 113 z5s (z5t k) z5u :=
  does_of (body := bodyOf Go.Proofs.Tryz.f113) (pl := z5k) (k := k) (cu := z5r k) (tys := [[0]]) (z5m k) ctx mixed Go.Proofs.Tryz.func113 (by kernel_rfl) (by kernel_rfl) (cutOK_of (l := [(z5o k, sub (bodyOf Go.Proofs.Tryz.f113) [1, 1, 0, 1])]) (by kernel_rfl) ⟨z5q k, trivial⟩) fun x R h => by
    simp only [z5t, S_l3Month, optK_bind, optK_bif, optK_pure, optK_none, optK_oc, optK_guardT, optK_map] at h
    refine hold_of h ?_
    kernel_rfl
def z5w (k : Nat) : Entry D := entS z5s (z5t k) z5u
theorem z5x (k : Nat) : EntryOK X 113 (z5w k) := (z5v k).en rfl
def z5y : Plan := ⟨[(0, [(0, none), (1, none)]), (1, [(0, none), (1, none), (7, none)]), (2, [(4, none)]), (3, [(4, none)])],
  [],
  [(7, ([], [(0, none), (1, none)]))]⟩
def z5z (k : Nat) : Calls' D := ⟨[(78, z46 k)], [], [], [], []⟩
theorem z60 (k : Nat) : CallsOK X (z5z k) := .cons (z47 k) (.nil cod)
def z61 (k : Nat) : Cuts D := ⟨[], []⟩
def z62 : List Ar := [.c (.ki .i64), .c (.ki .i64)]
def z63 (k : Nat) (x : TupA D z62) : Option (Int) := S_Mod k x.1 x.2.1
def z64 (r : Int) : VR D := .p (.c (.int .i64 r))
theorem z65 (k : Nat) : Does P X 226 z62 (z63 k) z64 :=
  does_of (body := bodyOf Go.Proofs.Tryz.f226) (pl := z5y) (k := k) (cu := z61 k) (tys := [[0]]) (z60 k) ctx mixed Go.Proofs.Tryz.func226 (by kernel_rfl) (by kernel_rfl) (cutOK_of (l := []) (by kernel_rfl) trivial) fun x R h => by
    simp only [z63, S_Mod, optK_bind, optK_bif, optK_pure, optK_none, optK_oc, optK_guardT, optK_map] at h
    refine hold_of h ?_
    kernel_rfl
def z66 (k : Nat) : Entry D := entS z62 (z63 k) z64
theorem z67 (k : Nat) : EntryOK X 226 (z66 k) := (z65 k).en rfl
def z68 : Plan := ⟨[(0, [(0, none)]), (1, [(2, none)])],
  [],
  []⟩
def z69 (k : Nat) : Calls' D := ⟨[(226, z66 k)], [], [], [], []⟩
theorem z6a (k : Nat) : CallsOK X (z69 k) := .cons (z67 k) (.nil cod)
def z6b (k : Nat) : Cuts D := ⟨[], []⟩
def z6c : List Ar := [.c (.ki .i64)]
def z6d (k : Nat) (x : TupA D z6c) : Option (Bool) := S_IsLeap k x.1
def z6e (r : Bool) : VR D := .p (.c (.bool r))
theorem z6f (k : Nat) : Does P X 170 z6c (z6d k) z6e :=
  does_of (body := bodyOf Go.Proofs.Tryz.f170) (pl := z68) (k := k) (cu := z6b k) (tys := [[0]]) (z6a k) ctx mixed Go.Proofs.Tryz.func170 (by kernel_rfl) (by kernel_rfl) (cutOK_of (l := []) (by kernel_rfl) trivial) fun x R h => by
    simp only [z6d, S_IsLeap, optK_bind, optK_bif, optK_pure, optK_none, optK_oc, optK_guardT, optK_map] at h
    refine hold_of h ?_
    kernel_rfl
def z6g (k : Nat) : Entry D := entS z6c (z6d k) z6e
theorem z6h (k : Nat) : EntryOK X 170 (z6g k) := (z6f k).en rfl
def z6i : Plan := ⟨[(0, [(0, none), (1, none)]), (1, [(1, none), (10, none)]), (2, [(4, none)]), (3, [(4, none)])],
  [],
  [(10, ([], [(1, none)]))]⟩
def z6j (k : Nat) : Calls' D := ⟨[(170, z6g k)], [], [], [], []⟩
theorem z6k (k : Nat) : CallsOK X (z6j k) := .cons (z6h k) (.nil cod)
def z6l (k : Nat) : Cuts D := ⟨[], []⟩
def z6m : List Ar := [.c (.ki .i64), .c (.ki .i64)]
def z6n (k : Nat) (x : TupA D z6m) : Option (Int) := S_l3Long k x.1 x.2.1
def z6o (r : Int) : VR D := .p (.c (.int .i64 r))
theorem z6p (k : Nat) : Does P X 169 z6m (z6n k) z6o :=
  does_of (body := bodyOf Go.Proofs.Tryz.f169) (pl := z6i) (k := k) (cu := z6l k) (tys := [[0]]) (z6k k) ctx mixed Go.Proofs.Tryz.func169 (by kernel_rfl) (by kernel_rfl) (cutOK_of (l := []) (by kernel_rfl) trivial) fun x R h => by
    simp only [z6n, S_l3Long, optK_bind, optK_bif, optK_pure, optK_none, optK_oc, optK_guardT, optK_map] at h
    refine hold_of h ?_
    kernel_rfl
def z6q (k : Nat) : Entry D := entS z6m (z6n k) z6o
theorem z6r (k : Nat) : EntryOK X 169 (z6q k) := (z6p k).en rfl
def z6s : Plan := ⟨[(0, [(0, none), (1, none), (2, none)]), (1, [(0, none), (1, none), (2, none), (25, none)]), (2, [(6, none)]), (3, [(0, none), (1, none), (7, none)]), (4, [(0, none), (1, none), (7, none), (8, none)]), (5, [(0, none), (1, none), (7, none), (8, none), (30, none)]), (6, [(0, none), (1, none), (7, none), (8, none)]), (7, [(0, none), (1, none), (7, none), (8, none)]), (8, [(0, none), (1, none), (7, none), (8, none), (36, none)]), (9, [(0, none), (1, none), (7, none), (8, none)]), (10, [(0, none), (1, none), (7, none), (9, none)]), (11, [(0, none), (1, none), (7, none), (9, none), (41, none)]), (12, [(0, none), (1, none), (7, none), (9, none)]), (13, [(0, none), (1, none), (7, none), (9, none)]), (14, [(6, none)])],
  [(0, [(0, none), (1, none), (7, none)]), (1, [(0, none), (1, none), (7, none), (8, none)]), (2, [(7, none)]), (3, [(0, none), (1, none), (7, none), (9, none)])],
  [(25, ([], [(0, none), (1, none), (2, none)])), (30, ([(0, none), (1, none), (7, none), (8, none)], [(0, none), (1, none), (7, none)])), (36, ([(0, none), (1, none), (7, none), (8, none)], [(0, none), (1, none), (7, none), (8, none)])), (41, ([(0, none), (1, none), (7, none), (9, none)], [(7, none)]))]⟩
def z6t (k : Nat) : Calls' D := ⟨[(78, z46 k), (169, z6q k), (170, z6g k)], [], [], [], []⟩
theorem z6u (k : Nat) : CallsOK X (z6t k) := .cons (z47 k) (.cons (z6r k) (.cons (z6h k) (.nil cod)))
def z6v (x : Int × Int × Int × Int × Bool × Unit) (o : Int) (Q : Ex → VSt D → Prop) (R : VR D → Prop) : Prop := Q .normal (mkSt ⟨[(0, .hole), (1, .hole), (7, .hole), (8, .hole)], []⟩ [.int .i64 x.1, .int .i64 x.2.1, .int .i64 o, .int .i64 x.2.2.2.1])
def z6w (k : Nat) : Cut D := cutS ⟨[(0, .hole), (1, .hole), (7, .hole), (8, .hole), (36, .hole)], []⟩ [.ki .i64, .ki .i64, .ki .i64, .ki .i64, .kb] (fun (x : Int × Int × Int × Int × Bool × Unit) => S_DaysOf_c36 k x.1 x.2.1 x.2.2.1 x.2.2.2.1 x.2.2.2.2.1) z6v
def z6x (k : Nat) : Cuts D := ⟨[], []⟩
theorem z6y (k : Nat) : CutFor X z6s k Go.Proofs.Tryz.f114.results.toList (z6w k) (sub (bodyOf Go.Proofs.Tryz.f114) [1, 1, 1, 0, 1, 0, 0, 1, 0, 0, 1, 1]) :=
  joinCut_s (X := X) (sg := [.ki .i64, .ki .i64, .ki .i64, .ki .i64, .kb]) (cu := z6x k) (cl := z6t k) (tys := [[0]]) (z6u k) (cutOK_of (l := []) (by kernel_rfl) trivial) fun x Q R h => by
    simp only [S_DaysOf_c36, optK_bind, optK_bif, optK_pure, optK_none, optK_oc, optK_guardT, optK_map] at h
    refine hold_of h ?_
    kernel_rfl
def z6z (x : Int × Int × Int × Int × Unit) (o : Int) (Q : Ex → VSt D → Prop) (R : VR D → Prop) : Prop := Q .normal (mkSt ⟨[(0, .hole), (1, .hole), (7, .hole), (8, .hole)], []⟩ [.int .i64 x.1, .int .i64 x.2.1, .int .i64 o, .int .i64 x.2.2.2.1])
def z70 (k : Nat) : Cut D := cutS ⟨[(0, .hole), (1, .hole), (7, .hole), (8, .hole)], []⟩ [.ki .i64, .ki .i64, .ki .i64, .ki .i64] (fun (x : Int × Int × Int × Int × Unit) => S_DaysOf_b1 k x.1 x.2.1 x.2.2.1 x.2.2.2.1) z6z
def z71 (k : Nat) : Cuts D := ⟨[], [(36, some (z6w k))]⟩
theorem z72 (k : Nat) : CutFor X z6s k Go.Proofs.Tryz.f114.results.toList (z70 k) (sub (bodyOf Go.Proofs.Tryz.f114) [1, 1, 1, 0, 1, 0, 0, 1, 0]) :=
  joinCut_s (X := X) (sg := [.ki .i64, .ki .i64, .ki .i64, .ki .i64]) (cu := z71 k) (cl := z6t k) (tys := [[0]]) (z6u k) (cutOK_of (l := [(z6w k, sub (bodyOf Go.Proofs.Tryz.f114) [1, 1, 1, 0, 1, 0, 0, 1, 0, 0, 1, 1])]) (by kernel_rfl) ⟨z6y k, trivial⟩) fun x Q R h => by
    simp only [S_DaysOf_b1, optK_bind, optK_bif, optK_pure, optK_none, optK_oc, optK_guardT, optK_map] at h
    refine hold_of h ?_
    kernel_rfl
def z73 (x : Int × Int × Int × Int × Unit) (o : Int) (Q : Ex → VSt D → Prop) (R : VR D → Prop) : Prop := Q .normal (mkSt ⟨[(0, .hole), (1, .hole), (7, .hole)], []⟩ [.int .i64 x.1, .int .i64 x.2.1, .int .i64 o])
def z74 (k : Nat) : Cut D := cutS ⟨[(0, .hole), (1, .hole), (7, .hole), (8, .hole)], []⟩ [.ki .i64, .ki .i64, .ki .i64, .ki .i64] (fun (x : Int × Int × Int × Int × Unit) => S_DaysOf_b0 k k x.1 x.2.1 x.2.2.1 x.2.2.2.1) z73
def z75 (k : Nat) : Cuts D := ⟨[(1, some (z70 k))], []⟩
theorem z76 (k : Nat) : CutFor X z6s k Go.Proofs.Tryz.f114.results.toList (z74 k) (sub (bodyOf Go.Proofs.Tryz.f114) [1, 1, 1, 0, 1]) :=
  loopCut_s (X := X) (sg := [.ki .i64, .ki .i64, .ki .i64, .ki .i64]) (cu := z75 k) (cl := z6t k) (tys := [[0]]) (id := 0) (c := sub (bodyOf Go.Proofs.Tryz.f114) [1, 1, 1, 0, 1, 0, 0]) (f := fun n => fun (x : Int × Int × Int × Int × Unit) => S_DaysOf_b0 k n x.1 x.2.1 x.2.2.1 x.2.2.2.1) (z6u k) (cutOK_of (l := [(z70 k, sub (bodyOf Go.Proofs.Tryz.f114) [1, 1, 1, 0, 1, 0, 0, 1, 0])]) (by kernel_rfl) ⟨z72 k, trivial⟩) (fun _ => rfl) (fun n x Q R h => by
    simp only [S_DaysOf_b0, optK_bind, optK_bif, optK_pure, optK_none, optK_oc, optK_guardT, optK_map] at h
    refine hold_of h ?_
    kernel_rfl) (by kernel_rfl)
def z77 (x : Int × Int × Int × Int × Unit) (o : Int) (Q : Ex → VSt D → Prop) (R : VR D → Prop) : Prop := Q .normal (mkSt ⟨[(7, .hole)], []⟩ [.int .i64 o])
def z78 (k : Nat) : Cut D := cutS ⟨[(0, .hole), (1, .hole), (7, .hole), (9, .hole)], []⟩ [.ki .i64, .ki .i64, .ki .i64, .ki .i64] (fun (x : Int × Int × Int × Int × Unit) => S_DaysOf_b2 k k x.1 x.2.1 x.2.2.1 x.2.2.2.1) z77
def z79 (k : Nat) : Cuts D := ⟨[], []⟩
theorem z7a (k : Nat) : CutFor X z6s k Go.Proofs.Tryz.f114.results.toList (z78 k) (sub (bodyOf Go.Proofs.Tryz.f114) [1, 1, 1, 1, 0, 1]) :=
  loopCut_s (X := X) (sg := [.ki .i64, .ki .i64, .ki .i64, .ki .i64]) (cu := z79 k) (cl := z6t k) (tys := [[0]]) (id := 2) (c := sub (bodyOf Go.Proofs.Tryz.f114) [1, 1, 1, 1, 0, 1, 0, 0]) (f := fun n => fun (x : Int × Int × Int × Int × Unit) => S_DaysOf_b2 k n x.1 x.2.1 x.2.2.1 x.2.2.2.1) (z6u k) (cutOK_of (l := []) (by kernel_rfl) trivial) (fun _ => rfl) (fun n x Q R h => by
    simp only [S_DaysOf_b2, optK_bind, optK_bif, optK_pure, optK_none, optK_oc, optK_guardT, optK_map] at h
    refine hold_of h ?_
    kernel_rfl) (by kernel_rfl)
def z7b (k : Nat) : Cuts D := ⟨[(0, some (z74 k)), (2, some (z78 k))], []⟩
def z7c : List Ar := [.c (.ki .i64), .c (.ki .i64), .c (.ki .i64)]
def z7d (k : Nat) (x : TupA D z7c) : Option (Int) := S_DaysOf k x.1 x.2.1 x.2.2.1
def z7e (r : Int) : VR D := .p (.c (.int .i64 r))
theorem z7f (k : Nat) : Does P X 114 z7c (z7d k) z7e :=
  does_of (body := bodyOf Go.Proofs.Tryz.f114) (pl := z6s) (k := k) (cu := z7b k) (tys := [[0]]) (z6u k) ctx mixed Go.Proofs.Tryz.func114 (by kernel_rfl) (by kernel_rfl) (cutOK_of (l := [(z74 k, sub (bodyOf Go.Proofs.Tryz.f114) [1, 1, 1, 0, 1]), (z78 k, sub (bodyOf Go.Proofs.Tryz.f114) [1, 1, 1, 1, 0, 1])]) (by kernel_rfl) ⟨z76 k, z7a k, trivial⟩) fun x R h => by
    simp only [z7d, S_DaysOf, optK_bind, optK_bif, optK_pure, optK_none, optK_oc, optK_guardT, optK_map] at h
    refine hold_of h ?_
    kernel_rfl
def z7g (k : Nat) : Entry D := entS z7c (z7d k) z7e
theorem z7h (k : Nat) : EntryOK X 114 (z7g k) := (z7f k).en rfl
def z7i : Plan := ⟨[(0, [(0, none)]), (1, [(0, none), (10, none)]), (2, [(2, none), (3, none), (4, none)]), (3, [(0, none), (5, none)]), (4, [(0, none), (5, none), (6, none)]), (5, [(0, none), (5, none), (6, none), (12, none)]), (6, [(0, none), (5, none), (6, none)]), (7, [(0, none), (5, none), (6, none), (15, none)]), (8, [(0, none), (5, none)]), (9, [(0, none), (5, none)]), (10, [(0, none), (5, none), (7, none)]), (11, [(0, none), (5, none), (7, none), (25, none)]), (12, [(0, none), (5, none), (7, none)]), (13, [(0, none), (5, none), (7, none)]), (14, [(2, none), (3, none), (4, none)])],
  [(0, [(0, none), (5, none)]), (1, [(0, none), (5, none)]), (2, [(0, none), (5, none), (7, none)]), (3, [(0, none), (5, none), (7, none)])],
  [(10, ([], [(0, none)])), (12, ([(0, none), (5, none)], [(0, none), (5, none), (6, none)])), (15, ([(0, none), (5, none)], [(0, none), (5, none), (6, none)])), (25, ([(0, none), (5, none), (7, none)], [(0, none), (5, none), (7, none)]))]⟩
def z7j (k : Nat) : Calls' D := ⟨[(78, z46 k), (170, z6g k), (169, z6q k)], [], [], [], []⟩
theorem z7k (k : Nat) : CallsOK X (z7j k) := .cons (z47 k) (.cons (z6h k) (.cons (z6r k) (.nil cod)))
def z7l (x : Int × Int × Int × Bool × Unit) (o : Int) (Q : Ex → VSt D → Prop) (R : VR D → Prop) : Prop := Q .normal (mkSt ⟨[(0, .hole), (5, .hole), (6, .hole)], []⟩ [.int .i64 x.1, .int .i64 x.2.1, .int .i64 o])
def z7m (k : Nat) : Cut D := cutS ⟨[(0, .hole), (5, .hole), (6, .hole), (12, .hole)], []⟩ [.ki .i64, .ki .i64, .ki .i64, .kb] (fun (x : Int × Int × Int × Bool × Unit) => S_CivilOf_c12 k x.1 x.2.1 x.2.2.1 x.2.2.2.1) z7l
def z7n (k : Nat) : Cuts D := ⟨[], []⟩
theorem z7o (k : Nat) : CutFor X z7i k Go.Proofs.Tryz.f171.results.toList (z7m k) (sub (bodyOf Go.Proofs.Tryz.f171) [1, 1, 1, 0, 0, 0, 0, 1, 0, 1]) :=
  joinCut_s (X := X) (sg := [.ki .i64, .ki .i64, .ki .i64, .kb]) (cu := z7n k) (cl := z7j k) (tys := [[0], [0], [0]]) (z7k k) (cutOK_of (l := []) (by kernel_rfl) trivial) fun x Q R h => by
    simp only [S_CivilOf_c12, optK_bind, optK_bif, optK_pure, optK_none, optK_oc, optK_guardT, optK_map] at h
    refine hold_of h ?_
    kernel_rfl
def z7p (x : Int × Int × Unit) (o : Oc (Int × Int) (Unit)) (Q : Ex → VSt D → Prop) (R : VR D → Prop) : Prop := ocP o (fun v0 => Q .normal (mkSt ⟨[(0, .hole), (5, .hole)], []⟩ [.int .i64 v0.1, .int .i64 v0.2])) (fun w0 => Q (.exit 0) (mkSt ⟨[(0, .hole), (5, .hole)], []⟩ [.int .i64 x.1, .int .i64 x.2.1]))
def z7q (k : Nat) : Cut D := cutS ⟨[(0, .hole), (5, .hole)], []⟩ [.ki .i64, .ki .i64] (fun (x : Int × Int × Unit) => S_CivilOf_b1 k x.1 x.2.1) z7p
def z7r (k : Nat) : Cuts D := ⟨[], [(12, some (z7m k))]⟩
theorem z7s (k : Nat) : CutFor X z7i k Go.Proofs.Tryz.f171.results.toList (z7q k) (sub (bodyOf Go.Proofs.Tryz.f171) [1, 1, 1, 0, 0, 0]) :=
  joinCut_s (X := X) (sg := [.ki .i64, .ki .i64]) (cu := z7r k) (cl := z7j k) (tys := [[0], [0], [0]]) (z7k k) (cutOK_of (l := [(z7m k, sub (bodyOf Go.Proofs.Tryz.f171) [1, 1, 1, 0, 0, 0, 0, 1, 0, 1])]) (by kernel_rfl) ⟨z7o k, trivial⟩) fun x Q R h => by
    simp only [S_CivilOf_b1, optK_bind, optK_bif, optK_pure, optK_none, optK_oc, optK_guardT, optK_map] at h
    refine hold_of h ?_
    kernel_rfl
def z7t (x : Int × Int × Unit) (o : Int × Int) (Q : Ex → VSt D → Prop) (R : VR D → Prop) : Prop := Q .normal (mkSt ⟨[(0, .hole), (5, .hole)], []⟩ [.int .i64 o.1, .int .i64 o.2])
def z7u (k : Nat) : Cut D := cutS ⟨[(0, .hole), (5, .hole)], []⟩ [.ki .i64, .ki .i64] (fun (x : Int × Int × Unit) => S_CivilOf_b0 k k x.1 x.2.1) z7t
def z7v (k : Nat) : Cuts D := ⟨[(1, some (z7q k))], []⟩
theorem z7w (k : Nat) : CutFor X z7i k Go.Proofs.Tryz.f171.results.toList (z7u k) (sub (bodyOf Go.Proofs.Tryz.f171) [1, 1, 1, 0]) :=
  loopCut_s (X := X) (sg := [.ki .i64, .ki .i64]) (cu := z7v k) (cl := z7j k) (tys := [[0], [0], [0]]) (id := 0) (c := sub (bodyOf Go.Proofs.Tryz.f171) [1, 1, 1, 0, 0, 0]) (f := fun n => fun (x : Int × Int × Unit) => S_CivilOf_b0 k n x.1 x.2.1) (z7k k) (cutOK_of (l := [(z7q k, sub (bodyOf Go.Proofs.Tryz.f171) [1, 1, 1, 0, 0, 0])]) (by kernel_rfl) ⟨z7s k, trivial⟩) (fun _ => rfl) (fun n x Q R h => by
    simp only [S_CivilOf_b0, optK_bind, optK_bif, optK_pure, optK_none, optK_oc, optK_guardT, optK_map] at h
    refine hold_of h ?_
    kernel_rfl) (by kernel_rfl)
def z7x (x : Int × Int × Int × Unit) (o : Int × Int) (Q : Ex → VSt D → Prop) (R : VR D → Prop) : Prop := Q .normal (mkSt ⟨[(0, .hole), (5, .hole), (7, .hole)], []⟩ [.int .i64 o.1, .int .i64 x.2.1, .int .i64 o.2])
def z7y (k : Nat) : Cut D := cutS ⟨[(0, .hole), (5, .hole), (7, .hole)], []⟩ [.ki .i64, .ki .i64, .ki .i64] (fun (x : Int × Int × Int × Unit) => S_CivilOf_b2 k k x.1 x.2.1 x.2.2.1) z7x
def z7z (k : Nat) : Cuts D := ⟨[], []⟩
theorem z80 (k : Nat) : CutFor X z7i k Go.Proofs.Tryz.f171.results.toList (z7y k) (sub (bodyOf Go.Proofs.Tryz.f171) [1, 1, 1, 1, 1, 0]) :=
  loopCut_s (X := X) (sg := [.ki .i64, .ki .i64, .ki .i64]) (cu := z7z k) (cl := z7j k) (tys := [[0], [0], [0]]) (id := 2) (c := sub (bodyOf Go.Proofs.Tryz.f171) [1, 1, 1, 1, 1, 0, 0, 0]) (f := fun n => fun (x : Int × Int × Int × Unit) => S_CivilOf_b2 k n x.1 x.2.1 x.2.2.1) (z7k k) (cutOK_of (l := []) (by kernel_rfl) trivial) (fun _ => rfl) (fun n x Q R h => by
    simp only [S_CivilOf_b2, optK_bind, optK_bif, optK_pure, optK_none, optK_oc, optK_guardT, optK_map] at h
    refine hold_of h ?_
    kernel_rfl) (by kernel_rfl)
def z81 (k : Nat) : Cuts D := ⟨[(0, some (z7u k)), (2, some (z7y k))], []⟩
def z82 : List Ar := [.c (.ki .i64)]
def z83 (k : Nat) (x : TupA D z82) : Option (Int × Int × Int) := S_CivilOf k x.1
def z84 (r : Int × Int × Int) : VR D := .tup [.c (.int .i64 r.1), .c (.int .i64 r.2.1), .c (.int .i64 r.2.2)]
theorem z85 (k : Nat) : Does P X 171 z82 (z83 k) z84 :=
  does_of (body := bodyOf Go.Proofs.Tryz.f171) (pl := z7i) (k := k) (cu := z81 k) (tys := [[0], [0], [0]]) (z7k k) ctx mixed Go.Proofs.Tryz.func171 (by kernel_rfl) (by kernel_rfl) (cutOK_of (l := [(z7u k, sub (bodyOf Go.Proofs.Tryz.f171) [1, 1, 1, 0]), (z7y k, sub (bodyOf Go.Proofs.Tryz.f171) [1, 1, 1, 1, 1, 0])]) (by kernel_rfl) ⟨z7w k, z80 k, trivial⟩) fun x R h => by
    simp only [z83, S_CivilOf, optK_bind, optK_bif, optK_pure, optK_none, optK_oc, optK_guardT, optK_map] at h
    refine hold_of h ?_
    kernel_rfl
def z86 (k : Nat) : Entry D := entS z82 (z83 k) z84
theorem z87 (k : Nat) : EntryOK X 171 (z86 k) := (z85 k).en rfl
def z88 : Plan := ⟨[(0, []), (1, [(0, some 9)])],
  [],
  []⟩
def z89 (k : Nat) : Calls' D := ⟨[], [], [], [], []⟩
theorem z8a (k : Nat) : CallsOK X (z89 k) := .nil cod
def z8b (k : Nat) : Cuts D := ⟨[], []⟩
def z8c : List Ar := []
def z8d (k : Nat) (x : TupA D z8c) : Option ((List (List UInt8))) := S_l3Days k 
def z8e (r : (List (List UInt8))) : VR D := .p (.c (.sl 9 r))
theorem z8f (k : Nat) : Does P X 172 z8c (z8d k) z8e :=
  does_of (body := bodyOf Go.Proofs.Tryz.f172) (pl := z88) (k := k) (cu := z8b k) (tys := [[9]]) (z8a k) ctx mixed Go.Proofs.Tryz.func172 (by kernel_rfl) (by kernel_rfl) (cutOK_of (l := []) (by kernel_rfl) trivial) fun x R h => by
    simp only [z8d, S_l3Days, optK_bind, optK_bif, optK_pure, optK_none, optK_oc, optK_guardT, optK_map] at h
    refine hold_of h ?_
    kernel_rfl
def z8g (k : Nat) : Entry D := entS z8c (z8d k) z8e
theorem z8h (k : Nat) : EntryOK X 172 (z8g k) := (z8f k).en rfl
def z8i : Plan := ⟨[(0, [(0, none)]), (1, [(2, none)])],
  [],
  []⟩
def z8j (k : Nat) : Calls' D := ⟨[(226, z66 k)], [], [], [], []⟩
theorem z8k (k : Nat) : CallsOK X (z8j k) := .cons (z67 k) (.nil cod)
def z8l (k : Nat) : Cuts D := ⟨[], []⟩
def z8m : List Ar := [.c (.ki .i64)]
def z8n (k : Nat) (x : TupA D z8m) : Option (Int) := S_WeekdayOf k x.1
def z8o (r : Int) : VR D := .p (.c (.int .i64 r))
theorem z8p (k : Nat) : Does P X 173 z8m (z8n k) z8o :=
  does_of (body := bodyOf Go.Proofs.Tryz.f173) (pl := z8i) (k := k) (cu := z8l k) (tys := [[0]]) (z8k k) ctx mixed Go.Proofs.Tryz.func173 (by kernel_rfl) (by kernel_rfl) (cutOK_of (l := []) (by kernel_rfl) trivial) fun x R h => by
    simp only [z8n, S_WeekdayOf, optK_bind, optK_bif, optK_pure, optK_none, optK_oc, optK_guardT, optK_map] at h
    refine hold_of h ?_
    kernel_rfl
def z8q (k : Nat) : Entry D := entS z8m (z8n k) z8o
theorem z8r (k : Nat) : EntryOK X 173 (z8q k) := (z8p k).en rfl
def z8s : Plan := ⟨[(0, [(0, none), (1, none)]), (1, [(0, none), (1, none), (7, none)]), (2, [(4, none)]), (3, [(4, none)])],
  [],
  [(7, ([(1, none)], [(0, none)]))]⟩
def z8t (k : Nat) : Calls' D := ⟨[], [], [], [], []⟩
theorem z8u (k : Nat) : CallsOK X (z8t k) := .nil cod
def z8v (k : Nat) : Cuts D := ⟨[], []⟩
def z8w : List Ar := [.c (.ki .i64), .c (.ki .i64)]
def z8x (k : Nat) (x : TupA D z8w) : Option (Int) := S_Max k x.1 x.2.1
def z8y (r : Int) : VR D := .p (.c (.int .i64 r))
theorem z8z (k : Nat) : Does P X 48 z8w (z8x k) z8y :=
  does_of (body := bodyOf Go.Proofs.Tryz.f48) (pl := z8s) (k := k) (cu := z8v k) (tys := [[0]]) (z8u k) ctx mixed Go.Proofs.Tryz.func48 (by kernel_rfl) (by kernel_rfl) (cutOK_of (l := []) (by kernel_rfl) trivial) fun x R h => by
    simp only [z8x, S_Max, optK_bind, optK_bif, optK_pure, optK_none, optK_oc, optK_guardT, optK_map] at h
    refine hold_of h ?_
    kernel_rfl
def z90 (k : Nat) : Entry D := entS z8w (z8x k) z8y
theorem z91 (k : Nat) : EntryOK X 48 (z90 k) := (z8z k).en rfl
def z92 : Plan := ⟨[(0, [(0, none)]), (1, [(0, none), (7, none)]), (2, [(2, none)]), (3, [(0, none), (3, none)]), (4, [(0, none), (3, none), (4, none)]), (5, [(0, none), (3, none), (4, none), (10, none)]), (6, [(0, none), (3, none), (4, none)]), (7, [(0, none), (3, none), (4, none), (5, none)]), (8, [(0, none), (3, none), (4, none), (5, none), (16, none)]), (9, [(0, none), (3, none), (4, none), (5, none)]), (10, [(0, none), (3, none), (4, none)]), (11, [(3, none), (27, none)]), (12, [(2, none)]), (13, [(2, none)])],
  [(0, [(0, none), (3, none)]), (1, [(0, none), (3, none), (4, none)])],
  [(7, ([], [(0, none)])), (10, ([(0, none), (3, none), (4, none)], [(0, none), (3, none)])), (16, ([(0, none), (3, none), (4, none), (5, none)], [(0, none), (3, none), (4, none), (5, none)])), (27, ([(3, none)], [(3, none)]))]⟩
def z93 (k : Nat) : Calls' D := ⟨[], [], [], [], []⟩
theorem z94 (k : Nat) : CallsOK X (z93 k) := .nil cod
def z95 (x : Int × (List UInt8) × Int × Int × Bool × Unit) (o : Int) (Q : Ex → VSt D → Prop) (R : VR D → Prop) : Prop := Q .normal (mkSt ⟨[(0, .hole), (3, .hole), (4, .hole), (5, .hole)], []⟩ [.int .i64 x.1, .str x.2.1, .int .i64 x.2.2.1, .int .i64 o])
def z96 (k : Nat) : Cut D := cutS ⟨[(0, .hole), (3, .hole), (4, .hole), (5, .hole), (16, .hole)], []⟩ [.ki .i64, .ks, .ki .i64, .ki .i64, .kb] (fun (x : Int × (List UInt8) × Int × Int × Bool × Unit) => S_FormatInt_c16 k x.1 x.2.1 x.2.2.1 x.2.2.2.1 x.2.2.2.2.1) z95
def z97 (k : Nat) : Cuts D := ⟨[], []⟩
theorem z98 (k : Nat) : CutFor X z92 k Go.Proofs.Tryz.f167.results.toList (z96 k) (sub (bodyOf Go.Proofs.Tryz.f167) [1, 1, 1, 0, 1, 0, 0, 1, 0, 0, 1, 0, 1]) :=
  joinCut_s (X := X) (sg := [.ki .i64, .ks, .ki .i64, .ki .i64, .kb]) (cu := z97 k) (cl := z93 k) (tys := [[0]]) (z94 k) (cutOK_of (l := []) (by kernel_rfl) trivial) fun x Q R h => by
    simp only [S_FormatInt_c16, optK_bind, optK_bif, optK_pure, optK_none, optK_oc, optK_guardT, optK_map] at h
    refine hold_of h ?_
    kernel_rfl
def z99 (x : Int × (List UInt8) × Int × Unit) (o : (List UInt8)) (Q : Ex → VSt D → Prop) (R : VR D → Prop) : Prop := Q .normal (mkSt ⟨[(0, .hole), (3, .hole), (4, .hole)], []⟩ [.int .i64 x.1, .str o, .int .i64 x.2.2.1])
def z9a (k : Nat) : Cut D := cutS ⟨[(0, .hole), (3, .hole), (4, .hole)], []⟩ [.ki .i64, .ks, .ki .i64] (fun (x : Int × (List UInt8) × Int × Unit) => S_FormatInt_b1 k x.1 x.2.1 x.2.2.1) z99
def z9b (k : Nat) : Cuts D := ⟨[], [(16, some (z96 k))]⟩
theorem z9c (k : Nat) : CutFor X z92 k Go.Proofs.Tryz.f167.results.toList (z9a k) (sub (bodyOf Go.Proofs.Tryz.f167) [1, 1, 1, 0, 1, 0, 0, 1, 0]) :=
  joinCut_s (X := X) (sg := [.ki .i64, .ks, .ki .i64]) (cu := z9b k) (cl := z93 k) (tys := [[0]]) (z94 k) (cutOK_of (l := [(z96 k, sub (bodyOf Go.Proofs.Tryz.f167) [1, 1, 1, 0, 1, 0, 0, 1, 0, 0, 1, 0, 1])]) (by kernel_rfl) ⟨z98 k, trivial⟩) fun x Q R h => by
    simp only [S_FormatInt_b1, optK_bind, optK_bif, optK_pure, optK_none, optK_oc, optK_guardT, optK_map] at h
    refine hold_of h ?_
    kernel_rfl
def z9d (x : Int × (List UInt8) × Int × Unit) (o : (List UInt8)) (Q : Ex → VSt D → Prop) (R : VR D → Prop) : Prop := Q .normal (mkSt ⟨[(0, .hole), (3, .hole)], []⟩ [.int .i64 x.1, .str o])
def z9e (k : Nat) : Cut D := cutS ⟨[(0, .hole), (3, .hole), (4, .hole)], []⟩ [.ki .i64, .ks, .ki .i64] (fun (x : Int × (List UInt8) × Int × Unit) => S_FormatInt_b0 k k x.1 x.2.1 x.2.2.1) z9d
def z9f (k : Nat) : Cuts D := ⟨[(1, some (z9a k))], []⟩
theorem z9g (k : Nat) : CutFor X z92 k Go.Proofs.Tryz.f167.results.toList (z9e k) (sub (bodyOf Go.Proofs.Tryz.f167) [1, 1, 1, 0, 1]) :=
  loopCut_s (X := X) (sg := [.ki .i64, .ks, .ki .i64]) (cu := z9f k) (cl := z93 k) (tys := [[0]]) (id := 0) (c := sub (bodyOf Go.Proofs.Tryz.f167) [1, 1, 1, 0, 1, 0, 0]) (f := fun n => fun (x : Int × (List UInt8) × Int × Unit) => S_FormatInt_b0 k n x.1 x.2.1 x.2.2.1) (z94 k) (cutOK_of (l := [(z9a k, sub (bodyOf Go.Proofs.Tryz.f167) [1, 1, 1, 0, 1, 0, 0, 1, 0])]) (by kernel_rfl) ⟨z9c k, trivial⟩) (fun _ => rfl) (fun n x Q R h => by
    simp only [S_FormatInt_b0, optK_bind, optK_bif, optK_pure, optK_none, optK_oc, optK_guardT, optK_map] at h
    refine hold_of h ?_
    kernel_rfl) (by kernel_rfl)
def z9h (k : Nat) : Cuts D := ⟨[(0, some (z9e k))], []⟩
def z9i : List Ar := [.c (.ki .i64)]
def z9j (k : Nat) (x : TupA D z9i) : Option ((List UInt8)) := S_FormatInt k x.1
def z9k (r : (List UInt8)) : VR D := .p (.c (.str r))
theorem z9l (k : Nat) : Does P X 167 z9i (z9j k) z9k :=
  does_of (body := bodyOf Go.Proofs.Tryz.f167) (pl := z92) (k := k) (cu := z9h k) (tys := [[0]]) (z94 k) ctx mixed Go.Proofs.Tryz.func167 (by kernel_rfl) (by kernel_rfl) (cutOK_of (l := [(z9e k, sub (bodyOf Go.Proofs.Tryz.f167) [1, 1, 1, 0, 1])]) (by kernel_rfl) ⟨z9g k, trivial⟩) fun x R h => by
    simp only [z9j, S_FormatInt, optK_bind, optK_bif, optK_pure, optK_none, optK_oc, optK_guardT, optK_map] at h
    refine hold_of h ?_
    kernel_rfl
def z9m (k : Nat) : Entry D := entS z9i (z9j k) z9k
theorem z9n (k : Nat) : EntryOK X 167 (z9m k) := (z9l k).en rfl
def z9o : Plan := ⟨[(0, [(0, none), (1, none)]), (1, [(1, none), (5, none)]), (2, [(1, none), (5, none), (17, none)]), (3, [(1, none), (5, none)]), (4, [(4, none)])],
  [(0, [(5, none)]), (1, [(1, none), (5, none)])],
  [(17, ([(1, none), (5, none)], [(5, none)]))]⟩
def z9p (k : Nat) : Calls' D := ⟨[(48, z90 k), (167, z9m k)], [], [], [], []⟩
theorem z9q (k : Nat) : CallsOK X (z9p k) := .cons (z91 k) (.cons (z9n k) (.nil cod))
def z9r (x : Int × (List UInt8) × Unit) (o : (List UInt8)) (Q : Ex → VSt D → Prop) (R : VR D → Prop) : Prop := Q .normal (mkSt ⟨[(5, .hole)], []⟩ [.str o])
def z9s (k : Nat) : Cut D := cutS ⟨[(1, .hole), (5, .hole)], []⟩ [.ki .i64, .ks] (fun (x : Int × (List UInt8) × Unit) => S_Digits_b0 k k x.1 x.2.1) z9r
def z9t (k : Nat) : Cuts D := ⟨[], []⟩
theorem z9u (k : Nat) : CutFor X z9o k Go.Proofs.Tryz.f174.results.toList (z9s k) (sub (bodyOf Go.Proofs.Tryz.f174) [1, 1, 0]) :=
  loopCut_s (X := X) (sg := [.ki .i64, .ks]) (cu := z9t k) (cl := z9p k) (tys := [[0]]) (id := 0) (c := sub (bodyOf Go.Proofs.Tryz.f174) [1, 1, 0, 0, 0]) (f := fun n => fun (x : Int × (List UInt8) × Unit) => S_Digits_b0 k n x.1 x.2.1) (z9q k) (cutOK_of (l := []) (by kernel_rfl) trivial) (fun _ => rfl) (fun n x Q R h => by
    simp only [S_Digits_b0, optK_bind, optK_bif, optK_pure, optK_none, optK_oc, optK_guardT, optK_map] at h
    refine hold_of h ?_
    kernel_rfl) (by kernel_rfl)
def z9v (k : Nat) : Cuts D := ⟨[(0, some (z9s k))], []⟩
def z9w : List Ar := [.c (.ki .i64), .c (.ki .i64)]
def z9x (k : Nat) (x : TupA D z9w) : Option ((List UInt8)) := S_Digits k x.1 x.2.1
def z9y (r : (List UInt8)) : VR D := .p (.c (.str r))
theorem z9z (k : Nat) : Does P X 174 z9w (z9x k) z9y :=
  does_of (body := bodyOf Go.Proofs.Tryz.f174) (pl := z9o) (k := k) (cu := z9v k) (tys := [[0]]) (z9q k) ctx mixed Go.Proofs.Tryz.func174 (by kernel_rfl) (by kernel_rfl) (cutOK_of (l := [(z9s k, sub (bodyOf Go.Proofs.Tryz.f174) [1, 1, 0])]) (by kernel_rfl) ⟨z9u k, trivial⟩) fun x R h => by
    simp only [z9x, S_Digits, optK_bind, optK_bif, optK_pure, optK_none, optK_oc, optK_guardT, optK_map] at h
    refine hold_of h ?_
    kernel_rfl
def za0 (k : Nat) : Entry D := entS z9w (z9x k) z9y
theorem za1 (k : Nat) : EntryOK X 174 (za0 k) := (z9z k).en rfl
def za2 : Plan := ⟨[(0, [(0, none)]), (1, [(3, none)]), (2, [(2, none)])],
  [],
  []⟩
def za3 (k : Nat) : Calls' D := ⟨[(174, za0 k)], [], [], [], []⟩
theorem za4 (k : Nat) : CallsOK X (za3 k) := .cons (za1 k) (.nil cod)
def za5 (k : Nat) : Cuts D := ⟨[], []⟩
def za6 : List Ar := [.c (.ki .i64)]
def za7 (k : Nat) (x : TupA D za6) : Option ((List UInt8)) := S_l3Clock k x.1
def za8 (r : (List UInt8)) : VR D := .p (.c (.str r))
theorem za9 (k : Nat) : Does P X 175 za6 (za7 k) za8 :=
  does_of (body := bodyOf Go.Proofs.Tryz.f175) (pl := za2) (k := k) (cu := za5 k) (tys := [[0]]) (za4 k) ctx mixed Go.Proofs.Tryz.func175 (by kernel_rfl) (by kernel_rfl) (cutOK_of (l := []) (by kernel_rfl) trivial) fun x R h => by
    simp only [za7, S_l3Clock, optK_bind, optK_bif, optK_pure, optK_none, optK_oc, optK_guardT, optK_map] at h
    refine hold_of h ?_
    kernel_rfl
def zaa (k : Nat) : Entry D := entS za6 (za7 k) za8
theorem zab (k : Nat) : EntryOK X 175 (zaa k) := (za9 k).en rfl
def zac : Plan := ⟨[(0, [(0, none)]), (1, [(0, none), (3, none), (4, none), (5, none)]), (2, [(0, none), (3, none), (4, none), (5, none), (6, none)]), (3, [(0, none), (3, none), (5, none), (6, none), (7, none)]), (4, [(0, none), (3, none), (5, none), (6, none), (7, none), (8, none)]), (5, [(0, none), (3, none), (5, none), (6, none), (7, none), (8, none), (9, none)]), (6, [(0, none), (3, none), (5, none), (6, none), (7, none), (8, none), (9, none), (10, none)]), (7, [(0, none), (3, none), (5, none), (6, none), (7, none), (8, none), (9, none), (10, none), (69, none)]), (8, [(0, none), (3, none), (6, none), (7, none), (8, none), (9, none), (10, none)]), (9, [(8, none), (9, none), (11, none)]), (10, [(2, some 9)])],
  [],
  [(69, ([(0, none), (3, none), (5, none), (6, none), (7, none), (8, none), (9, none)], [(0, none), (3, none), (6, none), (7, none), (8, none), (9, none), (10, none)]))]⟩
def zad (k : Nat) : Calls' D := ⟨[(171, z86 k), (172, z8g k), (173, z8q k), (168, z5i k), (174, za0 k), (175, zaa k), (167, z9m k)], [], [], [], []⟩
theorem zae (k : Nat) : CallsOK X (zad k) := .cons (z87 k) (.cons (z8h k) (.cons (z8r k) (.cons (z5j k) (.cons (za1 k) (.cons (zab k) (.cons (z9n k) (.nil cod)))))))
def zaf (x : Int × Int × Int × (List UInt8) × (List UInt8) × (List UInt8) × (List UInt8) × (List UInt8) × Bool × Unit) (o : (List UInt8)) (Q : Ex → VSt D → Prop) (R : VR D → Prop) : Prop := Q .normal (mkSt ⟨[(0, .hole), (3, .hole), (6, .hole), (7, .hole), (8, .hole), (9, .hole), (10, .hole)], []⟩ [.int .i64 x.1, .int .i64 x.2.1, .str x.2.2.2.1, .str x.2.2.2.2.1, .str x.2.2.2.2.2.1, .str x.2.2.2.2.2.2.1, .str o])
def zag (k : Nat) : Cut D := cutS ⟨[(0, .hole), (3, .hole), (5, .hole), (6, .hole), (7, .hole), (8, .hole), (9, .hole), (10, .hole), (69, .hole)], []⟩ [.ki .i64, .ki .i64, .ki .i64, .ks, .ks, .ks, .ks, .ks, .kb] (fun (x : Int × Int × Int × (List UInt8) × (List UInt8) × (List UInt8) × (List UInt8) × (List UInt8) × Bool × Unit) => S_l3Forms_c69 k x.1 x.2.1 x.2.2.1 x.2.2.2.1 x.2.2.2.2.1 x.2.2.2.2.2.1 x.2.2.2.2.2.2.1 x.2.2.2.2.2.2.2.1 x.2.2.2.2.2.2.2.2.1) zaf
def zah (k : Nat) : Cuts D := ⟨[], []⟩
theorem zai (k : Nat) : CutFor X zac k Go.Proofs.Tryz.f115.results.toList (zag k) (sub (bodyOf Go.Proofs.Tryz.f115) [1, 1, 1, 1, 1, 1, 1, 0, 1]) :=
  joinCut_s (X := X) (sg := [.ki .i64, .ki .i64, .ki .i64, .ks, .ks, .ks, .ks, .ks, .kb]) (cu := zah k) (cl := zad k) (tys := [[9]]) (zae k) (cutOK_of (l := []) (by kernel_rfl) trivial) fun x Q R h => by
    simp only [S_l3Forms_c69, optK_bind, optK_bif, optK_pure, optK_none, optK_oc, optK_guardT, optK_map] at h
    refine hold_of h ?_
    kernel_rfl
def zaj (k : Nat) : Cuts D := ⟨[], [(69, some (zag k))]⟩
def zak : List Ar := [.c (.ki .i64)]
def zal (k : Nat) (x : TupA D zak) : Option ((List (List UInt8))) := S_l3Forms k x.1
def zam (r : (List (List UInt8))) : VR D := .p (.c (.sl 9 r))
theorem zan (k : Nat) : Does P X 115 zak (zal k) zam :=
  does_of (body := bodyOf Go.Proofs.Tryz.f115) (pl := zac) (k := k) (cu := zaj k) (tys := [[9]]) (zae k) ctx mixed Go.Proofs.Tryz.func115 (by kernel_rfl) (by kernel_rfl) (cutOK_of (l := [(zag k, sub (bodyOf Go.Proofs.Tryz.f115) [1, 1, 1, 1, 1, 1, 1, 0, 1])]) (by kernel_rfl) ⟨zai k, trivial⟩) fun x R h => by
    simp only [zal, S_l3Forms, optK_bind, optK_bif, optK_pure, optK_none, optK_oc, optK_guardT, optK_map] at h
    refine hold_of h ?_
    kernel_rfl
def zao (k : Nat) : Entry D := entS zak (zal k) zam
theorem zap (k : Nat) : EntryOK X 115 (zao k) := (zan k).en rfl
def zaq : Plan := ⟨[(0, [(0, none)]), (1, [(0, none), (4, none)]), (2, [(0, none), (4, none), (5, none), (6, none), (7, none), (8, none)]), (3, [(0, none), (4, none), (5, none), (6, none), (7, none), (8, none), (15, none)]), (4, [(0, none), (5, none)]), (5, [(0, none), (5, none), (6, none)]), (6, [(0, none), (5, none), (6, none), (7, none)]), (7, [(0, none), (5, none), (6, none), (7, none), (8, none)]), (8, [(0, none), (4, none), (5, none), (6, none), (7, none), (8, none), (28, none)]), (9, [(0, none), (5, none)]), (10, [(0, none), (5, none), (6, none)]), (11, [(0, none), (5, none), (6, none), (7, none)]), (12, [(0, none), (5, none), (6, none), (7, none), (43, none)]), (13, [(0, none), (5, none), (6, none), (7, none)]), (14, [(0, none), (5, none), (6, none), (7, none), (8, none)]), (15, [(0, none), (4, none), (5, none), (6, none), (7, none), (8, none), (48, none)]), (16, [(0, none), (4, none), (5, none)]), (17, [(0, none), (4, none), (5, none), (57, none)]), (18, [(0, none), (4, none), (5, none)]), (19, [(0, none), (4, none), (5, none), (6, none)]), (20, [(0, none), (4, none), (5, none), (6, none), (7, none)]), (21, [(0, none), (5, none), (6, none), (7, none), (8, none)]), (22, [(0, none), (8, none), (9, none)]), (23, [(0, none), (8, none), (9, none), (75, none)]), (24, [(2, none), (3, none)]), (25, [(0, none), (10, none)]), (26, [(0, none), (10, none), (96, none)]), (27, [(2, none), (3, none)]), (28, [(0, none), (10, none), (11, some 9)]), (29, [(0, none), (10, none), (11, some 9), (12, none)]), (30, [(0, none), (10, none), (11, some 9), (12, none), (102, none)]), (31, [(0, none), (10, none), (11, some 9), (12, none)]), (32, [(0, none), (10, none), (11, some 9), (12, none), (110, none)]), (33, [(2, none), (3, none)]), (34, [(2, none), (3, none)])],
  [(0, [(0, none), (5, none), (6, none), (7, none), (8, none)]), (1, []), (2, [(0, none), (10, none), (11, some 9), (12, none)])],
  [(15, ([(0, none)], [(0, none), (4, none), (5, none), (6, none), (7, none), (8, none)])), (28, ([(0, none)], [(0, none), (4, none), (5, none), (6, none), (7, none), (8, none)])), (43, ([(0, none), (5, none), (6, none)], [(0, none), (5, none), (6, none), (7, none)])), (48, ([(0, none), (4, none)], [(0, none), (5, none), (6, none), (7, none), (8, none)])), (57, ([(0, none), (4, none), (5, none)], [(0, none), (4, none), (5, none)])), (75, ([], [(0, none), (8, none), (9, none)])), (96, ([], [(0, none), (10, none)])), (102, ([(0, none), (10, none), (11, some 9), (12, none)], [])), (110, ([(10, none)], [(0, none), (10, none), (11, some 9), (12, none)]))]⟩
def zar (k : Nat) : Calls' D := ⟨[(112, z58 k), (113, z5w k), (78, z46 k), (114, z7g k), (115, zao k)], [], [], [], []⟩
theorem zas (k : Nat) : CallsOK X (zar k) := .cons (z59 k) (.cons (z5x k) (.cons (z47 k) (.cons (z7h k) (.cons (zap k) (.nil cod)))))
def zat (x : (List UInt8) × Int × Int × Int × Bool × Unit) (o : Int) (Q : Ex → VSt D → Prop) (R : VR D → Prop) : Prop := Q .normal (mkSt ⟨[(0, .hole), (5, .hole), (6, .hole), (7, .hole)], []⟩ [.str x.1, .int .i64 x.2.1, .int .i64 x.2.2.1, .int .i64 o])
def zau (k : Nat) : Cut D := cutS ⟨[(0, .hole), (5, .hole), (6, .hole), (7, .hole), (43, .hole)], []⟩ [.ks, .ki .i64, .ki .i64, .ki .i64, .kb] (fun (x : (List UInt8) × Int × Int × Int × Bool × Unit) => S_ParseDate_c43 k x.1 x.2.1 x.2.2.1 x.2.2.2.1 x.2.2.2.2.1) zat
def zav (k : Nat) : Cuts D := ⟨[], []⟩
theorem zaw (k : Nat) : CutFor X zaq k Go.Proofs.Tryz.f49.results.toList (zau k) (sub (bodyOf Go.Proofs.Tryz.f49) [1, 1, 1, 0, 0, 1, 1, 1, 0, 1, 1, 1, 0, 1]) :=
  joinCut_s (X := X) (sg := [.ks, .ki .i64, .ki .i64, .ki .i64, .kb]) (cu := zav k) (cl := zar k) (tys := [[0], [0]]) (zas k) (cutOK_of (l := []) (by kernel_rfl) trivial) fun x Q R h => by
    simp only [S_ParseDate_c43, optK_bind, optK_bif, optK_pure, optK_none, optK_oc, optK_guardT, optK_map] at h
    refine hold_of h ?_
    kernel_rfl
def zax (x : (List UInt8) × Int × Int × Bool × Unit) (o : Int) (Q : Ex → VSt D → Prop) (R : VR D → Prop) : Prop := Q .normal (mkSt ⟨[(0, .hole), (4, .hole), (5, .hole)], []⟩ [.str x.1, .int .i64 x.2.1, .int .i64 o])
def zay (k : Nat) : Cut D := cutS ⟨[(0, .hole), (4, .hole), (5, .hole), (57, .hole)], []⟩ [.ks, .ki .i64, .ki .i64, .kb] (fun (x : (List UInt8) × Int × Int × Bool × Unit) => S_ParseDate_c57 k x.1 x.2.1 x.2.2.1 x.2.2.2.1) zax
def zaz (k : Nat) : Cuts D := ⟨[], []⟩
theorem zb0 (k : Nat) : CutFor X zaq k Go.Proofs.Tryz.f49.results.toList (zay k) (sub (bodyOf Go.Proofs.Tryz.f49) [1, 1, 1, 0, 0, 1, 1, 1, 1, 1, 0, 1, 0, 1]) :=
  joinCut_s (X := X) (sg := [.ks, .ki .i64, .ki .i64, .kb]) (cu := zaz k) (cl := zar k) (tys := [[0], [0]]) (zas k) (cutOK_of (l := []) (by kernel_rfl) trivial) fun x Q R h => by
    simp only [S_ParseDate_c57, optK_bind, optK_bif, optK_pure, optK_none, optK_oc, optK_guardT, optK_map] at h
    refine hold_of h ?_
    kernel_rfl
def zb1 (x : (List UInt8) × Int × Int × Int × Int × Int × Bool × Unit) (o : Int × Int × Int × Int) (Q : Ex → VSt D → Prop) (R : VR D → Prop) : Prop := Q .normal (mkSt ⟨[(0, .hole), (5, .hole), (6, .hole), (7, .hole), (8, .hole)], []⟩ [.str x.1, .int .i64 o.1, .int .i64 o.2.1, .int .i64 o.2.2.1, .int .i64 o.2.2.2])
def zb2 (k : Nat) : Cut D := cutS ⟨[(0, .hole), (4, .hole), (5, .hole), (6, .hole), (7, .hole), (8, .hole), (48, .hole)], []⟩ [.ks, .ki .i64, .ki .i64, .ki .i64, .ki .i64, .ki .i64, .kb] (fun (x : (List UInt8) × Int × Int × Int × Int × Int × Bool × Unit) => S_ParseDate_c48 k x.1 x.2.1 x.2.2.1 x.2.2.2.1 x.2.2.2.2.1 x.2.2.2.2.2.1 x.2.2.2.2.2.2.1) zb1
def zb3 (k : Nat) : Cuts D := ⟨[], [(57, some (zay k))]⟩
theorem zb4 (k : Nat) : CutFor X zaq k Go.Proofs.Tryz.f49.results.toList (zb2 k) (sub (bodyOf Go.Proofs.Tryz.f49) [1, 1, 1, 0, 0, 1, 1, 1, 1, 1]) :=
  joinCut_s (X := X) (sg := [.ks, .ki .i64, .ki .i64, .ki .i64, .ki .i64, .ki .i64, .kb]) (cu := zb3 k) (cl := zar k) (tys := [[0], [0]]) (zas k) (cutOK_of (l := [(zay k, sub (bodyOf Go.Proofs.Tryz.f49) [1, 1, 1, 0, 0, 1, 1, 1, 1, 1, 0, 1, 0, 1])]) (by kernel_rfl) ⟨zb0 k, trivial⟩) fun x Q R h => by
    simp only [S_ParseDate_c48, optK_bind, optK_bif, optK_pure, optK_none, optK_oc, optK_guardT, optK_map] at h
    refine hold_of h ?_
    kernel_rfl
def zb5 (x : (List UInt8) × Int × Int × Int × Int × Int × Bool × Unit) (o : Int × Int × Int × Int) (Q : Ex → VSt D → Prop) (R : VR D → Prop) : Prop := Q .normal (mkSt ⟨[(0, .hole), (5, .hole), (6, .hole), (7, .hole), (8, .hole)], []⟩ [.str x.1, .int .i64 o.1, .int .i64 o.2.1, .int .i64 o.2.2.1, .int .i64 o.2.2.2])
def zb6 (k : Nat) : Cut D := cutS ⟨[(0, .hole), (4, .hole), (5, .hole), (6, .hole), (7, .hole), (8, .hole), (28, .hole)], []⟩ [.ks, .ki .i64, .ki .i64, .ki .i64, .ki .i64, .ki .i64, .kb] (fun (x : (List UInt8) × Int × Int × Int × Int × Int × Bool × Unit) => S_ParseDate_c28 k x.1 x.2.1 x.2.2.1 x.2.2.2.1 x.2.2.2.2.1 x.2.2.2.2.2.1 x.2.2.2.2.2.2.1) zb5
def zb7 (k : Nat) : Cuts D := ⟨[], [(43, some (zau k)), (48, some (zb2 k))]⟩
theorem zb8 (k : Nat) : CutFor X zaq k Go.Proofs.Tryz.f49.results.toList (zb6 k) (sub (bodyOf Go.Proofs.Tryz.f49) [1, 1, 1, 0, 0, 1, 1, 1]) :=
  joinCut_s (X := X) (sg := [.ks, .ki .i64, .ki .i64, .ki .i64, .ki .i64, .ki .i64, .kb]) (cu := zb7 k) (cl := zar k) (tys := [[0], [0]]) (zas k) (cutOK_of (l := [(zau k, sub (bodyOf Go.Proofs.Tryz.f49) [1, 1, 1, 0, 0, 1, 1, 1, 0, 1, 1, 1, 0, 1]), (zb2 k, sub (bodyOf Go.Proofs.Tryz.f49) [1, 1, 1, 0, 0, 1, 1, 1, 1, 1])]) (by kernel_rfl) ⟨zaw k, zb4 k, trivial⟩) fun x Q R h => by
    simp only [S_ParseDate_c28, optK_bind, optK_bif, optK_pure, optK_none, optK_oc, optK_guardT, optK_map] at h
    refine hold_of h ?_
    kernel_rfl
def zb9 (x : (List UInt8) × Int × Int × Int × Int × Int × Bool × Unit) (o : Int × Int × Int × Int) (Q : Ex → VSt D → Prop) (R : VR D → Prop) : Prop := Q .normal (mkSt ⟨[(0, .hole), (5, .hole), (6, .hole), (7, .hole), (8, .hole)], []⟩ [.str x.1, .int .i64 o.1, .int .i64 o.2.1, .int .i64 o.2.2.1, .int .i64 o.2.2.2])
def zba (k : Nat) : Cut D := cutS ⟨[(0, .hole), (4, .hole), (5, .hole), (6, .hole), (7, .hole), (8, .hole), (15, .hole)], []⟩ [.ks, .ki .i64, .ki .i64, .ki .i64, .ki .i64, .ki .i64, .kb] (fun (x : (List UInt8) × Int × Int × Int × Int × Int × Bool × Unit) => S_ParseDate_c15 k x.1 x.2.1 x.2.2.1 x.2.2.2.1 x.2.2.2.2.1 x.2.2.2.2.2.1 x.2.2.2.2.2.2.1) zb9
def zbb (k : Nat) : Cuts D := ⟨[], [(28, some (zb6 k))]⟩
theorem zbc (k : Nat) : CutFor X zaq k Go.Proofs.Tryz.f49.results.toList (zba k) (sub (bodyOf Go.Proofs.Tryz.f49) [1, 1, 1, 0, 0, 1]) :=
  joinCut_s (X := X) (sg := [.ks, .ki .i64, .ki .i64, .ki .i64, .ki .i64, .ki .i64, .kb]) (cu := zbb k) (cl := zar k) (tys := [[0], [0]]) (zas k) (cutOK_of (l := [(zb6 k, sub (bodyOf Go.Proofs.Tryz.f49) [1, 1, 1, 0, 0, 1, 1, 1])]) (by kernel_rfl) ⟨zb8 k, trivial⟩) fun x Q R h => by
    simp only [S_ParseDate_c15, optK_bind, optK_bif, optK_pure, optK_none, optK_oc, optK_guardT, optK_map] at h
    refine hold_of h ?_
    kernel_rfl
def zbd (x : (List UInt8) × Int × Int × Int × Int × Int × Unit) (o : Int × Int × Int × Int) (Q : Ex → VSt D → Prop) (R : VR D → Prop) : Prop := Q .normal (mkSt ⟨[(0, .hole), (5, .hole), (6, .hole), (7, .hole), (8, .hole)], []⟩ [.str x.1, .int .i64 o.1, .int .i64 o.2.1, .int .i64 o.2.2.1, .int .i64 o.2.2.2])
def zbe (k : Nat) : Cut D := cutS ⟨[(0, .hole), (4, .hole), (5, .hole), (6, .hole), (7, .hole), (8, .hole)], []⟩ [.ks, .ki .i64, .ki .i64, .ki .i64, .ki .i64, .ki .i64] (fun (x : (List UInt8) × Int × Int × Int × Int × Int × Unit) => S_ParseDate_b0 k x.1 x.2.1 x.2.2.1 x.2.2.2.1 x.2.2.2.2.1 x.2.2.2.2.2.1) zbd
def zbf (k : Nat) : Cuts D := ⟨[], [(15, some (zba k))]⟩
theorem zbg (k : Nat) : CutFor X zaq k Go.Proofs.Tryz.f49.results.toList (zbe k) (sub (bodyOf Go.Proofs.Tryz.f49) [1, 1, 1, 0]) :=
  joinCut_s (X := X) (sg := [.ks, .ki .i64, .ki .i64, .ki .i64, .ki .i64, .ki .i64]) (cu := zbf k) (cl := zar k) (tys := [[0], [0]]) (zas k) (cutOK_of (l := [(zba k, sub (bodyOf Go.Proofs.Tryz.f49) [1, 1, 1, 0, 0, 1])]) (by kernel_rfl) ⟨zbc k, trivial⟩) fun x Q R h => by
    simp only [S_ParseDate_b0, optK_bind, optK_bif, optK_pure, optK_none, optK_oc, optK_guardT, optK_map] at h
    refine hold_of h ?_
    kernel_rfl
def zbh (x : (List UInt8) × Int × Int × (List (List UInt8)) × Unit) (o : Oc (Unit) (Int × Bool)) (Q : Ex → VSt D → Prop) (R : VR D → Prop) : Prop := ocP o (fun v0 => Q .normal (mkSt ⟨[], []⟩ [])) (fun w0 => R (.tup [.c (.int .i64 w0.1), .c (.bool w0.2)]))
def zbi (k : Nat) : Cut D := cutS ⟨[(0, .hole), (10, .hole), (11, .ref 500011), (12, .hole)], [(500011, .row)]⟩ [.ks, .ki .i64, .ki .i64, .kl 9] (fun (x : (List UInt8) × Int × Int × (List (List UInt8)) × Unit) => S_ParseDate_b1 k k x.1 x.2.1 x.2.2.1 x.2.2.2.1) zbh
def zbj (k : Nat) : Cuts D := ⟨[], []⟩
theorem zbk (k : Nat) : CutFor X zaq k Go.Proofs.Tryz.f49.results.toList (zbi k) (sub (bodyOf Go.Proofs.Tryz.f49) [1, 1, 1, 1, 1, 1, 1, 1, 1, 0, 1]) :=
  loopCut_s (X := X) (sg := [.ks, .ki .i64, .ki .i64, .kl 9]) (cu := zbj k) (cl := zar k) (tys := [[0], [0]]) (id := 1) (c := sub (bodyOf Go.Proofs.Tryz.f49) [1, 1, 1, 1, 1, 1, 1, 1, 1, 0, 1, 0, 0]) (f := fun n => fun (x : (List UInt8) × Int × Int × (List (List UInt8)) × Unit) => S_ParseDate_b1 k n x.1 x.2.1 x.2.2.1 x.2.2.2.1) (zas k) (cutOK_of (l := []) (by kernel_rfl) trivial) (fun _ => rfl) (fun n x Q R h => by
    simp only [S_ParseDate_b1, optK_bind, optK_bif, optK_pure, optK_none, optK_oc, optK_guardT, optK_map] at h
    refine hold_of h ?_
    kernel_rfl) (by kernel_rfl)
def zbl (k : Nat) : Cuts D := ⟨[(0, some (zbe k)), (1, some (zbi k))], []⟩
def zbm : List Ar := [.c (.ks)]
def zbn (k : Nat) (x : TupA D zbm) : Option (Int × Bool) := S_ParseDate k x.1
def zbo (r : Int × Bool) : VR D := .tup [.c (.int .i64 r.1), .c (.bool r.2)]
theorem zbp (k : Nat) : Does P X 49 zbm (zbn k) zbo :=
  does_of (body := bodyOf Go.Proofs.Tryz.f49) (pl := zaq) (k := k) (cu := zbl k) (tys := [[0], [0]]) (zas k) ctx mixed Go.Proofs.Tryz.func49 (by kernel_rfl) (by kernel_rfl) (cutOK_of (l := [(zbe k, sub (bodyOf Go.Proofs.Tryz.f49) [1, 1, 1, 0]), (zbi k, sub (bodyOf Go.Proofs.Tryz.f49) [1, 1, 1, 1, 1, 1, 1, 1, 1, 0, 1])]) (by kernel_rfl) ⟨zbg k, zbk k, trivial⟩) fun x R h => by
    simp only [zbn, S_ParseDate, optK_bind, optK_bif, optK_pure, optK_none, optK_oc, optK_guardT, optK_map] at h
    refine hold_of h ?_
    kernel_rfl
def zbq (k : Nat) : Entry D := entS zbm (zbn k) zbo
theorem zbr (k : Nat) : EntryOK X 49 (zbq k) := (zbp k).en rfl
def zbs : Plan := ⟨[(0, [(0, none)]), (1, [(2, none)])],
  [],
  []⟩
def zbt (k : Nat) : Calls' D := ⟨[], [], [], [], []⟩
theorem zbu (k : Nat) : CallsOK X (zbt k) := .nil cod
def zbv (k : Nat) : Cuts D := ⟨[], []⟩
def zbw : List Ar := [.c (.ki .u8)]
def zbx (k : Nat) (x : TupA D zbw) : Option (Bool) := S_l4Blank k x.1
def zby (r : Bool) : VR D := .p (.c (.bool r))
theorem zbz (k : Nat) : Does P X 223 zbw (zbx k) zby :=
  does_of (body := bodyOf Go.Proofs.Tryz.f223) (pl := zbs) (k := k) (cu := zbv k) (tys := [[0]]) (zbu k) ctx mixed Go.Proofs.Tryz.func223 (by kernel_rfl) (by kernel_rfl) (cutOK_of (l := []) (by kernel_rfl) trivial) fun x R h => by
    simp only [zbx, S_l4Blank, optK_bind, optK_bif, optK_pure, optK_none, optK_oc, optK_guardT, optK_map] at h
    refine hold_of h ?_
    kernel_rfl
def zc0 (k : Nat) : Entry D := entS zbw (zbx k) zby
theorem zc1 (k : Nat) : EntryOK X 223 (zc0 k) := (zbz k).en rfl
def zc2 : Plan := ⟨[(0, [(0, none)]), (1, [(0, none), (10, none)]), (2, [(0, none)]), (3, [(0, none), (23, none)]), (4, [(0, none)]), (5, [(2, none)])],
  [(0, [(0, none)]), (1, [(0, none)]), (2, [(0, none)]), (3, [(0, none)])],
  [(10, ([(0, none)], [(0, none)])), (23, ([(0, none)], [(0, none)]))]⟩
def zc3 (k : Nat) : Calls' D := ⟨[(223, zc0 k)], [], [], [], []⟩
theorem zc4 (k : Nat) : CallsOK X (zc3 k) := .cons (zc1 k) (.nil cod)
def zc5 (x : (List UInt8) × Unit) (o : (List UInt8)) (Q : Ex → VSt D → Prop) (R : VR D → Prop) : Prop := Q .normal (mkSt ⟨[(0, .hole)], []⟩ [.str o])
def zc6 (k : Nat) : Cut D := cutS ⟨[(0, .hole)], []⟩ [.ks] (fun (x : (List UInt8) × Unit) => S_TrimText_b0 k k x.1) zc5
def zc7 (k : Nat) : Cuts D := ⟨[], []⟩
theorem zc8 (k : Nat) : CutFor X zc2 k Go.Proofs.Tryz.f159.results.toList (zc6 k) (sub (bodyOf Go.Proofs.Tryz.f159) [1, 0]) :=
  loopCut_s (X := X) (sg := [.ks]) (cu := zc7 k) (cl := zc3 k) (tys := [[0]]) (id := 0) (c := sub (bodyOf Go.Proofs.Tryz.f159) [1, 0, 0, 0]) (f := fun n => fun (x : (List UInt8) × Unit) => S_TrimText_b0 k n x.1) (zc4 k) (cutOK_of (l := []) (by kernel_rfl) trivial) (fun _ => rfl) (fun n x Q R h => by
    simp only [S_TrimText_b0, optK_bind, optK_bif, optK_pure, optK_none, optK_oc, optK_guardT, optK_map] at h
    refine hold_of h ?_
    kernel_rfl) (by kernel_rfl)
def zc9 (x : (List UInt8) × Unit) (o : (List UInt8)) (Q : Ex → VSt D → Prop) (R : VR D → Prop) : Prop := Q .normal (mkSt ⟨[(0, .hole)], []⟩ [.str o])
def zca (k : Nat) : Cut D := cutS ⟨[(0, .hole)], []⟩ [.ks] (fun (x : (List UInt8) × Unit) => S_TrimText_b2 k k x.1) zc9
def zcb (k : Nat) : Cuts D := ⟨[], []⟩
theorem zcc (k : Nat) : CutFor X zc2 k Go.Proofs.Tryz.f159.results.toList (zca k) (sub (bodyOf Go.Proofs.Tryz.f159) [1, 1, 0]) :=
  loopCut_s (X := X) (sg := [.ks]) (cu := zcb k) (cl := zc3 k) (tys := [[0]]) (id := 2) (c := sub (bodyOf Go.Proofs.Tryz.f159) [1, 1, 0, 0, 0]) (f := fun n => fun (x : (List UInt8) × Unit) => S_TrimText_b2 k n x.1) (zc4 k) (cutOK_of (l := []) (by kernel_rfl) trivial) (fun _ => rfl) (fun n x Q R h => by
    simp only [S_TrimText_b2, optK_bind, optK_bif, optK_pure, optK_none, optK_oc, optK_guardT, optK_map] at h
    refine hold_of h ?_
    kernel_rfl) (by kernel_rfl)
def zcd (k : Nat) : Cuts D := ⟨[(0, some (zc6 k)), (2, some (zca k))], []⟩
def zce : List Ar := [.c (.ks)]
def zcf (k : Nat) (x : TupA D zce) : Option ((List UInt8)) := S_TrimText k x.1
def zcg (r : (List UInt8)) : VR D := .p (.c (.str r))
theorem zch (k : Nat) : Does P X 159 zce (zcf k) zcg :=
  does_of (body := bodyOf Go.Proofs.Tryz.f159) (pl := zc2) (k := k) (cu := zcd k) (tys := [[0]]) (zc4 k) ctx mixed Go.Proofs.Tryz.func159 (by kernel_rfl) (by kernel_rfl) (cutOK_of (l := [(zc6 k, sub (bodyOf Go.Proofs.Tryz.f159) [1, 0]), (zca k, sub (bodyOf Go.Proofs.Tryz.f159) [1, 1, 0])]) (by kernel_rfl) ⟨zc8 k, zcc k, trivial⟩) fun x R h => by
    simp only [zcf, S_TrimText, optK_bind, optK_bif, optK_pure, optK_none, optK_oc, optK_guardT, optK_map] at h
    refine hold_of h ?_
    kernel_rfl
def zci (k : Nat) : Entry D := entS zce (zcf k) zcg
theorem zcj (k : Nat) : EntryOK X 159 (zci k) := (zch k).en rfl
def zck : Plan := ⟨[(0, [(0, none), (1, none)]), (1, [(0, none), (1, none), (5, some 9)]), (2, [(0, none), (1, none), (5, some 9), (6, none)]), (3, [(0, none), (1, none), (5, some 9), (6, none), (7, none)]), (4, [(0, none), (1, none), (5, some 9), (6, none), (7, none), (8, none)]), (5, [(0, none), (1, none), (5, some 9), (6, none), (7, none), (8, none), (13, none)]), (6, [(0, none), (1, none), (5, some 9), (6, none), (7, none), (8, none)]), (7, [(0, none), (1, none), (5, some 9), (6, none), (7, none), (8, none), (16, none)]), (8, [(0, none), (1, none), (5, some 9), (6, none), (7, none), (8, none)]), (9, [(0, none), (1, none), (5, some 9), (6, none), (7, none), (8, none), (26, none)]), (10, [(0, none), (1, none), (5, some 9), (6, none), (7, none), (8, none)]), (11, [(0, none), (1, none), (5, some 9), (6, none), (7, none), (8, none), (33, none)]), (12, [(0, none), (1, none), (5, some 9), (7, none), (8, none)]), (13, [(0, none), (1, none), (5, some 9), (6, none), (7, none), (8, none)]), (14, [(4, some 9)])],
  [(0, [(0, none), (5, some 9), (6, none)]), (1, [(0, none), (1, none), (5, some 9), (6, none), (7, none), (8, none)]), (2, [(0, none), (1, none), (5, some 9), (6, none), (7, none), (8, none)])],
  [(13, ([(0, none), (1, none), (5, some 9), (6, none), (7, none), (8, none)], [(0, none), (5, some 9), (6, none)])), (16, ([(0, none), (1, none), (5, some 9), (6, none), (7, none), (8, none)], [(0, none), (1, none), (5, some 9), (6, none), (7, none), (8, none)])), (26, ([(0, none), (1, none), (5, some 9), (6, none), (7, none), (8, none)], [(0, none), (1, none), (5, some 9), (6, none), (7, none), (8, none)])), (33, ([(0, none), (1, none), (5, some 9), (6, none), (7, none), (8, none)], [(0, none), (1, none), (5, some 9), (6, none), (7, none), (8, none)]))]⟩
def zcl (k : Nat) : Calls' D := ⟨[], [], [], [], []⟩
theorem zcm (k : Nat) : CallsOK X (zcl k) := .nil cod
def zcn (x : (List UInt8) × Int × Int × Bool × Int × Bool × (List (List UInt8)) × Unit) (o : Int × (List (List UInt8))) (Q : Ex → VSt D → Prop) (R : VR D → Prop) : Prop := Q .normal (mkSt ⟨[(0, .hole), (1, .hole), (5, .ref 500005), (6, .hole), (7, .hole), (8, .hole)], [(500005, .row)]⟩ [.str x.1, .int .u8 x.2.1, .int .i64 o.1, .bool x.2.2.2.1, .int .i64 x.2.2.2.2.1, .sl 9 o.2])
def zco (k : Nat) : Cut D := cutS ⟨[(0, .hole), (1, .hole), (5, .ref 500005), (6, .hole), (7, .hole), (8, .hole), (33, .hole)], [(500005, .row)]⟩ [.ks, .ki .u8, .ki .i64, .kb, .ki .i64, .kb, .kl 9] (fun (x : (List UInt8) × Int × Int × Bool × Int × Bool × (List (List UInt8)) × Unit) => S_l4Cut_c33 k x.1 x.2.1 x.2.2.1 x.2.2.2.1 x.2.2.2.2.1 x.2.2.2.2.2.1 x.2.2.2.2.2.2.1) zcn
def zcp (k : Nat) : Cuts D := ⟨[], []⟩
theorem zcq (k : Nat) : CutFor X zck k Go.Proofs.Tryz.f238.results.toList (zco k) (sub (bodyOf Go.Proofs.Tryz.f238) [1, 1, 1, 1, 0, 1, 0, 0, 1, 0, 0, 0, 1, 1, 1, 1, 1]) :=
  joinCut_s (X := X) (sg := [.ks, .ki .u8, .ki .i64, .kb, .ki .i64, .kb, .kl 9]) (cu := zcp k) (cl := zcl k) (tys := [[9]]) (zcm k) (cutOK_of (l := []) (by kernel_rfl) trivial) fun x Q R h => by
    simp only [S_l4Cut_c33, optK_bind, optK_bif, optK_pure, optK_none, optK_oc, optK_guardT, optK_map] at h
    refine hold_of h ?_
    kernel_rfl
def zcr (x : (List UInt8) × Int × Int × Bool × Int × Bool × (List (List UInt8)) × Unit) (o : Int × Bool × (List (List UInt8))) (Q : Ex → VSt D → Prop) (R : VR D → Prop) : Prop := Q .normal (mkSt ⟨[(0, .hole), (1, .hole), (5, .ref 500005), (6, .hole), (7, .hole), (8, .hole)], [(500005, .row)]⟩ [.str x.1, .int .u8 x.2.1, .int .i64 o.1, .bool o.2.1, .int .i64 x.2.2.2.2.1, .sl 9 o.2.2])
def zcs (k : Nat) : Cut D := cutS ⟨[(0, .hole), (1, .hole), (5, .ref 500005), (6, .hole), (7, .hole), (8, .hole), (26, .hole)], [(500005, .row)]⟩ [.ks, .ki .u8, .ki .i64, .kb, .ki .i64, .kb, .kl 9] (fun (x : (List UInt8) × Int × Int × Bool × Int × Bool × (List (List UInt8)) × Unit) => S_l4Cut_c26 k x.1 x.2.1 x.2.2.1 x.2.2.2.1 x.2.2.2.2.1 x.2.2.2.2.2.1 x.2.2.2.2.2.2.1) zcr
def zct (k : Nat) : Cuts D := ⟨[], [(33, some (zco k))]⟩
theorem zcu (k : Nat) : CutFor X zck k Go.Proofs.Tryz.f238.results.toList (zcs k) (sub (bodyOf Go.Proofs.Tryz.f238) [1, 1, 1, 1, 0, 1, 0, 0, 1, 0, 0, 0, 1, 1, 1]) :=
  joinCut_s (X := X) (sg := [.ks, .ki .u8, .ki .i64, .kb, .ki .i64, .kb, .kl 9]) (cu := zct k) (cl := zcl k) (tys := [[9]]) (zcm k) (cutOK_of (l := [(zco k, sub (bodyOf Go.Proofs.Tryz.f238) [1, 1, 1, 1, 0, 1, 0, 0, 1, 0, 0, 0, 1, 1, 1, 1, 1])]) (by kernel_rfl) ⟨zcq k, trivial⟩) fun x Q R h => by
    simp only [S_l4Cut_c26, optK_bind, optK_bif, optK_pure, optK_none, optK_oc, optK_guardT, optK_map] at h
    refine hold_of h ?_
    kernel_rfl
def zcv (x : (List UInt8) × Int × Int × Bool × Int × Bool × (List (List UInt8)) × Unit) (o : Int × Bool × Int × (List (List UInt8))) (Q : Ex → VSt D → Prop) (R : VR D → Prop) : Prop := Q .normal (mkSt ⟨[(0, .hole), (1, .hole), (5, .ref 500005), (6, .hole), (7, .hole), (8, .hole)], [(500005, .row)]⟩ [.str x.1, .int .u8 x.2.1, .int .i64 o.1, .bool o.2.1, .int .i64 o.2.2.1, .sl 9 o.2.2.2])
def zcw (k : Nat) : Cut D := cutS ⟨[(0, .hole), (1, .hole), (5, .ref 500005), (6, .hole), (7, .hole), (8, .hole), (16, .hole)], [(500005, .row)]⟩ [.ks, .ki .u8, .ki .i64, .kb, .ki .i64, .kb, .kl 9] (fun (x : (List UInt8) × Int × Int × Bool × Int × Bool × (List (List UInt8)) × Unit) => S_l4Cut_c16 k x.1 x.2.1 x.2.2.1 x.2.2.2.1 x.2.2.2.2.1 x.2.2.2.2.2.1 x.2.2.2.2.2.2.1) zcv
def zcx (k : Nat) : Cuts D := ⟨[], [(26, some (zcs k))]⟩
theorem zcy (k : Nat) : CutFor X zck k Go.Proofs.Tryz.f238.results.toList (zcw k) (sub (bodyOf Go.Proofs.Tryz.f238) [1, 1, 1, 1, 0, 1, 0, 0, 1, 0, 0, 0, 1]) :=
  joinCut_s (X := X) (sg := [.ks, .ki .u8, .ki .i64, .kb, .ki .i64, .kb, .kl 9]) (cu := zcx k) (cl := zcl k) (tys := [[9]]) (zcm k) (cutOK_of (l := [(zcs k, sub (bodyOf Go.Proofs.Tryz.f238) [1, 1, 1, 1, 0, 1, 0, 0, 1, 0, 0, 0, 1, 1, 1])]) (by kernel_rfl) ⟨zcu k, trivial⟩) fun x Q R h => by
    simp only [S_l4Cut_c16, optK_bind, optK_bif, optK_pure, optK_none, optK_oc, optK_guardT, optK_map] at h
    refine hold_of h ?_
    kernel_rfl
def zcz (x : (List UInt8) × Int × Int × Bool × Int × (List (List UInt8)) × Unit) (o : Int × Bool × Int × (List (List UInt8))) (Q : Ex → VSt D → Prop) (R : VR D → Prop) : Prop := Q .normal (mkSt ⟨[(0, .hole), (1, .hole), (5, .ref 500005), (6, .hole), (7, .hole), (8, .hole)], [(500005, .row)]⟩ [.str x.1, .int .u8 x.2.1, .int .i64 o.1, .bool o.2.1, .int .i64 o.2.2.1, .sl 9 o.2.2.2])
def zd0 (k : Nat) : Cut D := cutS ⟨[(0, .hole), (1, .hole), (5, .ref 500005), (6, .hole), (7, .hole), (8, .hole)], [(500005, .row)]⟩ [.ks, .ki .u8, .ki .i64, .kb, .ki .i64, .kl 9] (fun (x : (List UInt8) × Int × Int × Bool × Int × (List (List UInt8)) × Unit) => S_l4Cut_b2 k x.1 x.2.1 x.2.2.1 x.2.2.2.1 x.2.2.2.2.1 x.2.2.2.2.2.1) zcz
def zd1 (k : Nat) : Cuts D := ⟨[], [(16, some (zcw k))]⟩
theorem zd2 (k : Nat) : CutFor X zck k Go.Proofs.Tryz.f238.results.toList (zd0 k) (sub (bodyOf Go.Proofs.Tryz.f238) [1, 1, 1, 1, 0, 1, 0, 0, 1, 0, 0]) :=
  joinCut_s (X := X) (sg := [.ks, .ki .u8, .ki .i64, .kb, .ki .i64, .kl 9]) (cu := zd1 k) (cl := zcl k) (tys := [[9]]) (zcm k) (cutOK_of (l := [(zcw k, sub (bodyOf Go.Proofs.Tryz.f238) [1, 1, 1, 1, 0, 1, 0, 0, 1, 0, 0, 0, 1])]) (by kernel_rfl) ⟨zcy k, trivial⟩) fun x Q R h => by
    simp only [S_l4Cut_b2, optK_bind, optK_bif, optK_pure, optK_none, optK_oc, optK_guardT, optK_map] at h
    refine hold_of h ?_
    kernel_rfl
def zd3 (x : (List UInt8) × Int × Int × Bool × Int × (List (List UInt8)) × Unit) (o : Int × Bool × Int × (List (List UInt8))) (Q : Ex → VSt D → Prop) (R : VR D → Prop) : Prop := Q .normal (mkSt ⟨[(0, .hole), (1, .hole), (5, .ref 500005), (6, .hole), (7, .hole), (8, .hole)], [(500005, .row)]⟩ [.str x.1, .int .u8 x.2.1, .int .i64 o.1, .bool o.2.1, .int .i64 o.2.2.1, .sl 9 o.2.2.2])
def zd4 (k : Nat) : Cut D := cutS ⟨[(0, .hole), (1, .hole), (5, .ref 500005), (6, .hole), (7, .hole), (8, .hole)], [(500005, .row)]⟩ [.ks, .ki .u8, .ki .i64, .kb, .ki .i64, .kl 9] (fun (x : (List UInt8) × Int × Int × Bool × Int × (List (List UInt8)) × Unit) => S_l4Cut_b1 k x.1 x.2.1 x.2.2.1 x.2.2.2.1 x.2.2.2.2.1 x.2.2.2.2.2.1) zd3
def zd5 (k : Nat) : Cuts D := ⟨[(2, some (zd0 k))], []⟩
theorem zd6 (k : Nat) : CutFor X zck k Go.Proofs.Tryz.f238.results.toList (zd4 k) (sub (bodyOf Go.Proofs.Tryz.f238) [1, 1, 1, 1, 0, 1, 0, 0, 1, 0]) :=
  joinCut_s (X := X) (sg := [.ks, .ki .u8, .ki .i64, .kb, .ki .i64, .kl 9]) (cu := zd5 k) (cl := zcl k) (tys := [[9]]) (zcm k) (cutOK_of (l := [(zd0 k, sub (bodyOf Go.Proofs.Tryz.f238) [1, 1, 1, 1, 0, 1, 0, 0, 1, 0, 0])]) (by kernel_rfl) ⟨zd2 k, trivial⟩) fun x Q R h => by
    simp only [S_l4Cut_b1, optK_bind, optK_bif, optK_pure, optK_none, optK_oc, optK_guardT, optK_map] at h
    refine hold_of h ?_
    kernel_rfl
def zd7 (x : (List UInt8) × Int × Int × Bool × Int × (List (List UInt8)) × Unit) (o : Int × (List (List UInt8))) (Q : Ex → VSt D → Prop) (R : VR D → Prop) : Prop := Q .normal (mkSt ⟨[(0, .hole), (5, .ref 500005), (6, .hole)], [(500005, .row)]⟩ [.str x.1, .int .i64 o.1, .sl 9 o.2])
def zd8 (k : Nat) : Cut D := cutS ⟨[(0, .hole), (1, .hole), (5, .ref 500005), (6, .hole), (7, .hole), (8, .hole)], [(500005, .row)]⟩ [.ks, .ki .u8, .ki .i64, .kb, .ki .i64, .kl 9] (fun (x : (List UInt8) × Int × Int × Bool × Int × (List (List UInt8)) × Unit) => S_l4Cut_b0 k k x.1 x.2.1 x.2.2.1 x.2.2.2.1 x.2.2.2.2.1 x.2.2.2.2.2.1) zd7
def zd9 (k : Nat) : Cuts D := ⟨[(1, some (zd4 k))], []⟩
theorem zda (k : Nat) : CutFor X zck k Go.Proofs.Tryz.f238.results.toList (zd8 k) (sub (bodyOf Go.Proofs.Tryz.f238) [1, 1, 1, 1, 0, 1]) :=
  loopCut_s (X := X) (sg := [.ks, .ki .u8, .ki .i64, .kb, .ki .i64, .kl 9]) (cu := zd9 k) (cl := zcl k) (tys := [[9]]) (id := 0) (c := sub (bodyOf Go.Proofs.Tryz.f238) [1, 1, 1, 1, 0, 1, 0, 0]) (f := fun n => fun (x : (List UInt8) × Int × Int × Bool × Int × (List (List UInt8)) × Unit) => S_l4Cut_b0 k n x.1 x.2.1 x.2.2.1 x.2.2.2.1 x.2.2.2.2.1 x.2.2.2.2.2.1) (zcm k) (cutOK_of (l := [(zd4 k, sub (bodyOf Go.Proofs.Tryz.f238) [1, 1, 1, 1, 0, 1, 0, 0, 1, 0])]) (by kernel_rfl) ⟨zd6 k, trivial⟩) (fun _ => rfl) (fun n x Q R h => by
    simp only [S_l4Cut_b0, optK_bind, optK_bif, optK_pure, optK_none, optK_oc, optK_guardT, optK_map] at h
    refine hold_of h ?_
    kernel_rfl) (by kernel_rfl)
def zdb (k : Nat) : Cuts D := ⟨[(0, some (zd8 k))], []⟩
def zdc : List Ar := [.c (.ks), .c (.ki .u8)]
def zdd (k : Nat) (x : TupA D zdc) : Option ((List (List UInt8))) := S_l4Cut k x.1 x.2.1
def zde (r : (List (List UInt8))) : VR D := .p (.c (.sl 9 r))
theorem zdf (k : Nat) : Does P X 238 zdc (zdd k) zde :=
  does_of (body := bodyOf Go.Proofs.Tryz.f238) (pl := zck) (k := k) (cu := zdb k) (tys := [[9]]) (zcm k) ctx mixed Go.Proofs.Tryz.func238 (by kernel_rfl) (by kernel_rfl) (cutOK_of (l := [(zd8 k, sub (bodyOf Go.Proofs.Tryz.f238) [1, 1, 1, 1, 0, 1])]) (by kernel_rfl) ⟨zda k, trivial⟩) fun x R h => by
    simp only [zdd, S_l4Cut, optK_bind, optK_bif, optK_pure, optK_none, optK_oc, optK_guardT, optK_map] at h
    refine hold_of h ?_
    kernel_rfl
def zdg (k : Nat) : Entry D := entS zdc (zdd k) zde
theorem zdh (k : Nat) : EntryOK X 238 (zdg k) := (zdf k).en rfl
def zdi : Plan := ⟨[(0, [(0, none)]), (1, [(3, some 9)]), (2, [(3, some 9), (4, some 9)]), (3, [(3, some 9), (4, some 9), (5, none)]), (4, [(3, some 9), (4, some 9), (5, none), (13, none)]), (5, [(3, some 9), (4, some 9), (5, none)]), (6, [(3, some 9), (4, some 9), (5, none), (6, none)]), (7, [(3, some 9), (4, some 9), (5, none), (6, none), (22, none)]), (8, [(3, some 9), (4, some 9), (5, none)]), (9, [(2, some 9)])],
  [(0, [(4, some 9)]), (1, [(3, some 9), (4, some 9), (5, none)])],
  [(13, ([(3, some 9), (4, some 9), (5, none)], [(4, some 9)])), (22, ([(3, some 9), (4, some 9), (5, none), (6, none)], [(3, some 9), (4, some 9), (5, none)]))]⟩
def zdj (k : Nat) : Calls' D := ⟨[(238, zdg k), (159, zci k)], [], [], [], []⟩
theorem zdk (k : Nat) : CallsOK X (zdj k) := .cons (zdh k) (.cons (zcj k) (.nil cod))
def zdl (x : Int × (List UInt8) × Bool × (List (List UInt8)) × (List (List UInt8)) × Unit) (o : (List (List UInt8))) (Q : Ex → VSt D → Prop) (R : VR D → Prop) : Prop := Q .normal (mkSt ⟨[(3, .ref 500003), (4, .ref 500004), (5, .hole)], [(500003, .row), (500004, .row)]⟩ [.int .i64 x.1, .sl 9 x.2.2.2.1, .sl 9 o])
def zdm (k : Nat) : Cut D := cutS ⟨[(3, .ref 500003), (4, .ref 500004), (5, .hole), (6, .hole), (22, .hole)], [(500003, .row), (500004, .row)]⟩ [.ki .i64, .ks, .kb, .kl 9, .kl 9] (fun (x : Int × (List UInt8) × Bool × (List (List UInt8)) × (List (List UInt8)) × Unit) => S_SplitList_c22 k x.1 x.2.1 x.2.2.1 x.2.2.2.1 x.2.2.2.2.1) zdl
def zdn (k : Nat) : Cuts D := ⟨[], []⟩
theorem zdo (k : Nat) : CutFor X zdi k Go.Proofs.Tryz.f193.results.toList (zdm k) (sub (bodyOf Go.Proofs.Tryz.f193) [1, 1, 1, 0, 1, 0, 0, 1, 0, 0, 1, 1]) :=
  joinCut_s (X := X) (sg := [.ki .i64, .ks, .kb, .kl 9, .kl 9]) (cu := zdn k) (cl := zdj k) (tys := [[9]]) (zdk k) (cutOK_of (l := []) (by kernel_rfl) trivial) fun x Q R h => by
    simp only [S_SplitList_c22, optK_bind, optK_bif, optK_pure, optK_none, optK_oc, optK_guardT, optK_map] at h
    refine hold_of h ?_
    kernel_rfl
def zdp (x : Int × (List (List UInt8)) × (List (List UInt8)) × Unit) (o : (List (List UInt8))) (Q : Ex → VSt D → Prop) (R : VR D → Prop) : Prop := Q .normal (mkSt ⟨[(3, .ref 500003), (4, .ref 500004), (5, .hole)], [(500003, .row), (500004, .row)]⟩ [.int .i64 x.1, .sl 9 x.2.1, .sl 9 o])
def zdq (k : Nat) : Cut D := cutS ⟨[(3, .ref 500003), (4, .ref 500004), (5, .hole)], [(500003, .row), (500004, .row)]⟩ [.ki .i64, .kl 9, .kl 9] (fun (x : Int × (List (List UInt8)) × (List (List UInt8)) × Unit) => S_SplitList_b1 k x.1 x.2.1 x.2.2.1) zdp
def zdr (k : Nat) : Cuts D := ⟨[], [(22, some (zdm k))]⟩
theorem zds (k : Nat) : CutFor X zdi k Go.Proofs.Tryz.f193.results.toList (zdq k) (sub (bodyOf Go.Proofs.Tryz.f193) [1, 1, 1, 0, 1, 0, 0, 1, 0]) :=
  joinCut_s (X := X) (sg := [.ki .i64, .kl 9, .kl 9]) (cu := zdr k) (cl := zdj k) (tys := [[9]]) (zdk k) (cutOK_of (l := [(zdm k, sub (bodyOf Go.Proofs.Tryz.f193) [1, 1, 1, 0, 1, 0, 0, 1, 0, 0, 1, 1])]) (by kernel_rfl) ⟨zdo k, trivial⟩) fun x Q R h => by
    simp only [S_SplitList_b1, optK_bind, optK_bif, optK_pure, optK_none, optK_oc, optK_guardT, optK_map] at h
    refine hold_of h ?_
    kernel_rfl
def zdt (x : Int × (List (List UInt8)) × (List (List UInt8)) × Unit) (o : (List (List UInt8))) (Q : Ex → VSt D → Prop) (R : VR D → Prop) : Prop := Q .normal (mkSt ⟨[(4, .ref 500004)], [(500004, .row)]⟩ [.sl 9 o])
def zdu (k : Nat) : Cut D := cutS ⟨[(3, .ref 500003), (4, .ref 500004), (5, .hole)], [(500003, .row), (500004, .row)]⟩ [.ki .i64, .kl 9, .kl 9] (fun (x : Int × (List (List UInt8)) × (List (List UInt8)) × Unit) => S_SplitList_b0 k k x.1 x.2.1 x.2.2.1) zdt
def zdv (k : Nat) : Cuts D := ⟨[(1, some (zdq k))], []⟩
theorem zdw (k : Nat) : CutFor X zdi k Go.Proofs.Tryz.f193.results.toList (zdu k) (sub (bodyOf Go.Proofs.Tryz.f193) [1, 1, 1, 0, 1]) :=
  loopCut_s (X := X) (sg := [.ki .i64, .kl 9, .kl 9]) (cu := zdv k) (cl := zdj k) (tys := [[9]]) (id := 0) (c := sub (bodyOf Go.Proofs.Tryz.f193) [1, 1, 1, 0, 1, 0, 0]) (f := fun n => fun (x : Int × (List (List UInt8)) × (List (List UInt8)) × Unit) => S_SplitList_b0 k n x.1 x.2.1 x.2.2.1) (zdk k) (cutOK_of (l := [(zdq k, sub (bodyOf Go.Proofs.Tryz.f193) [1, 1, 1, 0, 1, 0, 0, 1, 0])]) (by kernel_rfl) ⟨zds k, trivial⟩) (fun _ => rfl) (fun n x Q R h => by
    simp only [S_SplitList_b0, optK_bind, optK_bif, optK_pure, optK_none, optK_oc, optK_guardT, optK_map] at h
    refine hold_of h ?_
    kernel_rfl) (by kernel_rfl)
def zdx (k : Nat) : Cuts D := ⟨[(0, some (zdu k))], []⟩
def zdy : List Ar := [.c (.ks)]
def zdz (k : Nat) (x : TupA D zdy) : Option ((List (List UInt8))) := S_SplitList k x.1
def ze0 (r : (List (List UInt8))) : VR D := .p (.c (.sl 9 r))
theorem ze1 (k : Nat) : Does P X 193 zdy (zdz k) ze0 :=
  does_of (body := bodyOf Go.Proofs.Tryz.f193) (pl := zdi) (k := k) (cu := zdx k) (tys := [[9]]) (zdk k) ctx mixed Go.Proofs.Tryz.func193 (by kernel_rfl) (by kernel_rfl) (cutOK_of (l := [(zdu k, sub (bodyOf Go.Proofs.Tryz.f193) [1, 1, 1, 0, 1])]) (by kernel_rfl) ⟨zdw k, trivial⟩) fun x R h => by
    simp only [zdz, S_SplitList, optK_bind, optK_bif, optK_pure, optK_none, optK_oc, optK_guardT, optK_map] at h
    refine hold_of h ?_
    kernel_rfl
def ze2 (k : Nat) : Entry D := entS zdy (zdz k) ze0
theorem ze3 (k : Nat) : EntryOK X 193 (ze2 k) := (ze1 k).en rfl
def ze4 : Plan := ⟨[(0, [(0, none)]), (1, [(0, none), (5, some 82)]), (2, [(0, none), (5, some 82), (13, none)]), (3, [(2, some 82), (3, none), (4, none)]), (4, [(5, some 82), (6, some 9)]), (5, [(5, some 82), (6, some 9), (7, none)]), (6, [(5, some 82), (6, some 9), (7, none), (20, none)]), (7, [(5, some 82), (6, some 9), (7, none)]), (8, [(5, some 82), (6, some 9), (7, none), (8, none), (9, none)]), (9, [(5, some 82), (6, some 9), (7, none), (8, none), (36, none)]), (10, [(2, some 82), (3, none), (4, none)]), (11, [(5, some 82), (6, some 9), (7, none)]), (12, [(2, some 82), (3, none), (4, none)])],
  [(0, [(5, some 82)]), (1, [(5, some 82), (6, some 9), (7, none)])],
  [(13, ([(5, some 82)], [(0, none), (5, some 82)])), (20, ([(5, some 82), (6, some 9), (7, none)], [(5, some 82)])), (36, ([], [(5, some 82), (6, some 9), (7, none), (8, none)]))]⟩
def ze5 (k : Nat) : Calls' D := ⟨[(159, zci k), (193, ze2 k), (55, z4y k)], [], [], [], []⟩
theorem ze6 (k : Nat) : CallsOK X (ze5 k) := .cons (zcj k) (.cons (ze3 k) (.cons (z4z k) (.nil cod)))
def ze7 (x : Int × (List ITag) × (List (List UInt8)) × Unit) (o : Oc ((List ITag)) ((List ITag) × Bool × Bool)) (Q : Ex → VSt D → Prop) (R : VR D → Prop) : Prop := ocP o (fun v0 => Q .normal (mkSt ⟨[(5, .ref 500005)], [(500005, .row)]⟩ [.sl 82 v0])) (fun w0 => R (.tup [.c (.sl 82 w0.1), .c (.bool w0.2.1), .c (.bool w0.2.2)]))
def ze8 (k : Nat) : Cut D := cutS ⟨[(5, .ref 500005), (6, .ref 500006), (7, .hole)], [(500005, .row), (500006, .row)]⟩ [.ki .i64, .kl 82, .kl 9] (fun (x : Int × (List ITag) × (List (List UInt8)) × Unit) => S_ParseTagList_b0 k k x.1 x.2.1 x.2.2.1) ze7
def ze9 (k : Nat) : Cuts D := ⟨[], []⟩
theorem zea (k : Nat) : CutFor X ze4 k Go.Proofs.Tryz.f125.results.toList (ze8 k) (sub (bodyOf Go.Proofs.Tryz.f125) [1, 1, 1, 1, 0, 1]) :=
  loopCut_s (X := X) (sg := [.ki .i64, .kl 82, .kl 9]) (cu := ze9 k) (cl := ze5 k) (tys := [[82], [0], [0]]) (id := 0) (c := sub (bodyOf Go.Proofs.Tryz.f125) [1, 1, 1, 1, 0, 1, 0, 0]) (f := fun n => fun (x : Int × (List ITag) × (List (List UInt8)) × Unit) => S_ParseTagList_b0 k n x.1 x.2.1 x.2.2.1) (ze6 k) (cutOK_of (l := []) (by kernel_rfl) trivial) (fun _ => rfl) (fun n x Q R h => by
    simp only [S_ParseTagList_b0, optK_bind, optK_bif, optK_pure, optK_none, optK_oc, optK_guardT, optK_map] at h
    refine hold_of h ?_
    kernel_rfl) (by kernel_rfl)
def zeb (k : Nat) : Cuts D := ⟨[(0, some (ze8 k))], []⟩
def zec : List Ar := [.c (.ks)]
def zed (k : Nat) (x : TupA D zec) : Option ((List ITag) × Bool × Bool) := S_ParseTagList k x.1
def zee (r : (List ITag) × Bool × Bool) : VR D := .tup [.c (.sl 82 r.1), .c (.bool r.2.1), .c (.bool r.2.2)]
theorem zef (k : Nat) : Does P X 125 zec (zed k) zee :=
  does_of (body := bodyOf Go.Proofs.Tryz.f125) (pl := ze4) (k := k) (cu := zeb k) (tys := [[82], [0], [0]]) (ze6 k) ctx mixed Go.Proofs.Tryz.func125 (by kernel_rfl) (by kernel_rfl) (cutOK_of (l := [(ze8 k, sub (bodyOf Go.Proofs.Tryz.f125) [1, 1, 1, 1, 0, 1])]) (by kernel_rfl) ⟨zea k, trivial⟩) fun x R h => by
    simp only [zed, S_ParseTagList, optK_bind, optK_bif, optK_pure, optK_none, optK_oc, optK_guardT, optK_map] at h
    refine hold_of h ?_
    kernel_rfl
def zeg (k : Nat) : Entry D := entS zec (zed k) zee
theorem zeh (k : Nat) : EntryOK X 125 (zeg k) := (zef k).en rfl
def zei : Plan := ⟨[(0, [(2, none), (3, none)]), (1, [(4, none)])],
  [],
  []⟩
def zej (k : Nat) : Calls' D := ⟨[], [], [], [], []⟩
theorem zek (k : Nat) : CallsOK X (zej k) := .nil cod
def zel (k : Nat) : Cuts D := ⟨[], []⟩
def zem : List Ar := [.a [.kb, .ks], .a [.kb, .ks]]
def zen (k : Nat) (x : TupA D zem) : Option (Bool) := S_StrongSame k (⟨x.1.1, x.1.2.1⟩ : ITag) (⟨x.2.1.1, x.2.1.2.1⟩ : ITag)
def zeo (r : Bool) : VR D := .p (.c (.bool r))
theorem zep (k : Nat) : Does P X 56 zem (zen k) zeo :=
  does_of (body := bodyOf Go.Proofs.Tryz.f56) (pl := zei) (k := k) (cu := zel k) (tys := [[0]]) (zek k) ctx mixed Go.Proofs.Tryz.func56 (by kernel_rfl) (by kernel_rfl) (cutOK_of (l := []) (by kernel_rfl) trivial) fun x R h => by
    simp only [zen, S_StrongSame, optK_bind, optK_bif, optK_pure, optK_none, optK_oc, optK_guardT, optK_map] at h
    refine hold_of h ?_
    kernel_rfl
def zeq (k : Nat) : Entry D := entS zem (zen k) zeo
theorem zer (k : Nat) : EntryOK X 56 (zeq k) := (zep k).en rfl
def zes : Plan := ⟨[(0, [(2, none), (3, none)]), (1, [(4, none)])],
  [],
  []⟩
def zet (k : Nat) : Calls' D := ⟨[], [], [], [], []⟩
theorem zeu (k : Nat) : CallsOK X (zet k) := .nil cod
def zev (k : Nat) : Cuts D := ⟨[], []⟩
def zew : List Ar := [.a [.kb, .ks], .a [.kb, .ks]]
def zex (k : Nat) (x : TupA D zew) : Option (Bool) := S_WeakSame k (⟨x.1.1, x.1.2.1⟩ : ITag) (⟨x.2.1.1, x.2.1.2.1⟩ : ITag)
def zey (r : Bool) : VR D := .p (.c (.bool r))
theorem zez (k : Nat) : Does P X 126 zew (zex k) zey :=
  does_of (body := bodyOf Go.Proofs.Tryz.f126) (pl := zes) (k := k) (cu := zev k) (tys := [[0]]) (zeu k) ctx mixed Go.Proofs.Tryz.func126 (by kernel_rfl) (by kernel_rfl) (cutOK_of (l := []) (by kernel_rfl) trivial) fun x R h => by
    simp only [zex, S_WeakSame, optK_bind, optK_bif, optK_pure, optK_none, optK_oc, optK_guardT, optK_map] at h
    refine hold_of h ?_
    kernel_rfl
def zf0 (k : Nat) : Entry D := entS zew (zex k) zey
theorem zf1 (k : Nat) : EntryOK X 126 (zf0 k) := (zez k).en rfl
def zf2 : Plan := ⟨[(0, [(0, none), (2, none), (3, none), (5, none)]), (1, [(2, none), (3, none), (5, none), (10, some 82), (11, none), (12, none)]), (2, [(2, none), (3, none), (5, none), (10, some 82), (11, none), (21, none)]), (3, [(8, none), (9, none)]), (4, [(2, none), (3, none), (5, none), (10, some 82), (11, none), (13, none)]), (5, [(2, none), (3, none), (5, none), (10, some 82), (11, none), (13, none), (28, none)]), (6, [(2, none), (3, none), (5, none), (10, some 82), (11, none), (13, none)]), (7, [(2, none), (3, none), (5, none), (10, some 82), (11, none), (13, none), (51, none)]), (8, [(8, none), (9, none)]), (9, [(8, none), (9, none)])],
  [(0, [(11, none)]), (1, [(2, none), (3, none), (5, none), (10, some 82), (11, none), (13, none)])],
  [(21, ([], [(2, none), (3, none), (5, none), (10, some 82), (11, none)])), (28, ([(2, none), (3, none), (5, none), (10, some 82), (11, none), (13, none)], [(11, none)])), (51, ([], [(2, none), (3, none), (5, none), (10, some 82), (11, none), (13, none)]))]⟩
def zf3 (k : Nat) : Calls' D := ⟨[(125, zeg k), (56, zeq k), (126, zf0 k)], [], [], [], []⟩
theorem zf4 (k : Nat) : CallsOK X (zf3 k) := .cons (zeh k) (.cons (zer k) (.cons (zf1 k) (.nil cod)))
def zf5 (x : Bool × Bool × Bool × Int × Bool × (List UInt8) × (List ITag) × Unit) (o : Oc (Unit) (Bool × Bool)) (Q : Ex → VSt D → Prop) (R : VR D → Prop) : Prop := ocP o (fun v0 => Q .normal (mkSt ⟨[(11, .hole)], []⟩ [.bool x.2.2.1])) (fun w0 => R (.tup [.c (.bool w0.1), .c (.bool w0.2)]))
def zf6 (k : Nat) : Cut D := cutS ⟨[(2, .hole), (3, .hole), (5, .ptr 5 0), (10, .ref 500010), (11, .hole), (13, .hole)], [(5, .var [.hole, .hole]), (500010, .row)]⟩ [.kb, .kb, .kb, .ki .i64, .kb, .ks, .kl 82] (fun (x : Bool × Bool × Bool × Int × Bool × (List UInt8) × (List ITag) × Unit) => S_l17Any_b0 k k x.1 x.2.1 x.2.2.1 x.2.2.2.1 x.2.2.2.2.1 x.2.2.2.2.2.1 x.2.2.2.2.2.2.1) zf5
def zf7 (k : Nat) : Cuts D := ⟨[], []⟩
theorem zf8 (k : Nat) : CutFor X zf2 k Go.Proofs.Tryz.f62.results.toList (zf6 k) (sub (bodyOf Go.Proofs.Tryz.f62) [1, 1, 1, 0, 1]) :=
  loopCut_s (X := X) (sg := [.kb, .kb, .kb, .ki .i64, .kb, .ks, .kl 82]) (cu := zf7 k) (cl := zf3 k) (tys := [[0], [0]]) (id := 0) (c := sub (bodyOf Go.Proofs.Tryz.f62) [1, 1, 1, 0, 1, 0, 0]) (f := fun n => fun (x : Bool × Bool × Bool × Int × Bool × (List UInt8) × (List ITag) × Unit) => S_l17Any_b0 k n x.1 x.2.1 x.2.2.1 x.2.2.2.1 x.2.2.2.2.1 x.2.2.2.2.2.1 x.2.2.2.2.2.2.1) (zf4 k) (cutOK_of (l := []) (by kernel_rfl) trivial) (fun _ => rfl) (fun n x Q R h => by
    simp only [S_l17Any_b0, optK_bind, optK_bif, optK_pure, optK_none, optK_oc, optK_guardT, optK_map] at h
    refine hold_of h ?_
    kernel_rfl) (by kernel_rfl)
def zf9 (k : Nat) : Cuts D := ⟨[(0, some (zf6 k))], []⟩
def zfa : List Ar := [.c (.ks), .a [.kb, .ks], .c (.kb), .c (.kb)]
def zfb (k : Nat) (x : TupA D zfa) : Option (Bool × Bool) := S_l17Any k x.1 (⟨x.2.1.1, x.2.1.2.1⟩ : ITag) x.2.2.1 x.2.2.2.1
def zfc (r : Bool × Bool) : VR D := .tup [.c (.bool r.1), .c (.bool r.2)]
theorem zfd (k : Nat) : Does P X 62 zfa (zfb k) zfc :=
  does_of (body := bodyOf Go.Proofs.Tryz.f62) (pl := zf2) (k := k) (cu := zf9 k) (tys := [[0], [0]]) (zf4 k) ctx mixed Go.Proofs.Tryz.func62 (by kernel_rfl) (by kernel_rfl) (cutOK_of (l := [(zf6 k, sub (bodyOf Go.Proofs.Tryz.f62) [1, 1, 1, 0, 1])]) (by kernel_rfl) ⟨zf8 k, trivial⟩) fun x R h => by
    simp only [zfb, S_l17Any, optK_bind, optK_bif, optK_pure, optK_none, optK_oc, optK_guardT, optK_map] at h
    refine hold_of h ?_
    kernel_rfl
def zfe (k : Nat) : Entry D := entS zfa (zfb k) zfc
theorem zff (k : Nat) : EntryOK X 62 (zfe k) := (zfd k).en rfl
def zfg : Plan := ⟨[(0, [(2, none), (3, none)]), (1, [(2, none), (3, none), (5, none), (6, none)]), (2, [(2, none), (5, none), (6, none), (7, none), (8, none)]), (3, [(2, none), (5, none), (6, none), (7, none), (8, none), (9, none)]), (4, [(2, none), (5, none), (6, none), (7, none), (8, none), (9, none), (10, none), (11, none)]), (5, [(2, none), (5, none), (6, none), (7, none), (8, none), (9, none), (10, none), (54, none)]), (6, [(2, none), (5, none), (6, none), (7, none), (8, none), (9, none), (12, none)]), (7, [(2, none), (5, none), (6, none), (7, none), (8, none), (9, none), (63, none)]), (8, [(4, none)]), (9, [(2, none), (5, none), (6, none), (7, none), (8, none), (9, none), (14, none), (15, none)]), (10, [(2, none), (5, none), (6, none), (7, none), (8, none), (9, none), (14, none), (70, none)]), (11, [(2, none), (5, none), (6, none), (7, none), (8, none), (9, none), (16, none), (17, none)]), (12, [(2, none), (5, none), (6, none), (7, none), (8, none), (9, none), (84, none)]), (13, [(4, none)]), (14, [(2, none), (5, none), (6, none), (7, none), (8, none), (9, none), (18, none), (19, none)]), (15, [(2, none), (5, none), (6, none), (7, none), (8, none), (9, none), (18, none), (91, none)]), (16, [(9, none), (20, none), (21, none)]), (17, [(9, none), (99, none)]), (18, [(4, none)]), (19, [(105, none)]), (20, [(4, none)]), (21, [(4, none)]), (22, [(7, none), (8, none), (9, none), (22, none), (23, none)]), (23, [(7, none), (8, none), (22, none), (116, none)]), (24, [(7, none), (8, none), (24, none), (25, none)]), (25, [(130, none)]), (26, [(4, none)]), (27, [(4, none)])],
  [(0, [])],
  [(54, ([(2, none), (5, none), (6, none), (7, none), (8, none), (9, none), (10, none)], [(2, none), (5, none), (6, none), (7, none), (8, none), (9, none)])), (63, ([], [(2, none), (5, none), (6, none), (7, none), (8, none), (9, none)])), (70, ([(2, none), (5, none), (6, none), (7, none), (8, none), (9, none), (14, none)], [(2, none), (5, none), (6, none), (7, none), (8, none), (9, none)])), (84, ([], [(2, none), (5, none), (6, none), (7, none), (8, none), (9, none)])), (91, ([(5, none), (6, none), (9, none), (18, none)], [(2, none), (7, none), (8, none), (9, none)])), (99, ([], [(9, none)])), (105, ([], [])), (116, ([(7, none), (8, none), (22, none)], [])), (130, ([], []))]⟩
def zfh (k : Nat) : Calls' D := ⟨[(50, z3w k), (55, z4y k), (49, zbq k), (54, z3m k), (62, zfe k)], [], [], [], []⟩
theorem zfi (k : Nat) : CallsOK X (zfh k) := .cons (z3x k) (.cons (z4z k) (.cons (zbr k) (.cons (z3n k) (.cons (zff k) (.nil cod)))))
def zfj (x : Bool × Int × Bool × Bool × (List UInt8) × Bool × (List UInt8) × (List UInt8) × (List UInt8) × (List IField) × Bool × (List UInt8) × Unit) (o : Oc (Unit) (Int)) (Q : Ex → VSt D → Prop) (R : VR D → Prop) : Prop := ocP o (fun v0 => Q .normal (mkSt ⟨[(2, .ptr 2 0), (5, .ptr 5 0), (6, .hole), (7, .hole), (8, .hole), (9, .hole)], [(2, .var [.hole, .hole, .hole, .hole]), (5, .var [.hole, .hole])]⟩ [.bool x.1, .int .i64 x.2.1, .bool x.2.2.1, .bool x.2.2.2.1, .str x.2.2.2.2.2.2.1, .str x.2.2.2.2.2.2.2.1, .str x.2.2.2.2.2.2.2.2.1, .sl 107 x.2.2.2.2.2.2.2.2.2.1, .bool x.2.2.2.2.2.2.2.2.2.2.1, .str x.2.2.2.2.2.2.2.2.2.2.2.1])) (fun w0 => R (.p (.c (.int .i64 w0))))
def zfk (k : Nat) : Cut D := cutS ⟨[(2, .ptr 2 0), (5, .ptr 5 0), (6, .hole), (7, .hole), (8, .hole), (9, .hole), (14, .hole), (70, .hole)], [(2, .var [.hole, .hole, .hole, .hole]), (5, .var [.hole, .hole])]⟩ [.kb, .ki .i64, .kb, .kb, .ks, .kb, .ks, .ks, .ks, .kl 107, .kb, .ks] (fun (x : Bool × Int × Bool × Bool × (List UInt8) × Bool × (List UInt8) × (List UInt8) × (List UInt8) × (List IField) × Bool × (List UInt8) × Unit) => S_CheckConditions_c70 k x.1 x.2.1 x.2.2.1 x.2.2.2.1 x.2.2.2.2.1 x.2.2.2.2.2.1 x.2.2.2.2.2.2.1 x.2.2.2.2.2.2.2.1 x.2.2.2.2.2.2.2.2.1 x.2.2.2.2.2.2.2.2.2.1 x.2.2.2.2.2.2.2.2.2.2.1 x.2.2.2.2.2.2.2.2.2.2.2.1) zfj
def zfl (k : Nat) : Cuts D := ⟨[], []⟩
theorem zfm (k : Nat) : CutFor X zfg k Go.Proofs.Tryz.f27.results.toList (zfk k) (sub (bodyOf Go.Proofs.Tryz.f27) [1, 1, 1, 1, 0, 1, 1, 1, 1, 1]) :=
  joinCut_s (X := X) (sg := [.kb, .ki .i64, .kb, .kb, .ks, .kb, .ks, .ks, .ks, .kl 107, .kb, .ks]) (cu := zfl k) (cl := zfh k) (tys := [[0]]) (zfi k) (cutOK_of (l := []) (by kernel_rfl) trivial) fun x Q R h => by
    simp only [S_CheckConditions_c70, optK_bind, optK_bif, optK_pure, optK_none, optK_oc, optK_guardT, optK_map] at h
    refine hold_of h ?_
    kernel_rfl
def zfn (x : Bool × Int × Bool × Bool × (List UInt8) × Bool × (List UInt8) × (List UInt8) × (List UInt8) × (List IField) × Bool × (List UInt8) × Unit) (o : Oc (Unit) (Int)) (Q : Ex → VSt D → Prop) (R : VR D → Prop) : Prop := ocP o (fun v0 => Q .normal (mkSt ⟨[(2, .ptr 2 0), (5, .ptr 5 0), (6, .hole), (7, .hole), (8, .hole), (9, .hole)], [(2, .var [.hole, .hole, .hole, .hole]), (5, .var [.hole, .hole])]⟩ [.bool x.1, .int .i64 x.2.1, .bool x.2.2.1, .bool x.2.2.2.1, .str x.2.2.2.2.2.2.1, .str x.2.2.2.2.2.2.2.1, .str x.2.2.2.2.2.2.2.2.1, .sl 107 x.2.2.2.2.2.2.2.2.2.1, .bool x.2.2.2.2.2.2.2.2.2.2.1, .str x.2.2.2.2.2.2.2.2.2.2.2.1])) (fun w0 => R (.p (.c (.int .i64 w0))))
def zfo (k : Nat) : Cut D := cutS ⟨[(2, .ptr 2 0), (5, .ptr 5 0), (6, .hole), (7, .hole), (8, .hole), (9, .hole), (10, .hole), (54, .hole)], [(2, .var [.hole, .hole, .hole, .hole]), (5, .var [.hole, .hole])]⟩ [.kb, .ki .i64, .kb, .kb, .ks, .kb, .ks, .ks, .ks, .kl 107, .kb, .ks] (fun (x : Bool × Int × Bool × Bool × (List UInt8) × Bool × (List UInt8) × (List UInt8) × (List UInt8) × (List IField) × Bool × (List UInt8) × Unit) => S_CheckConditions_c54 k x.1 x.2.1 x.2.2.1 x.2.2.2.1 x.2.2.2.2.1 x.2.2.2.2.2.1 x.2.2.2.2.2.2.1 x.2.2.2.2.2.2.2.1 x.2.2.2.2.2.2.2.2.1 x.2.2.2.2.2.2.2.2.2.1 x.2.2.2.2.2.2.2.2.2.2.1 x.2.2.2.2.2.2.2.2.2.2.2.1) zfn
def zfp (k : Nat) : Cuts D := ⟨[], [(70, some (zfk k))]⟩
theorem zfq (k : Nat) : CutFor X zfg k Go.Proofs.Tryz.f27.results.toList (zfo k) (sub (bodyOf Go.Proofs.Tryz.f27) [1, 1, 1, 1, 0, 1, 1]) :=
  joinCut_s (X := X) (sg := [.kb, .ki .i64, .kb, .kb, .ks, .kb, .ks, .ks, .ks, .kl 107, .kb, .ks]) (cu := zfp k) (cl := zfh k) (tys := [[0]]) (zfi k) (cutOK_of (l := [(zfk k, sub (bodyOf Go.Proofs.Tryz.f27) [1, 1, 1, 1, 0, 1, 1, 1, 1, 1])]) (by kernel_rfl) ⟨zfm k, trivial⟩) fun x Q R h => by
    simp only [S_CheckConditions_c54, optK_bind, optK_bif, optK_pure, optK_none, optK_oc, optK_guardT, optK_map] at h
    refine hold_of h ?_
    kernel_rfl
def zfr (x : Int × Bool × (List UInt8) × Bool × Unit) (o : Oc (Unit) (Int)) (Q : Ex → VSt D → Prop) (R : VR D → Prop) : Prop := ocP o (fun v0 => Q .normal (mkSt ⟨[], []⟩ [])) (fun w0 => R (.p (.c (.int .i64 w0))))
def zfs (k : Nat) : Cut D := cutS ⟨[(7, .hole), (8, .hole), (22, .hole), (116, .hole)], []⟩ [.ki .i64, .kb, .ks, .kb] (fun (x : Int × Bool × (List UInt8) × Bool × Unit) => S_CheckConditions_c116 k x.1 x.2.1 x.2.2.1 x.2.2.2.1) zfr
def zft (k : Nat) : Cuts D := ⟨[], []⟩
theorem zfu (k : Nat) : CutFor X zfg k Go.Proofs.Tryz.f27.results.toList (zfs k) (sub (bodyOf Go.Proofs.Tryz.f27) [1, 1, 1, 1, 1, 1, 0, 1, 1]) :=
  joinCut_s (X := X) (sg := [.ki .i64, .kb, .ks, .kb]) (cu := zft k) (cl := zfh k) (tys := [[0]]) (zfi k) (cutOK_of (l := []) (by kernel_rfl) trivial) fun x Q R h => by
    simp only [S_CheckConditions_c116, optK_bind, optK_bif, optK_pure, optK_none, optK_oc, optK_guardT, optK_map] at h
    refine hold_of h ?_
    kernel_rfl
def zfv (k : Nat) : Cuts D := ⟨[], [(54, some (zfo k)), (116, some (zfs k))]⟩
def zfw : List Ar := [.a [.ks, .ks, .ks, .kl 107], .a [.ki .i64, .kl 107, .ks]]
def zfx (k : Nat) (x : TupA D zfw) : Option (Int) := S_CheckConditions k (⟨x.1.1, x.1.2.1, x.1.2.2.1, x.1.2.2.2.1⟩ : IRequest) (⟨x.2.1.1, x.2.1.2.1, x.2.1.2.2.1⟩ : IResponse)
def zfy (r : Int) : VR D := .p (.c (.int .i64 r))
theorem zfz (k : Nat) : Does P X 27 zfw (zfx k) zfy :=
  does_of (body := bodyOf Go.Proofs.Tryz.f27) (pl := zfg) (k := k) (cu := zfv k) (tys := [[0]]) (zfi k) ctx mixed Go.Proofs.Tryz.func27 (by kernel_rfl) (by kernel_rfl) (cutOK_of (l := [(zfo k, sub (bodyOf Go.Proofs.Tryz.f27) [1, 1, 1, 1, 0, 1, 1]), (zfs k, sub (bodyOf Go.Proofs.Tryz.f27) [1, 1, 1, 1, 1, 1, 0, 1, 1])]) (by kernel_rfl) ⟨zfq k, zfu k, trivial⟩) fun x R h => by
    simp only [zfx, S_CheckConditions, optK_bind, optK_bif, optK_pure, optK_none, optK_oc, optK_guardT, optK_map] at h
    refine hold_of h ?_
    kernel_rfl
def zg0 (k : Nat) : Entry D := entS zfw (zfx k) zfy
theorem zg1 (k : Nat) : EntryOK X 27 (zg0 k) := (zfz k).en rfl
def zg2 : List Ar := [.c (.kl 9), .c (.ks)]
def zg3 (k : Nat) (x : TupA D zg2) : Option ((List UInt8)) := strings_Join k x.1 x.2.1
def zg4 (r : (List UInt8)) : VR D := .p (.c (.str r))
theorem zg5 (k : Nat) : Does P X 85 zg2 (zg3 k) zg4 := does_join (P := P) (D := D) (X := X) (el := 9) ⟨Go.Proofs.Tryz.f85, Go.Proofs.Tryz.func85, by kernel_rfl, by kernel_rfl⟩ (fun (s : List UInt8) => s) (fun (l : List (List UInt8)) s => joinO l s) (fun _ => rfl) (by kernel_rfl) (fun (l : List (List UInt8)) s => congrArg (fun t => joinO t s) (List.map_id' l).symm) (fun a c sep w => Go.Proofs.Tryz.strings_Join_none a c sep w) (fun bk o c xs sep w hg h1 h2 h3 h4 h5 => Go.Proofs.Tryz.strings_Join bk o c xs sep w h1 h2 h3 h4 h5)
def zg6 (k : Nat) : Entry D := entS zg2 (zg3 k) zg4
theorem zg7 (k : Nat) : EntryOK X 85 (zg6 k) := (zg5 k).en rfl
def zg8 : Plan := ⟨[(0, [(0, some 9)]), (1, [(2, none)])],
  [],
  []⟩
def zg9 (k : Nat) : Calls' D := ⟨[(85, zg6 k)], [], [], [], []⟩
theorem zga (k : Nat) : CallsOK X (zg9 k) := .cons (zg7 k) (.nil cod)
def zgb (k : Nat) : Cuts D := ⟨[], []⟩
def zgc : List Ar := [.c (.kl 9)]
def zgd (k : Nat) (x : TupA D zgc) : Option ((List UInt8)) := I_JoinList k x.1
def zge (r : (List UInt8)) : VR D := .p (.c (.str r))
theorem zgf (k : Nat) : Does P X 119 zgc (zgd k) zge :=
  does_of (body := bodyOf Go.Proofs.Tryz.f119) (pl := zg8) (k := k) (cu := zgb k) (tys := [[0]]) (zga k) ctx mixed Go.Proofs.Tryz.func119 (by kernel_rfl) (by kernel_rfl) (cutOK_of (l := []) (by kernel_rfl) trivial) fun x R h => by
    simp only [zgd, I_JoinList, optK_bind, optK_bif, optK_pure, optK_none, optK_oc, optK_guardT, optK_map] at h
    refine hold_of h ?_
    kernel_rfl
def zgg (k : Nat) : Entry D := entS zgc (zgd k) zge
theorem zgh (k : Nat) : EntryOK X 119 (zgg k) := (zgf k).en rfl
def zgi : Plan := ⟨[(0, [(0, some 107), (1, none)]), (1, [(0, some 107), (1, none), (6, some 9)]), (2, [(1, none), (6, some 9), (10, some 107), (11, none), (12, none)]), (3, [(1, none), (6, some 9), (10, some 107), (11, none), (12, none), (13, none)]), (4, [(1, none), (6, some 9), (8, none), (10, some 107), (11, none), (12, none)]), (5, [(1, none), (6, some 9), (8, none), (10, some 107), (11, none), (12, none), (19, none)]), (6, [(1, none), (6, some 9), (10, some 107), (11, none), (12, none)]), (7, [(1, none), (6, some 9), (10, some 107), (11, none), (12, none)]), (8, [(4, none), (5, none)])],
  [(0, [(6, some 9)]), (1, [(1, none), (6, some 9), (10, some 107), (11, none), (12, none)])],
  [(13, ([(1, none), (6, some 9), (10, some 107), (11, none), (12, none)], [(6, some 9)])), (19, ([(1, none), (6, some 9), (8, none), (10, some 107), (11, none), (12, none)], [(1, none), (6, some 9), (10, some 107), (11, none), (12, none)]))]⟩
def zgj (k : Nat) : Calls' D := ⟨[(119, zgg k)], [], [], [], []⟩
theorem zgk (k : Nat) : CallsOK X (zgj k) := .cons (zgh k) (.nil cod)
def zgl (x : (List UInt8) × (List IField) × Int × Int × Bool × (List (List UInt8)) × (List UInt8) × (List UInt8) × Unit) (o : (List (List UInt8))) (Q : Ex → VSt D → Prop) (R : VR D → Prop) : Prop := Q .normal (mkSt ⟨[(1, .hole), (6, .ref 500006), (10, .hole), (11, .hole), (12, .hole)], [(500006, .row)]⟩ [.str x.1, .sl 107 x.2.1, .int .i64 x.2.2.1, .int .i64 x.2.2.2.1, .sl 9 o])
def zgm (k : Nat) : Cut D := cutS ⟨[(1, .hole), (6, .ref 500006), (8, .ptr 8 0), (10, .hole), (11, .hole), (12, .hole), (19, .hole)], [(500006, .row), (8, .var [.hole, .hole])]⟩ [.ks, .kl 107, .ki .i64, .ki .i64, .kb, .kl 9, .ks, .ks] (fun (x : (List UInt8) × (List IField) × Int × Int × Bool × (List (List UInt8)) × (List UInt8) × (List UInt8) × Unit) => I_GetField_c19 k x.1 x.2.1 x.2.2.1 x.2.2.2.1 x.2.2.2.2.1 x.2.2.2.2.2.1 x.2.2.2.2.2.2.1 x.2.2.2.2.2.2.2.1) zgl
def zgn (k : Nat) : Cuts D := ⟨[], []⟩
theorem zgo (k : Nat) : CutFor X zgi k Go.Proofs.Tryz.f57.results.toList (zgm k) (sub (bodyOf Go.Proofs.Tryz.f57) [1, 1, 0, 1, 0, 0, 1, 1, 0, 0, 1, 1]) :=
  joinCut_s (X := X) (sg := [.ks, .kl 107, .ki .i64, .ki .i64, .kb, .kl 9, .ks, .ks]) (cu := zgn k) (cl := zgj k) (tys := [[0], [0]]) (zgk k) (cutOK_of (l := []) (by kernel_rfl) trivial) fun x Q R h => by
    simp only [I_GetField_c19, optK_bind, optK_bif, optK_pure, optK_none, optK_oc, optK_guardT, optK_map] at h
    refine hold_of h ?_
    kernel_rfl
def zgp (x : (List UInt8) × (List IField) × Int × Int × (List (List UInt8)) × Unit) (o : (List (List UInt8))) (Q : Ex → VSt D → Prop) (R : VR D → Prop) : Prop := Q .normal (mkSt ⟨[(1, .hole), (6, .ref 500006), (10, .hole), (11, .hole), (12, .hole)], [(500006, .row)]⟩ [.str x.1, .sl 107 x.2.1, .int .i64 x.2.2.1, .int .i64 x.2.2.2.1, .sl 9 o])
def zgq (k : Nat) : Cut D := cutS ⟨[(1, .hole), (6, .ref 500006), (10, .hole), (11, .hole), (12, .hole)], [(500006, .row)]⟩ [.ks, .kl 107, .ki .i64, .ki .i64, .kl 9] (fun (x : (List UInt8) × (List IField) × Int × Int × (List (List UInt8)) × Unit) => I_GetField_b1 k x.1 x.2.1 x.2.2.1 x.2.2.2.1 x.2.2.2.2.1) zgp
def zgr (k : Nat) : Cuts D := ⟨[], [(19, some (zgm k))]⟩
theorem zgs (k : Nat) : CutFor X zgi k Go.Proofs.Tryz.f57.results.toList (zgq k) (sub (bodyOf Go.Proofs.Tryz.f57) [1, 1, 0, 1, 0, 0, 1, 1, 0]) :=
  joinCut_s (X := X) (sg := [.ks, .kl 107, .ki .i64, .ki .i64, .kl 9]) (cu := zgr k) (cl := zgj k) (tys := [[0], [0]]) (zgk k) (cutOK_of (l := [(zgm k, sub (bodyOf Go.Proofs.Tryz.f57) [1, 1, 0, 1, 0, 0, 1, 1, 0, 0, 1, 1])]) (by kernel_rfl) ⟨zgo k, trivial⟩) fun x Q R h => by
    simp only [I_GetField_b1, optK_bind, optK_bif, optK_pure, optK_none, optK_oc, optK_guardT, optK_map] at h
    refine hold_of h ?_
    kernel_rfl
def zgt (x : (List UInt8) × (List IField) × Int × Int × (List (List UInt8)) × Unit) (o : (List (List UInt8))) (Q : Ex → VSt D → Prop) (R : VR D → Prop) : Prop := Q .normal (mkSt ⟨[(6, .ref 500006)], [(500006, .row)]⟩ [.sl 9 o])
def zgu (k : Nat) : Cut D := cutS ⟨[(1, .hole), (6, .ref 500006), (10, .hole), (11, .hole), (12, .hole)], [(500006, .row)]⟩ [.ks, .kl 107, .ki .i64, .ki .i64, .kl 9] (fun (x : (List UInt8) × (List IField) × Int × Int × (List (List UInt8)) × Unit) => I_GetField_b0 k k x.1 x.2.1 x.2.2.1 x.2.2.2.1 x.2.2.2.2.1) zgt
def zgv (k : Nat) : Cuts D := ⟨[(1, some (zgq k))], []⟩
theorem zgw (k : Nat) : CutFor X zgi k Go.Proofs.Tryz.f57.results.toList (zgu k) (sub (bodyOf Go.Proofs.Tryz.f57) [1, 1, 0, 1]) :=
  loopCut_s (X := X) (sg := [.ks, .kl 107, .ki .i64, .ki .i64, .kl 9]) (cu := zgv k) (cl := zgj k) (tys := [[0], [0]]) (id := 0) (c := sub (bodyOf Go.Proofs.Tryz.f57) [1, 1, 0, 1, 0, 0]) (f := fun n => fun (x : (List UInt8) × (List IField) × Int × Int × (List (List UInt8)) × Unit) => I_GetField_b0 k n x.1 x.2.1 x.2.2.1 x.2.2.2.1 x.2.2.2.2.1) (zgk k) (cutOK_of (l := [(zgq k, sub (bodyOf Go.Proofs.Tryz.f57) [1, 1, 0, 1, 0, 0, 1, 1, 0])]) (by kernel_rfl) ⟨zgs k, trivial⟩) (fun _ => rfl) (fun n x Q R h => by
    simp only [I_GetField_b0, optK_bind, optK_bif, optK_pure, optK_none, optK_oc, optK_guardT, optK_map] at h
    refine hold_of h ?_
    kernel_rfl) (by kernel_rfl)
def zgx (k : Nat) : Cuts D := ⟨[(0, some (zgu k))], []⟩
def zgy : List Ar := [.c (.kl 107), .c (.ks)]
def zgz (k : Nat) (x : TupA D zgy) : Option ((List UInt8) × Bool) := I_GetField k x.1 x.2.1
def zh0 (r : (List UInt8) × Bool) : VR D := .tup [.c (.str r.1), .c (.bool r.2)]
theorem zh1 (k : Nat) : Does P X 57 zgy (zgz k) zh0 :=
  does_of (body := bodyOf Go.Proofs.Tryz.f57) (pl := zgi) (k := k) (cu := zgx k) (tys := [[0], [0]]) (zgk k) ctx mixed Go.Proofs.Tryz.func57 (by kernel_rfl) (by kernel_rfl) (cutOK_of (l := [(zgu k, sub (bodyOf Go.Proofs.Tryz.f57) [1, 1, 0, 1])]) (by kernel_rfl) ⟨zgw k, trivial⟩) fun x R h => by
    simp only [zgz, I_GetField, optK_bind, optK_bif, optK_pure, optK_none, optK_oc, optK_guardT, optK_map] at h
    refine hold_of h ?_
    kernel_rfl
def zh2 (k : Nat) : Entry D := entS zgy (zgz k) zh0
theorem zh3 (k : Nat) : EntryOK X 57 (zh2 k) := (zh1 k).en rfl
def zh4 : Plan := ⟨[(0, [(0, none), (1, none)]), (1, [(4, none)])],
  [],
  []⟩
def zh5 (k : Nat) : Calls' D := ⟨[], [], [], [], []⟩
theorem zh6 (k : Nat) : CallsOK X (zh5 k) := .nil cod
def zh7 (k : Nat) : Cuts D := ⟨[], []⟩
def zh8 : List Ar := [.c (.ks), .c (.ks)]
def zh9 (k : Nat) (x : TupA D zh8) : Option (Bool) := internal_stringslite_HasPrefix k x.1 x.2.1
def zha (r : Bool) : VR D := .p (.c (.bool r))
theorem zhb (k : Nat) : Does P X 144 zh8 (zh9 k) zha :=
  does_of (body := bodyOf Go.Proofs.Tryz.f144) (pl := zh4) (k := k) (cu := zh7 k) (tys := [[0]]) (zh6 k) ctx mixed Go.Proofs.Tryz.func144 (by kernel_rfl) (by kernel_rfl) (cutOK_of (l := []) (by kernel_rfl) trivial) fun x R h => by
    simp only [zh9, internal_stringslite_HasPrefix, optK_bind, optK_bif, optK_pure, optK_none, optK_oc, optK_guardT, optK_map] at h
    refine hold_of h ?_
    kernel_rfl
def zhc (k : Nat) : Entry D := entS zh8 (zh9 k) zha
theorem zhd (k : Nat) : EntryOK X 144 (zhc k) := (zhb k).en rfl
def zhe : Plan := ⟨[(0, [(0, none), (1, none)]), (1, [(0, none), (1, none), (9, none)]), (2, [(4, none), (5, none)]), (3, [(4, none), (5, none)])],
  [],
  [(9, ([(0, none)], [(0, none), (1, none)]))]⟩
def zhf (k : Nat) : Calls' D := ⟨[(144, zhc k)], [], [], [], []⟩
theorem zhg (k : Nat) : CallsOK X (zhf k) := .cons (zhd k) (.nil cod)
def zhh (k : Nat) : Cuts D := ⟨[], []⟩
def zhi : List Ar := [.c (.ks), .c (.ks)]
def zhj (k : Nat) (x : TupA D zhi) : Option ((List UInt8) × Bool) := internal_stringslite_CutPrefix k x.1 x.2.1
def zhk (r : (List UInt8) × Bool) : VR D := .tup [.c (.str r.1), .c (.bool r.2)]
theorem zhl (k : Nat) : Does P X 178 zhi (zhj k) zhk :=
  does_of (body := bodyOf Go.Proofs.Tryz.f178) (pl := zhe) (k := k) (cu := zhh k) (tys := [[0], [0]]) (zhg k) ctx mixed Go.Proofs.Tryz.func178 (by kernel_rfl) (by kernel_rfl) (cutOK_of (l := []) (by kernel_rfl) trivial) fun x R h => by
    simp only [zhj, internal_stringslite_CutPrefix, optK_bind, optK_bif, optK_pure, optK_none, optK_oc, optK_guardT, optK_map] at h
    refine hold_of h ?_
    kernel_rfl
def zhm (k : Nat) : Entry D := entS zhi (zhj k) zhk
theorem zhn (k : Nat) : EntryOK X 178 (zhm k) := (zhl k).en rfl
def zho : Plan := ⟨[(0, [(0, none), (1, none)]), (1, [(4, none), (5, none)])],
  [],
  []⟩
def zhp (k : Nat) : Calls' D := ⟨[(178, zhm k)], [], [], [], []⟩
theorem zhq (k : Nat) : CallsOK X (zhp k) := .cons (zhn k) (.nil cod)
def zhr (k : Nat) : Cuts D := ⟨[], []⟩
def zhs : List Ar := [.c (.ks), .c (.ks)]
def zht (k : Nat) (x : TupA D zhs) : Option ((List UInt8) × Bool) := strings_CutPrefix k x.1 x.2.1
def zhu (r : (List UInt8) × Bool) : VR D := .tup [.c (.str r.1), .c (.bool r.2)]
theorem zhv (k : Nat) : Does P X 120 zhs (zht k) zhu :=
  does_of (body := bodyOf Go.Proofs.Tryz.f120) (pl := zho) (k := k) (cu := zhr k) (tys := [[0], [0]]) (zhq k) ctx mixed Go.Proofs.Tryz.func120 (by kernel_rfl) (by kernel_rfl) (cutOK_of (l := []) (by kernel_rfl) trivial) fun x R h => by
    simp only [zht, strings_CutPrefix, optK_bind, optK_bif, optK_pure, optK_none, optK_oc, optK_guardT, optK_map] at h
    refine hold_of h ?_
    kernel_rfl
def zhw (k : Nat) : Entry D := entS zhs (zht k) zhu
theorem zhx (k : Nat) : EntryOK X 120 (zhw k) := (zhv k).en rfl
def zhy : List Ar := [.c (.ks), .c (.ks)]
def zhz (k : Nat) (x : TupA D zhy) : Option ((List UInt8)) := strings_Trim k x.1 x.2.1
def zi0 (r : (List UInt8)) : VR D := .p (.c (.str r))
theorem zi1 (k : Nat) : Does P X 121 zhy (zhz k) zi0 := does_trim ⟨Go.Proofs.Tryz.f121, Go.Proofs.Tryz.func121, by kernel_rfl, by kernel_rfl⟩ (fun s cs w hg h1 h2 h3 => Go.Proofs.Any.strings_Trim_laid Go.Proofs.Tryz.lays160 (by kernel_rfl) s cs w h1 h2 h3)
def zi2 (k : Nat) : Entry D := entS zhy (zhz k) zi0
theorem zi3 (k : Nat) : EntryOK X 121 (zi2 k) := (zi1 k).en rfl
def zi4 : Plan := ⟨[(0, [(0, none), (1, none), (2, none)]), (1, [(6, none)])],
  [],
  []⟩
def zi5 (k : Nat) : Calls' D := ⟨[], [], [], [], []⟩
theorem zi6 (k : Nat) : CallsOK X (zi5 k) := .nil cod
def zi7 (k : Nat) : Cuts D := ⟨[], []⟩
def zi8 : List Ar := [.c (.ki .i64), .c (.ki .i64), .c (.ki .i64)]
def zi9 (k : Nat) (x : TupA D zi8) : Option (Bool) := I_inRange k x.1 x.2.1 x.2.2.1
def zia (r : Bool) : VR D := .p (.c (.bool r))
theorem zib (k : Nat) : Does P X 94 zi8 (zi9 k) zia :=
  does_of (body := bodyOf Go.Proofs.Tryz.f94) (pl := zi4) (k := k) (cu := zi7 k) (tys := [[0]]) (zi6 k) ctx mixed Go.Proofs.Tryz.func94 (by kernel_rfl) (by kernel_rfl) (cutOK_of (l := []) (by kernel_rfl) trivial) fun x R h => by
    simp only [zi9, I_inRange, optK_bind, optK_bif, optK_pure, optK_none, optK_oc, optK_guardT, optK_map] at h
    refine hold_of h ?_
    kernel_rfl
def zic (k : Nat) : Entry D := entS zi8 (zi9 k) zia
theorem zid (k : Nat) : EntryOK X 94 (zic k) := (zib k).en rfl
def zie : Plan := ⟨[(0, [(1, none)]), (1, [(1, none), (6, none), (7, none)]), (2, [(1, none), (6, none), (7, none), (8, none)]), (3, [(1, none), (3, none), (6, none), (7, none)]), (4, [(1, none), (6, none), (7, none), (23, none)]), (5, [(2, none)]), (6, [(1, none), (6, none), (7, none)]), (7, [(2, none)])],
  [(0, [(1, none)]), (1, [(1, none), (6, none), (7, none)])],
  [(8, ([(1, none), (6, none), (7, none)], [(1, none)])), (23, ([], [(1, none), (6, none), (7, none)]))]⟩
def zif (k : Nat) : Calls' D := ⟨[(94, zic k)], [], [], [], []⟩
theorem zig (k : Nat) : CallsOK X (zif k) := .cons (zid k) (.nil cod)
def zih (x : Int × Int × Bool × (List UInt8) × Unit) (o : Oc (Unit) (Bool)) (Q : Ex → VSt D → Prop) (R : VR D → Prop) : Prop := ocP o (fun v0 => Q .normal (mkSt ⟨[(1, .ptr 1 0)], [(1, .var [.hole, .hole])]⟩ [.bool x.2.2.1, .str x.2.2.2.1])) (fun w0 => R (.p (.c (.bool w0))))
def zii (k : Nat) : Cut D := cutS ⟨[(1, .ptr 1 0), (6, .hole), (7, .hole)], [(1, .var [.hole, .hole])]⟩ [.ki .i64, .ki .i64, .kb, .ks] (fun (x : Int × Int × Bool × (List UInt8) × Unit) => I_IsTag_b0 k k x.1 x.2.1 x.2.2.1 x.2.2.2.1) zih
def zij (k : Nat) : Cuts D := ⟨[], []⟩
theorem zik (k : Nat) : CutFor X zie k Go.Proofs.Tryz.f186.results.toList (zii k) (sub (bodyOf Go.Proofs.Tryz.f186) [1, 0, 1]) :=
  loopCut_s (X := X) (sg := [.ki .i64, .ki .i64, .kb, .ks]) (cu := zij k) (cl := zif k) (tys := [[0]]) (id := 0) (c := sub (bodyOf Go.Proofs.Tryz.f186) [1, 0, 1, 0, 0]) (f := fun n => fun (x : Int × Int × Bool × (List UInt8) × Unit) => I_IsTag_b0 k n x.1 x.2.1 x.2.2.1 x.2.2.2.1) (zig k) (cutOK_of (l := []) (by kernel_rfl) trivial) (fun _ => rfl) (fun n x Q R h => by
    simp only [I_IsTag_b0, optK_bind, optK_bif, optK_pure, optK_none, optK_oc, optK_guardT, optK_map] at h
    refine hold_of h ?_
    kernel_rfl) (by kernel_rfl)
def zil (k : Nat) : Cuts D := ⟨[(0, some (zii k))], []⟩
def zim : List Ar := [.a [.kb, .ks]]
def zin (k : Nat) (x : TupA D zim) : Option (Bool) := I_IsTag k (⟨x.1.1, x.1.2.1⟩ : ITag)
def zio (r : Bool) : VR D := .p (.c (.bool r))
theorem zip (k : Nat) : Does P X 186 zim (zin k) zio :=
  does_of (body := bodyOf Go.Proofs.Tryz.f186) (pl := zie) (k := k) (cu := zil k) (tys := [[0]]) (zig k) ctx mixed Go.Proofs.Tryz.func186 (by kernel_rfl) (by kernel_rfl) (cutOK_of (l := [(zii k, sub (bodyOf Go.Proofs.Tryz.f186) [1, 0, 1])]) (by kernel_rfl) ⟨zik k, trivial⟩) fun x R h => by
    simp only [zin, I_IsTag, optK_bind, optK_bif, optK_pure, optK_none, optK_oc, optK_guardT, optK_map] at h
    refine hold_of h ?_
    kernel_rfl
def ziq (k : Nat) : Entry D := entS zim (zin k) zio
theorem zir (k : Nat) : EntryOK X 186 (ziq k) := (zip k).en rfl
def zis : Plan := ⟨[(0, [(1, none)]), (1, [(1, none), (5, none)]), (2, [(2, none)]), (3, [(1, none), (7, none)]), (4, [(2, none)]), (5, [(2, none)])],
  [],
  [(5, ([], [(1, none)])), (7, ([(1, none)], [(1, none)]))]⟩
def zit (k : Nat) : Calls' D := ⟨[(186, ziq k)], [], [], [], []⟩
theorem ziu (k : Nat) : CallsOK X (zit k) := .cons (zir k) (.nil cod)
def ziv (k : Nat) : Cuts D := ⟨[], []⟩
def ziw : List Ar := [.a [.kb, .ks]]
def zix (k : Nat) (x : TupA D ziw) : Option ((List UInt8)) := I_FormatTag k (⟨x.1.1, x.1.2.1⟩ : ITag)
def ziy (r : (List UInt8)) : VR D := .p (.c (.str r))
theorem ziz (k : Nat) : Does P X 122 ziw (zix k) ziy :=
  does_of (body := bodyOf Go.Proofs.Tryz.f122) (pl := zis) (k := k) (cu := ziv k) (tys := [[0]]) (ziu k) ctx mixed Go.Proofs.Tryz.func122 (by kernel_rfl) (by kernel_rfl) (cutOK_of (l := []) (by kernel_rfl) trivial) fun x R h => by
    simp only [zix, I_FormatTag, optK_bind, optK_bif, optK_pure, optK_none, optK_oc, optK_guardT, optK_map] at h
    refine hold_of h ?_
    kernel_rfl
def zj0 (k : Nat) : Entry D := entS ziw (zix k) ziy
theorem zj1 (k : Nat) : EntryOK X 122 (zj0 k) := (ziz k).en rfl
def zj2 : Plan := ⟨[(0, [(0, none), (2, none)]), (1, [(0, none), (2, none), (4, none)]), (2, [(0, none), (2, none), (4, none), (5, none), (6, none)]), (3, [(0, none), (2, none), (4, none), (5, none)]), (4, [(0, none), (2, none), (4, none)]), (5, [(2, none), (4, none), (25, none)]), (6, [(2, none), (3, none)]), (7, [(2, none), (3, none)])],
  [],
  [(25, ([(2, none)], [(2, none), (4, none)]))]⟩
def zj3 (k : Nat) : Calls' D := ⟨[(120, zhw k), (121, zi2 k), (122, zj0 k)], [], [], [], []⟩
theorem zj4 (k : Nat) : CallsOK X (zj3 k) := .cons (zhx k) (.cons (zi3 k) (.cons (zj1 k) (.nil cod)))
def zj5 (k : Nat) : Cuts D := ⟨[], []⟩
def zj6 : List Ar := [.c (.ks)]
def zj7 (k : Nat) (x : TupA D zj6) : Option (ITag × Bool) := I_ParseTag k x.1
def zj8 (r : ITag × Bool) : VR D := .tup [.agg [.bool r.1.Weak, .str r.1.Text], .c (.bool r.2)]
theorem zj9 (k : Nat) : Does P X 58 zj6 (zj7 k) zj8 :=
  does_of (body := bodyOf Go.Proofs.Tryz.f58) (pl := zj2) (k := k) (cu := zj5 k) (tys := [[0, 0], [0]]) (zj4 k) ctx mixed Go.Proofs.Tryz.func58 (by kernel_rfl) (by kernel_rfl) (cutOK_of (l := []) (by kernel_rfl) trivial) fun x R h => by
    simp only [zj7, I_ParseTag, optK_bind, optK_bif, optK_pure, optK_none, optK_oc, optK_guardT, optK_map] at h
    refine hold_of h ?_
    kernel_rfl
def zja (k : Nat) : Entry D := entS zj6 (zj7 k) zj8
theorem zjb (k : Nat) : EntryOK X 58 (zja k) := (zj9 k).en rfl
def zjc : Plan := ⟨[(0, [(1, none), (2, none)]), (1, [(2, none), (4, none)]), (2, [(2, none), (3, none)])],
  [],
  []⟩
def zjd (k : Nat) : Calls' D := ⟨[(57, zh2 k), (58, zja k)], [], [], [], []⟩
theorem zje (k : Nat) : CallsOK X (zjd k) := .cons (zh3 k) (.cons (zjb k) (.nil cod))
def zjf (k : Nat) : Cuts D := ⟨[], []⟩
def zjg : List Ar := [.a [.ki .i64, .kl 107, .ks]]
def zjh (k : Nat) (x : TupA D zjg) : Option (ITag × Bool) := I_answerTag k (⟨x.1.1, x.1.2.1, x.1.2.2.1⟩ : IResponse)
def zji (r : ITag × Bool) : VR D := .tup [.agg [.bool r.1.Weak, .str r.1.Text], .c (.bool r.2)]
theorem zjj (k : Nat) : Does P X 59 zjg (zjh k) zji :=
  does_of (body := bodyOf Go.Proofs.Tryz.f59) (pl := zjc) (k := k) (cu := zjf k) (tys := [[0, 0], [0]]) (zje k) ctx mixed Go.Proofs.Tryz.func59 (by kernel_rfl) (by kernel_rfl) (cutOK_of (l := []) (by kernel_rfl) trivial) fun x R h => by
    simp only [zjh, I_answerTag, optK_bind, optK_bif, optK_pure, optK_none, optK_oc, optK_guardT, optK_map] at h
    refine hold_of h ?_
    kernel_rfl
def zjk (k : Nat) : Entry D := entS zjg (zjh k) zji
theorem zjl (k : Nat) : EntryOK X 59 (zjk k) := (zjj k).en rfl
def zjm : List Ar := [.c (.ks), .c (.ks)]
def zjn (k : Nat) (x : TupA D zjm) : Option ((List UInt8) × (List UInt8) × Bool) := strings_Cut k x.1 x.2.1
def zjo (r : (List UInt8) × (List UInt8) × Bool) : VR D := .tup [.c (.str r.1), .c (.str r.2.1), .c (.bool r.2.2)]
theorem zjp (k : Nat) : Does P X 141 zjm (zjn k) zjo := does_cut ⟨Go.Proofs.Tryz.f141, Go.Proofs.Tryz.func141, by kernel_rfl, by kernel_rfl⟩ (fun s sep w hg hs => let ⟨m, hm⟩ := hg.1; Go.Proofs.Tryz.strings_Cut s sep m w hs hm)
def zjq (k : Nat) : Entry D := entS zjm (zjn k) zjo
theorem zjr (k : Nat) : EntryOK X 141 (zjq k) := (zjp k).en rfl
def zjs : List Ar := [.c (.ks), .c (.ks)]
def zjt (k : Nat) (x : TupA D zjs) : Option ((List UInt8)) := strings_TrimLeft k x.1 x.2.1
def zju (r : (List UInt8)) : VR D := .p (.c (.str r))
theorem zjv (k : Nat) : Does P X 233 zjs (zjt k) zju := does_trimLeft ⟨Go.Proofs.Tryz.f233, Go.Proofs.Tryz.func233, by kernel_rfl, by kernel_rfl⟩ (fun s c w hg h => Go.Proofs.Tryz.strings_TrimLeft_one s c h w)
def zjw (k : Nat) : Entry D := entS zjs (zjt k) zju
theorem zjx (k : Nat) : EntryOK X 233 (zjw k) := (zjv k).en rfl
def zjy : List Ar := [.c (.ks)]
def zjz (k : Nat) (x : TupA D zjy) : Option (Int × Bool) := strconv_Atoi k x.1
def zk0 (r : Int × Bool) : VR D := .tup [.c (.int .i64 r.1), .c (.err r.2)]
theorem zk1 (k : Nat) : Does P X 176 zjy (zjz k) zk0 := does_atoi ⟨Go.Proofs.Tryz.f176, Go.Proofs.Tryz.func176, by kernel_rfl, by kernel_rfl⟩ (fun s v w hg h1 h2 => Go.Proofs.Tryz.strconv_Atoi_ok s h1 v h2 w) (fun s w hg h1 h2 => let ⟨tp, p, hv⟩ := hg.2.1; (Go.Proofs.Tryz.strconv_Atoi_range_var s h1 h2 tp p w hv).mono fun e w1 ⟨N, h, _, _, hb⟩ => ⟨_, h, hb⟩) (fun s w hg h1 h2 h3 => let ⟨tp, p, hv⟩ := hg.2.2.1; (Go.Proofs.Any.strconv_Atoi_syntax_var Go.Proofs.Tryz.laysC172 s h1 (atoi_bad h2 h3) tp p w hv).mono fun e w1 ⟨N, h, _, _, hb⟩ => ⟨_, h, hb⟩)
def zk2 (k : Nat) : Entry D := entS zjy (zjz k) zk0
theorem zk3 (k : Nat) : EntryOK X 176 (zk2 k) := (zk1 k).en rfl
def zk4 : Plan := ⟨[(0, [(0, none)]), (1, [(3, none), (4, none)]), (2, [(3, none), (12, none)]), (3, [(2, none)]), (4, [(2, none)])],
  [],
  [(12, ([], [(3, none)]))]⟩
def zk5 (k : Nat) : Calls' D := ⟨[(233, zjw k), (176, zk2 k)], [], [], [], []⟩
theorem zk6 (k : Nat) : CallsOK X (zk5 k) := .cons (zjx k) (.cons (zk3 k) (.nil cod))
def zk7 (k : Nat) : Cuts D := ⟨[], []⟩
def zk8 : List Ar := [.c (.ks)]
def zk9 (k : Nat) (x : TupA D zk8) : Option (Int) := I_digitsIn k x.1
def zka (r : Int) : VR D := .p (.c (.int .i64 r))
theorem zkb (k : Nat) : Does P X 187 zk8 (zk9 k) zka :=
  does_of (body := bodyOf Go.Proofs.Tryz.f187) (pl := zk4) (k := k) (cu := zk7 k) (tys := [[0]]) (zk6 k) ctx mixed Go.Proofs.Tryz.func187 (by kernel_rfl) (by kernel_rfl) (cutOK_of (l := []) (by kernel_rfl) trivial) fun x R h => by
    simp only [zk9, I_digitsIn, optK_bind, optK_bif, optK_pure, optK_none, optK_oc, optK_guardT, optK_map] at h
    refine hold_of h ?_
    kernel_rfl
def zkc (k : Nat) : Entry D := entS zk8 (zk9 k) zka
theorem zkd (k : Nat) : EntryOK X 187 (zkc k) := (zkb k).en rfl
def zke : List Ar := [.c (.ks), .c (.ks)]
def zkf (k : Nat) (x : TupA D zke) : Option (Int) := strings_Index k x.1 x.2.1
def zkg (r : Int) : VR D := .p (.c (.int .i64 r))
theorem zkh (k : Nat) : Does P X 205 zke (zkf k) zkg := does_index ⟨Go.Proofs.Tryz.f205, Go.Proofs.Tryz.func205, by kernel_rfl, by kernel_rfl⟩ (fun s sub w hg hs => let ⟨m, hm⟩ := hg.1; Go.Proofs.Tryz.strings_Index s sub m w hs hm)
def zki (k : Nat) : Entry D := entS zke (zkf k) zkg
theorem zkj (k : Nat) : EntryOK X 205 (zki k) := (zkh k).en rfl
def zkk : Plan := ⟨[(0, [(0, none), (1, none)]), (1, [(0, none), (1, none), (7, none)]), (2, [(4, none)]), (3, [(4, none)])],
  [],
  [(7, ([], [(0, none), (1, none)]))]⟩
def zkl (k : Nat) : Calls' D := ⟨[(94, zic k)], [], [], [], []⟩
theorem zkm (k : Nat) : CallsOK X (zkl k) := .cons (zid k) (.nil cod)
def zkn (k : Nat) : Cuts D := ⟨[], []⟩
def zko : List Ar := [.c (.ki .i64), .c (.ki .i64)]
def zkp (k : Nat) (x : TupA D zko) : Option (Int) := I_Mod k x.1 x.2.1
def zkq (r : Int) : VR D := .p (.c (.int .i64 r))
theorem zkr (k : Nat) : Does P X 237 zko (zkp k) zkq :=
  does_of (body := bodyOf Go.Proofs.Tryz.f237) (pl := zkk) (k := k) (cu := zkn k) (tys := [[0]]) (zkm k) ctx mixed Go.Proofs.Tryz.func237 (by kernel_rfl) (by kernel_rfl) (cutOK_of (l := []) (by kernel_rfl) trivial) fun x R h => by
    simp only [zkp, I_Mod, optK_bind, optK_bif, optK_pure, optK_none, optK_oc, optK_guardT, optK_map] at h
    refine hold_of h ?_
    kernel_rfl
def zks (k : Nat) : Entry D := entS zko (zkp k) zkq
theorem zkt (k : Nat) : EntryOK X 237 (zks k) := (zkr k).en rfl
def zku : Plan := ⟨[(0, [(0, none)]), (1, [(2, none)])],
  [],
  []⟩
def zkv (k : Nat) : Calls' D := ⟨[(237, zks k)], [], [], [], []⟩
theorem zkw (k : Nat) : CallsOK X (zkv k) := .cons (zkt k) (.nil cod)
def zkx (k : Nat) : Cuts D := ⟨[], []⟩
def zky : List Ar := [.c (.ki .i64)]
def zkz (k : Nat) (x : TupA D zky) : Option (Bool) := I_IsLeap k x.1
def zl0 (r : Bool) : VR D := .p (.c (.bool r))
theorem zl1 (k : Nat) : Does P X 262 zky (zkz k) zl0 :=
  does_of (body := bodyOf Go.Proofs.Tryz.f262) (pl := zku) (k := k) (cu := zkx k) (tys := [[0]]) (zkw k) ctx mixed Go.Proofs.Tryz.func262 (by kernel_rfl) (by kernel_rfl) (cutOK_of (l := []) (by kernel_rfl) trivial) fun x R h => by
    simp only [zkz, I_IsLeap, optK_bind, optK_bif, optK_pure, optK_none, optK_oc, optK_guardT, optK_map] at h
    refine hold_of h ?_
    kernel_rfl
def zl2 (k : Nat) : Entry D := entS zky (zkz k) zl0
theorem zl3 (k : Nat) : EntryOK X 262 (zl2 k) := (zl1 k).en rfl
def zl4 : Plan := ⟨[(0, [(0, none), (1, none)]), (1, [(0, none), (5, none)]), (2, [(0, none), (5, none), (6, none)]), (3, [(9, none)]), (4, [(4, none)]), (5, [(4, none)]), (6, [(5, none), (10, none)]), (7, [(5, none), (10, none)]), (8, [(5, none), (10, none)]), (9, [(10, none)]), (10, [(4, none)]), (11, [(4, none)])],
  [(0, [])],
  [(6, ([(0, none)], [(5, none)])), (9, ([], [])), (10, ([(10, none)], [(5, none)]))]⟩
def zl5 (k : Nat) : Calls' D := ⟨[(262, zl2 k)], [], [], [], []⟩
theorem zl6 (k : Nat) : CallsOK X (zl5 k) := .cons (zl3 k) (.nil cod)
def zl7 (x : Int × Int × Bool × Unit) (o : Oc (Unit) (Int)) (Q : Ex → VSt D → Prop) (R : VR D → Prop) : Prop := ocP o (fun v0 => Q .normal (mkSt ⟨[(5, .gone)], []⟩ [])) (fun w0 => R (.p (.c (.int .i64 w0))))
def zl8 (k : Nat) : Cut D := cutS ⟨[(0, .hole), (5, .hole), (6, .hole)], []⟩ [.ki .i64, .ki .i64, .kb] (fun (x : Int × Int × Bool × Unit) => I_monthDays_c6 k x.1 x.2.1 x.2.2.1) zl7
def zl9 (k : Nat) : Cuts D := ⟨[], []⟩
theorem zla (k : Nat) : CutFor X zl4 k Go.Proofs.Tryz.f236.results.toList (zl8 k) (sub (bodyOf Go.Proofs.Tryz.f236) [1, 0, 1, 0, 1]) :=
  joinCut_s (X := X) (sg := [.ki .i64, .ki .i64, .kb]) (cu := zl9 k) (cl := zl5 k) (tys := [[0]]) (zl6 k) (cutOK_of (l := []) (by kernel_rfl) trivial) fun x Q R h => by
    simp only [I_monthDays_c6, optK_bind, optK_bif, optK_pure, optK_none, optK_oc, optK_guardT, optK_map] at h
    refine hold_of h ?_
    kernel_rfl
def zlb (x : Int × Int × Unit) (o : Oc (Unit) (Int)) (Q : Ex → VSt D → Prop) (R : VR D → Prop) : Prop := ocP o (fun v0 => Q .normal (mkSt ⟨[], []⟩ [])) (fun w0 => R (.p (.c (.int .i64 w0))))
def zlc (k : Nat) : Cut D := cutS ⟨[(0, .hole), (5, .hole)], []⟩ [.ki .i64, .ki .i64] (fun (x : Int × Int × Unit) => I_monthDays_b0 k x.1 x.2.1) zlb
def zld (k : Nat) : Cuts D := ⟨[], [(6, some (zl8 k))]⟩
theorem zle (k : Nat) : CutFor X zl4 k Go.Proofs.Tryz.f236.results.toList (zlc k) (sub (bodyOf Go.Proofs.Tryz.f236) [1, 0, 1]) :=
  joinCut_s (X := X) (sg := [.ki .i64, .ki .i64]) (cu := zld k) (cl := zl5 k) (tys := [[0]]) (zl6 k) (cutOK_of (l := [(zl8 k, sub (bodyOf Go.Proofs.Tryz.f236) [1, 0, 1, 0, 1])]) (by kernel_rfl) ⟨zla k, trivial⟩) fun x Q R h => by
    simp only [I_monthDays_b0, optK_bind, optK_bif, optK_pure, optK_none, optK_oc, optK_guardT, optK_map] at h
    refine hold_of h ?_
    kernel_rfl
def zlf (k : Nat) : Cuts D := ⟨[(0, some (zlc k))], []⟩
def zlg : List Ar := [.c (.ki .i64), .c (.ki .i64)]
def zlh (k : Nat) (x : TupA D zlg) : Option (Int) := I_monthDays k x.1 x.2.1
def zli (r : Int) : VR D := .p (.c (.int .i64 r))
theorem zlj (k : Nat) : Does P X 236 zlg (zlh k) zli :=
  does_of (body := bodyOf Go.Proofs.Tryz.f236) (pl := zl4) (k := k) (cu := zlf k) (tys := [[0]]) (zl6 k) ctx mixed Go.Proofs.Tryz.func236 (by kernel_rfl) (by kernel_rfl) (cutOK_of (l := [(zlc k, sub (bodyOf Go.Proofs.Tryz.f236) [1, 0, 1])]) (by kernel_rfl) ⟨zle k, trivial⟩) fun x R h => by
    simp only [zlh, I_monthDays, optK_bind, optK_bif, optK_pure, optK_none, optK_oc, optK_guardT, optK_map] at h
    refine hold_of h ?_
    kernel_rfl
def zlk (k : Nat) : Entry D := entS zlg (zlh k) zli
theorem zll (k : Nat) : EntryOK X 236 (zlk k) := (zlj k).en rfl
def zlm : Plan := ⟨[(0, [(0, none)]), (1, [(4, none)]), (2, [(2, none)]), (3, [(2, none)])],
  [],
  [(4, ([], []))]⟩
def zln (k : Nat) : Calls' D := ⟨[(262, zl2 k)], [], [], [], []⟩
theorem zlo (k : Nat) : CallsOK X (zln k) := .cons (zl3 k) (.nil cod)
def zlp (k : Nat) : Cuts D := ⟨[], []⟩
def zlq : List Ar := [.c (.ki .i64)]
def zlr (k : Nat) (x : TupA D zlq) : Option (Int) := I_yearDays k x.1
def zls (r : Int) : VR D := .p (.c (.int .i64 r))
theorem zlt (k : Nat) : Does P X 235 zlq (zlr k) zls :=
  does_of (body := bodyOf Go.Proofs.Tryz.f235) (pl := zlm) (k := k) (cu := zlp k) (tys := [[0]]) (zlo k) ctx mixed Go.Proofs.Tryz.func235 (by kernel_rfl) (by kernel_rfl) (cutOK_of (l := []) (by kernel_rfl) trivial) fun x R h => by
    simp only [zlr, I_yearDays, optK_bind, optK_bif, optK_pure, optK_none, optK_oc, optK_guardT, optK_map] at h
    refine hold_of h ?_
    kernel_rfl
def zlu (k : Nat) : Entry D := entS zlq (zlr k) zls
theorem zlv (k : Nat) : EntryOK X 235 (zlu k) := (zlt k).en rfl
def zlw : Plan := ⟨[(0, [(0, none), (1, none), (2, none)]), (1, [(0, none), (1, none), (2, none), (25, none)]), (2, [(6, none)]), (3, [(0, none), (1, none), (7, none)]), (4, [(0, none), (1, none), (7, none), (8, none)]), (5, [(0, none), (1, none), (7, none), (8, none), (30, none)]), (6, [(0, none), (1, none), (7, none), (8, none)]), (7, [(0, none), (1, none), (7, none), (8, none)]), (8, [(0, none), (1, none), (7, none), (9, none)]), (9, [(0, none), (1, none), (7, none), (9, none), (39, none)]), (10, [(0, none), (1, none), (7, none), (9, none)]), (11, [(0, none), (1, none), (7, none), (9, none)]), (12, [(6, none)])],
  [(0, [(0, none), (1, none), (7, none)]), (1, [(0, none), (1, none), (7, none), (8, none)]), (2, [(7, none)]), (3, [(0, none), (1, none), (7, none), (9, none)])],
  [(25, ([], [(0, none), (1, none), (2, none)])), (30, ([(0, none), (1, none), (7, none), (8, none)], [(0, none), (1, none), (7, none)])), (39, ([(0, none), (1, none), (7, none), (9, none)], [(7, none)]))]⟩
def zlx (k : Nat) : Calls' D := ⟨[(94, zic k), (236, zlk k), (235, zlu k)], [], [], [], []⟩
theorem zly (k : Nat) : CallsOK X (zlx k) := .cons (zid k) (.cons (zll k) (.cons (zlv k) (.nil cod)))
def zlz (x : Int × Int × Int × Int × Unit) (o : Int) (Q : Ex → VSt D → Prop) (R : VR D → Prop) : Prop := Q .normal (mkSt ⟨[(0, .hole), (1, .hole), (7, .hole)], []⟩ [.int .i64 x.1, .int .i64 x.2.1, .int .i64 o])
def zm0 (k : Nat) : Cut D := cutS ⟨[(0, .hole), (1, .hole), (7, .hole), (8, .hole)], []⟩ [.ki .i64, .ki .i64, .ki .i64, .ki .i64] (fun (x : Int × Int × Int × Int × Unit) => I_DaysOf_b0 k k x.1 x.2.1 x.2.2.1 x.2.2.2.1) zlz
def zm1 (k : Nat) : Cuts D := ⟨[], []⟩
theorem zm2 (k : Nat) : CutFor X zlw k Go.Proofs.Tryz.f234.results.toList (zm0 k) (sub (bodyOf Go.Proofs.Tryz.f234) [1, 1, 1, 0, 1]) :=
  loopCut_s (X := X) (sg := [.ki .i64, .ki .i64, .ki .i64, .ki .i64]) (cu := zm1 k) (cl := zlx k) (tys := [[0]]) (id := 0) (c := sub (bodyOf Go.Proofs.Tryz.f234) [1, 1, 1, 0, 1, 0, 0]) (f := fun n => fun (x : Int × Int × Int × Int × Unit) => I_DaysOf_b0 k n x.1 x.2.1 x.2.2.1 x.2.2.2.1) (zly k) (cutOK_of (l := []) (by kernel_rfl) trivial) (fun _ => rfl) (fun n x Q R h => by
    simp only [I_DaysOf_b0, optK_bind, optK_bif, optK_pure, optK_none, optK_oc, optK_guardT, optK_map] at h
    refine hold_of h ?_
    kernel_rfl) (by kernel_rfl)
def zm3 (x : Int × Int × Int × Int × Unit) (o : Int) (Q : Ex → VSt D → Prop) (R : VR D → Prop) : Prop := Q .normal (mkSt ⟨[(7, .hole)], []⟩ [.int .i64 o])
def zm4 (k : Nat) : Cut D := cutS ⟨[(0, .hole), (1, .hole), (7, .hole), (9, .hole)], []⟩ [.ki .i64, .ki .i64, .ki .i64, .ki .i64] (fun (x : Int × Int × Int × Int × Unit) => I_DaysOf_b2 k k x.1 x.2.1 x.2.2.1 x.2.2.2.1) zm3
def zm5 (k : Nat) : Cuts D := ⟨[], []⟩
theorem zm6 (k : Nat) : CutFor X zlw k Go.Proofs.Tryz.f234.results.toList (zm4 k) (sub (bodyOf Go.Proofs.Tryz.f234) [1, 1, 1, 1, 0, 1]) :=
  loopCut_s (X := X) (sg := [.ki .i64, .ki .i64, .ki .i64, .ki .i64]) (cu := zm5 k) (cl := zlx k) (tys := [[0]]) (id := 2) (c := sub (bodyOf Go.Proofs.Tryz.f234) [1, 1, 1, 1, 0, 1, 0, 0]) (f := fun n => fun (x : Int × Int × Int × Int × Unit) => I_DaysOf_b2 k n x.1 x.2.1 x.2.2.1 x.2.2.2.1) (zly k) (cutOK_of (l := []) (by kernel_rfl) trivial) (fun _ => rfl) (fun n x Q R h => by
    simp only [I_DaysOf_b2, optK_bind, optK_bif, optK_pure, optK_none, optK_oc, optK_guardT, optK_map] at h
    refine hold_of h ?_
    kernel_rfl) (by kernel_rfl)
def zm7 (k : Nat) : Cuts D := ⟨[(0, some (zm0 k)), (2, some (zm4 k))], []⟩
def zm8 : List Ar := [.c (.ki .i64), .c (.ki .i64), .c (.ki .i64)]
def zm9 (k : Nat) (x : TupA D zm8) : Option (Int) := I_DaysOf k x.1 x.2.1 x.2.2.1
def zma (r : Int) : VR D := .p (.c (.int .i64 r))
theorem zmb (k : Nat) : Does P X 234 zm8 (zm9 k) zma :=
  does_of (body := bodyOf Go.Proofs.Tryz.f234) (pl := zlw) (k := k) (cu := zm7 k) (tys := [[0]]) (zly k) ctx mixed Go.Proofs.Tryz.func234 (by kernel_rfl) (by kernel_rfl) (cutOK_of (l := [(zm0 k, sub (bodyOf Go.Proofs.Tryz.f234) [1, 1, 1, 0, 1]), (zm4 k, sub (bodyOf Go.Proofs.Tryz.f234) [1, 1, 1, 1, 0, 1])]) (by kernel_rfl) ⟨zm2 k, zm6 k, trivial⟩) fun x R h => by
    simp only [zm9, I_DaysOf, optK_bind, optK_bif, optK_pure, optK_none, optK_oc, optK_guardT, optK_map] at h
    refine hold_of h ?_
    kernel_rfl
def zmc (k : Nat) : Entry D := entS zm8 (zm9 k) zma
theorem zmd (k : Nat) : EntryOK X 234 (zmc k) := (zmb k).en rfl
def zme : Plan := ⟨[(0, [(0, none), (1, none), (2, none), (3, none)]), (1, [(3, none), (10, none)]), (2, [(3, none), (10, none), (19, none)]), (3, [(8, none), (9, none)]), (4, [(8, none), (9, none)])],
  [],
  [(19, ([], [(3, none), (10, none)]))]⟩
def zmf (k : Nat) : Calls' D := ⟨[(205, zki k), (234, zmc k), (187, zkc k)], [], [], [], []⟩
theorem zmg (k : Nat) : CallsOK X (zmf k) := .cons (zkj k) (.cons (zmd k) (.cons (zkd k) (.nil cod)))
def zmh (k : Nat) : Cuts D := ⟨[], []⟩
def zmi : List Ar := [.c (.ki .i64), .c (.ks), .c (.ki .i64), .c (.ks)]
def zmj (k : Nat) (x : TupA D zmi) : Option (Int × Bool) := I_timeOf k x.1 x.2.1 x.2.2.1 x.2.2.2.1
def zmk (r : Int × Bool) : VR D := .tup [.c (.int .i64 r.1), .c (.bool r.2)]
theorem zml (k : Nat) : Does P X 188 zmi (zmj k) zmk :=
  does_of (body := bodyOf Go.Proofs.Tryz.f188) (pl := zme) (k := k) (cu := zmh k) (tys := [[0], [0]]) (zmg k) ctx mixed Go.Proofs.Tryz.func188 (by kernel_rfl) (by kernel_rfl) (cutOK_of (l := []) (by kernel_rfl) trivial) fun x R h => by
    simp only [zmj, I_timeOf, optK_bind, optK_bif, optK_pure, optK_none, optK_oc, optK_guardT, optK_map] at h
    refine hold_of h ?_
    kernel_rfl
def zmm (k : Nat) : Entry D := entS zmi (zmj k) zmk
theorem zmn (k : Nat) : EntryOK X 188 (zmm k) := (zml k).en rfl
def zmo : Plan := ⟨[(0, [(0, none), (1, none)]), (1, [(0, none), (1, none), (11, none)]), (2, [(6, none), (7, none), (8, none)]), (3, [(7, none), (29, none)]), (4, [(4, none), (5, none)]), (5, [(7, none), (9, none)]), (6, [(7, none), (9, none), (34, none)]), (7, [(7, none), (9, none)]), (8, [(4, none), (5, none)]), (9, [(0, none), (1, none), (55, none)]), (10, [(4, none), (5, none)]), (11, [(0, none), (75, none)]), (12, [(4, none), (5, none)]), (13, [(4, none), (5, none)])],
  [],
  [(11, ([(0, none)], [(0, none), (1, none)])), (29, ([], [(7, none)])), (34, ([(7, none), (9, none)], [(7, none), (9, none)])), (55, ([(0, none)], [(0, none), (1, none)])), (75, ([(0, none)], []))]⟩
def zmp (k : Nat) : Calls' D := ⟨[(141, zjq k), (187, zkc k), (188, zmm k)], [], [], [], []⟩
theorem zmq (k : Nat) : CallsOK X (zmp k) := .cons (zjr k) (.cons (zkd k) (.cons (zmn k) (.nil cod)))
def zmr (x : (List UInt8) × Int × Bool × Unit) (o : Int) (Q : Ex → VSt D → Prop) (R : VR D → Prop) : Prop := Q .normal (mkSt ⟨[(7, .hole), (9, .hole)], []⟩ [.str x.1, .int .i64 o])
def zms (k : Nat) : Cut D := cutS ⟨[(7, .hole), (9, .hole), (34, .hole)], []⟩ [.ks, .ki .i64, .kb] (fun (x : (List UInt8) × Int × Bool × Unit) => I_dateIn_c34 k x.1 x.2.1 x.2.2.1) zmr
def zmt (k : Nat) : Cuts D := ⟨[], []⟩
theorem zmu (k : Nat) : CutFor X zmo k Go.Proofs.Tryz.f123.results.toList (zms k) (sub (bodyOf Go.Proofs.Tryz.f123) [1, 0, 1, 0, 1, 1, 1, 0, 1]) :=
  joinCut_s (X := X) (sg := [.ks, .ki .i64, .kb]) (cu := zmt k) (cl := zmp k) (tys := [[0], [0]]) (zmq k) (cutOK_of (l := []) (by kernel_rfl) trivial) fun x Q R h => by
    simp only [I_dateIn_c34, optK_bind, optK_bif, optK_pure, optK_none, optK_oc, optK_guardT, optK_map] at h
    refine hold_of h ?_
    kernel_rfl
def zmv (k : Nat) : Cuts D := ⟨[], [(34, some (zms k))]⟩
def zmw : List Ar := [.c (.ks), .c (.ki .i64)]
def zmx (k : Nat) (x : TupA D zmw) : Option (Int × Bool) := I_dateIn k x.1 x.2.1
def zmy (r : Int × Bool) : VR D := .tup [.c (.int .i64 r.1), .c (.bool r.2)]
theorem zmz (k : Nat) : Does P X 123 zmw (zmx k) zmy :=
  does_of (body := bodyOf Go.Proofs.Tryz.f123) (pl := zmo) (k := k) (cu := zmv k) (tys := [[0], [0]]) (zmq k) ctx mixed Go.Proofs.Tryz.func123 (by kernel_rfl) (by kernel_rfl) (cutOK_of (l := [(zms k, sub (bodyOf Go.Proofs.Tryz.f123) [1, 0, 1, 0, 1, 1, 1, 0, 1])]) (by kernel_rfl) ⟨zmu k, trivial⟩) fun x R h => by
    simp only [zmx, I_dateIn, optK_bind, optK_bif, optK_pure, optK_none, optK_oc, optK_guardT, optK_map] at h
    refine hold_of h ?_
    kernel_rfl
def zn0 (k : Nat) : Entry D := entS zmw (zmx k) zmy
theorem zn1 (k : Nat) : EntryOK X 123 (zn0 k) := (zmz k).en rfl
def zn2 : Plan := ⟨[(0, [(0, none)]), (1, [(0, none), (9, none)]), (2, [(2, none), (3, none), (4, none)]), (3, [(0, none), (5, none), (6, none)]), (4, [(0, none), (5, none), (6, none), (13, none)]), (5, [(0, none), (5, none), (6, none)]), (6, [(0, none), (5, none), (6, none)]), (7, [(0, none), (5, none), (6, none), (24, none)]), (8, [(0, none), (5, none), (6, none)]), (9, [(0, none), (5, none), (6, none)]), (10, [(2, none), (3, none), (4, none)])],
  [(0, [(0, none), (5, none), (6, none)]), (1, [(0, none), (5, none), (6, none)]), (2, [(0, none), (5, none), (6, none)]), (3, [(0, none), (5, none), (6, none)])],
  [(9, ([], [(0, none)])), (13, ([(0, none), (5, none), (6, none)], [(0, none), (5, none), (6, none)])), (24, ([(0, none), (5, none), (6, none)], [(0, none), (5, none), (6, none)]))]⟩
def zn3 (k : Nat) : Calls' D := ⟨[(94, zic k), (235, zlu k), (236, zlk k)], [], [], [], []⟩
theorem zn4 (k : Nat) : CallsOK X (zn3 k) := .cons (zid k) (.cons (zlv k) (.cons (zll k) (.nil cod)))
def zn5 (x : Int × Int × Int × Unit) (o : Int × Int) (Q : Ex → VSt D → Prop) (R : VR D → Prop) : Prop := Q .normal (mkSt ⟨[(0, .hole), (5, .hole), (6, .hole)], []⟩ [.int .i64 o.1, .int .i64 o.2, .int .i64 x.2.2.1])
def zn6 (k : Nat) : Cut D := cutS ⟨[(0, .hole), (5, .hole), (6, .hole)], []⟩ [.ki .i64, .ki .i64, .ki .i64] (fun (x : Int × Int × Int × Unit) => I_CivilOf_b0 k k x.1 x.2.1 x.2.2.1) zn5
def zn7 (k : Nat) : Cuts D := ⟨[], []⟩
theorem zn8 (k : Nat) : CutFor X zn2 k Go.Proofs.Tryz.f189.results.toList (zn6 k) (sub (bodyOf Go.Proofs.Tryz.f189) [1, 1, 1, 0]) :=
  loopCut_s (X := X) (sg := [.ki .i64, .ki .i64, .ki .i64]) (cu := zn7 k) (cl := zn3 k) (tys := [[0], [0], [0]]) (id := 0) (c := sub (bodyOf Go.Proofs.Tryz.f189) [1, 1, 1, 0, 0, 0]) (f := fun n => fun (x : Int × Int × Int × Unit) => I_CivilOf_b0 k n x.1 x.2.1 x.2.2.1) (zn4 k) (cutOK_of (l := []) (by kernel_rfl) trivial) (fun _ => rfl) (fun n x Q R h => by
    simp only [I_CivilOf_b0, optK_bind, optK_bif, optK_pure, optK_none, optK_oc, optK_guardT, optK_map] at h
    refine hold_of h ?_
    kernel_rfl) (by kernel_rfl)
def zn9 (x : Int × Int × Int × Unit) (o : Int × Int) (Q : Ex → VSt D → Prop) (R : VR D → Prop) : Prop := Q .normal (mkSt ⟨[(0, .hole), (5, .hole), (6, .hole)], []⟩ [.int .i64 o.1, .int .i64 x.2.1, .int .i64 o.2])
def zna (k : Nat) : Cut D := cutS ⟨[(0, .hole), (5, .hole), (6, .hole)], []⟩ [.ki .i64, .ki .i64, .ki .i64] (fun (x : Int × Int × Int × Unit) => I_CivilOf_b2 k k x.1 x.2.1 x.2.2.1) zn9
def znb (k : Nat) : Cuts D := ⟨[], []⟩
theorem znc (k : Nat) : CutFor X zn2 k Go.Proofs.Tryz.f189.results.toList (zna k) (sub (bodyOf Go.Proofs.Tryz.f189) [1, 1, 1, 1, 0]) :=
  loopCut_s (X := X) (sg := [.ki .i64, .ki .i64, .ki .i64]) (cu := znb k) (cl := zn3 k) (tys := [[0], [0], [0]]) (id := 2) (c := sub (bodyOf Go.Proofs.Tryz.f189) [1, 1, 1, 1, 0, 0, 0]) (f := fun n => fun (x : Int × Int × Int × Unit) => I_CivilOf_b2 k n x.1 x.2.1 x.2.2.1) (zn4 k) (cutOK_of (l := []) (by kernel_rfl) trivial) (fun _ => rfl) (fun n x Q R h => by
    simp only [I_CivilOf_b2, optK_bind, optK_bif, optK_pure, optK_none, optK_oc, optK_guardT, optK_map] at h
    refine hold_of h ?_
    kernel_rfl) (by kernel_rfl)
def znd (k : Nat) : Cuts D := ⟨[(0, some (zn6 k)), (2, some (zna k))], []⟩
def zne : List Ar := [.c (.ki .i64)]
def znf (k : Nat) (x : TupA D zne) : Option (Int × Int × Int) := I_CivilOf k x.1
def zng (r : Int × Int × Int) : VR D := .tup [.c (.int .i64 r.1), .c (.int .i64 r.2.1), .c (.int .i64 r.2.2)]
theorem znh (k : Nat) : Does P X 189 zne (znf k) zng :=
  does_of (body := bodyOf Go.Proofs.Tryz.f189) (pl := zn2) (k := k) (cu := znd k) (tys := [[0], [0], [0]]) (zn4 k) ctx mixed Go.Proofs.Tryz.func189 (by kernel_rfl) (by kernel_rfl) (cutOK_of (l := [(zn6 k, sub (bodyOf Go.Proofs.Tryz.f189) [1, 1, 1, 0]), (zna k, sub (bodyOf Go.Proofs.Tryz.f189) [1, 1, 1, 1, 0])]) (by kernel_rfl) ⟨zn8 k, znc k, trivial⟩) fun x R h => by
    simp only [znf, I_CivilOf, optK_bind, optK_bif, optK_pure, optK_none, optK_oc, optK_guardT, optK_map] at h
    refine hold_of h ?_
    kernel_rfl
def zni (k : Nat) : Entry D := entS zne (znf k) zng
theorem znj (k : Nat) : EntryOK X 189 (zni k) := (znh k).en rfl
def znk : Plan := ⟨[(0, [(0, none)]), (1, [(2, none)])],
  [],
  []⟩
def znl (k : Nat) : Calls' D := ⟨[(237, zks k)], [], [], [], []⟩
theorem znm (k : Nat) : CallsOK X (znl k) := .cons (zkt k) (.nil cod)
def znn (k : Nat) : Cuts D := ⟨[], []⟩
def zno : List Ar := [.c (.ki .i64)]
def znp (k : Nat) (x : TupA D zno) : Option (Int) := I_WeekdayOf k x.1
def znq (r : Int) : VR D := .p (.c (.int .i64 r))
theorem znr (k : Nat) : Does P X 190 zno (znp k) znq :=
  does_of (body := bodyOf Go.Proofs.Tryz.f190) (pl := znk) (k := k) (cu := znn k) (tys := [[0]]) (znm k) ctx mixed Go.Proofs.Tryz.func190 (by kernel_rfl) (by kernel_rfl) (cutOK_of (l := []) (by kernel_rfl) trivial) fun x R h => by
    simp only [znp, I_WeekdayOf, optK_bind, optK_bif, optK_pure, optK_none, optK_oc, optK_guardT, optK_map] at h
    refine hold_of h ?_
    kernel_rfl
def zns (k : Nat) : Entry D := entS zno (znp k) znq
theorem znt (k : Nat) : EntryOK X 190 (zns k) := (znr k).en rfl
def znu : List Ar := [.c (.ki .i64)]
def znv (k : Nat) (x : TupA D znu) : Option ((List UInt8)) := strconv_Itoa k x.1
def znw (r : (List UInt8)) : VR D := .p (.c (.str r))
theorem znx (k : Nat) : Does P X 229 znu (znv k) znw := does_itoa ⟨Go.Proofs.Tryz.f229, Go.Proofs.Tryz.func229, by kernel_rfl, by kernel_rfl⟩ (fun n w hg h0 h1 => Go.Proofs.Tryz.strconv_Itoa n h0 h1 w hg.2.2.2)
def zny (k : Nat) : Entry D := entS znu (znv k) znw
theorem znz (k : Nat) : EntryOK X 229 (zny k) := (znx k).en rfl
def zo0 : Plan := ⟨[(0, [(0, none)]), (1, [(2, none)])],
  [],
  []⟩
def zo1 (k : Nat) : Calls' D := ⟨[(229, zny k)], [], [], [], []⟩
theorem zo2 (k : Nat) : CallsOK X (zo1 k) := .cons (znz k) (.nil cod)
def zo3 (k : Nat) : Cuts D := ⟨[], []⟩
def zo4 : List Ar := [.c (.ki .i64)]
def zo5 (k : Nat) (x : TupA D zo4) : Option ((List UInt8)) := I_FormatInt k x.1
def zo6 (r : (List UInt8)) : VR D := .p (.c (.str r))
theorem zo7 (k : Nat) : Does P X 177 zo4 (zo5 k) zo6 :=
  does_of (body := bodyOf Go.Proofs.Tryz.f177) (pl := zo0) (k := k) (cu := zo3 k) (tys := [[0]]) (zo2 k) ctx mixed Go.Proofs.Tryz.func177 (by kernel_rfl) (by kernel_rfl) (cutOK_of (l := []) (by kernel_rfl) trivial) fun x R h => by
    simp only [zo5, I_FormatInt, optK_bind, optK_bif, optK_pure, optK_none, optK_oc, optK_guardT, optK_map] at h
    refine hold_of h ?_
    kernel_rfl
def zo8 (k : Nat) : Entry D := entS zo4 (zo5 k) zo6
theorem zo9 (k : Nat) : EntryOK X 177 (zo8 k) := (zo7 k).en rfl
def zoa : Plan := ⟨[(0, [(0, none), (1, none)]), (1, [(1, none), (5, none)]), (2, [(1, none), (5, none), (17, none)]), (3, [(1, none), (5, none)]), (4, [(4, none)])],
  [(0, [(5, none)]), (1, [(1, none), (5, none)])],
  [(17, ([(1, none), (5, none)], [(5, none)]))]⟩
def zob (k : Nat) : Calls' D := ⟨[(177, zo8 k)], [], [], [], []⟩
theorem zoc (k : Nat) : CallsOK X (zob k) := .cons (zo9 k) (.nil cod)
def zod (x : Int × (List UInt8) × Unit) (o : (List UInt8)) (Q : Ex → VSt D → Prop) (R : VR D → Prop) : Prop := Q .normal (mkSt ⟨[(5, .hole)], []⟩ [.str o])
def zoe (k : Nat) : Cut D := cutS ⟨[(1, .hole), (5, .hole)], []⟩ [.ki .i64, .ks] (fun (x : Int × (List UInt8) × Unit) => I_Digits_b0 k k x.1 x.2.1) zod
def zof (k : Nat) : Cuts D := ⟨[], []⟩
theorem zog (k : Nat) : CutFor X zoa k Go.Proofs.Tryz.f191.results.toList (zoe k) (sub (bodyOf Go.Proofs.Tryz.f191) [1, 1, 0]) :=
  loopCut_s (X := X) (sg := [.ki .i64, .ks]) (cu := zof k) (cl := zob k) (tys := [[0]]) (id := 0) (c := sub (bodyOf Go.Proofs.Tryz.f191) [1, 1, 0, 0, 0]) (f := fun n => fun (x : Int × (List UInt8) × Unit) => I_Digits_b0 k n x.1 x.2.1) (zoc k) (cutOK_of (l := []) (by kernel_rfl) trivial) (fun _ => rfl) (fun n x Q R h => by
    simp only [I_Digits_b0, optK_bind, optK_bif, optK_pure, optK_none, optK_oc, optK_guardT, optK_map] at h
    refine hold_of h ?_
    kernel_rfl) (by kernel_rfl)
def zoh (k : Nat) : Cuts D := ⟨[(0, some (zoe k))], []⟩
def zoi : List Ar := [.c (.ki .i64), .c (.ki .i64)]
def zoj (k : Nat) (x : TupA D zoi) : Option ((List UInt8)) := I_Digits k x.1 x.2.1
def zok (r : (List UInt8)) : VR D := .p (.c (.str r))
theorem zol (k : Nat) : Does P X 191 zoi (zoj k) zok :=
  does_of (body := bodyOf Go.Proofs.Tryz.f191) (pl := zoa) (k := k) (cu := zoh k) (tys := [[0]]) (zoc k) ctx mixed Go.Proofs.Tryz.func191 (by kernel_rfl) (by kernel_rfl) (cutOK_of (l := [(zoe k, sub (bodyOf Go.Proofs.Tryz.f191) [1, 1, 0])]) (by kernel_rfl) ⟨zog k, trivial⟩) fun x R h => by
    simp only [zoj, I_Digits, optK_bind, optK_bif, optK_pure, optK_none, optK_oc, optK_guardT, optK_map] at h
    refine hold_of h ?_
    kernel_rfl
def zom (k : Nat) : Entry D := entS zoi (zoj k) zok
theorem zon (k : Nat) : EntryOK X 191 (zom k) := (zol k).en rfl
def zoo : Plan := ⟨[(0, [(0, none)]), (1, [(2, none)])],
  [],
  []⟩
def zop (k : Nat) : Calls' D := ⟨[], [], [], [], []⟩
theorem zoq (k : Nat) : CallsOK X (zop k) := .nil cod
def zor (k : Nat) : Cuts D := ⟨[], []⟩
def zos : List Ar := [.c (.ki .i64)]
def zot (k : Nat) (x : TupA D zos) : Option ((List UInt8)) := I_fullDay k x.1
def zou (r : (List UInt8)) : VR D := .p (.c (.str r))
theorem zov (k : Nat) : Does P X 192 zos (zot k) zou :=
  does_of (body := bodyOf Go.Proofs.Tryz.f192) (pl := zoo) (k := k) (cu := zor k) (tys := [[0]]) (zoq k) ctx mixed Go.Proofs.Tryz.func192 (by kernel_rfl) (by kernel_rfl) (cutOK_of (l := []) (by kernel_rfl) trivial) fun x R h => by
    simp only [zot, I_fullDay, optK_bind, optK_bif, optK_pure, optK_none, optK_oc, optK_guardT, optK_map] at h
    refine hold_of h ?_
    kernel_rfl
def zow (k : Nat) : Entry D := entS zos (zot k) zou
theorem zox (k : Nat) : EntryOK X 192 (zow k) := (zov k).en rfl
def zoy : Plan := ⟨[(0, [(0, none), (1, none)]), (1, [(0, none), (1, none), (15, none)]), (2, [(4, none)]), (3, [(0, none), (1, none), (5, none), (6, none), (7, none)]), (4, [(0, none), (1, none), (5, none), (6, none), (7, none), (8, none)]), (5, [(1, none), (5, none), (6, none), (7, none), (8, none), (9, none)]), (6, [(1, none), (5, none), (7, none), (8, none), (9, none), (10, none), (11, none)]), (7, [(5, none), (7, none), (8, none), (9, none), (10, none), (11, none), (53, none)]), (8, [(5, none), (7, none), (8, none), (9, none), (10, none), (11, none), (53, none), (54, none)]), (9, [(4, none)]), (10, [(5, none), (7, none), (8, none), (9, none), (10, none), (11, none), (72, none)]), (11, [(5, none), (7, none), (8, none), (9, none), (11, none), (75, none)]), (12, [(4, none)]), (13, [(4, none)]), (14, [(5, none), (7, none), (9, none), (10, none), (11, none), (12, none)]), (15, [(5, none), (9, none), (10, none), (11, none), (12, none), (97, none)]), (16, [(5, none), (9, none), (10, none), (11, none), (12, none)]), (17, [(4, none)])],
  [(0, [(5, none), (7, none), (9, none), (10, none), (11, none)])],
  [(15, ([], [(0, none), (1, none)])), (54, ([(5, none), (7, none), (9, none), (10, none), (11, none)], [(5, none), (7, none), (8, none), (9, none), (10, none), (11, none), (53, none)])), (72, ([(5, none), (7, none), (8, none), (9, none), (11, none)], [(5, none), (7, none), (9, none), (10, none), (11, none)])), (75, ([], [(5, none), (7, none), (8, none), (9, none), (11, none)])), (97, ([(5, none), (9, none), (10, none), (11, none), (12, none)], [(5, none), (9, none), (10, none), (11, none), (12, none)]))]⟩
def zoz (k : Nat) : Calls' D := ⟨[(94, zic k), (189, zni k), (190, zns k), (191, zom k), (177, zo8 k), (192, zow k)], [], [], [], []⟩
theorem zp0 (k : Nat) : CallsOK X (zoz k) := .cons (zid k) (.cons (znj k) (.cons (znt k) (.cons (zon k) (.cons (zo9 k) (.cons (zox k) (.nil cod))))))
def zp1 (x : Int × (List UInt8) × (List UInt8) × (List UInt8) × (List UInt8) × Bool × Unit) (o : (List UInt8)) (Q : Ex → VSt D → Prop) (R : VR D → Prop) : Prop := Q .normal (mkSt ⟨[(5, .hole), (9, .hole), (10, .hole), (11, .hole), (12, .hole)], []⟩ [.int .i64 x.1, .str x.2.1, .str x.2.2.1, .str x.2.2.2.1, .str o])
def zp2 (k : Nat) : Cut D := cutS ⟨[(5, .hole), (9, .hole), (10, .hole), (11, .hole), (12, .hole), (97, .hole)], []⟩ [.ki .i64, .ks, .ks, .ks, .ks, .kb] (fun (x : Int × (List UInt8) × (List UInt8) × (List UInt8) × (List UInt8) × Bool × Unit) => I_dateText_c97 k x.1 x.2.1 x.2.2.1 x.2.2.2.1 x.2.2.2.2.1 x.2.2.2.2.2.1) zp1
def zp3 (k : Nat) : Cuts D := ⟨[], []⟩
theorem zp4 (k : Nat) : CutFor X zoy k Go.Proofs.Tryz.f124.results.toList (zp2 k) (sub (bodyOf Go.Proofs.Tryz.f124) [1, 1, 1, 1, 1, 1, 1, 1, 0, 1]) :=
  joinCut_s (X := X) (sg := [.ki .i64, .ks, .ks, .ks, .ks, .kb]) (cu := zp3 k) (cl := zoz k) (tys := [[0]]) (zp0 k) (cutOK_of (l := []) (by kernel_rfl) trivial) fun x Q R h => by
    simp only [I_dateText_c97, optK_bind, optK_bif, optK_pure, optK_none, optK_oc, optK_guardT, optK_map] at h
    refine hold_of h ?_
    kernel_rfl
def zp5 (k : Nat) : Cuts D := ⟨[], [(97, some (zp2 k))]⟩
def zp6 : List Ar := [.c (.ki .i64), .c (.ki .i64)]
def zp7 (k : Nat) (x : TupA D zp6) : Option ((List UInt8)) := I_dateText k x.1 x.2.1
def zp8 (r : (List UInt8)) : VR D := .p (.c (.str r))
theorem zp9 (k : Nat) : Does P X 124 zp6 (zp7 k) zp8 :=
  does_of (body := bodyOf Go.Proofs.Tryz.f124) (pl := zoy) (k := k) (cu := zp5 k) (tys := [[0]]) (zp0 k) ctx mixed Go.Proofs.Tryz.func124 (by kernel_rfl) (by kernel_rfl) (cutOK_of (l := [(zp2 k, sub (bodyOf Go.Proofs.Tryz.f124) [1, 1, 1, 1, 1, 1, 1, 1, 0, 1])]) (by kernel_rfl) ⟨zp4 k, trivial⟩) fun x R h => by
    simp only [zp7, I_dateText, optK_bind, optK_bif, optK_pure, optK_none, optK_oc, optK_guardT, optK_map] at h
    refine hold_of h ?_
    kernel_rfl
def zpa (k : Nat) : Entry D := entS zp6 (zp7 k) zp8
theorem zpb (k : Nat) : EntryOK X 124 (zpa k) := (zp9 k).en rfl
def zpc : Plan := ⟨[(0, [(0, none)]), (1, [(0, none), (4, none)]), (2, [(0, none), (4, none), (8, none)]), (3, [(0, none), (4, none)]), (4, [(0, none), (4, none), (5, none), (6, none)]), (5, [(0, none), (4, none), (5, none), (24, none)]), (6, [(2, none), (3, none)]), (7, [(2, none), (3, none)])],
  [(0, []), (1, [(0, none), (4, none)])],
  [(8, ([(0, none), (4, none)], [])), (24, ([(5, none)], [(0, none), (4, none)]))]⟩
def zpd (k : Nat) : Calls' D := ⟨[(123, zn0 k), (124, zpa k)], [], [], [], []⟩
theorem zpe (k : Nat) : CallsOK X (zpd k) := .cons (zn1 k) (.cons (zpb k) (.nil cod))
def zpf (x : (List UInt8) × Int × Unit) (o : Oc (Unit) (Int × Bool)) (Q : Ex → VSt D → Prop) (R : VR D → Prop) : Prop := ocP o (fun v0 => Q .normal (mkSt ⟨[], []⟩ [])) (fun w0 => R (.tup [.c (.int .i64 w0.1), .c (.bool w0.2)]))
def zpg (k : Nat) : Cut D := cutS ⟨[(0, .hole), (4, .hole)], []⟩ [.ks, .ki .i64] (fun (x : (List UInt8) × Int × Unit) => I_ParseDate_b0 k k x.1 x.2.1) zpf
def zph (k : Nat) : Cuts D := ⟨[], []⟩
theorem zpi (k : Nat) : CutFor X zpc k Go.Proofs.Tryz.f61.results.toList (zpg k) (sub (bodyOf Go.Proofs.Tryz.f61) [1, 0, 1]) :=
  loopCut_s (X := X) (sg := [.ks, .ki .i64]) (cu := zph k) (cl := zpd k) (tys := [[0], [0]]) (id := 0) (c := sub (bodyOf Go.Proofs.Tryz.f61) [1, 0, 1, 0, 0]) (f := fun n => fun (x : (List UInt8) × Int × Unit) => I_ParseDate_b0 k n x.1 x.2.1) (zpe k) (cutOK_of (l := []) (by kernel_rfl) trivial) (fun _ => rfl) (fun n x Q R h => by
    simp only [I_ParseDate_b0, optK_bind, optK_bif, optK_pure, optK_none, optK_oc, optK_guardT, optK_map] at h
    refine hold_of h ?_
    kernel_rfl) (by kernel_rfl)
def zpj (k : Nat) : Cuts D := ⟨[(0, some (zpg k))], []⟩
def zpk : List Ar := [.c (.ks)]
def zpl (k : Nat) (x : TupA D zpk) : Option (Int × Bool) := I_ParseDate k x.1
def zpm (r : Int × Bool) : VR D := .tup [.c (.int .i64 r.1), .c (.bool r.2)]
theorem zpn (k : Nat) : Does P X 61 zpk (zpl k) zpm :=
  does_of (body := bodyOf Go.Proofs.Tryz.f61) (pl := zpc) (k := k) (cu := zpj k) (tys := [[0], [0]]) (zpe k) ctx mixed Go.Proofs.Tryz.func61 (by kernel_rfl) (by kernel_rfl) (cutOK_of (l := [(zpg k, sub (bodyOf Go.Proofs.Tryz.f61) [1, 0, 1])]) (by kernel_rfl) ⟨zpi k, trivial⟩) fun x R h => by
    simp only [zpl, I_ParseDate, optK_bind, optK_bif, optK_pure, optK_none, optK_oc, optK_guardT, optK_map] at h
    refine hold_of h ?_
    kernel_rfl
def zpo (k : Nat) : Entry D := entS zpk (zpl k) zpm
theorem zpp (k : Nat) : EntryOK X 61 (zpo k) := (zpn k).en rfl
def zpq : Plan := ⟨[(0, [(1, none), (2, none)]), (1, [(6, none)]), (2, [(4, none), (5, none)])],
  [],
  []⟩
def zpr (k : Nat) : Calls' D := ⟨[(57, zh2 k), (61, zpo k)], [], [], [], []⟩
theorem zps (k : Nat) : CallsOK X (zpr k) := .cons (zh3 k) (.cons (zpp k) (.nil cod))
def zpt (k : Nat) : Cuts D := ⟨[], []⟩
def zpu : List Ar := [.a [.ki .i64, .kl 107, .ks], .c (.ks)]
def zpv (k : Nat) (x : TupA D zpu) : Option (Int × Bool) := I_dateField k (⟨x.1.1, x.1.2.1, x.1.2.2.1⟩ : IResponse) x.2.1
def zpw (r : Int × Bool) : VR D := .tup [.c (.int .i64 r.1), .c (.bool r.2)]
theorem zpx (k : Nat) : Does P X 53 zpu (zpv k) zpw :=
  does_of (body := bodyOf Go.Proofs.Tryz.f53) (pl := zpq) (k := k) (cu := zpt k) (tys := [[0], [0]]) (zps k) ctx mixed Go.Proofs.Tryz.func53 (by kernel_rfl) (by kernel_rfl) (cutOK_of (l := []) (by kernel_rfl) trivial) fun x R h => by
    simp only [zpv, I_dateField, optK_bind, optK_bif, optK_pure, optK_none, optK_oc, optK_guardT, optK_map] at h
    refine hold_of h ?_
    kernel_rfl
def zpy (k : Nat) : Entry D := entS zpu (zpv k) zpw
theorem zpz (k : Nat) : EntryOK X 53 (zpy k) := (zpx k).en rfl
def zq0 : Plan := ⟨[(0, [(0, none)]), (1, [(2, none)])],
  [],
  []⟩
def zq1 (k : Nat) : Calls' D := ⟨[(121, zi2 k)], [], [], [], []⟩
theorem zq2 (k : Nat) : CallsOK X (zq1 k) := .cons (zi3 k) (.nil cod)
def zq3 (k : Nat) : Cuts D := ⟨[], []⟩
def zq4 : List Ar := [.c (.ks)]
def zq5 (k : Nat) (x : TupA D zq4) : Option ((List UInt8)) := I_TrimText k x.1
def zq6 (r : (List UInt8)) : VR D := .p (.c (.str r))
theorem zq7 (k : Nat) : Does P X 127 zq4 (zq5 k) zq6 :=
  does_of (body := bodyOf Go.Proofs.Tryz.f127) (pl := zq0) (k := k) (cu := zq3 k) (tys := [[0]]) (zq2 k) ctx mixed Go.Proofs.Tryz.func127 (by kernel_rfl) (by kernel_rfl) (cutOK_of (l := []) (by kernel_rfl) trivial) fun x R h => by
    simp only [zq5, I_TrimText, optK_bind, optK_bif, optK_pure, optK_none, optK_oc, optK_guardT, optK_map] at h
    refine hold_of h ?_
    kernel_rfl
def zq8 (k : Nat) : Entry D := entS zq4 (zq5 k) zq6
theorem zq9 (k : Nat) : EntryOK X 127 (zq8 k) := (zq7 k).en rfl
def zqa : Plan := ⟨[(0, [(0, none)]), (1, [(0, none), (3, some 9)]), (2, [(0, none), (3, some 9), (4, none)]), (3, [(0, none), (3, some 9), (4, none), (5, none)]), (4, [(0, none), (3, some 9), (4, none), (5, none), (6, none)]), (5, [(0, none), (3, some 9), (4, none), (5, none), (6, none), (13, none)]), (6, [(0, none), (3, some 9), (4, none), (5, none), (6, none)]), (7, [(0, none), (3, some 9), (4, none), (5, none), (6, none), (28, none)]), (8, [(0, none), (3, some 9), (4, none), (5, none), (6, none), (32, none)]), (9, [(0, none), (3, some 9), (4, none), (5, none), (6, none)]), (10, [(0, none), (3, some 9), (4, none), (5, none), (6, none), (41, none)]), (11, [(0, none), (3, some 9), (4, none), (5, none), (6, none)]), (12, [(0, none), (3, some 9), (5, none), (6, none), (7, none)]), (13, [(0, none), (3, some 9), (5, none), (6, none), (7, none), (53, none)]), (14, [(0, none), (3, some 9), (5, none), (6, none)]), (15, [(0, none), (3, some 9), (4, none), (5, none), (6, none)]), (16, [(0, none), (3, some 9), (4, none), (63, none)]), (17, [(3, some 9), (8, none)]), (18, [(3, some 9), (8, none), (69, none)]), (19, [(3, some 9)]), (20, [(2, some 9)])],
  [(0, [(0, none), (3, some 9), (4, none)]), (1, [(0, none), (3, some 9), (4, none), (5, none), (6, none)])],
  [(13, ([(0, none), (3, some 9), (4, none), (5, none), (6, none)], [(0, none), (3, some 9), (4, none)])), (28, ([(0, none), (3, some 9), (4, none), (5, none), (6, none)], [(0, none), (3, some 9), (4, none), (5, none), (6, none)])), (32, ([(0, none), (3, some 9), (4, none), (5, none), (6, none)], [(0, none), (3, some 9), (4, none), (5, none), (6, none)])), (41, ([(0, none), (3, some 9), (4, none), (5, none), (6, none)], [(0, none), (3, some 9), (4, none), (5, none), (6, none)])), (53, ([(0, none), (3, some 9), (5, none), (6, none), (7, none)], [(0, none), (3, some 9), (5, none), (6, none)])), (63, ([(0, none), (3, some 9), (4, none)], [(3, some 9)])), (69, ([(3, some 9), (8, none)], [(3, some 9)]))]⟩
def zqb (k : Nat) : Calls' D := ⟨[(127, zq8 k)], [], [], [], []⟩
theorem zqc (k : Nat) : CallsOK X (zqb k) := .cons (zq9 k) (.nil cod)
def zqd (x : (List UInt8) × Int × Bool × Int × Bool × (List (List UInt8)) × Unit) (o : Bool) (Q : Ex → VSt D → Prop) (R : VR D → Prop) : Prop := Q .normal (mkSt ⟨[(0, .hole), (3, .ref 500003), (4, .hole), (5, .hole), (6, .hole)], [(500003, .row)]⟩ [.str x.1, .int .i64 x.2.1, .bool o, .int .i64 x.2.2.2.1, .sl 9 x.2.2.2.2.2.1])
def zqe (k : Nat) : Cut D := cutS ⟨[(0, .hole), (3, .ref 500003), (4, .hole), (5, .hole), (6, .hole), (32, .hole)], [(500003, .row)]⟩ [.ks, .ki .i64, .kb, .ki .i64, .kb, .kl 9] (fun (x : (List UInt8) × Int × Bool × Int × Bool × (List (List UInt8)) × Unit) => I_SplitList_c32 k x.1 x.2.1 x.2.2.1 x.2.2.2.1 x.2.2.2.2.1 x.2.2.2.2.2.1) zqd
def zqf (k : Nat) : Cuts D := ⟨[], []⟩
theorem zqg (k : Nat) : CutFor X zqa k Go.Proofs.Tryz.f128.results.toList (zqe k) (sub (bodyOf Go.Proofs.Tryz.f128) [1, 1, 1, 1, 0, 1, 0, 0, 1, 0, 0, 0, 1, 0, 0, 1]) :=
  joinCut_s (X := X) (sg := [.ks, .ki .i64, .kb, .ki .i64, .kb, .kl 9]) (cu := zqf k) (cl := zqb k) (tys := [[9]]) (zqc k) (cutOK_of (l := []) (by kernel_rfl) trivial) fun x Q R h => by
    simp only [I_SplitList_c32, optK_bind, optK_bif, optK_pure, optK_none, optK_oc, optK_guardT, optK_map] at h
    refine hold_of h ?_
    kernel_rfl
def zqh (x : (List UInt8) × Int × Bool × Int × Bool × (List (List UInt8)) × Unit) (o : Int) (Q : Ex → VSt D → Prop) (R : VR D → Prop) : Prop := Q .normal (mkSt ⟨[(0, .hole), (3, .ref 500003), (4, .hole), (5, .hole), (6, .hole)], [(500003, .row)]⟩ [.str x.1, .int .i64 x.2.1, .bool x.2.2.1, .int .i64 o, .sl 9 x.2.2.2.2.2.1])
def zqi (k : Nat) : Cut D := cutS ⟨[(0, .hole), (3, .ref 500003), (4, .hole), (5, .hole), (6, .hole), (41, .hole)], [(500003, .row)]⟩ [.ks, .ki .i64, .kb, .ki .i64, .kb, .kl 9] (fun (x : (List UInt8) × Int × Bool × Int × Bool × (List (List UInt8)) × Unit) => I_SplitList_c41 k x.1 x.2.1 x.2.2.1 x.2.2.2.1 x.2.2.2.2.1 x.2.2.2.2.2.1) zqh
def zqj (k : Nat) : Cuts D := ⟨[], []⟩
theorem zqk (k : Nat) : CutFor X zqa k Go.Proofs.Tryz.f128.results.toList (zqi k) (sub (bodyOf Go.Proofs.Tryz.f128) [1, 1, 1, 1, 0, 1, 0, 0, 1, 0, 0, 0, 1, 0, 1, 0, 1]) :=
  joinCut_s (X := X) (sg := [.ks, .ki .i64, .kb, .ki .i64, .kb, .kl 9]) (cu := zqj k) (cl := zqb k) (tys := [[9]]) (zqc k) (cutOK_of (l := []) (by kernel_rfl) trivial) fun x Q R h => by
    simp only [I_SplitList_c41, optK_bind, optK_bif, optK_pure, optK_none, optK_oc, optK_guardT, optK_map] at h
    refine hold_of h ?_
    kernel_rfl
def zql (x : (List UInt8) × Bool × Int × (List UInt8) × Bool × (List (List UInt8)) × Unit) (o : (List (List UInt8))) (Q : Ex → VSt D → Prop) (R : VR D → Prop) : Prop := Q .normal (mkSt ⟨[(0, .hole), (3, .ref 500003), (5, .hole), (6, .hole)], [(500003, .row)]⟩ [.str x.1, .bool x.2.1, .int .i64 x.2.2.1, .sl 9 o])
def zqm (k : Nat) : Cut D := cutS ⟨[(0, .hole), (3, .ref 500003), (5, .hole), (6, .hole), (7, .hole), (53, .hole)], [(500003, .row)]⟩ [.ks, .kb, .ki .i64, .ks, .kb, .kl 9] (fun (x : (List UInt8) × Bool × Int × (List UInt8) × Bool × (List (List UInt8)) × Unit) => I_SplitList_c53 k x.1 x.2.1 x.2.2.1 x.2.2.2.1 x.2.2.2.2.1 x.2.2.2.2.2.1) zql
def zqn (k : Nat) : Cuts D := ⟨[], []⟩
theorem zqo (k : Nat) : CutFor X zqa k Go.Proofs.Tryz.f128.results.toList (zqm k) (sub (bodyOf Go.Proofs.Tryz.f128) [1, 1, 1, 1, 0, 1, 0, 0, 1, 0, 0, 1, 0, 1, 1]) :=
  joinCut_s (X := X) (sg := [.ks, .kb, .ki .i64, .ks, .kb, .kl 9]) (cu := zqn k) (cl := zqb k) (tys := [[9]]) (zqc k) (cutOK_of (l := []) (by kernel_rfl) trivial) fun x Q R h => by
    simp only [I_SplitList_c53, optK_bind, optK_bif, optK_pure, optK_none, optK_oc, optK_guardT, optK_map] at h
    refine hold_of h ?_
    kernel_rfl
def zqp (x : (List UInt8) × Int × Bool × Int × (List (List UInt8)) × Unit) (o : Int × Bool × Int × (List (List UInt8))) (Q : Ex → VSt D → Prop) (R : VR D → Prop) : Prop := Q .normal (mkSt ⟨[(0, .hole), (3, .ref 500003), (4, .hole), (5, .hole), (6, .hole)], [(500003, .row)]⟩ [.str x.1, .int .i64 o.1, .bool o.2.1, .int .i64 o.2.2.1, .sl 9 o.2.2.2])
def zqq (k : Nat) : Cut D := cutS ⟨[(0, .hole), (3, .ref 500003), (4, .hole), (5, .hole), (6, .hole)], [(500003, .row)]⟩ [.ks, .ki .i64, .kb, .ki .i64, .kl 9] (fun (x : (List UInt8) × Int × Bool × Int × (List (List UInt8)) × Unit) => I_SplitList_b1 k x.1 x.2.1 x.2.2.1 x.2.2.2.1 x.2.2.2.2.1) zqp
def zqr (k : Nat) : Cuts D := ⟨[], [(32, some (zqe k)), (41, some (zqi k)), (53, some (zqm k))]⟩
theorem zqs (k : Nat) : CutFor X zqa k Go.Proofs.Tryz.f128.results.toList (zqq k) (sub (bodyOf Go.Proofs.Tryz.f128) [1, 1, 1, 1, 0, 1, 0, 0, 1, 0]) :=
  joinCut_s (X := X) (sg := [.ks, .ki .i64, .kb, .ki .i64, .kl 9]) (cu := zqr k) (cl := zqb k) (tys := [[9]]) (zqc k) (cutOK_of (l := [(zqe k, sub (bodyOf Go.Proofs.Tryz.f128) [1, 1, 1, 1, 0, 1, 0, 0, 1, 0, 0, 0, 1, 0, 0, 1]), (zqi k, sub (bodyOf Go.Proofs.Tryz.f128) [1, 1, 1, 1, 0, 1, 0, 0, 1, 0, 0, 0, 1, 0, 1, 0, 1]), (zqm k, sub (bodyOf Go.Proofs.Tryz.f128) [1, 1, 1, 1, 0, 1, 0, 0, 1, 0, 0, 1, 0, 1, 1])]) (by kernel_rfl) ⟨zqg k, zqk k, zqo k, trivial⟩) fun x Q R h => by
    simp only [I_SplitList_b1, optK_bind, optK_bif, optK_pure, optK_none, optK_oc, optK_guardT, optK_map] at h
    refine hold_of h ?_
    kernel_rfl
def zqt (x : (List UInt8) × Int × Bool × Int × (List (List UInt8)) × Unit) (o : Int × (List (List UInt8))) (Q : Ex → VSt D → Prop) (R : VR D → Prop) : Prop := Q .normal (mkSt ⟨[(0, .hole), (3, .ref 500003), (4, .hole)], [(500003, .row)]⟩ [.str x.1, .int .i64 o.1, .sl 9 o.2])
def zqu (k : Nat) : Cut D := cutS ⟨[(0, .hole), (3, .ref 500003), (4, .hole), (5, .hole), (6, .hole)], [(500003, .row)]⟩ [.ks, .ki .i64, .kb, .ki .i64, .kl 9] (fun (x : (List UInt8) × Int × Bool × Int × (List (List UInt8)) × Unit) => I_SplitList_b0 k k x.1 x.2.1 x.2.2.1 x.2.2.2.1 x.2.2.2.2.1) zqt
def zqv (k : Nat) : Cuts D := ⟨[(1, some (zqq k))], []⟩
theorem zqw (k : Nat) : CutFor X zqa k Go.Proofs.Tryz.f128.results.toList (zqu k) (sub (bodyOf Go.Proofs.Tryz.f128) [1, 1, 1, 1, 0, 1]) :=
  loopCut_s (X := X) (sg := [.ks, .ki .i64, .kb, .ki .i64, .kl 9]) (cu := zqv k) (cl := zqb k) (tys := [[9]]) (id := 0) (c := sub (bodyOf Go.Proofs.Tryz.f128) [1, 1, 1, 1, 0, 1, 0, 0]) (f := fun n => fun (x : (List UInt8) × Int × Bool × Int × (List (List UInt8)) × Unit) => I_SplitList_b0 k n x.1 x.2.1 x.2.2.1 x.2.2.2.1 x.2.2.2.2.1) (zqc k) (cutOK_of (l := [(zqq k, sub (bodyOf Go.Proofs.Tryz.f128) [1, 1, 1, 1, 0, 1, 0, 0, 1, 0])]) (by kernel_rfl) ⟨zqs k, trivial⟩) (fun _ => rfl) (fun n x Q R h => by
    simp only [I_SplitList_b0, optK_bind, optK_bif, optK_pure, optK_none, optK_oc, optK_guardT, optK_map] at h
    refine hold_of h ?_
    kernel_rfl) (by kernel_rfl)
def zqx (x : (List UInt8) × Bool × (List (List UInt8)) × Unit) (o : (List (List UInt8))) (Q : Ex → VSt D → Prop) (R : VR D → Prop) : Prop := Q .normal (mkSt ⟨[(3, .ref 500003)], [(500003, .row)]⟩ [.sl 9 o])
def zqy (k : Nat) : Cut D := cutS ⟨[(3, .ref 500003), (8, .hole), (69, .hole)], [(500003, .row)]⟩ [.ks, .kb, .kl 9] (fun (x : (List UInt8) × Bool × (List (List UInt8)) × Unit) => I_SplitList_c69 k x.1 x.2.1 x.2.2.1) zqx
def zqz (k : Nat) : Cuts D := ⟨[], []⟩
theorem zr0 (k : Nat) : CutFor X zqa k Go.Proofs.Tryz.f128.results.toList (zqy k) (sub (bodyOf Go.Proofs.Tryz.f128) [1, 1, 1, 1, 1, 0, 1, 0, 1, 1]) :=
  joinCut_s (X := X) (sg := [.ks, .kb, .kl 9]) (cu := zqz k) (cl := zqb k) (tys := [[9]]) (zqc k) (cutOK_of (l := []) (by kernel_rfl) trivial) fun x Q R h => by
    simp only [I_SplitList_c69, optK_bind, optK_bif, optK_pure, optK_none, optK_oc, optK_guardT, optK_map] at h
    refine hold_of h ?_
    kernel_rfl
def zr1 (x : (List UInt8) × Int × Bool × (List (List UInt8)) × Unit) (o : (List (List UInt8))) (Q : Ex → VSt D → Prop) (R : VR D → Prop) : Prop := Q .normal (mkSt ⟨[(3, .ref 500003)], [(500003, .row)]⟩ [.sl 9 o])
def zr2 (k : Nat) : Cut D := cutS ⟨[(0, .hole), (3, .ref 500003), (4, .hole), (63, .hole)], [(500003, .row)]⟩ [.ks, .ki .i64, .kb, .kl 9] (fun (x : (List UInt8) × Int × Bool × (List (List UInt8)) × Unit) => I_SplitList_c63 k x.1 x.2.1 x.2.2.1 x.2.2.2.1) zr1
def zr3 (k : Nat) : Cuts D := ⟨[], [(69, some (zqy k))]⟩
theorem zr4 (k : Nat) : CutFor X zqa k Go.Proofs.Tryz.f128.results.toList (zr2 k) (sub (bodyOf Go.Proofs.Tryz.f128) [1, 1, 1, 1, 1, 0, 1]) :=
  joinCut_s (X := X) (sg := [.ks, .ki .i64, .kb, .kl 9]) (cu := zr3 k) (cl := zqb k) (tys := [[9]]) (zqc k) (cutOK_of (l := [(zqy k, sub (bodyOf Go.Proofs.Tryz.f128) [1, 1, 1, 1, 1, 0, 1, 0, 1, 1])]) (by kernel_rfl) ⟨zr0 k, trivial⟩) fun x Q R h => by
    simp only [I_SplitList_c63, optK_bind, optK_bif, optK_pure, optK_none, optK_oc, optK_guardT, optK_map] at h
    refine hold_of h ?_
    kernel_rfl
def zr5 (k : Nat) : Cuts D := ⟨[(0, some (zqu k))], [(63, some (zr2 k))]⟩
def zr6 : List Ar := [.c (.ks)]
def zr7 (k : Nat) (x : TupA D zr6) : Option ((List (List UInt8))) := I_SplitList k x.1
def zr8 (r : (List (List UInt8))) : VR D := .p (.c (.sl 9 r))
theorem zr9 (k : Nat) : Does P X 128 zr6 (zr7 k) zr8 :=
  does_of (body := bodyOf Go.Proofs.Tryz.f128) (pl := zqa) (k := k) (cu := zr5 k) (tys := [[9]]) (zqc k) ctx mixed Go.Proofs.Tryz.func128 (by kernel_rfl) (by kernel_rfl) (cutOK_of (l := [(zqu k, sub (bodyOf Go.Proofs.Tryz.f128) [1, 1, 1, 1, 0, 1]), (zr2 k, sub (bodyOf Go.Proofs.Tryz.f128) [1, 1, 1, 1, 1, 0, 1])]) (by kernel_rfl) ⟨zqw k, zr4 k, trivial⟩) fun x R h => by
    simp only [zr7, I_SplitList, optK_bind, optK_bif, optK_pure, optK_none, optK_oc, optK_guardT, optK_map] at h
    refine hold_of h ?_
    kernel_rfl
def zra (k : Nat) : Entry D := entS zr6 (zr7 k) zr8
theorem zrb (k : Nat) : EntryOK X 128 (zra k) := (zr9 k).en rfl
def zrc : Plan := ⟨[(0, [(0, none)]), (1, [(0, none), (12, none)]), (2, [(2, some 82), (3, none), (4, none)]), (3, [(0, none), (5, some 82)]), (4, [(5, some 82), (15, some 9), (16, none), (17, none)]), (5, [(5, some 82), (15, some 9), (16, none), (17, none), (18, none)]), (6, [(5, some 82), (7, none), (15, some 9), (16, none), (17, none)]), (7, [(5, some 82), (8, none), (9, none), (15, some 9), (16, none), (17, none)]), (8, [(5, some 82), (8, none), (15, some 9), (16, none), (17, none), (27, none)]), (9, [(2, some 82), (3, none), (4, none)]), (10, [(5, some 82), (15, some 9), (16, none), (17, none)]), (11, [(5, some 82), (15, some 9), (16, none), (17, none)]), (12, [(5, some 82), (36, none)]), (13, [(2, some 82), (3, none), (4, none)]), (14, [(2, some 82), (3, none), (4, none)])],
  [(0, [(5, some 82)]), (1, [(5, some 82), (15, some 9), (16, none), (17, none)])],
  [(12, ([], [(0, none)])), (18, ([(5, some 82), (15, some 9), (16, none), (17, none)], [(5, some 82)])), (27, ([], [(5, some 82), (8, none), (15, some 9), (16, none), (17, none)])), (36, ([], [(5, some 82)]))]⟩
def zrd (k : Nat) : Calls' D := ⟨[(127, zq8 k), (128, zra k), (58, zja k), (94, zic k)], [], [], [], []⟩
theorem zre (k : Nat) : CallsOK X (zrd k) := .cons (zq9 k) (.cons (zrb k) (.cons (zjb k) (.cons (zid k) (.nil cod))))
def zrf (x : Int × Int × (List ITag) × (List (List UInt8)) × Unit) (o : Oc ((List ITag)) ((List ITag) × Bool × Bool)) (Q : Ex → VSt D → Prop) (R : VR D → Prop) : Prop := ocP o (fun v0 => Q .normal (mkSt ⟨[(5, .ref 500005)], [(500005, .row)]⟩ [.sl 82 v0])) (fun w0 => R (.tup [.c (.sl 82 w0.1), .c (.bool w0.2.1), .c (.bool w0.2.2)]))
def zrg (k : Nat) : Cut D := cutS ⟨[(5, .ref 500005), (15, .ref 500015), (16, .hole), (17, .hole)], [(500005, .row), (500015, .row)]⟩ [.ki .i64, .ki .i64, .kl 82, .kl 9] (fun (x : Int × Int × (List ITag) × (List (List UInt8)) × Unit) => I_ParseTagList_b0 k k x.1 x.2.1 x.2.2.1 x.2.2.2.1) zrf
def zrh (k : Nat) : Cuts D := ⟨[], []⟩
theorem zri (k : Nat) : CutFor X zrc k Go.Proofs.Tryz.f63.results.toList (zrg k) (sub (bodyOf Go.Proofs.Tryz.f63) [1, 1, 1, 0, 1]) :=
  loopCut_s (X := X) (sg := [.ki .i64, .ki .i64, .kl 82, .kl 9]) (cu := zrh k) (cl := zrd k) (tys := [[82], [0], [0]]) (id := 0) (c := sub (bodyOf Go.Proofs.Tryz.f63) [1, 1, 1, 0, 1, 0, 0]) (f := fun n => fun (x : Int × Int × (List ITag) × (List (List UInt8)) × Unit) => I_ParseTagList_b0 k n x.1 x.2.1 x.2.2.1 x.2.2.2.1) (zre k) (cutOK_of (l := []) (by kernel_rfl) trivial) (fun _ => rfl) (fun n x Q R h => by
    simp only [I_ParseTagList_b0, optK_bind, optK_bif, optK_pure, optK_none, optK_oc, optK_guardT, optK_map] at h
    refine hold_of h ?_
    kernel_rfl) (by kernel_rfl)
def zrj (k : Nat) : Cuts D := ⟨[(0, some (zrg k))], []⟩
def zrk : List Ar := [.c (.ks)]
def zrl (k : Nat) (x : TupA D zrk) : Option ((List ITag) × Bool × Bool) := I_ParseTagList k x.1
def zrm (r : (List ITag) × Bool × Bool) : VR D := .tup [.c (.sl 82 r.1), .c (.bool r.2.1), .c (.bool r.2.2)]
theorem zrn (k : Nat) : Does P X 63 zrk (zrl k) zrm :=
  does_of (body := bodyOf Go.Proofs.Tryz.f63) (pl := zrc) (k := k) (cu := zrj k) (tys := [[82], [0], [0]]) (zre k) ctx mixed Go.Proofs.Tryz.func63 (by kernel_rfl) (by kernel_rfl) (cutOK_of (l := [(zrg k, sub (bodyOf Go.Proofs.Tryz.f63) [1, 1, 1, 0, 1])]) (by kernel_rfl) ⟨zri k, trivial⟩) fun x R h => by
    simp only [zrl, I_ParseTagList, optK_bind, optK_bif, optK_pure, optK_none, optK_oc, optK_guardT, optK_map] at h
    refine hold_of h ?_
    kernel_rfl
def zro (k : Nat) : Entry D := entS zrk (zrl k) zrm
theorem zrp (k : Nat) : EntryOK X 63 (zro k) := (zrn k).en rfl
def zrq : Plan := ⟨[(0, [(2, none), (3, none)]), (1, [(4, none)])],
  [],
  []⟩
def zrr (k : Nat) : Calls' D := ⟨[], [], [], [], []⟩
theorem zrs (k : Nat) : CallsOK X (zrr k) := .nil cod
def zrt (k : Nat) : Cuts D := ⟨[], []⟩
def zru : List Ar := [.a [.kb, .ks], .a [.kb, .ks]]
def zrv (k : Nat) (x : TupA D zru) : Option (Bool) := I_StrongSame k (⟨x.1.1, x.1.2.1⟩ : ITag) (⟨x.2.1.1, x.2.1.2.1⟩ : ITag)
def zrw (r : Bool) : VR D := .p (.c (.bool r))
theorem zrx (k : Nat) : Does P X 60 zru (zrv k) zrw :=
  does_of (body := bodyOf Go.Proofs.Tryz.f60) (pl := zrq) (k := k) (cu := zrt k) (tys := [[0]]) (zrs k) ctx mixed Go.Proofs.Tryz.func60 (by kernel_rfl) (by kernel_rfl) (cutOK_of (l := []) (by kernel_rfl) trivial) fun x R h => by
    simp only [zrv, I_StrongSame, optK_bind, optK_bif, optK_pure, optK_none, optK_oc, optK_guardT, optK_map] at h
    refine hold_of h ?_
    kernel_rfl
def zry (k : Nat) : Entry D := entS zru (zrv k) zrw
theorem zrz (k : Nat) : EntryOK X 60 (zry k) := (zrx k).en rfl
def zs0 : Plan := ⟨[(0, [(1, none), (2, none)]), (1, [(3, none)])],
  [],
  []⟩
def zs1 (k : Nat) : Calls' D := ⟨[(60, zry k)], [], [], [], []⟩
theorem zs2 (k : Nat) : CallsOK X (zs1 k) := .cons (zrz k) (.nil cod)
def zs3 (k : Nat) : Cuts D := ⟨[], []⟩
def zs4 : List Ar := [.a [.kb, .ks], .x [.kb, .ks]]
def zs5 (k : Nat) (x : TupA D zs4) : Option (Bool) := I_CheckConditions_1 k (⟨x.1.1, x.1.2.1⟩ : ITag) x.2.1.1 x.2.1.2.1
def zs6 (r : Bool) : VR D := .p (.c (.bool r))
theorem zs7 (k : Nat) : Does P X 65 zs4 (zs5 k) zs6 :=
  does_of (body := bodyOf Go.Proofs.Tryz.f65) (pl := zs0) (k := k) (cu := zs3 k) (tys := [[0]]) (zs2 k) ctx mixed Go.Proofs.Tryz.func65 (by kernel_rfl) (by kernel_rfl) (cutOK_of (l := []) (by kernel_rfl) trivial) fun x R h => by
    simp only [zs5, I_CheckConditions_1, optK_bind, optK_bif, optK_pure, optK_none, optK_oc, optK_guardT, optK_map] at h
    refine hold_of h ?_
    kernel_rfl
def zs8 (k : Nat) : Entry D := entS zs4 (zs5 k) zs6
theorem zs9 (k : Nat) : EntryOK X 65 (zs8 k) := (zs7 k).en rfl
def zsa : Plan := ⟨[(0, [(0, some 82), (1, none)]), (1, [(0, some 82), (1, none), (7, none), (8, none)]), (2, [(0, some 82), (1, none), (7, none), (8, none), (9, none)]), (3, [(0, some 82), (1, none), (5, none), (7, none), (8, none)]), (4, [(0, some 82), (1, none), (5, none), (7, none), (8, none), (16, none)]), (5, [(4, none)]), (6, [(0, some 82), (1, none), (7, none), (8, none)]), (7, [(4, none)])],
  [(0, []), (1, [(0, some 82), (1, none), (7, none), (8, none)])],
  [(9, ([(0, some 82), (1, none), (7, none), (8, none)], [])), (16, ([(5, none)], [(0, some 82), (1, none), (7, none), (8, none)]))]⟩
def zsb (k : Nat) : Calls' D := ⟨[(65, zs8 k)], [], [], [], []⟩
theorem zsc (k : Nat) : CallsOK X (zsb k) := .cons (zs9 k) (.nil cod)
def zsd (x : (List ITag) × Bool × (List UInt8) × Int × Int × Unit) (o : Oc (Unit) (Int)) (Q : Ex → VSt D → Prop) (R : VR D → Prop) : Prop := ocP o (fun v0 => Q .normal (mkSt ⟨[], []⟩ [])) (fun w0 => R (.p (.c (.int .i64 w0))))
def zse (k : Nat) : Cut D := cutS ⟨[(0, .hole), (1, .clo 65 [.rptr 2]), (7, .hole), (8, .hole)], []⟩ [.kl 82, .kb, .ks, .ki .i64, .ki .i64] (fun (x : (List ITag) × Bool × (List UInt8) × Int × Int × Unit) => slices_IndexFunc_ITag_at_I_CheckConditions_1_b0 k k x.1 x.2.1 x.2.2.1 x.2.2.2.1 x.2.2.2.2.1) zsd
def zsf (k : Nat) : Cuts D := ⟨[], []⟩
theorem zsg (k : Nat) : CutFor X zsa k Go.Proofs.Tryz.f129.results.toList (zse k) (sub (bodyOf Go.Proofs.Tryz.f129) [1, 0, 1]) :=
  loopCut_s (X := X) (sg := [.kl 82, .kb, .ks, .ki .i64, .ki .i64]) (cu := zsf k) (cl := zsb k) (tys := [[0]]) (id := 0) (c := sub (bodyOf Go.Proofs.Tryz.f129) [1, 0, 1, 0, 0]) (f := fun n => fun (x : (List ITag) × Bool × (List UInt8) × Int × Int × Unit) => slices_IndexFunc_ITag_at_I_CheckConditions_1_b0 k n x.1 x.2.1 x.2.2.1 x.2.2.2.1 x.2.2.2.2.1) (zsc k) (cutOK_of (l := []) (by kernel_rfl) trivial) (fun _ => rfl) (fun n x Q R h => by
    simp only [slices_IndexFunc_ITag_at_I_CheckConditions_1_b0, optK_bind, optK_bif, optK_pure, optK_none, optK_oc, optK_guardT, optK_map] at h
    refine hold_of h ?_
    kernel_rfl) (by kernel_rfl)
def zsh (k : Nat) : Cuts D := ⟨[(0, some (zse k))], []⟩
def zsi : List Ar := [.c (.kl 82), .f 65 [[.kb, .ks]]]
def zsj (k : Nat) (x : TupA D zsi) : Option (Int) := slices_IndexFunc_ITag_at_I_CheckConditions_1 k x.1 x.2.1.1.1 x.2.1.1.2.1
def zsk (r : Int) : VR D := .p (.c (.int .i64 r))
theorem zsl (k : Nat) : Does P X 129 zsi (zsj k) zsk :=
  does_of (body := bodyOf Go.Proofs.Tryz.f129) (pl := zsa) (k := k) (cu := zsh k) (tys := [[0]]) (zsc k) ctx mixed Go.Proofs.Tryz.func129 (by kernel_rfl) (by kernel_rfl) (cutOK_of (l := [(zse k, sub (bodyOf Go.Proofs.Tryz.f129) [1, 0, 1])]) (by kernel_rfl) ⟨zsg k, trivial⟩) fun x R h => by
    simp only [zsj, slices_IndexFunc_ITag_at_I_CheckConditions_1, optK_bind, optK_bif, optK_pure, optK_none, optK_oc, optK_guardT, optK_map] at h
    refine hold_of h ?_
    kernel_rfl
def zsm (k : Nat) : Entry D := entS zsi (zsj k) zsk
theorem zsn (k : Nat) : EntryOK X 129 (zsm k) := (zsl k).en rfl
def zso : Plan := ⟨[(0, [(0, some 82), (1, none)]), (1, [(4, none)])],
  [],
  []⟩
def zsp (k : Nat) : Calls' D := ⟨[(129, zsm k)], [], [], [], []⟩
theorem zsq (k : Nat) : CallsOK X (zsp k) := .cons (zsn k) (.nil cod)
def zsr (k : Nat) : Cuts D := ⟨[], []⟩
def zss : List Ar := [.c (.kl 82), .f 65 [[.kb, .ks]]]
def zst (k : Nat) (x : TupA D zss) : Option (Bool) := slices_ContainsFunc_ITag_at_I_CheckConditions_1 k x.1 x.2.1.1.1 x.2.1.1.2.1
def zsu (r : Bool) : VR D := .p (.c (.bool r))
theorem zsv (k : Nat) : Does P X 64 zss (zst k) zsu :=
  does_of (body := bodyOf Go.Proofs.Tryz.f64) (pl := zso) (k := k) (cu := zsr k) (tys := [[0]]) (zsq k) ctx mixed Go.Proofs.Tryz.func64 (by kernel_rfl) (by kernel_rfl) (cutOK_of (l := []) (by kernel_rfl) trivial) fun x R h => by
    simp only [zst, slices_ContainsFunc_ITag_at_I_CheckConditions_1, optK_bind, optK_bif, optK_pure, optK_none, optK_oc, optK_guardT, optK_map] at h
    refine hold_of h ?_
    kernel_rfl
def zsw (k : Nat) : Entry D := entS zss (zst k) zsu
theorem zsx (k : Nat) : EntryOK X 64 (zsw k) := (zsv k).en rfl
def zsy : Plan := ⟨[(0, [(2, none), (3, none)]), (1, [(4, none)])],
  [],
  []⟩
def zsz (k : Nat) : Calls' D := ⟨[], [], [], [], []⟩
theorem zt0 (k : Nat) : CallsOK X (zsz k) := .nil cod
def zt1 (k : Nat) : Cuts D := ⟨[], []⟩
def zt2 : List Ar := [.a [.kb, .ks], .a [.kb, .ks]]
def zt3 (k : Nat) (x : TupA D zt2) : Option (Bool) := I_WeakSame k (⟨x.1.1, x.1.2.1⟩ : ITag) (⟨x.2.1.1, x.2.1.2.1⟩ : ITag)
def zt4 (r : Bool) : VR D := .p (.c (.bool r))
theorem zt5 (k : Nat) : Does P X 67 zt2 (zt3 k) zt4 :=
  does_of (body := bodyOf Go.Proofs.Tryz.f67) (pl := zsy) (k := k) (cu := zt1 k) (tys := [[0]]) (zt0 k) ctx mixed Go.Proofs.Tryz.func67 (by kernel_rfl) (by kernel_rfl) (cutOK_of (l := []) (by kernel_rfl) trivial) fun x R h => by
    simp only [zt3, I_WeakSame, optK_bind, optK_bif, optK_pure, optK_none, optK_oc, optK_guardT, optK_map] at h
    refine hold_of h ?_
    kernel_rfl
def zt6 (k : Nat) : Entry D := entS zt2 (zt3 k) zt4
theorem zt7 (k : Nat) : EntryOK X 67 (zt6 k) := (zt5 k).en rfl
def zt8 : Plan := ⟨[(0, [(1, none), (2, none)]), (1, [(3, none)])],
  [],
  []⟩
def zt9 (k : Nat) : Calls' D := ⟨[(67, zt6 k)], [], [], [], []⟩
theorem zta (k : Nat) : CallsOK X (zt9 k) := .cons (zt7 k) (.nil cod)
def ztb (k : Nat) : Cuts D := ⟨[], []⟩
def ztc : List Ar := [.a [.kb, .ks], .x [.kb, .ks]]
def ztd (k : Nat) (x : TupA D ztc) : Option (Bool) := I_CheckConditions_2 k (⟨x.1.1, x.1.2.1⟩ : ITag) x.2.1.1 x.2.1.2.1
def zte (r : Bool) : VR D := .p (.c (.bool r))
theorem ztf (k : Nat) : Does P X 66 ztc (ztd k) zte :=
  does_of (body := bodyOf Go.Proofs.Tryz.f66) (pl := zt8) (k := k) (cu := ztb k) (tys := [[0]]) (zta k) ctx mixed Go.Proofs.Tryz.func66 (by kernel_rfl) (by kernel_rfl) (cutOK_of (l := []) (by kernel_rfl) trivial) fun x R h => by
    simp only [ztd, I_CheckConditions_2, optK_bind, optK_bif, optK_pure, optK_none, optK_oc, optK_guardT, optK_map] at h
    refine hold_of h ?_
    kernel_rfl
def ztg (k : Nat) : Entry D := entS ztc (ztd k) zte
theorem zth (k : Nat) : EntryOK X 66 (ztg k) := (ztf k).en rfl
def zti : Plan := ⟨[(0, [(0, some 82), (1, none)]), (1, [(0, some 82), (1, none), (7, none), (8, none)]), (2, [(0, some 82), (1, none), (7, none), (8, none), (9, none)]), (3, [(0, some 82), (1, none), (5, none), (7, none), (8, none)]), (4, [(0, some 82), (1, none), (5, none), (7, none), (8, none), (16, none)]), (5, [(4, none)]), (6, [(0, some 82), (1, none), (7, none), (8, none)]), (7, [(4, none)])],
  [(0, []), (1, [(0, some 82), (1, none), (7, none), (8, none)])],
  [(9, ([(0, some 82), (1, none), (7, none), (8, none)], [])), (16, ([(5, none)], [(0, some 82), (1, none), (7, none), (8, none)]))]⟩
def ztj (k : Nat) : Calls' D := ⟨[(66, ztg k)], [], [], [], []⟩
theorem ztk (k : Nat) : CallsOK X (ztj k) := .cons (zth k) (.nil cod)
def ztl (x : (List ITag) × Bool × (List UInt8) × Int × Int × Unit) (o : Oc (Unit) (Int)) (Q : Ex → VSt D → Prop) (R : VR D → Prop) : Prop := ocP o (fun v0 => Q .normal (mkSt ⟨[], []⟩ [])) (fun w0 => R (.p (.c (.int .i64 w0))))
def ztm (k : Nat) : Cut D := cutS ⟨[(0, .hole), (1, .clo 66 [.rptr 2]), (7, .hole), (8, .hole)], []⟩ [.kl 82, .kb, .ks, .ki .i64, .ki .i64] (fun (x : (List ITag) × Bool × (List UInt8) × Int × Int × Unit) => slices_IndexFunc_ITag_at_I_CheckConditions_2_b0 k k x.1 x.2.1 x.2.2.1 x.2.2.2.1 x.2.2.2.2.1) ztl
def ztn (k : Nat) : Cuts D := ⟨[], []⟩
theorem zto (k : Nat) : CutFor X zti k Go.Proofs.Tryz.f129.results.toList (ztm k) (sub (bodyOf Go.Proofs.Tryz.f129) [1, 0, 1]) :=
  loopCut_s (X := X) (sg := [.kl 82, .kb, .ks, .ki .i64, .ki .i64]) (cu := ztn k) (cl := ztj k) (tys := [[0]]) (id := 0) (c := sub (bodyOf Go.Proofs.Tryz.f129) [1, 0, 1, 0, 0]) (f := fun n => fun (x : (List ITag) × Bool × (List UInt8) × Int × Int × Unit) => slices_IndexFunc_ITag_at_I_CheckConditions_2_b0 k n x.1 x.2.1 x.2.2.1 x.2.2.2.1 x.2.2.2.2.1) (ztk k) (cutOK_of (l := []) (by kernel_rfl) trivial) (fun _ => rfl) (fun n x Q R h => by
    simp only [slices_IndexFunc_ITag_at_I_CheckConditions_2_b0, optK_bind, optK_bif, optK_pure, optK_none, optK_oc, optK_guardT, optK_map] at h
    refine hold_of h ?_
    kernel_rfl) (by kernel_rfl)
def ztp (k : Nat) : Cuts D := ⟨[(0, some (ztm k))], []⟩
def ztq : List Ar := [.c (.kl 82), .f 66 [[.kb, .ks]]]
def ztr (k : Nat) (x : TupA D ztq) : Option (Int) := slices_IndexFunc_ITag_at_I_CheckConditions_2 k x.1 x.2.1.1.1 x.2.1.1.2.1
def zts (r : Int) : VR D := .p (.c (.int .i64 r))
theorem ztt (k : Nat) : Does P X 129 ztq (ztr k) zts :=
  does_of (body := bodyOf Go.Proofs.Tryz.f129) (pl := zti) (k := k) (cu := ztp k) (tys := [[0]]) (ztk k) ctx mixed Go.Proofs.Tryz.func129 (by kernel_rfl) (by kernel_rfl) (cutOK_of (l := [(ztm k, sub (bodyOf Go.Proofs.Tryz.f129) [1, 0, 1])]) (by kernel_rfl) ⟨zto k, trivial⟩) fun x R h => by
    simp only [ztr, slices_IndexFunc_ITag_at_I_CheckConditions_2, optK_bind, optK_bif, optK_pure, optK_none, optK_oc, optK_guardT, optK_map] at h
    refine hold_of h ?_
    kernel_rfl
def ztu (k : Nat) : Entry D := entS ztq (ztr k) zts
theorem ztv (k : Nat) : EntryOK X 129 (ztu k) := (ztt k).en rfl
def ztw : Plan := ⟨[(0, [(0, some 82), (1, none)]), (1, [(4, none)])],
  [],
  []⟩
def ztx (k : Nat) : Calls' D := ⟨[(129, ztu k)], [], [], [], []⟩
theorem zty (k : Nat) : CallsOK X (ztx k) := .cons (ztv k) (.nil cod)
def ztz (k : Nat) : Cuts D := ⟨[], []⟩
def zu0 : List Ar := [.c (.kl 82), .f 66 [[.kb, .ks]]]
def zu1 (k : Nat) (x : TupA D zu0) : Option (Bool) := slices_ContainsFunc_ITag_at_I_CheckConditions_2 k x.1 x.2.1.1.1 x.2.1.1.2.1
def zu2 (r : Bool) : VR D := .p (.c (.bool r))
theorem zu3 (k : Nat) : Does P X 64 zu0 (zu1 k) zu2 :=
  does_of (body := bodyOf Go.Proofs.Tryz.f64) (pl := ztw) (k := k) (cu := ztz k) (tys := [[0]]) (zty k) ctx mixed Go.Proofs.Tryz.func64 (by kernel_rfl) (by kernel_rfl) (cutOK_of (l := []) (by kernel_rfl) trivial) fun x R h => by
    simp only [zu1, slices_ContainsFunc_ITag_at_I_CheckConditions_2, optK_bind, optK_bif, optK_pure, optK_none, optK_oc, optK_guardT, optK_map] at h
    refine hold_of h ?_
    kernel_rfl
def zu4 (k : Nat) : Entry D := entS zu0 (zu1 k) zu2
theorem zu5 (k : Nat) : EntryOK X 64 (zu4 k) := (zu3 k).en rfl
def zu6 : Plan := ⟨[(0, [(2, none), (3, none)]), (1, [(2, none), (3, none), (5, none), (6, none)]), (2, [(2, none), (5, none), (6, none), (7, none), (8, none)]), (3, [(2, none), (5, none), (6, none), (7, none), (8, none), (9, none)]), (4, [(2, none), (5, none), (6, none), (7, none), (8, none), (9, none), (10, none), (11, none)]), (5, [(2, none), (5, none), (6, none), (7, none), (8, none), (9, none), (10, none), (52, none)]), (6, [(2, none), (5, none), (6, none), (7, none), (8, none), (9, none), (12, some 82), (13, none), (14, none)]), (7, [(2, none), (5, none), (6, none), (7, none), (8, none), (9, none), (73, none)]), (8, [(4, none)]), (9, [(2, none), (5, none), (6, none), (7, none), (8, none), (9, none), (15, none), (16, none)]), (10, [(2, none), (5, none), (6, none), (7, none), (8, none), (9, none), (15, none), (80, none)]), (11, [(2, none), (5, none), (6, none), (7, none), (8, none), (9, none), (17, none), (18, none)]), (12, [(2, none), (5, none), (6, none), (7, none), (8, none), (9, none), (94, none)]), (13, [(4, none)]), (14, [(2, none), (5, none), (6, none), (7, none), (8, none), (9, none), (19, none), (20, none)]), (15, [(2, none), (5, none), (6, none), (7, none), (8, none), (9, none), (19, none), (101, none)]), (16, [(5, none), (6, none), (9, none), (21, some 82), (22, none), (23, none)]), (17, [(9, none), (108, none)]), (18, [(4, none)]), (19, [(124, none)]), (20, [(4, none)]), (21, [(4, none)]), (22, [(7, none), (8, none), (9, none), (24, none), (25, none)]), (23, [(7, none), (8, none), (24, none), (135, none)]), (24, [(7, none), (8, none), (26, none), (27, none)]), (25, [(149, none)]), (26, [(4, none)]), (27, [(4, none)])],
  [(0, [])],
  [(52, ([(2, none), (5, none), (6, none), (7, none), (8, none), (9, none), (10, none)], [(2, none), (5, none), (6, none), (7, none), (8, none), (9, none)])), (73, ([], [(2, none), (5, none), (6, none), (7, none), (8, none), (9, none)])), (80, ([(2, none), (5, none), (6, none), (7, none), (8, none), (9, none), (15, none)], [(2, none), (5, none), (6, none), (7, none), (8, none), (9, none)])), (94, ([], [(2, none), (5, none), (6, none), (7, none), (8, none), (9, none)])), (101, ([(5, none), (6, none), (9, none), (19, none)], [(2, none), (7, none), (8, none), (9, none)])), (108, ([], [(9, none)])), (124, ([], [])), (135, ([(7, none), (8, none), (24, none)], [])), (149, ([], []))]⟩
def zu7 (k : Nat) : Calls' D := ⟨[(59, zjk k), (53, zpy k), (57, zh2 k), (63, zro k), (64, selE [(65, zsw k), (66, zu4 k)]), (61, zpo k)], [], [], [], []⟩
theorem zu8 (k : Nat) : CallsOK X (zu7 k) := .cons (zjl k) (.cons (zpz k) (.cons (zh3 k) (.cons (zrp k) (.cons (selE_ok ⟨zsx k, zu5 k, trivial⟩) (.cons (zpp k) (.nil cod))))))
def zu9 (x : Bool × Int × Bool × Bool × (List UInt8) × Bool × (List UInt8) × (List UInt8) × (List UInt8) × (List IField) × Bool × (List UInt8) × Unit) (o : Oc (Unit) (Int)) (Q : Ex → VSt D → Prop) (R : VR D → Prop) : Prop := ocP o (fun v0 => Q .normal (mkSt ⟨[(2, .ptr 2 0), (5, .ptr 5 0), (6, .hole), (7, .hole), (8, .hole), (9, .hole)], [(2, .var [.hole, .hole, .hole, .hole]), (5, .var [.hole, .hole])]⟩ [.bool x.1, .int .i64 x.2.1, .bool x.2.2.1, .bool x.2.2.2.1, .str x.2.2.2.2.2.2.1, .str x.2.2.2.2.2.2.2.1, .str x.2.2.2.2.2.2.2.2.1, .sl 107 x.2.2.2.2.2.2.2.2.2.1, .bool x.2.2.2.2.2.2.2.2.2.2.1, .str x.2.2.2.2.2.2.2.2.2.2.2.1])) (fun w0 => R (.p (.c (.int .i64 w0))))
def zua (k : Nat) : Cut D := cutS ⟨[(2, .ptr 2 0), (5, .ptr 5 0), (6, .hole), (7, .hole), (8, .hole), (9, .hole), (15, .hole), (80, .hole)], [(2, .var [.hole, .hole, .hole, .hole]), (5, .var [.hole, .hole])]⟩ [.kb, .ki .i64, .kb, .kb, .ks, .kb, .ks, .ks, .ks, .kl 107, .kb, .ks] (fun (x : Bool × Int × Bool × Bool × (List UInt8) × Bool × (List UInt8) × (List UInt8) × (List UInt8) × (List IField) × Bool × (List UInt8) × Unit) => I_CheckConditions_c80 k x.1 x.2.1 x.2.2.1 x.2.2.2.1 x.2.2.2.2.1 x.2.2.2.2.2.1 x.2.2.2.2.2.2.1 x.2.2.2.2.2.2.2.1 x.2.2.2.2.2.2.2.2.1 x.2.2.2.2.2.2.2.2.2.1 x.2.2.2.2.2.2.2.2.2.2.1 x.2.2.2.2.2.2.2.2.2.2.2.1) zu9
def zub (k : Nat) : Cuts D := ⟨[], []⟩
theorem zuc (k : Nat) : CutFor X zu6 k Go.Proofs.Tryz.f28.results.toList (zua k) (sub (bodyOf Go.Proofs.Tryz.f28) [1, 1, 1, 1, 0, 1, 1, 1, 1, 1]) :=
  joinCut_s (X := X) (sg := [.kb, .ki .i64, .kb, .kb, .ks, .kb, .ks, .ks, .ks, .kl 107, .kb, .ks]) (cu := zub k) (cl := zu7 k) (tys := [[0]]) (zu8 k) (cutOK_of (l := []) (by kernel_rfl) trivial) fun x Q R h => by
    simp only [I_CheckConditions_c80, optK_bind, optK_bif, optK_pure, optK_none, optK_oc, optK_guardT, optK_map] at h
    refine hold_of h ?_
    kernel_rfl
def zud (x : Bool × Int × Bool × Bool × (List UInt8) × Bool × (List UInt8) × (List UInt8) × (List UInt8) × (List IField) × Bool × (List UInt8) × Unit) (o : Oc (Unit) (Int)) (Q : Ex → VSt D → Prop) (R : VR D → Prop) : Prop := ocP o (fun v0 => Q .normal (mkSt ⟨[(2, .ptr 2 0), (5, .ptr 5 0), (6, .hole), (7, .hole), (8, .hole), (9, .hole)], [(2, .var [.hole, .hole, .hole, .hole]), (5, .var [.hole, .hole])]⟩ [.bool x.1, .int .i64 x.2.1, .bool x.2.2.1, .bool x.2.2.2.1, .str x.2.2.2.2.2.2.1, .str x.2.2.2.2.2.2.2.1, .str x.2.2.2.2.2.2.2.2.1, .sl 107 x.2.2.2.2.2.2.2.2.2.1, .bool x.2.2.2.2.2.2.2.2.2.2.1, .str x.2.2.2.2.2.2.2.2.2.2.2.1])) (fun w0 => R (.p (.c (.int .i64 w0))))
def zue (k : Nat) : Cut D := cutS ⟨[(2, .ptr 2 0), (5, .ptr 5 0), (6, .hole), (7, .hole), (8, .hole), (9, .hole), (10, .hole), (52, .hole)], [(2, .var [.hole, .hole, .hole, .hole]), (5, .var [.hole, .hole])]⟩ [.kb, .ki .i64, .kb, .kb, .ks, .kb, .ks, .ks, .ks, .kl 107, .kb, .ks] (fun (x : Bool × Int × Bool × Bool × (List UInt8) × Bool × (List UInt8) × (List UInt8) × (List UInt8) × (List IField) × Bool × (List UInt8) × Unit) => I_CheckConditions_c52 k x.1 x.2.1 x.2.2.1 x.2.2.2.1 x.2.2.2.2.1 x.2.2.2.2.2.1 x.2.2.2.2.2.2.1 x.2.2.2.2.2.2.2.1 x.2.2.2.2.2.2.2.2.1 x.2.2.2.2.2.2.2.2.2.1 x.2.2.2.2.2.2.2.2.2.2.1 x.2.2.2.2.2.2.2.2.2.2.2.1) zud
def zuf (k : Nat) : Cuts D := ⟨[], [(80, some (zua k))]⟩
theorem zug (k : Nat) : CutFor X zu6 k Go.Proofs.Tryz.f28.results.toList (zue k) (sub (bodyOf Go.Proofs.Tryz.f28) [1, 1, 1, 1, 0, 1, 1]) :=
  joinCut_s (X := X) (sg := [.kb, .ki .i64, .kb, .kb, .ks, .kb, .ks, .ks, .ks, .kl 107, .kb, .ks]) (cu := zuf k) (cl := zu7 k) (tys := [[0]]) (zu8 k) (cutOK_of (l := [(zua k, sub (bodyOf Go.Proofs.Tryz.f28) [1, 1, 1, 1, 0, 1, 1, 1, 1, 1])]) (by kernel_rfl) ⟨zuc k, trivial⟩) fun x Q R h => by
    simp only [I_CheckConditions_c52, optK_bind, optK_bif, optK_pure, optK_none, optK_oc, optK_guardT, optK_map] at h
    refine hold_of h ?_
    kernel_rfl
def zuh (x : Int × Bool × (List UInt8) × Bool × Unit) (o : Oc (Unit) (Int)) (Q : Ex → VSt D → Prop) (R : VR D → Prop) : Prop := ocP o (fun v0 => Q .normal (mkSt ⟨[], []⟩ [])) (fun w0 => R (.p (.c (.int .i64 w0))))
def zui (k : Nat) : Cut D := cutS ⟨[(7, .hole), (8, .hole), (24, .hole), (135, .hole)], []⟩ [.ki .i64, .kb, .ks, .kb] (fun (x : Int × Bool × (List UInt8) × Bool × Unit) => I_CheckConditions_c135 k x.1 x.2.1 x.2.2.1 x.2.2.2.1) zuh
def zuj (k : Nat) : Cuts D := ⟨[], []⟩
theorem zuk (k : Nat) : CutFor X zu6 k Go.Proofs.Tryz.f28.results.toList (zui k) (sub (bodyOf Go.Proofs.Tryz.f28) [1, 1, 1, 1, 1, 1, 0, 1, 1]) :=
  joinCut_s (X := X) (sg := [.ki .i64, .kb, .ks, .kb]) (cu := zuj k) (cl := zu7 k) (tys := [[0]]) (zu8 k) (cutOK_of (l := []) (by kernel_rfl) trivial) fun x Q R h => by
    simp only [I_CheckConditions_c135, optK_bind, optK_bif, optK_pure, optK_none, optK_oc, optK_guardT, optK_map] at h
    refine hold_of h ?_
    kernel_rfl
def zul (k : Nat) : Cuts D := ⟨[], [(52, some (zue k)), (135, some (zui k))]⟩
def zum : List Ar := [.a [.ks, .ks, .ks, .kl 107], .a [.ki .i64, .kl 107, .ks]]
def zun (k : Nat) (x : TupA D zum) : Option (Int) := I_CheckConditions k (⟨x.1.1, x.1.2.1, x.1.2.2.1, x.1.2.2.2.1⟩ : IRequest) (⟨x.2.1.1, x.2.1.2.1, x.2.1.2.2.1⟩ : IResponse)
def zuo (r : Int) : VR D := .p (.c (.int .i64 r))
theorem zup (k : Nat) : Does P X 28 zum (zun k) zuo :=
  does_of (body := bodyOf Go.Proofs.Tryz.f28) (pl := zu6) (k := k) (cu := zul k) (tys := [[0]]) (zu8 k) ctx mixed Go.Proofs.Tryz.func28 (by kernel_rfl) (by kernel_rfl) (cutOK_of (l := [(zue k, sub (bodyOf Go.Proofs.Tryz.f28) [1, 1, 1, 1, 0, 1, 1]), (zui k, sub (bodyOf Go.Proofs.Tryz.f28) [1, 1, 1, 1, 1, 1, 0, 1, 1])]) (by kernel_rfl) ⟨zug k, zuk k, trivial⟩) fun x R h => by
    simp only [zun, I_CheckConditions, optK_bind, optK_bif, optK_pure, optK_none, optK_oc, optK_guardT, optK_map] at h
    refine hold_of h ?_
    kernel_rfl
def zuq (k : Nat) : Entry D := entS zum (zun k) zuo
theorem zur (k : Nat) : EntryOK X 28 (zuq k) := (zup k).en rfl
def zus : Plan := ⟨[(0, [(2, none), (3, none)]), (1, [(2, none), (3, none), (9, none)]), (2, [(4, none)]), (3, [(14, none)]), (4, [(4, none)]), (5, [(4, none)])],
  [],
  [(9, ([], [(2, none), (3, none)])), (14, ([], []))]⟩
def zut (k : Nat) : Calls' D := ⟨[], [], [], [], []⟩
theorem zuu (k : Nat) : CallsOK X (zut k) := .nil cod
def zuv (k : Nat) : Cuts D := ⟨[], []⟩
def zuw : List Ar := [.a [.ks, .ks], .a [.ks, .ks]]
def zux (k : Nat) (x : TupA D zuw) : Option (Bool) := L_eqField k (⟨x.1.1, x.1.2.1⟩ : IField) (⟨x.2.1.1, x.2.1.2.1⟩ : IField)
def zuy (r : Bool) : VR D := .p (.c (.bool r))
theorem zuz (k : Nat) : Does P X 96 zuw (zux k) zuy :=
  does_of (body := bodyOf Go.Proofs.Tryz.f96) (pl := zus) (k := k) (cu := zuv k) (tys := [[0]]) (zuu k) ctx mixed Go.Proofs.Tryz.func96 (by kernel_rfl) (by kernel_rfl) (cutOK_of (l := []) (by kernel_rfl) trivial) fun x R h => by
    simp only [zux, L_eqField, optK_bind, optK_bif, optK_pure, optK_none, optK_oc, optK_guardT, optK_map] at h
    refine hold_of h ?_
    kernel_rfl
def zv0 (k : Nat) : Entry D := entS zuw (zux k) zuy
theorem zv1 (k : Nat) : EntryOK X 96 (zv0 k) := (zuz k).en rfl
def zv2 : Plan := ⟨[(0, [(0, some 107), (1, some 107)]), (1, [(0, some 107), (1, some 107), (10, none)]), (2, [(4, none)]), (3, [(0, some 107), (1, some 107), (5, none)]), (4, [(0, some 107), (1, some 107), (5, none), (14, none)]), (5, [(0, some 107), (1, some 107), (5, none)]), (6, [(0, some 107), (1, some 107), (5, none), (26, none)]), (7, [(4, none)]), (8, [(4, none)])],
  [(0, []), (1, [(0, some 107), (1, some 107), (5, none)])],
  [(10, ([], [(0, some 107), (1, some 107)])), (14, ([(0, some 107), (1, some 107), (5, none)], [])), (26, ([], [(0, some 107), (1, some 107), (5, none)]))]⟩
def zv3 (k : Nat) : Calls' D := ⟨[(96, zv0 k)], [], [], [], []⟩
theorem zv4 (k : Nat) : CallsOK X (zv3 k) := .cons (zv1 k) (.nil cod)
def zv5 (x : (List IField) × (List IField) × Int × Unit) (o : Oc (Unit) (Bool)) (Q : Ex → VSt D → Prop) (R : VR D → Prop) : Prop := ocP o (fun v0 => Q .normal (mkSt ⟨[], []⟩ [])) (fun w0 => R (.p (.c (.bool w0))))
def zv6 (k : Nat) : Cut D := cutS ⟨[(0, .hole), (1, .hole), (5, .hole)], []⟩ [.kl 107, .kl 107, .ki .i64] (fun (x : (List IField) × (List IField) × Int × Unit) => L_eqFieldS_b0 k k x.1 x.2.1 x.2.2.1) zv5
def zv7 (k : Nat) : Cuts D := ⟨[], []⟩
theorem zv8 (k : Nat) : CutFor X zv2 k Go.Proofs.Tryz.f39.results.toList (zv6 k) (sub (bodyOf Go.Proofs.Tryz.f39) [1, 1, 0, 1]) :=
  loopCut_s (X := X) (sg := [.kl 107, .kl 107, .ki .i64]) (cu := zv7 k) (cl := zv3 k) (tys := [[0]]) (id := 0) (c := sub (bodyOf Go.Proofs.Tryz.f39) [1, 1, 0, 1, 0, 0]) (f := fun n => fun (x : (List IField) × (List IField) × Int × Unit) => L_eqFieldS_b0 k n x.1 x.2.1 x.2.2.1) (zv4 k) (cutOK_of (l := []) (by kernel_rfl) trivial) (fun _ => rfl) (fun n x Q R h => by
    simp only [L_eqFieldS_b0, optK_bind, optK_bif, optK_pure, optK_none, optK_oc, optK_guardT, optK_map] at h
    refine hold_of h ?_
    kernel_rfl) (by kernel_rfl)
def zv9 (k : Nat) : Cuts D := ⟨[(0, some (zv6 k))], []⟩
def zva : List Ar := [.c (.kl 107), .c (.kl 107)]
def zvb (k : Nat) (x : TupA D zva) : Option (Bool) := L_eqFieldS k x.1 x.2.1
def zvc (r : Bool) : VR D := .p (.c (.bool r))
theorem zvd (k : Nat) : Does P X 39 zva (zvb k) zvc :=
  does_of (body := bodyOf Go.Proofs.Tryz.f39) (pl := zv2) (k := k) (cu := zv9 k) (tys := [[0]]) (zv4 k) ctx mixed Go.Proofs.Tryz.func39 (by kernel_rfl) (by kernel_rfl) (cutOK_of (l := [(zv6 k, sub (bodyOf Go.Proofs.Tryz.f39) [1, 1, 0, 1])]) (by kernel_rfl) ⟨zv8 k, trivial⟩) fun x R h => by
    simp only [zvb, L_eqFieldS, optK_bind, optK_bif, optK_pure, optK_none, optK_oc, optK_guardT, optK_map] at h
    refine hold_of h ?_
    kernel_rfl
def zve (k : Nat) : Entry D := entS zva (zvb k) zvc
theorem zvf (k : Nat) : EntryOK X 39 (zve k) := (zvd k).en rfl
def zvg : Plan := ⟨[(0, [(2, none), (3, none)]), (1, [(2, none), (3, none), (9, none)]), (2, [(4, none)]), (3, [(2, none), (3, none), (14, none)]), (4, [(4, none)]), (5, [(2, none), (3, none), (19, none)]), (6, [(4, none)]), (7, [(25, none)]), (8, [(4, none)]), (9, [(4, none)])],
  [],
  [(9, ([], [(2, none), (3, none)])), (14, ([], [(2, none), (3, none)])), (19, ([], [(2, none), (3, none)])), (25, ([], []))]⟩
def zvh (k : Nat) : Calls' D := ⟨[(39, zve k)], [], [], [], []⟩
theorem zvi (k : Nat) : CallsOK X (zvh k) := .cons (zvf k) (.nil cod)
def zvj (k : Nat) : Cuts D := ⟨[], []⟩
def zvk : List Ar := [.a [.ks, .ks, .ks, .kl 107], .a [.ks, .ks, .ks, .kl 107]]
def zvl (k : Nat) (x : TupA D zvk) : Option (Bool) := L_eqRequest k (⟨x.1.1, x.1.2.1, x.1.2.2.1, x.1.2.2.2.1⟩ : IRequest) (⟨x.2.1.1, x.2.1.2.1, x.2.1.2.2.1, x.2.1.2.2.2.1⟩ : IRequest)
def zvm (r : Bool) : VR D := .p (.c (.bool r))
theorem zvn (k : Nat) : Does P X 14 zvk (zvl k) zvm :=
  does_of (body := bodyOf Go.Proofs.Tryz.f14) (pl := zvg) (k := k) (cu := zvj k) (tys := [[0]]) (zvi k) ctx mixed Go.Proofs.Tryz.func14 (by kernel_rfl) (by kernel_rfl) (cutOK_of (l := []) (by kernel_rfl) trivial) fun x R h => by
    simp only [zvl, L_eqRequest, optK_bind, optK_bif, optK_pure, optK_none, optK_oc, optK_guardT, optK_map] at h
    refine hold_of h ?_
    kernel_rfl
def zvo (k : Nat) : Entry D := entS zvk (zvl k) zvm
theorem zvp (k : Nat) : EntryOK X 14 (zvo k) := (zvn k).en rfl
def zvq : Plan := ⟨[(0, [(2, none), (3, none)]), (1, [(2, none), (3, none), (9, none)]), (2, [(4, none)]), (3, [(2, none), (3, none), (15, none)]), (4, [(4, none)]), (5, [(20, none)]), (6, [(4, none)]), (7, [(4, none)])],
  [],
  [(9, ([], [(2, none), (3, none)])), (15, ([], [(2, none), (3, none)])), (20, ([], []))]⟩
def zvr (k : Nat) : Calls' D := ⟨[(39, zve k)], [], [], [], []⟩
theorem zvs (k : Nat) : CallsOK X (zvr k) := .cons (zvf k) (.nil cod)
def zvt (k : Nat) : Cuts D := ⟨[], []⟩
def zvu : List Ar := [.a [.ki .i64, .kl 107, .ks], .a [.ki .i64, .kl 107, .ks]]
def zvv (k : Nat) (x : TupA D zvu) : Option (Bool) := L_eqResponse k (⟨x.1.1, x.1.2.1, x.1.2.2.1⟩ : IResponse) (⟨x.2.1.1, x.2.1.2.1, x.2.1.2.2.1⟩ : IResponse)
def zvw (r : Bool) : VR D := .p (.c (.bool r))
theorem zvx (k : Nat) : Does P X 24 zvu (zvv k) zvw :=
  does_of (body := bodyOf Go.Proofs.Tryz.f24) (pl := zvq) (k := k) (cu := zvt k) (tys := [[0]]) (zvs k) ctx mixed Go.Proofs.Tryz.func24 (by kernel_rfl) (by kernel_rfl) (cutOK_of (l := []) (by kernel_rfl) trivial) fun x R h => by
    simp only [zvv, L_eqResponse, optK_bind, optK_bif, optK_pure, optK_none, optK_oc, optK_guardT, optK_map] at h
    refine hold_of h ?_
    kernel_rfl
def zvy (k : Nat) : Entry D := entS zvu (zvv k) zvw
theorem zvz (k : Nat) : EntryOK X 24 (zvy k) := (zvx k).en rfl
def zw0 : Plan := ⟨[(0, [(2, none), (3, none)]), (1, [(2, none), (3, none), (5, none)]), (2, [(2, none), (3, none), (5, none)]), (3, [(2, none), (3, none), (5, none), (14, none)]), (4, [(4, none)]), (5, [(2, none), (3, none), (5, none)]), (6, [(2, none), (3, none), (19, none)]), (7, [(4, none)]), (8, [(2, none), (3, none), (6, none)]), (9, [(2, none), (3, none), (6, none), (7, none)]), (10, [(2, none), (3, none), (6, none), (7, none), (8, none)]), (11, [(2, none), (3, none), (6, none), (7, none), (8, none), (9, none)]), (12, [(2, none), (3, none), (7, none), (8, none), (34, none)]), (13, [(4, none)]), (14, [(3, none), (8, none), (39, none)]), (15, [(4, none)]), (16, [(44, none)]), (17, [(4, none)]), (18, [(4, none)])],
  [],
  [(14, ([], [(2, none), (3, none), (5, none)])), (19, ([], [(2, none), (3, none)])), (34, ([], [(2, none), (3, none), (7, none), (8, none)])), (39, ([], [(3, none), (8, none)])), (44, ([], []))]⟩
def zw1 (k : Nat) : Calls' D := ⟨[(10, zw k), (20, z16 k), (12, z24 k), (22, z2e k), (27, zg0 k), (28, zuq k), (14, zvo k), (24, zvy k)], [], [], [], []⟩
theorem zw2 (k : Nat) : CallsOK X (zw1 k) := .cons (zx k) (.cons (z17 k) (.cons (z25 k) (.cons (z2f k) (.cons (zg1 k) (.cons (zur k) (.cons (zvp k) (.cons (zvz k) (.nil cod))))))))
def zw3 (k : Nat) : Cuts D := ⟨[], []⟩
def L_FnExactCheckConditions_ar : List Ar := [.a [.ks, .ks, .ks, .kl 100], .a [.ki .i64, .kl 100, .ks]]
def L_FnExactCheckConditions_f (k : Nat) (x : TupA D L_FnExactCheckConditions_ar) : Option (Bool) := L_FnExactCheckConditions k (⟨x.1.1, x.1.2.1, x.1.2.2.1, x.1.2.2.2.1⟩ : LRequest) (⟨x.2.1.1, x.2.1.2.1, x.2.1.2.2.1⟩ : LResponse)
def L_FnExactCheckConditions_vr (r : Bool) : VR D := .p (.c (.bool r))
theorem L_FnExactCheckConditions_ok (k : Nat) : Does P X 7 L_FnExactCheckConditions_ar (L_FnExactCheckConditions_f k) L_FnExactCheckConditions_vr :=
  does_of (body := bodyOf Go.Proofs.Tryz.f7) (pl := zw0) (k := k) (cu := zw3 k) (tys := [[0]]) (zw2 k) ctx mixed Go.Proofs.Tryz.func7 (by kernel_rfl) (by kernel_rfl) (cutOK_of (l := []) (by kernel_rfl) trivial) fun x R h => by
    simp only [L_FnExactCheckConditions_f, L_FnExactCheckConditions, optK_bind, optK_bif, optK_pure, optK_none, optK_oc, optK_guardT, optK_map] at h
    refine hold_of h ?_
    kernel_rfl
def zw4 (k : Nat) : Entry D := entS L_FnExactCheckConditions_ar (L_FnExactCheckConditions_f k) L_FnExactCheckConditions_vr
theorem zw5 (k : Nat) : EntryOK X 7 (zw4 k) := (L_FnExactCheckConditions_ok k).en rfl

end
end Go.YtjpfnppiocloeaaGreatDoor
