/- The machine computes the functions. Nothing is claimed here. -/
import Derived.Test.YtjpfnppiocloeaaGreatDoorKf
import Derived.Test.YtjpfnppiocloeaaGreatDoorShelf
import Derived.Shelf.Strings.SlTrimAscii
set_option linter.unusedVariables false
set_option linter.unusedSimpArgs false
set_option maxRecDepth 100000
namespace Go.YtjpfnppiocloeaaGreatDoor
open Go Go.RowKit Go.Pv
noncomputable section

def z0 : Plan := ⟨[(0, [(1, none), (2, none)]), (1, [(1, none), (2, none)]), (2, [(1, none), (2, none), (11, none)]), (3, [(4, none)]), (4, [(1, none)]), (5, [(1, none), (18, none)]), (6, [(4, none)]), (7, [(4, none)])],
  [],
  [(11, ([], [(1, none), (2, none)])), (18, ([], [(1, none)]))]⟩
def z1 (k : Nat) : Calls' D := ⟨[], [], [], [], []⟩
theorem z2 (k : Nat) : CallsOK X (z1 k) := .nil cod
def z3 (k : Nat) : Cuts D := ⟨[], []⟩
def z4 : List Ar := [.a [.ks, .ks], .c (.ki .i64)]
def z5 (k : Nat) (x : TupA D z4) : Option (Int) := L_szField k (⟨x.1.1, x.1.2.1⟩ : LField) x.2.1
def z6 (r : Int) : VR D := .p (.c (.int .i64 r))
theorem z7 (k : Nat) : Does P X 73 z4 (z5 k) z6 :=
  does_of (body := bodyOf Go.Proofs.Tryz.f73) (pl := z0) (k := k) (cu := z3 k) (tys := [[0]]) (z2 k) ctx mixed Go.Proofs.Tryz.func73 (by kernel_rfl) (by kernel_rfl) (cutOK_of (l := []) (by kernel_rfl) trivial) fun x R h => by
    simp only [z5, L_szField, optK_bind, optK_bif, optK_pure, optK_none, optK_oc, optK_guardT, optK_map] at h
    refine hold_of h ?_
    kernel_rfl
def z8 (k : Nat) : Entry D := entS z4 (z5 k) z6
theorem z9 (k : Nat) : EntryOK X 73 (z8 k) := (z7 k).en rfl
def za : Plan := ⟨[(0, [(0, some 100), (1, none)]), (1, [(0, some 100), (1, none)]), (2, [(0, some 100), (1, none), (11, none)]), (3, [(4, none)]), (4, [(0, some 100), (1, none), (5, none)]), (5, [(0, some 100), (1, none), (5, none), (15, none)]), (6, [(0, some 100), (1, none), (5, none)]), (7, [(0, some 100), (1, none), (5, none)]), (8, [(0, some 100), (1, none), (5, none), (25, none)]), (9, [(4, none)]), (10, [(4, none)])],
  [(0, [(1, none)]), (1, [(0, some 100), (1, none), (5, none)])],
  [(11, ([], [(0, some 100), (1, none)])), (15, ([(0, some 100), (1, none), (5, none)], [(1, none)])), (25, ([], [(0, some 100), (1, none), (5, none)]))]⟩
def zb (k : Nat) : Calls' D := ⟨[(73, z8 k)], [], [], [], []⟩
theorem zc (k : Nat) : CallsOK X (zb k) := .cons (z9 k) (.nil cod)
def zd (x : (List LField) × Int × Int × Unit) (o : Oc (Int) (Int)) (Q : Ex → VSt D → Prop) (R : VR D → Prop) : Prop := ocP o (fun v0 => Q .normal (mkSt ⟨[(1, .hole)], []⟩ [.int .i64 v0])) (fun w0 => R (.p (.c (.int .i64 w0))))
def ze (k : Nat) : Cut D := cutS ⟨[(0, .hole), (1, .hole), (5, .hole)], []⟩ [.kl 100, .ki .i64, .ki .i64] (fun (x : (List LField) × Int × Int × Unit) => L_szFieldS_b0 k k x.1 x.2.1 x.2.2.1) zd
def zf (k : Nat) : Cuts D := ⟨[], []⟩
theorem zg (k : Nat) : CutFor X za k Go.Proofs.Tryz.f33.results.toList (ze k) (sub (bodyOf Go.Proofs.Tryz.f33) [1, 1, 1, 0, 1]) :=
  loopCut_s (X := X) (sg := [.kl 100, .ki .i64, .ki .i64]) (cu := zf k) (cl := zb k) (tys := [[0]]) (id := 0) (c := sub (bodyOf Go.Proofs.Tryz.f33) [1, 1, 1, 0, 1, 0, 0]) (f := fun n => fun (x : (List LField) × Int × Int × Unit) => L_szFieldS_b0 k n x.1 x.2.1 x.2.2.1) (zc k) (cutOK_of (l := []) (by kernel_rfl) trivial) (fun _ => rfl) (fun n x Q R h => by
    simp only [L_szFieldS_b0, optK_bind, optK_bif, optK_pure, optK_none, optK_oc, optK_guardT, optK_map] at h
    refine hold_of h ?_
    kernel_rfl) (by kernel_rfl)
def zh (k : Nat) : Cuts D := ⟨[(0, some (ze k))], []⟩
def zi : List Ar := [.c (.kl 100), .c (.ki .i64)]
def zj (k : Nat) (x : TupA D zi) : Option (Int) := L_szFieldS k x.1 x.2.1
def zk (r : Int) : VR D := .p (.c (.int .i64 r))
theorem zl (k : Nat) : Does P X 33 zi (zj k) zk :=
  does_of (body := bodyOf Go.Proofs.Tryz.f33) (pl := za) (k := k) (cu := zh k) (tys := [[0]]) (zc k) ctx mixed Go.Proofs.Tryz.func33 (by kernel_rfl) (by kernel_rfl) (cutOK_of (l := [(ze k, sub (bodyOf Go.Proofs.Tryz.f33) [1, 1, 1, 0, 1])]) (by kernel_rfl) ⟨zg k, trivial⟩) fun x R h => by
    simp only [zj, L_szFieldS, optK_bind, optK_bif, optK_pure, optK_none, optK_oc, optK_guardT, optK_map] at h
    refine hold_of h ?_
    kernel_rfl
def zm (k : Nat) : Entry D := entS zi (zj k) zk
theorem zn (k : Nat) : EntryOK X 33 (zm k) := (zl k).en rfl
def zo : Plan := ⟨[(0, [(1, none), (2, none)]), (1, [(1, none), (2, none)]), (2, [(1, none), (2, none), (11, none)]), (3, [(4, none)]), (4, [(1, none), (2, none)]), (5, [(1, none), (2, none), (18, none)]), (6, [(4, none)]), (7, [(1, none), (2, none)]), (8, [(1, none), (2, none), (25, none)]), (9, [(4, none)]), (10, [(1, none)]), (11, [(1, none), (31, none)]), (12, [(4, none)]), (13, [(4, none)])],
  [],
  [(11, ([], [(1, none), (2, none)])), (18, ([], [(1, none), (2, none)])), (25, ([], [(1, none), (2, none)])), (31, ([], [(1, none)]))]⟩
def zp (k : Nat) : Calls' D := ⟨[(33, zm k)], [], [], [], []⟩
theorem zq (k : Nat) : CallsOK X (zp k) := .cons (zn k) (.nil cod)
def zr (k : Nat) : Cuts D := ⟨[], []⟩
def zs : List Ar := [.a [.ks, .ks, .ks, .kl 100], .c (.ki .i64)]
def zt (k : Nat) (x : TupA D zs) : Option (Int) := L_szRequest k (⟨x.1.1, x.1.2.1, x.1.2.2.1, x.1.2.2.2.1⟩ : LRequest) x.2.1
def zu (r : Int) : VR D := .p (.c (.int .i64 r))
theorem zv (k : Nat) : Does P X 10 zs (zt k) zu :=
  does_of (body := bodyOf Go.Proofs.Tryz.f10) (pl := zo) (k := k) (cu := zr k) (tys := [[0]]) (zq k) ctx mixed Go.Proofs.Tryz.func10 (by kernel_rfl) (by kernel_rfl) (cutOK_of (l := []) (by kernel_rfl) trivial) fun x R h => by
    simp only [zt, L_szRequest, optK_bind, optK_bif, optK_pure, optK_none, optK_oc, optK_guardT, optK_map] at h
    refine hold_of h ?_
    kernel_rfl
def zw (k : Nat) : Entry D := entS zs (zt k) zu
theorem zx (k : Nat) : EntryOK X 10 (zw k) := (zv k).en rfl
def zy : Plan := ⟨[(0, [(1, none), (2, none)]), (1, [(1, none), (2, none)]), (2, [(1, none), (2, none), (10, none)]), (3, [(4, none)]), (4, [(1, none)]), (5, [(1, none), (17, none)]), (6, [(4, none)]), (7, [(4, none)])],
  [],
  [(10, ([], [(1, none), (2, none)])), (17, ([], [(1, none)]))]⟩
def zz (k : Nat) : Calls' D := ⟨[(33, zm k)], [], [], [], []⟩
theorem z10 (k : Nat) : CallsOK X (zz k) := .cons (zn k) (.nil cod)
def z11 (k : Nat) : Cuts D := ⟨[], []⟩
def z12 : List Ar := [.a [.ki .i64, .kl 100, .ks], .c (.ki .i64)]
def z13 (k : Nat) (x : TupA D z12) : Option (Int) := L_szResponse k (⟨x.1.1, x.1.2.1, x.1.2.2.1⟩ : LResponse) x.2.1
def z14 (r : Int) : VR D := .p (.c (.int .i64 r))
theorem z15 (k : Nat) : Does P X 20 z12 (z13 k) z14 :=
  does_of (body := bodyOf Go.Proofs.Tryz.f20) (pl := zy) (k := k) (cu := z11 k) (tys := [[0]]) (z10 k) ctx mixed Go.Proofs.Tryz.func20 (by kernel_rfl) (by kernel_rfl) (cutOK_of (l := []) (by kernel_rfl) trivial) fun x R h => by
    simp only [z13, L_szResponse, optK_bind, optK_bif, optK_pure, optK_none, optK_oc, optK_guardT, optK_map] at h
    refine hold_of h ?_
    kernel_rfl
def z16 (k : Nat) : Entry D := entS z12 (z13 k) z14
theorem z17 (k : Nat) : EntryOK X 20 (z16 k) := (z15 k).en rfl
def z18 : Plan := ⟨[(0, [(1, none), (2, none)]), (1, [(1, none), (2, none), (3, none)]), (2, [(1, none), (2, none), (3, none)]), (3, [(2, none), (3, none)]), (4, [(2, none)])],
  [],
  []⟩
def z19 (k : Nat) : Calls' D := ⟨[], [], [], [], []⟩
theorem z1a (k : Nat) : CallsOK X (z19 k) := .nil cod
def z1b (k : Nat) : Cuts D := ⟨[], []⟩
def z1c : List Ar := [.a [.ks, .ks]]
def z1d (k : Nat) (x : TupA D z1c) : Option (IField) := L_toField k (⟨x.1.1, x.1.2.1⟩ : LField)
def z1e (r : IField) : VR D := .p (.agg [.str r.Name, .str r.Value])
theorem z1f (k : Nat) : Does P X 81 z1c (z1d k) z1e :=
  does_of (body := bodyOf Go.Proofs.Tryz.f81) (pl := z18) (k := k) (cu := z1b k) (tys := [[0, 0]]) (z1a k) ctx mixed Go.Proofs.Tryz.func81 (by kernel_rfl) (by kernel_rfl) (cutOK_of (l := []) (by kernel_rfl) trivial) fun x R h => by
    simp only [z1d, L_toField, optK_bind, optK_bif, optK_pure, optK_none, optK_oc, optK_guardT, optK_map] at h
    refine hold_of h ?_
    kernel_rfl
def z1g (k : Nat) : Entry D := entS z1c (z1d k) z1e
theorem z1h (k : Nat) : EntryOK X 81 (z1g k) := (z1f k).en rfl
def z1i : Plan := ⟨[(0, [(0, some 100)]), (1, [(0, some 100), (3, some 107)]), (2, [(0, some 100), (3, some 107), (4, none)]), (3, [(0, some 100), (3, some 107), (4, none), (11, none)]), (4, [(0, some 100), (3, some 107), (4, none)]), (5, [(0, some 100), (3, some 107), (4, none)]), (6, [(2, some 107)])],
  [(0, [(3, some 107)]), (1, [(0, some 100), (3, some 107), (4, none)])],
  [(11, ([(0, some 100), (3, some 107), (4, none)], [(3, some 107)]))]⟩
def z1j (k : Nat) : Calls' D := ⟨[(81, z1g k)], [], [], [], []⟩
theorem z1k (k : Nat) : CallsOK X (z1j k) := .cons (z1h k) (.nil cod)
def z1l (x : (List LField) × Int × (List IField) × Unit) (o : (List IField)) (Q : Ex → VSt D → Prop) (R : VR D → Prop) : Prop := Q .normal (mkSt ⟨[(3, .ref 500003)], [(500003, .row)]⟩ [.sl 107 o])
def z1m (k : Nat) : Cut D := cutS ⟨[(0, .hole), (3, .ref 500003), (4, .hole)], [(500003, .row)]⟩ [.kl 100, .ki .i64, .kl 107] (fun (x : (List LField) × Int × (List IField) × Unit) => L_toFieldS_b0 k k x.1 x.2.1 x.2.2.1) z1l
def z1n (k : Nat) : Cuts D := ⟨[], []⟩
theorem z1o (k : Nat) : CutFor X z1i k Go.Proofs.Tryz.f36.results.toList (z1m k) (sub (bodyOf Go.Proofs.Tryz.f36) [1, 1, 0, 1]) :=
  loopCut_s (X := X) (sg := [.kl 100, .ki .i64, .kl 107]) (cu := z1n k) (cl := z1j k) (tys := [[107]]) (id := 0) (c := sub (bodyOf Go.Proofs.Tryz.f36) [1, 1, 0, 1, 0, 0]) (f := fun n => fun (x : (List LField) × Int × (List IField) × Unit) => L_toFieldS_b0 k n x.1 x.2.1 x.2.2.1) (z1k k) (cutOK_of (l := []) (by kernel_rfl) trivial) (fun _ => rfl) (fun n x Q R h => by
    simp only [L_toFieldS_b0, optK_bind, optK_bif, optK_pure, optK_none, optK_oc, optK_guardT, optK_map] at h
    refine hold_of h ?_
    kernel_rfl) (by kernel_rfl)
def z1p (k : Nat) : Cuts D := ⟨[(0, some (z1m k))], []⟩
def z1q : List Ar := [.c (.kl 100)]
def z1r (k : Nat) (x : TupA D z1q) : Option ((List IField)) := L_toFieldS k x.1
def z1s (r : (List IField)) : VR D := .p (.c (.sl 107 r))
theorem z1t (k : Nat) : Does P X 36 z1q (z1r k) z1s :=
  does_of (body := bodyOf Go.Proofs.Tryz.f36) (pl := z1i) (k := k) (cu := z1p k) (tys := [[107]]) (z1k k) ctx mixed Go.Proofs.Tryz.func36 (by kernel_rfl) (by kernel_rfl) (cutOK_of (l := [(z1m k, sub (bodyOf Go.Proofs.Tryz.f36) [1, 1, 0, 1])]) (by kernel_rfl) ⟨z1o k, trivial⟩) fun x R h => by
    simp only [z1r, L_toFieldS, optK_bind, optK_bif, optK_pure, optK_none, optK_oc, optK_guardT, optK_map] at h
    refine hold_of h ?_
    kernel_rfl
def z1u (k : Nat) : Entry D := entS z1q (z1r k) z1s
theorem z1v (k : Nat) : EntryOK X 36 (z1u k) := (z1t k).en rfl
def z1w : Plan := ⟨[(0, [(1, none), (2, none)]), (1, [(1, none), (2, none), (3, none)]), (2, [(1, none), (2, none), (3, none)]), (3, [(1, none), (2, none), (3, none)]), (4, [(1, none), (2, none), (3, none)]), (5, [(2, none), (3, none)]), (6, [(2, none)])],
  [],
  []⟩
def z1x (k : Nat) : Calls' D := ⟨[(36, z1u k)], [], [], [], []⟩
theorem z1y (k : Nat) : CallsOK X (z1x k) := .cons (z1v k) (.nil cod)
def z1z (k : Nat) : Cuts D := ⟨[], []⟩
def z20 : List Ar := [.a [.ks, .ks, .ks, .kl 100]]
def z21 (k : Nat) (x : TupA D z20) : Option (IRequest) := L_toRequest k (⟨x.1.1, x.1.2.1, x.1.2.2.1, x.1.2.2.2.1⟩ : LRequest)
def z22 (r : IRequest) : VR D := .p (.agg [.str r.Method, .str r.Host, .str r.Target, .sl 107 r.Fields])
theorem z23 (k : Nat) : Does P X 12 z20 (z21 k) z22 :=
  does_of (body := bodyOf Go.Proofs.Tryz.f12) (pl := z1w) (k := k) (cu := z1z k) (tys := [[0, 0, 0, 107]]) (z1y k) ctx mixed Go.Proofs.Tryz.func12 (by kernel_rfl) (by kernel_rfl) (cutOK_of (l := []) (by kernel_rfl) trivial) fun x R h => by
    simp only [z21, L_toRequest, optK_bind, optK_bif, optK_pure, optK_none, optK_oc, optK_guardT, optK_map] at h
    refine hold_of h ?_
    kernel_rfl
def z24 (k : Nat) : Entry D := entS z20 (z21 k) z22
theorem z25 (k : Nat) : EntryOK X 12 (z24 k) := (z23 k).en rfl
def z26 : Plan := ⟨[(0, [(1, none), (2, none)]), (1, [(1, none), (2, none), (3, none)]), (2, [(1, none), (2, none), (3, none)]), (3, [(1, none), (2, none), (3, none)]), (4, [(2, none), (3, none)]), (5, [(2, none)])],
  [],
  []⟩
def z27 (k : Nat) : Calls' D := ⟨[(36, z1u k)], [], [], [], []⟩
theorem z28 (k : Nat) : CallsOK X (z27 k) := .cons (z1v k) (.nil cod)
def z29 (k : Nat) : Cuts D := ⟨[], []⟩
def z2a : List Ar := [.a [.ki .i64, .kl 100, .ks]]
def z2b (k : Nat) (x : TupA D z2a) : Option (IResponse) := L_toResponse k (⟨x.1.1, x.1.2.1, x.1.2.2.1⟩ : LResponse)
def z2c (r : IResponse) : VR D := .p (.agg [.int .i64 r.Code, .sl 107 r.Fields, .str r.Body])
theorem z2d (k : Nat) : Does P X 22 z2a (z2b k) z2c :=
  does_of (body := bodyOf Go.Proofs.Tryz.f22) (pl := z26) (k := k) (cu := z29 k) (tys := [[0, 107, 0]]) (z28 k) ctx mixed Go.Proofs.Tryz.func22 (by kernel_rfl) (by kernel_rfl) (cutOK_of (l := []) (by kernel_rfl) trivial) fun x R h => by
    simp only [z2b, L_toResponse, optK_bind, optK_bif, optK_pure, optK_none, optK_oc, optK_guardT, optK_map] at h
    refine hold_of h ?_
    kernel_rfl
def z2e (k : Nat) : Entry D := entS z2a (z2b k) z2c
theorem z2f (k : Nat) : EntryOK X 22 (z2e k) := (z2d k).en rfl
def z2g : Plan := ⟨[(0, [(0, some 9)]), (1, [(0, some 9), (3, none)]), (2, [(0, some 9), (3, none), (4, none)]), (3, [(0, some 9), (3, none), (4, none), (8, none)]), (4, [(0, some 9), (3, none), (4, none)]), (5, [(0, some 9), (3, none), (4, none), (12, none)]), (6, [(0, some 9), (3, none), (4, none)]), (7, [(0, some 9), (3, none), (4, none)]), (8, [(2, none)])],
  [(0, [(3, none)]), (1, [(0, some 9), (3, none), (4, none)])],
  [(8, ([(0, some 9), (3, none), (4, none)], [(3, none)])), (12, ([(0, some 9), (3, none), (4, none)], [(0, some 9), (3, none), (4, none)]))]⟩
def z2h (k : Nat) : Calls' D := ⟨[], [], [], [], []⟩
theorem z2i (k : Nat) : CallsOK X (z2h k) := .nil cod
def z2j (x : (List (List UInt8)) × (List UInt8) × Int × Bool × Unit) (o : (List UInt8)) (Q : Ex → VSt D → Prop) (R : VR D → Prop) : Prop := Q .normal (mkSt ⟨[(0, .hole), (3, .hole), (4, .hole)], []⟩ [.sl 9 x.1, .str o, .int .i64 x.2.2.1])
def z2k (k : Nat) : Cut D := cutS ⟨[(0, .hole), (3, .hole), (4, .hole), (12, .hole)], []⟩ [.kl 9, .ks, .ki .i64, .kb] (fun (x : (List (List UInt8)) × (List UInt8) × Int × Bool × Unit) => S_JoinList_c12 k x.1 x.2.1 x.2.2.1 x.2.2.2.1) z2j
def z2l (k : Nat) : Cuts D := ⟨[], []⟩
theorem z2m (k : Nat) : CutFor X z2g k Go.Proofs.Tryz.f117.results.toList (z2k k) (sub (bodyOf Go.Proofs.Tryz.f117) [1, 1, 0, 1, 0, 0, 1, 0, 0, 0, 1]) :=
  joinCut_s (X := X) (sg := [.kl 9, .ks, .ki .i64, .kb]) (cu := z2l k) (cl := z2h k) (tys := [[0]]) (z2i k) (cutOK_of (l := []) (by kernel_rfl) trivial) fun x Q R h => by
    simp only [S_JoinList_c12, optK_bind, optK_bif, optK_pure, optK_none, optK_oc, optK_guardT, optK_map] at h
    refine hold_of h ?_
    kernel_rfl
def z2n (x : (List (List UInt8)) × (List UInt8) × Int × Unit) (o : (List UInt8)) (Q : Ex → VSt D → Prop) (R : VR D → Prop) : Prop := Q .normal (mkSt ⟨[(0, .hole), (3, .hole), (4, .hole)], []⟩ [.sl 9 x.1, .str o, .int .i64 x.2.2.1])
def z2o (k : Nat) : Cut D := cutS ⟨[(0, .hole), (3, .hole), (4, .hole)], []⟩ [.kl 9, .ks, .ki .i64] (fun (x : (List (List UInt8)) × (List UInt8) × Int × Unit) => S_JoinList_b1 k x.1 x.2.1 x.2.2.1) z2n
def z2p (k : Nat) : Cuts D := ⟨[], [(12, some (z2k k))]⟩
theorem z2q (k : Nat) : CutFor X z2g k Go.Proofs.Tryz.f117.results.toList (z2o k) (sub (bodyOf Go.Proofs.Tryz.f117) [1, 1, 0, 1, 0, 0, 1, 0]) :=
  joinCut_s (X := X) (sg := [.kl 9, .ks, .ki .i64]) (cu := z2p k) (cl := z2h k) (tys := [[0]]) (z2i k) (cutOK_of (l := [(z2k k, sub (bodyOf Go.Proofs.Tryz.f117) [1, 1, 0, 1, 0, 0, 1, 0, 0, 0, 1])]) (by kernel_rfl) ⟨z2m k, trivial⟩) fun x Q R h => by
    simp only [S_JoinList_b1, optK_bind, optK_bif, optK_pure, optK_none, optK_oc, optK_guardT, optK_map] at h
    refine hold_of h ?_
    kernel_rfl
def z2r (x : (List (List UInt8)) × (List UInt8) × Int × Unit) (o : (List UInt8)) (Q : Ex → VSt D → Prop) (R : VR D → Prop) : Prop := Q .normal (mkSt ⟨[(3, .hole)], []⟩ [.str o])
def z2s (k : Nat) : Cut D := cutS ⟨[(0, .hole), (3, .hole), (4, .hole)], []⟩ [.kl 9, .ks, .ki .i64] (fun (x : (List (List UInt8)) × (List UInt8) × Int × Unit) => S_JoinList_b0 k k x.1 x.2.1 x.2.2.1) z2r
def z2t (k : Nat) : Cuts D := ⟨[(1, some (z2o k))], []⟩
theorem z2u (k : Nat) : CutFor X z2g k Go.Proofs.Tryz.f117.results.toList (z2s k) (sub (bodyOf Go.Proofs.Tryz.f117) [1, 1, 0, 1]) :=
  loopCut_s (X := X) (sg := [.kl 9, .ks, .ki .i64]) (cu := z2t k) (cl := z2h k) (tys := [[0]]) (id := 0) (c := sub (bodyOf Go.Proofs.Tryz.f117) [1, 1, 0, 1, 0, 0]) (f := fun n => fun (x : (List (List UInt8)) × (List UInt8) × Int × Unit) => S_JoinList_b0 k n x.1 x.2.1 x.2.2.1) (z2i k) (cutOK_of (l := [(z2o k, sub (bodyOf Go.Proofs.Tryz.f117) [1, 1, 0, 1, 0, 0, 1, 0])]) (by kernel_rfl) ⟨z2q k, trivial⟩) (fun _ => rfl) (fun n x Q R h => by
    simp only [S_JoinList_b0, optK_bind, optK_bif, optK_pure, optK_none, optK_oc, optK_guardT, optK_map] at h
    refine hold_of h ?_
    kernel_rfl) (by kernel_rfl)
def z2v (k : Nat) : Cuts D := ⟨[(0, some (z2s k))], []⟩
def z2w : List Ar := [.c (.kl 9)]
def z2x (k : Nat) (x : TupA D z2w) : Option ((List UInt8)) := S_JoinList k x.1
def z2y (r : (List UInt8)) : VR D := .p (.c (.str r))
theorem z2z (k : Nat) : Does P X 117 z2w (z2x k) z2y :=
  does_of (body := bodyOf Go.Proofs.Tryz.f117) (pl := z2g) (k := k) (cu := z2v k) (tys := [[0]]) (z2i k) ctx mixed Go.Proofs.Tryz.func117 (by kernel_rfl) (by kernel_rfl) (cutOK_of (l := [(z2s k, sub (bodyOf Go.Proofs.Tryz.f117) [1, 1, 0, 1])]) (by kernel_rfl) ⟨z2u k, trivial⟩) fun x R h => by
    simp only [z2x, S_JoinList, optK_bind, optK_bif, optK_pure, optK_none, optK_oc, optK_guardT, optK_map] at h
    refine hold_of h ?_
    kernel_rfl
def z30 (k : Nat) : Entry D := entS z2w (z2x k) z2y
theorem z31 (k : Nat) : EntryOK X 117 (z30 k) := (z2z k).en rfl
def z32 : Plan := ⟨[(0, [(0, some 107), (1, none)]), (1, [(0, some 107), (1, none), (6, some 9)]), (2, [(0, some 107), (1, none), (6, some 9), (7, none)]), (3, [(0, some 107), (1, none), (6, some 9), (7, none), (12, none)]), (4, [(0, some 107), (1, none), (6, some 9), (7, none)]), (5, [(0, some 107), (1, none), (6, some 9), (7, none), (21, none)]), (6, [(0, some 107), (1, none), (6, some 9), (7, none)]), (7, [(4, none), (5, none)])],
  [(0, [(6, some 9)]), (1, [(0, some 107), (1, none), (6, some 9), (7, none)])],
  [(12, ([(0, some 107), (1, none), (6, some 9), (7, none)], [(6, some 9)])), (21, ([(0, some 107), (1, none), (6, some 9), (7, none)], [(0, some 107), (1, none), (6, some 9), (7, none)]))]⟩
def z33 (k : Nat) : Calls' D := ⟨[(117, z30 k)], [], [], [], []⟩
theorem z34 (k : Nat) : CallsOK X (z33 k) := .cons (z31 k) (.nil cod)
def z35 (x : (List IField) × (List UInt8) × Int × Bool × (List (List UInt8)) × Unit) (o : (List (List UInt8))) (Q : Ex → VSt D → Prop) (R : VR D → Prop) : Prop := Q .normal (mkSt ⟨[(0, .hole), (1, .hole), (6, .ref 500006), (7, .hole)], [(500006, .row)]⟩ [.sl 107 x.1, .str x.2.1, .int .i64 x.2.2.1, .sl 9 o])
def z36 (k : Nat) : Cut D := cutS ⟨[(0, .hole), (1, .hole), (6, .ref 500006), (7, .hole), (21, .hole)], [(500006, .row)]⟩ [.kl 107, .ks, .ki .i64, .kb, .kl 9] (fun (x : (List IField) × (List UInt8) × Int × Bool × (List (List UInt8)) × Unit) => S_GetField_c21 k x.1 x.2.1 x.2.2.1 x.2.2.2.1 x.2.2.2.2.1) z35
def z37 (k : Nat) : Cuts D := ⟨[], []⟩
theorem z38 (k : Nat) : CutFor X z32 k Go.Proofs.Tryz.f54.results.toList (z36 k) (sub (bodyOf Go.Proofs.Tryz.f54) [1, 1, 0, 1, 0, 0, 1, 0, 0, 1]) :=
  joinCut_s (X := X) (sg := [.kl 107, .ks, .ki .i64, .kb, .kl 9]) (cu := z37 k) (cl := z33 k) (tys := [[0], [0]]) (z34 k) (cutOK_of (l := []) (by kernel_rfl) trivial) fun x Q R h => by
    simp only [S_GetField_c21, optK_bind, optK_bif, optK_pure, optK_none, optK_oc, optK_guardT, optK_map] at h
    refine hold_of h ?_
    kernel_rfl
def z39 (x : (List IField) × (List UInt8) × Int × (List (List UInt8)) × Unit) (o : (List (List UInt8))) (Q : Ex → VSt D → Prop) (R : VR D → Prop) : Prop := Q .normal (mkSt ⟨[(0, .hole), (1, .hole), (6, .ref 500006), (7, .hole)], [(500006, .row)]⟩ [.sl 107 x.1, .str x.2.1, .int .i64 x.2.2.1, .sl 9 o])
def z3a (k : Nat) : Cut D := cutS ⟨[(0, .hole), (1, .hole), (6, .ref 500006), (7, .hole)], [(500006, .row)]⟩ [.kl 107, .ks, .ki .i64, .kl 9] (fun (x : (List IField) × (List UInt8) × Int × (List (List UInt8)) × Unit) => S_GetField_b1 k x.1 x.2.1 x.2.2.1 x.2.2.2.1) z39
def z3b (k : Nat) : Cuts D := ⟨[], [(21, some (z36 k))]⟩
theorem z3c (k : Nat) : CutFor X z32 k Go.Proofs.Tryz.f54.results.toList (z3a k) (sub (bodyOf Go.Proofs.Tryz.f54) [1, 1, 0, 1, 0, 0, 1, 0]) :=
  joinCut_s (X := X) (sg := [.kl 107, .ks, .ki .i64, .kl 9]) (cu := z3b k) (cl := z33 k) (tys := [[0], [0]]) (z34 k) (cutOK_of (l := [(z36 k, sub (bodyOf Go.Proofs.Tryz.f54) [1, 1, 0, 1, 0, 0, 1, 0, 0, 1])]) (by kernel_rfl) ⟨z38 k, trivial⟩) fun x Q R h => by
    simp only [S_GetField_b1, optK_bind, optK_bif, optK_pure, optK_none, optK_oc, optK_guardT, optK_map] at h
    refine hold_of h ?_
    kernel_rfl
def z3d (x : (List IField) × (List UInt8) × Int × (List (List UInt8)) × Unit) (o : (List (List UInt8))) (Q : Ex → VSt D → Prop) (R : VR D → Prop) : Prop := Q .normal (mkSt ⟨[(6, .ref 500006)], [(500006, .row)]⟩ [.sl 9 o])
def z3e (k : Nat) : Cut D := cutS ⟨[(0, .hole), (1, .hole), (6, .ref 500006), (7, .hole)], [(500006, .row)]⟩ [.kl 107, .ks, .ki .i64, .kl 9] (fun (x : (List IField) × (List UInt8) × Int × (List (List UInt8)) × Unit) => S_GetField_b0 k k x.1 x.2.1 x.2.2.1 x.2.2.2.1) z3d
def z3f (k : Nat) : Cuts D := ⟨[(1, some (z3a k))], []⟩
theorem z3g (k : Nat) : CutFor X z32 k Go.Proofs.Tryz.f54.results.toList (z3e k) (sub (bodyOf Go.Proofs.Tryz.f54) [1, 1, 0, 1]) :=
  loopCut_s (X := X) (sg := [.kl 107, .ks, .ki .i64, .kl 9]) (cu := z3f k) (cl := z33 k) (tys := [[0], [0]]) (id := 0) (c := sub (bodyOf Go.Proofs.Tryz.f54) [1, 1, 0, 1, 0, 0]) (f := fun n => fun (x : (List IField) × (List UInt8) × Int × (List (List UInt8)) × Unit) => S_GetField_b0 k n x.1 x.2.1 x.2.2.1 x.2.2.2.1) (z34 k) (cutOK_of (l := [(z3a k, sub (bodyOf Go.Proofs.Tryz.f54) [1, 1, 0, 1, 0, 0, 1, 0])]) (by kernel_rfl) ⟨z3c k, trivial⟩) (fun _ => rfl) (fun n x Q R h => by
    simp only [S_GetField_b0, optK_bind, optK_bif, optK_pure, optK_none, optK_oc, optK_guardT, optK_map] at h
    refine hold_of h ?_
    kernel_rfl) (by kernel_rfl)
def z3h (k : Nat) : Cuts D := ⟨[(0, some (z3e k))], []⟩
def z3i : List Ar := [.c (.kl 107), .c (.ks)]
def z3j (k : Nat) (x : TupA D z3i) : Option ((List UInt8) × Bool) := S_GetField k x.1 x.2.1
def z3k (r : (List UInt8) × Bool) : VR D := .tup [.c (.str r.1), .c (.bool r.2)]
theorem z3l (k : Nat) : Does P X 54 z3i (z3j k) z3k :=
  does_of (body := bodyOf Go.Proofs.Tryz.f54) (pl := z32) (k := k) (cu := z3h k) (tys := [[0], [0]]) (z34 k) ctx mixed Go.Proofs.Tryz.func54 (by kernel_rfl) (by kernel_rfl) (cutOK_of (l := [(z3e k, sub (bodyOf Go.Proofs.Tryz.f54) [1, 1, 0, 1])]) (by kernel_rfl) ⟨z3g k, trivial⟩) fun x R h => by
    simp only [z3j, S_GetField, optK_bind, optK_bif, optK_pure, optK_none, optK_oc, optK_guardT, optK_map] at h
    refine hold_of h ?_
    kernel_rfl
def z3m (k : Nat) : Entry D := entS z3i (z3j k) z3k
theorem z3n (k : Nat) : EntryOK X 54 (z3m k) := (z3l k).en rfl
def z3o : Plan := ⟨[(0, [(0, none), (1, none), (2, none)]), (1, [(6, none)])],
  [],
  []⟩
def z3p (k : Nat) : Calls' D := ⟨[], [], [], [], []⟩
theorem z3q (k : Nat) : CallsOK X (z3p k) := .nil cod
def z3r (k : Nat) : Cuts D := ⟨[], []⟩
def z3s : List Ar := [.c (.ki .i64), .c (.ki .i64), .c (.ki .i64)]
def z3t (k : Nat) (x : TupA D z3s) : Option (Bool) := S_l1In k x.1 x.2.1 x.2.2.1
def z3u (r : Bool) : VR D := .p (.c (.bool r))
theorem z3v (k : Nat) : Does P X 78 z3s (z3t k) z3u :=
  does_of (body := bodyOf Go.Proofs.Tryz.f78) (pl := z3o) (k := k) (cu := z3r k) (tys := [[0]]) (z3q k) ctx mixed Go.Proofs.Tryz.func78 (by kernel_rfl) (by kernel_rfl) (cutOK_of (l := []) (by kernel_rfl) trivial) fun x R h => by
    simp only [z3t, S_l1In, optK_bind, optK_bif, optK_pure, optK_none, optK_oc, optK_guardT, optK_map] at h
    refine hold_of h ?_
    kernel_rfl
def z3w (k : Nat) : Entry D := entS z3s (z3t k) z3u
theorem z3x (k : Nat) : EntryOK X 78 (z3w k) := (z3v k).en rfl
def z3y : Plan := ⟨[(0, [(1, none)]), (1, [(1, none), (3, none)]), (2, [(1, none), (3, none), (8, none)]), (3, [(1, none), (3, none)]), (4, [(1, none), (3, none), (24, none)]), (5, [(2, none)]), (6, [(2, none)])],
  [(0, [(1, none)]), (1, [(1, none), (3, none)])],
  [(8, ([(1, none), (3, none)], [(1, none)])), (24, ([], [(1, none), (3, none)]))]⟩
def z3z (k : Nat) : Calls' D := ⟨[(78, z3w k)], [], [], [], []⟩
theorem z40 (k : Nat) : CallsOK X (z3z k) := .cons (z3x k) (.nil cod)
def z41 (x : Int × Bool × (List UInt8) × Unit) (o : Oc (Unit) (Bool)) (Q : Ex → VSt D → Prop) (R : VR D → Prop) : Prop := ocP o (fun v0 => Q .normal (mkSt ⟨[(1, .ptr 1 0)], [(1, .var [.hole, .hole])]⟩ [.bool x.2.1, .str x.2.2.1])) (fun w0 => R (.p (.c (.bool w0))))
def z42 (k : Nat) : Cut D := cutS ⟨[(1, .ptr 1 0), (3, .hole)], [(1, .var [.hole, .hole])]⟩ [.ki .i64, .kb, .ks] (fun (x : Int × Bool × (List UInt8) × Unit) => S_IsTag_b0 k k x.1 x.2.1 x.2.2.1) z41
def z43 (k : Nat) : Cuts D := ⟨[], []⟩
theorem z44 (k : Nat) : CutFor X z3y k Go.Proofs.Tryz.f118.results.toList (z42 k) (sub (bodyOf Go.Proofs.Tryz.f118) [1, 0, 1]) :=
  loopCut_s (X := X) (sg := [.ki .i64, .kb, .ks]) (cu := z43 k) (cl := z3z k) (tys := [[0]]) (id := 0) (c := sub (bodyOf Go.Proofs.Tryz.f118) [1, 0, 1, 0, 0]) (f := fun n => fun (x : Int × Bool × (List UInt8) × Unit) => S_IsTag_b0 k n x.1 x.2.1 x.2.2.1) (z40 k) (cutOK_of (l := []) (by kernel_rfl) trivial) (fun _ => rfl) (fun n x Q R h => by
    simp only [S_IsTag_b0, optK_bind, optK_bif, optK_pure, optK_none, optK_oc, optK_guardT, optK_map] at h
    refine hold_of h ?_
    kernel_rfl) (by kernel_rfl)
def z45 (k : Nat) : Cuts D := ⟨[(0, some (z42 k))], []⟩
def z46 : List Ar := [.a [.kb, .ks]]
def z47 (k : Nat) (x : TupA D z46) : Option (Bool) := S_IsTag k (⟨x.1.1, x.1.2.1⟩ : ITag)
def z48 (r : Bool) : VR D := .p (.c (.bool r))
theorem z49 (k : Nat) : Does P X 118 z46 (z47 k) z48 :=
  does_of (body := bodyOf Go.Proofs.Tryz.f118) (pl := z3y) (k := k) (cu := z45 k) (tys := [[0]]) (z40 k) ctx mixed Go.Proofs.Tryz.func118 (by kernel_rfl) (by kernel_rfl) (cutOK_of (l := [(z42 k, sub (bodyOf Go.Proofs.Tryz.f118) [1, 0, 1])]) (by kernel_rfl) ⟨z44 k, trivial⟩) fun x R h => by
    simp only [z47, S_IsTag, optK_bind, optK_bif, optK_pure, optK_none, optK_oc, optK_guardT, optK_map] at h
    refine hold_of h ?_
    kernel_rfl
def z4a (k : Nat) : Entry D := entS z46 (z47 k) z48
theorem z4b (k : Nat) : EntryOK X 118 (z4a k) := (z49 k).en rfl
def z4c : Plan := ⟨[(0, [(0, none), (2, none)]), (1, [(0, none), (2, none), (4, none)]), (2, [(0, none), (2, none), (4, none), (13, none)]), (3, [(0, none), (2, none), (4, none)]), (4, [(0, none), (2, none), (4, none)]), (5, [(0, none), (2, none), (4, none), (32, none)]), (6, [(2, none), (3, none)]), (7, [(2, none), (4, none)]), (8, [(2, none), (4, none), (42, none)]), (9, [(2, none), (3, none)]), (10, [(2, none), (3, none)])],
  [],
  [(13, ([(0, none), (2, none), (4, none)], [(0, none), (2, none), (4, none)])), (32, ([(2, none)], [(0, none), (2, none), (4, none)])), (42, ([(2, none)], [(2, none), (4, none)]))]⟩
def z4d (k : Nat) : Calls' D := ⟨[(118, z4a k)], [], [], [], []⟩
theorem z4e (k : Nat) : CallsOK X (z4d k) := .cons (z4b k) (.nil cod)
def z4f (x : (List UInt8) × Bool × Bool × (List UInt8) × Bool × (List UInt8) × Unit) (o : (List UInt8) × Bool) (Q : Ex → VSt D → Prop) (R : VR D → Prop) : Prop := Q .normal (mkSt ⟨[(0, .hole), (2, .ptr 2 0), (4, .ptr 4 0)], [(2, .var [.hole, .hole]), (4, .var [.hole, .hole])]⟩ [.str o.1, .bool x.2.2.1, .str x.2.2.2.1, .bool o.2, .str x.2.2.2.2.2.1])
def z4g (k : Nat) : Cut D := cutS ⟨[(0, .hole), (2, .ptr 2 0), (4, .ptr 4 0), (13, .hole)], [(2, .var [.hole, .hole]), (4, .var [.hole, .hole])]⟩ [.ks, .kb, .kb, .ks, .kb, .ks] (fun (x : (List UInt8) × Bool × Bool × (List UInt8) × Bool × (List UInt8) × Unit) => S_ParseTag_c13 k x.1 x.2.1 x.2.2.1 x.2.2.2.1 x.2.2.2.2.1 x.2.2.2.2.2.1) z4f
def z4h (k : Nat) : Cuts D := ⟨[], []⟩
theorem z4i (k : Nat) : CutFor X z4c k Go.Proofs.Tryz.f55.results.toList (z4g k) (sub (bodyOf Go.Proofs.Tryz.f55) [1, 1, 0, 1]) :=
  joinCut_s (X := X) (sg := [.ks, .kb, .kb, .ks, .kb, .ks]) (cu := z4h k) (cl := z4d k) (tys := [[0, 0], [0]]) (z4e k) (cutOK_of (l := []) (by kernel_rfl) trivial) fun x Q R h => by
    simp only [S_ParseTag_c13, optK_bind, optK_bif, optK_pure, optK_none, optK_oc, optK_guardT, optK_map] at h
    refine hold_of h ?_
    kernel_rfl
def z4j (k : Nat) : Cuts D := ⟨[], [(13, some (z4g k))]⟩
def z4k : List Ar := [.c (.ks)]
def z4l (k : Nat) (x : TupA D z4k) : Option (ITag × Bool) := S_ParseTag k x.1
def z4m (r : ITag × Bool) : VR D := .tup [.agg [.bool r.1.Weak, .str r.1.Text], .c (.bool r.2)]
theorem z4n (k : Nat) : Does P X 55 z4k (z4l k) z4m :=
  does_of (body := bodyOf Go.Proofs.Tryz.f55) (pl := z4c) (k := k) (cu := z4j k) (tys := [[0, 0], [0]]) (z4e k) ctx mixed Go.Proofs.Tryz.func55 (by kernel_rfl) (by kernel_rfl) (cutOK_of (l := [(z4g k, sub (bodyOf Go.Proofs.Tryz.f55) [1, 1, 0, 1])]) (by kernel_rfl) ⟨z4i k, trivial⟩) fun x R h => by
    simp only [z4l, S_ParseTag, optK_bind, optK_bif, optK_pure, optK_none, optK_oc, optK_guardT, optK_map] at h
    refine hold_of h ?_
    kernel_rfl
def z4o (k : Nat) : Entry D := entS z4k (z4l k) z4m
theorem z4p (k : Nat) : EntryOK X 55 (z4o k) := (z4n k).en rfl
def z4q : Plan := ⟨[(0, [(0, some 107), (1, none)]), (1, [(5, none)]), (2, [(4, none)])],
  [],
  []⟩
def z4r (k : Nat) : Calls' D := ⟨[(54, z3m k)], [], [], [], []⟩
theorem z4s (k : Nat) : CallsOK X (z4r k) := .cons (z3n k) (.nil cod)
def z4t (k : Nat) : Cuts D := ⟨[], []⟩
def z4u : List Ar := [.c (.kl 107), .c (.ks)]
def z4v (k : Nat) (x : TupA D z4u) : Option ((List UInt8)) := S_l5Get k x.1 x.2.1
def z4w (r : (List UInt8)) : VR D := .p (.c (.str r))
theorem z4x (k : Nat) : Does P X 50 z4u (z4v k) z4w :=
  does_of (body := bodyOf Go.Proofs.Tryz.f50) (pl := z4q) (k := k) (cu := z4t k) (tys := [[0]]) (z4s k) ctx mixed Go.Proofs.Tryz.func50 (by kernel_rfl) (by kernel_rfl) (cutOK_of (l := []) (by kernel_rfl) trivial) fun x R h => by
    simp only [z4v, S_l5Get, optK_bind, optK_bif, optK_pure, optK_none, optK_oc, optK_guardT, optK_map] at h
    refine hold_of h ?_
    kernel_rfl
def z4y (k : Nat) : Entry D := entS z4u (z4v k) z4w
theorem z4z (k : Nat) : EntryOK X 50 (z4y k) := (z4x k).en rfl
def z50 : Plan := ⟨[(0, [(2, none), (3, none)]), (1, [(4, none)])],
  [],
  []⟩
def z51 (k : Nat) : Calls' D := ⟨[], [], [], [], []⟩
theorem z52 (k : Nat) : CallsOK X (z51 k) := .nil cod
def z53 (k : Nat) : Cuts D := ⟨[], []⟩
def z54 : List Ar := [.a [.kb, .ks], .a [.kb, .ks]]
def z55 (k : Nat) (x : TupA D z54) : Option (Bool) := S_StrongSame k (⟨x.1.1, x.1.2.1⟩ : ITag) (⟨x.2.1.1, x.2.1.2.1⟩ : ITag)
def z56 (r : Bool) : VR D := .p (.c (.bool r))
theorem z57 (k : Nat) : Does P X 56 z54 (z55 k) z56 :=
  does_of (body := bodyOf Go.Proofs.Tryz.f56) (pl := z50) (k := k) (cu := z53 k) (tys := [[0]]) (z52 k) ctx mixed Go.Proofs.Tryz.func56 (by kernel_rfl) (by kernel_rfl) (cutOK_of (l := []) (by kernel_rfl) trivial) fun x R h => by
    simp only [z55, S_StrongSame, optK_bind, optK_bif, optK_pure, optK_none, optK_oc, optK_guardT, optK_map] at h
    refine hold_of h ?_
    kernel_rfl
def z58 (k : Nat) : Entry D := entS z54 (z55 k) z56
theorem z59 (k : Nat) : EntryOK X 56 (z58 k) := (z57 k).en rfl
def z5a : Plan := ⟨[(0, [(0, none), (1, none)]), (1, [(0, none), (1, none), (30, none)]), (2, [(4, none)]), (3, [(4, none)])],
  [],
  [(30, ([], [(0, none), (1, none)]))]⟩
def z5b (k : Nat) : Calls' D := ⟨[(78, z3w k)], [], [], [], []⟩
theorem z5c (k : Nat) : CallsOK X (z5b k) := .cons (z3x k) (.nil cod)
def z5d (k : Nat) : Cuts D := ⟨[], []⟩
def z5e : List Ar := [.c (.ks), .c (.ki .i64)]
def z5f (k : Nat) (x : TupA D z5e) : Option (Int) := S_l3Two k x.1 x.2.1
def z5g (r : Int) : VR D := .p (.c (.int .i64 r))
theorem z5h (k : Nat) : Does P X 112 z5e (z5f k) z5g :=
  does_of (body := bodyOf Go.Proofs.Tryz.f112) (pl := z5a) (k := k) (cu := z5d k) (tys := [[0]]) (z5c k) ctx mixed Go.Proofs.Tryz.func112 (by kernel_rfl) (by kernel_rfl) (cutOK_of (l := []) (by kernel_rfl) trivial) fun x R h => by
    simp only [z5f, S_l3Two, optK_bind, optK_bif, optK_pure, optK_none, optK_oc, optK_guardT, optK_map] at h
    refine hold_of h ?_
    kernel_rfl
def z5i (k : Nat) : Entry D := entS z5e (z5f k) z5g
theorem z5j (k : Nat) : EntryOK X 112 (z5i k) := (z5h k).en rfl
def z5k : Plan := ⟨[(0, []), (1, [(0, some 9)])],
  [],
  []⟩
def z5l (k : Nat) : Calls' D := ⟨[], [], [], [], []⟩
theorem z5m (k : Nat) : CallsOK X (z5l k) := .nil cod
def z5n (k : Nat) : Cuts D := ⟨[], []⟩
def z5o : List Ar := []
def z5p (k : Nat) (x : TupA D z5o) : Option ((List (List UInt8))) := S_l3Months k 
def z5q (r : (List (List UInt8))) : VR D := .p (.c (.sl 9 r))
theorem z5r (k : Nat) : Does P X 168 z5o (z5p k) z5q :=
  does_of (body := bodyOf Go.Proofs.Tryz.f168) (pl := z5k) (k := k) (cu := z5n k) (tys := [[9]]) (z5m k) ctx mixed Go.Proofs.Tryz.func168 (by kernel_rfl) (by kernel_rfl) (cutOK_of (l := []) (by kernel_rfl) trivial) fun x R h => by
    simp only [z5p, S_l3Months, optK_bind, optK_bif, optK_pure, optK_none, optK_oc, optK_guardT, optK_map] at h
    refine hold_of h ?_
    kernel_rfl
def z5s (k : Nat) : Entry D := entS z5o (z5p k) z5q
theorem z5t (k : Nat) : EntryOK X 168 (z5s k) := (z5r k).en rfl
def z5u : Plan := ⟨[(0, [(0, none), (1, none)]), (1, [(0, none), (1, none), (5, some 9)]), (2, [(0, none), (1, none), (5, some 9), (6, none)]), (3, [(0, none), (1, none), (5, some 9), (6, none), (9, none)]), (4, [(0, none), (1, none), (5, some 9), (6, none)]), (5, [(0, none), (1, none), (5, some 9), (6, none), (32, none)]), (6, [(4, none)]), (7, [(4, none)])],
  [(0, []), (1, [(0, none), (1, none), (5, some 9), (6, none)])],
  [(9, ([(0, none), (1, none), (5, some 9), (6, none)], [])), (32, ([(6, none)], [(0, none), (1, none), (5, some 9), (6, none)]))]⟩
def z5v (k : Nat) : Calls' D := ⟨[(168, z5s k)], [], [], [], []⟩
theorem z5w (k : Nat) : CallsOK X (z5v k) := .cons (z5t k) (.nil cod)
def z5x (x : (List UInt8) × Int × Int × (List (List UInt8)) × Unit) (o : Oc (Unit) (Int)) (Q : Ex → VSt D → Prop) (R : VR D → Prop) : Prop := ocP o (fun v0 => Q .normal (mkSt ⟨[], []⟩ [])) (fun w0 => R (.p (.c (.int .i64 w0))))
def z5y (k : Nat) : Cut D := cutS ⟨[(0, .hole), (1, .hole), (5, .ref 500005), (6, .hole)], [(500005, .row)]⟩ [.ks, .ki .i64, .ki .i64, .kl 9] (fun (x : (List UInt8) × Int × Int × (List (List UInt8)) × Unit) => S_l3Month_b0 k k x.1 x.2.1 x.2.2.1 x.2.2.2.1) z5x
def z5z (k : Nat) : Cuts D := ⟨[], []⟩
theorem z60 (k : Nat) : CutFor X z5u k Go.Proofs.Tryz.f113.results.toList (z5y k) (sub (bodyOf Go.Proofs.Tryz.f113) [1, 1, 0, 1]) :=
  loopCut_s (X := X) (sg := [.ks, .ki .i64, .ki .i64, .kl 9]) (cu := z5z k) (cl := z5v k) (tys := [[0]]) (id := 0) (c := sub (bodyOf Go.Proofs.Tryz.f113) [1, 1, 0, 1, 0, 0]) (f := fun n => fun (x : (List UInt8) × Int × Int × (List (List UInt8)) × Unit) => S_l3Month_b0 k n x.1 x.2.1 x.2.2.1 x.2.2.2.1) (z5w k) (cutOK_of (l := []) (by kernel_rfl) trivial) (fun _ => rfl) (fun n x Q R h => by
    simp only [S_l3Month_b0, optK_bind, optK_bif, optK_pure, optK_none, optK_oc, optK_guardT, optK_map] at h
    refine hold_of h ?_
    kernel_rfl) (by kernel_rfl)
def z61 (k : Nat) : Cuts D := ⟨[(0, some (z5y k))], []⟩
def z62 : List Ar := [.c (.ks), .c (.ki .i64)]
def z63 (k : Nat) (x : TupA D z62) : Option (Int) := S_l3Month k x.1 x.2.1
def z64 (r : Int) : VR D := .p (.c (.int .i64 r))
theorem z65 (k : Nat) : Does P X 113 z62 (z63 k) z64 :=
  does_of (body := bodyOf Go.Proofs.Tryz.f113) (pl := z5u) (k := k) (cu := z61 k) (tys := [[0]]) (z5w k) ctx mixed Go.Proofs.Tryz.func113 (by kernel_rfl) (by kernel_rfl) (cutOK_of (l := [(z5y k, sub (bodyOf Go.Proofs.Tryz.f113) [1, 1, 0, 1])]) (by kernel_rfl) ⟨z60 k, trivial⟩) fun x R h => by
    simp only [z63, S_l3Month, optK_bind, optK_bif, optK_pure, optK_none, optK_oc, optK_guardT, optK_map] at h
    refine hold_of h ?_
    kernel_rfl
def z66 (k : Nat) : Entry D := entS z62 (z63 k) z64
theorem z67 (k : Nat) : EntryOK X 113 (z66 k) := (z65 k).en rfl
def z68 : Plan := ⟨[(0, [(0, none), (1, none)]), (1, [(0, none), (1, none), (7, none)]), (2, [(4, none)]), (3, [(4, none)])],
  [],
  [(7, ([], [(0, none), (1, none)]))]⟩
def z69 (k : Nat) : Calls' D := ⟨[(78, z3w k)], [], [], [], []⟩
theorem z6a (k : Nat) : CallsOK X (z69 k) := .cons (z3x k) (.nil cod)
def z6b (k : Nat) : Cuts D := ⟨[], []⟩
def z6c : List Ar := [.c (.ki .i64), .c (.ki .i64)]
def z6d (k : Nat) (x : TupA D z6c) : Option (Int) := S_Mod k x.1 x.2.1
def z6e (r : Int) : VR D := .p (.c (.int .i64 r))
theorem z6f (k : Nat) : Does P X 226 z6c (z6d k) z6e :=
  does_of (body := bodyOf Go.Proofs.Tryz.f226) (pl := z68) (k := k) (cu := z6b k) (tys := [[0]]) (z6a k) ctx mixed Go.Proofs.Tryz.func226 (by kernel_rfl) (by kernel_rfl) (cutOK_of (l := []) (by kernel_rfl) trivial) fun x R h => by
    simp only [z6d, S_Mod, optK_bind, optK_bif, optK_pure, optK_none, optK_oc, optK_guardT, optK_map] at h
    refine hold_of h ?_
    kernel_rfl
def z6g (k : Nat) : Entry D := entS z6c (z6d k) z6e
theorem z6h (k : Nat) : EntryOK X 226 (z6g k) := (z6f k).en rfl
def z6i : Plan := ⟨[(0, [(0, none)]), (1, [(2, none)])],
  [],
  []⟩
def z6j (k : Nat) : Calls' D := ⟨[(226, z6g k)], [], [], [], []⟩
theorem z6k (k : Nat) : CallsOK X (z6j k) := .cons (z6h k) (.nil cod)
def z6l (k : Nat) : Cuts D := ⟨[], []⟩
def z6m : List Ar := [.c (.ki .i64)]
def z6n (k : Nat) (x : TupA D z6m) : Option (Bool) := S_IsLeap k x.1
def z6o (r : Bool) : VR D := .p (.c (.bool r))
theorem z6p (k : Nat) : Does P X 170 z6m (z6n k) z6o :=
  does_of (body := bodyOf Go.Proofs.Tryz.f170) (pl := z6i) (k := k) (cu := z6l k) (tys := [[0]]) (z6k k) ctx mixed Go.Proofs.Tryz.func170 (by kernel_rfl) (by kernel_rfl) (cutOK_of (l := []) (by kernel_rfl) trivial) fun x R h => by
    simp only [z6n, S_IsLeap, optK_bind, optK_bif, optK_pure, optK_none, optK_oc, optK_guardT, optK_map] at h
    refine hold_of h ?_
    kernel_rfl
def z6q (k : Nat) : Entry D := entS z6m (z6n k) z6o
theorem z6r (k : Nat) : EntryOK X 170 (z6q k) := (z6p k).en rfl
def z6s : Plan := ⟨[(0, [(0, none), (1, none)]), (1, [(1, none), (10, none)]), (2, [(4, none)]), (3, [(4, none)])],
  [],
  [(10, ([], [(1, none)]))]⟩
def z6t (k : Nat) : Calls' D := ⟨[(170, z6q k)], [], [], [], []⟩
theorem z6u (k : Nat) : CallsOK X (z6t k) := .cons (z6r k) (.nil cod)
def z6v (k : Nat) : Cuts D := ⟨[], []⟩
def z6w : List Ar := [.c (.ki .i64), .c (.ki .i64)]
def z6x (k : Nat) (x : TupA D z6w) : Option (Int) := S_l3Long k x.1 x.2.1
def z6y (r : Int) : VR D := .p (.c (.int .i64 r))
theorem z6z (k : Nat) : Does P X 169 z6w (z6x k) z6y :=
  does_of (body := bodyOf Go.Proofs.Tryz.f169) (pl := z6s) (k := k) (cu := z6v k) (tys := [[0]]) (z6u k) ctx mixed Go.Proofs.Tryz.func169 (by kernel_rfl) (by kernel_rfl) (cutOK_of (l := []) (by kernel_rfl) trivial) fun x R h => by
    simp only [z6x, S_l3Long, optK_bind, optK_bif, optK_pure, optK_none, optK_oc, optK_guardT, optK_map] at h
    refine hold_of h ?_
    kernel_rfl
def z70 (k : Nat) : Entry D := entS z6w (z6x k) z6y
theorem z71 (k : Nat) : EntryOK X 169 (z70 k) := (z6z k).en rfl
def z72 : Plan := ⟨[(0, [(0, none), (1, none), (2, none)]), (1, [(0, none), (1, none), (2, none), (25, none)]), (2, [(6, none)]), (3, [(0, none), (1, none), (7, none)]), (4, [(0, none), (1, none), (7, none), (8, none)]), (5, [(0, none), (1, none), (7, none), (8, none), (30, none)]), (6, [(0, none), (1, none), (7, none), (8, none)]), (7, [(0, none), (1, none), (7, none), (8, none)]), (8, [(0, none), (1, none), (7, none), (8, none), (36, none)]), (9, [(0, none), (1, none), (7, none), (8, none)]), (10, [(0, none), (1, none), (7, none), (9, none)]), (11, [(0, none), (1, none), (7, none), (9, none), (41, none)]), (12, [(0, none), (1, none), (7, none), (9, none)]), (13, [(0, none), (1, none), (7, none), (9, none)]), (14, [(6, none)])],
  [(0, [(0, none), (1, none), (7, none)]), (1, [(0, none), (1, none), (7, none), (8, none)]), (2, [(7, none)]), (3, [(0, none), (1, none), (7, none), (9, none)])],
  [(25, ([], [(0, none), (1, none), (2, none)])), (30, ([(0, none), (1, none), (7, none), (8, none)], [(0, none), (1, none), (7, none)])), (36, ([(0, none), (1, none), (7, none), (8, none)], [(0, none), (1, none), (7, none), (8, none)])), (41, ([(0, none), (1, none), (7, none), (9, none)], [(7, none)]))]⟩
def z73 (k : Nat) : Calls' D := ⟨[(78, z3w k), (169, z70 k), (170, z6q k)], [], [], [], []⟩
theorem z74 (k : Nat) : CallsOK X (z73 k) := .cons (z3x k) (.cons (z71 k) (.cons (z6r k) (.nil cod)))
def z75 (x : Int × Int × Int × Int × Bool × Unit) (o : Int) (Q : Ex → VSt D → Prop) (R : VR D → Prop) : Prop := Q .normal (mkSt ⟨[(0, .hole), (1, .hole), (7, .hole), (8, .hole)], []⟩ [.int .i64 x.1, .int .i64 x.2.1, .int .i64 o, .int .i64 x.2.2.2.1])
def z76 (k : Nat) : Cut D := cutS ⟨[(0, .hole), (1, .hole), (7, .hole), (8, .hole), (36, .hole)], []⟩ [.ki .i64, .ki .i64, .ki .i64, .ki .i64, .kb] (fun (x : Int × Int × Int × Int × Bool × Unit) => S_DaysOf_c36 k x.1 x.2.1 x.2.2.1 x.2.2.2.1 x.2.2.2.2.1) z75
def z77 (k : Nat) : Cuts D := ⟨[], []⟩
theorem z78 (k : Nat) : CutFor X z72 k Go.Proofs.Tryz.f114.results.toList (z76 k) (sub (bodyOf Go.Proofs.Tryz.f114) [1, 1, 1, 0, 1, 0, 0, 1, 0, 0, 1, 1]) :=
  joinCut_s (X := X) (sg := [.ki .i64, .ki .i64, .ki .i64, .ki .i64, .kb]) (cu := z77 k) (cl := z73 k) (tys := [[0]]) (z74 k) (cutOK_of (l := []) (by kernel_rfl) trivial) fun x Q R h => by
    simp only [S_DaysOf_c36, optK_bind, optK_bif, optK_pure, optK_none, optK_oc, optK_guardT, optK_map] at h
    refine hold_of h ?_
    kernel_rfl
def z79 (x : Int × Int × Int × Int × Unit) (o : Int) (Q : Ex → VSt D → Prop) (R : VR D → Prop) : Prop := Q .normal (mkSt ⟨[(0, .hole), (1, .hole), (7, .hole), (8, .hole)], []⟩ [.int .i64 x.1, .int .i64 x.2.1, .int .i64 o, .int .i64 x.2.2.2.1])
def z7a (k : Nat) : Cut D := cutS ⟨[(0, .hole), (1, .hole), (7, .hole), (8, .hole)], []⟩ [.ki .i64, .ki .i64, .ki .i64, .ki .i64] (fun (x : Int × Int × Int × Int × Unit) => S_DaysOf_b1 k x.1 x.2.1 x.2.2.1 x.2.2.2.1) z79
def z7b (k : Nat) : Cuts D := ⟨[], [(36, some (z76 k))]⟩
theorem z7c (k : Nat) : CutFor X z72 k Go.Proofs.Tryz.f114.results.toList (z7a k) (sub (bodyOf Go.Proofs.Tryz.f114) [1, 1, 1, 0, 1, 0, 0, 1, 0]) :=
  joinCut_s (X := X) (sg := [.ki .i64, .ki .i64, .ki .i64, .ki .i64]) (cu := z7b k) (cl := z73 k) (tys := [[0]]) (z74 k) (cutOK_of (l := [(z76 k, sub (bodyOf Go.Proofs.Tryz.f114) [1, 1, 1, 0, 1, 0, 0, 1, 0, 0, 1, 1])]) (by kernel_rfl) ⟨z78 k, trivial⟩) fun x Q R h => by
    simp only [S_DaysOf_b1, optK_bind, optK_bif, optK_pure, optK_none, optK_oc, optK_guardT, optK_map] at h
    refine hold_of h ?_
    kernel_rfl
def z7d (x : Int × Int × Int × Int × Unit) (o : Int) (Q : Ex → VSt D → Prop) (R : VR D → Prop) : Prop := Q .normal (mkSt ⟨[(0, .hole), (1, .hole), (7, .hole)], []⟩ [.int .i64 x.1, .int .i64 x.2.1, .int .i64 o])
def z7e (k : Nat) : Cut D := cutS ⟨[(0, .hole), (1, .hole), (7, .hole), (8, .hole)], []⟩ [.ki .i64, .ki .i64, .ki .i64, .ki .i64] (fun (x : Int × Int × Int × Int × Unit) => S_DaysOf_b0 k k x.1 x.2.1 x.2.2.1 x.2.2.2.1) z7d
def z7f (k : Nat) : Cuts D := ⟨[(1, some (z7a k))], []⟩
theorem z7g (k : Nat) : CutFor X z72 k Go.Proofs.Tryz.f114.results.toList (z7e k) (sub (bodyOf Go.Proofs.Tryz.f114) [1, 1, 1, 0, 1]) :=
  loopCut_s (X := X) (sg := [.ki .i64, .ki .i64, .ki .i64, .ki .i64]) (cu := z7f k) (cl := z73 k) (tys := [[0]]) (id := 0) (c := sub (bodyOf Go.Proofs.Tryz.f114) [1, 1, 1, 0, 1, 0, 0]) (f := fun n => fun (x : Int × Int × Int × Int × Unit) => S_DaysOf_b0 k n x.1 x.2.1 x.2.2.1 x.2.2.2.1) (z74 k) (cutOK_of (l := [(z7a k, sub (bodyOf Go.Proofs.Tryz.f114) [1, 1, 1, 0, 1, 0, 0, 1, 0])]) (by kernel_rfl) ⟨z7c k, trivial⟩) (fun _ => rfl) (fun n x Q R h => by
    simp only [S_DaysOf_b0, optK_bind, optK_bif, optK_pure, optK_none, optK_oc, optK_guardT, optK_map] at h
    refine hold_of h ?_
    kernel_rfl) (by kernel_rfl)
def z7h (x : Int × Int × Int × Int × Unit) (o : Int) (Q : Ex → VSt D → Prop) (R : VR D → Prop) : Prop := Q .normal (mkSt ⟨[(7, .hole)], []⟩ [.int .i64 o])
def z7i (k : Nat) : Cut D := cutS ⟨[(0, .hole), (1, .hole), (7, .hole), (9, .hole)], []⟩ [.ki .i64, .ki .i64, .ki .i64, .ki .i64] (fun (x : Int × Int × Int × Int × Unit) => S_DaysOf_b2 k k x.1 x.2.1 x.2.2.1 x.2.2.2.1) z7h
def z7j (k : Nat) : Cuts D := ⟨[], []⟩
theorem z7k (k : Nat) : CutFor X z72 k Go.Proofs.Tryz.f114.results.toList (z7i k) (sub (bodyOf Go.Proofs.Tryz.f114) [1, 1, 1, 1, 0, 1]) :=
  loopCut_s (X := X) (sg := [.ki .i64, .ki .i64, .ki .i64, .ki .i64]) (cu := z7j k) (cl := z73 k) (tys := [[0]]) (id := 2) (c := sub (bodyOf Go.Proofs.Tryz.f114) [1, 1, 1, 1, 0, 1, 0, 0]) (f := fun n => fun (x : Int × Int × Int × Int × Unit) => S_DaysOf_b2 k n x.1 x.2.1 x.2.2.1 x.2.2.2.1) (z74 k) (cutOK_of (l := []) (by kernel_rfl) trivial) (fun _ => rfl) (fun n x Q R h => by
    simp only [S_DaysOf_b2, optK_bind, optK_bif, optK_pure, optK_none, optK_oc, optK_guardT, optK_map] at h
    refine hold_of h ?_
    kernel_rfl) (by kernel_rfl)
def z7l (k : Nat) : Cuts D := ⟨[(0, some (z7e k)), (2, some (z7i k))], []⟩
def z7m : List Ar := [.c (.ki .i64), .c (.ki .i64), .c (.ki .i64)]
def z7n (k : Nat) (x : TupA D z7m) : Option (Int) := S_DaysOf k x.1 x.2.1 x.2.2.1
def z7o (r : Int) : VR D := .p (.c (.int .i64 r))
theorem z7p (k : Nat) : Does P X 114 z7m (z7n k) z7o :=
  does_of (body := bodyOf Go.Proofs.Tryz.f114) (pl := z72) (k := k) (cu := z7l k) (tys := [[0]]) (z74 k) ctx mixed Go.Proofs.Tryz.func114 (by kernel_rfl) (by kernel_rfl) (cutOK_of (l := [(z7e k, sub (bodyOf Go.Proofs.Tryz.f114) [1, 1, 1, 0, 1]), (z7i k, sub (bodyOf Go.Proofs.Tryz.f114) [1, 1, 1, 1, 0, 1])]) (by kernel_rfl) ⟨z7g k, z7k k, trivial⟩) fun x R h => by
    simp only [z7n, S_DaysOf, optK_bind, optK_bif, optK_pure, optK_none, optK_oc, optK_guardT, optK_map] at h
    refine hold_of h ?_
    kernel_rfl
def z7q (k : Nat) : Entry D := entS z7m (z7n k) z7o
theorem z7r (k : Nat) : EntryOK X 114 (z7q k) := (z7p k).en rfl
def z7s : Plan := ⟨[(0, [(0, none)]), (1, [(0, none), (10, none)]), (2, [(2, none), (3, none), (4, none)]), (3, [(0, none), (5, none)]), (4, [(0, none), (5, none), (6, none)]), (5, [(0, none), (5, none), (6, none), (12, none)]), (6, [(0, none), (5, none), (6, none)]), (7, [(0, none), (5, none), (6, none), (15, none)]), (8, [(0, none), (5, none)]), (9, [(0, none), (5, none)]), (10, [(0, none), (5, none), (7, none)]), (11, [(0, none), (5, none), (7, none), (25, none)]), (12, [(0, none), (5, none), (7, none)]), (13, [(0, none), (5, none), (7, none)]), (14, [(2, none), (3, none), (4, none)])],
  [(0, [(0, none), (5, none)]), (1, [(0, none), (5, none)]), (2, [(0, none), (5, none), (7, none)]), (3, [(0, none), (5, none), (7, none)])],
  [(10, ([], [(0, none)])), (12, ([(0, none), (5, none)], [(0, none), (5, none), (6, none)])), (15, ([(0, none), (5, none)], [(0, none), (5, none), (6, none)])), (25, ([(0, none), (5, none), (7, none)], [(0, none), (5, none), (7, none)]))]⟩
def z7t (k : Nat) : Calls' D := ⟨[(78, z3w k), (170, z6q k), (169, z70 k)], [], [], [], []⟩
theorem z7u (k : Nat) : CallsOK X (z7t k) := .cons (z3x k) (.cons (z6r k) (.cons (z71 k) (.nil cod)))
def z7v (x : Int × Int × Int × Bool × Unit) (o : Int) (Q : Ex → VSt D → Prop) (R : VR D → Prop) : Prop := Q .normal (mkSt ⟨[(0, .hole), (5, .hole), (6, .hole)], []⟩ [.int .i64 x.1, .int .i64 x.2.1, .int .i64 o])
def z7w (k : Nat) : Cut D := cutS ⟨[(0, .hole), (5, .hole), (6, .hole), (12, .hole)], []⟩ [.ki .i64, .ki .i64, .ki .i64, .kb] (fun (x : Int × Int × Int × Bool × Unit) => S_CivilOf_c12 k x.1 x.2.1 x.2.2.1 x.2.2.2.1) z7v
def z7x (k : Nat) : Cuts D := ⟨[], []⟩
theorem z7y (k : Nat) : CutFor X z7s k Go.Proofs.Tryz.f171.results.toList (z7w k) (sub (bodyOf Go.Proofs.Tryz.f171) [1, 1, 1, 0, 0, 0, 0, 1, 0, 1]) :=
  joinCut_s (X := X) (sg := [.ki .i64, .ki .i64, .ki .i64, .kb]) (cu := z7x k) (cl := z7t k) (tys := [[0], [0], [0]]) (z7u k) (cutOK_of (l := []) (by kernel_rfl) trivial) fun x Q R h => by
    simp only [S_CivilOf_c12, optK_bind, optK_bif, optK_pure, optK_none, optK_oc, optK_guardT, optK_map] at h
    refine hold_of h ?_
    kernel_rfl
def z7z (x : Int × Int × Unit) (o : Oc (Int × Int) (Unit)) (Q : Ex → VSt D → Prop) (R : VR D → Prop) : Prop := ocP o (fun v0 => Q .normal (mkSt ⟨[(0, .hole), (5, .hole)], []⟩ [.int .i64 v0.1, .int .i64 v0.2])) (fun w0 => Q (.exit 0) (mkSt ⟨[(0, .hole), (5, .hole)], []⟩ [.int .i64 x.1, .int .i64 x.2.1]))
def z80 (k : Nat) : Cut D := cutS ⟨[(0, .hole), (5, .hole)], []⟩ [.ki .i64, .ki .i64] (fun (x : Int × Int × Unit) => S_CivilOf_b1 k x.1 x.2.1) z7z
def z81 (k : Nat) : Cuts D := ⟨[], [(12, some (z7w k))]⟩
theorem z82 (k : Nat) : CutFor X z7s k Go.Proofs.Tryz.f171.results.toList (z80 k) (sub (bodyOf Go.Proofs.Tryz.f171) [1, 1, 1, 0, 0, 0]) :=
  joinCut_s (X := X) (sg := [.ki .i64, .ki .i64]) (cu := z81 k) (cl := z7t k) (tys := [[0], [0], [0]]) (z7u k) (cutOK_of (l := [(z7w k, sub (bodyOf Go.Proofs.Tryz.f171) [1, 1, 1, 0, 0, 0, 0, 1, 0, 1])]) (by kernel_rfl) ⟨z7y k, trivial⟩) fun x Q R h => by
    simp only [S_CivilOf_b1, optK_bind, optK_bif, optK_pure, optK_none, optK_oc, optK_guardT, optK_map] at h
    refine hold_of h ?_
    kernel_rfl
def z83 (x : Int × Int × Unit) (o : Int × Int) (Q : Ex → VSt D → Prop) (R : VR D → Prop) : Prop := Q .normal (mkSt ⟨[(0, .hole), (5, .hole)], []⟩ [.int .i64 o.1, .int .i64 o.2])
def z84 (k : Nat) : Cut D := cutS ⟨[(0, .hole), (5, .hole)], []⟩ [.ki .i64, .ki .i64] (fun (x : Int × Int × Unit) => S_CivilOf_b0 k k x.1 x.2.1) z83
def z85 (k : Nat) : Cuts D := ⟨[(1, some (z80 k))], []⟩
theorem z86 (k : Nat) : CutFor X z7s k Go.Proofs.Tryz.f171.results.toList (z84 k) (sub (bodyOf Go.Proofs.Tryz.f171) [1, 1, 1, 0]) :=
  loopCut_s (X := X) (sg := [.ki .i64, .ki .i64]) (cu := z85 k) (cl := z7t k) (tys := [[0], [0], [0]]) (id := 0) (c := sub (bodyOf Go.Proofs.Tryz.f171) [1, 1, 1, 0, 0, 0]) (f := fun n => fun (x : Int × Int × Unit) => S_CivilOf_b0 k n x.1 x.2.1) (z7u k) (cutOK_of (l := [(z80 k, sub (bodyOf Go.Proofs.Tryz.f171) [1, 1, 1, 0, 0, 0])]) (by kernel_rfl) ⟨z82 k, trivial⟩) (fun _ => rfl) (fun n x Q R h => by
    simp only [S_CivilOf_b0, optK_bind, optK_bif, optK_pure, optK_none, optK_oc, optK_guardT, optK_map] at h
    refine hold_of h ?_
    kernel_rfl) (by kernel_rfl)
def z87 (x : Int × Int × Int × Unit) (o : Int × Int) (Q : Ex → VSt D → Prop) (R : VR D → Prop) : Prop := Q .normal (mkSt ⟨[(0, .hole), (5, .hole), (7, .hole)], []⟩ [.int .i64 o.1, .int .i64 x.2.1, .int .i64 o.2])
def z88 (k : Nat) : Cut D := cutS ⟨[(0, .hole), (5, .hole), (7, .hole)], []⟩ [.ki .i64, .ki .i64, .ki .i64] (fun (x : Int × Int × Int × Unit) => S_CivilOf_b2 k k x.1 x.2.1 x.2.2.1) z87
def z89 (k : Nat) : Cuts D := ⟨[], []⟩
theorem z8a (k : Nat) : CutFor X z7s k Go.Proofs.Tryz.f171.results.toList (z88 k) (sub (bodyOf Go.Proofs.Tryz.f171) [1, 1, 1, 1, 1, 0]) :=
  loopCut_s (X := X) (sg := [.ki .i64, .ki .i64, .ki .i64]) (cu := z89 k) (cl := z7t k) (tys := [[0], [0], [0]]) (id := 2) (c := sub (bodyOf Go.Proofs.Tryz.f171) [1, 1, 1, 1, 1, 0, 0, 0]) (f := fun n => fun (x : Int × Int × Int × Unit) => S_CivilOf_b2 k n x.1 x.2.1 x.2.2.1) (z7u k) (cutOK_of (l := []) (by kernel_rfl) trivial) (fun _ => rfl) (fun n x Q R h => by
    simp only [S_CivilOf_b2, optK_bind, optK_bif, optK_pure, optK_none, optK_oc, optK_guardT, optK_map] at h
    refine hold_of h ?_
    kernel_rfl) (by kernel_rfl)
def z8b (k : Nat) : Cuts D := ⟨[(0, some (z84 k)), (2, some (z88 k))], []⟩
def z8c : List Ar := [.c (.ki .i64)]
def z8d (k : Nat) (x : TupA D z8c) : Option (Int × Int × Int) := S_CivilOf k x.1
def z8e (r : Int × Int × Int) : VR D := .tup [.c (.int .i64 r.1), .c (.int .i64 r.2.1), .c (.int .i64 r.2.2)]
theorem z8f (k : Nat) : Does P X 171 z8c (z8d k) z8e :=
  does_of (body := bodyOf Go.Proofs.Tryz.f171) (pl := z7s) (k := k) (cu := z8b k) (tys := [[0], [0], [0]]) (z7u k) ctx mixed Go.Proofs.Tryz.func171 (by kernel_rfl) (by kernel_rfl) (cutOK_of (l := [(z84 k, sub (bodyOf Go.Proofs.Tryz.f171) [1, 1, 1, 0]), (z88 k, sub (bodyOf Go.Proofs.Tryz.f171) [1, 1, 1, 1, 1, 0])]) (by kernel_rfl) ⟨z86 k, z8a k, trivial⟩) fun x R h => by
    simp only [z8d, S_CivilOf, optK_bind, optK_bif, optK_pure, optK_none, optK_oc, optK_guardT, optK_map] at h
    refine hold_of h ?_
    kernel_rfl
def z8g (k : Nat) : Entry D := entS z8c (z8d k) z8e
theorem z8h (k : Nat) : EntryOK X 171 (z8g k) := (z8f k).en rfl
def z8i : Plan := ⟨[(0, []), (1, [(0, some 9)])],
  [],
  []⟩
def z8j (k : Nat) : Calls' D := ⟨[], [], [], [], []⟩
theorem z8k (k : Nat) : CallsOK X (z8j k) := .nil cod
def z8l (k : Nat) : Cuts D := ⟨[], []⟩
def z8m : List Ar := []
def z8n (k : Nat) (x : TupA D z8m) : Option ((List (List UInt8))) := S_l3Days k 
def z8o (r : (List (List UInt8))) : VR D := .p (.c (.sl 9 r))
theorem z8p (k : Nat) : Does P X 172 z8m (z8n k) z8o :=
  does_of (body := bodyOf Go.Proofs.Tryz.f172) (pl := z8i) (k := k) (cu := z8l k) (tys := [[9]]) (z8k k) ctx mixed Go.Proofs.Tryz.func172 (by kernel_rfl) (by kernel_rfl) (cutOK_of (l := []) (by kernel_rfl) trivial) fun x R h => by
    simp only [z8n, S_l3Days, optK_bind, optK_bif, optK_pure, optK_none, optK_oc, optK_guardT, optK_map] at h
    refine hold_of h ?_
    kernel_rfl
def z8q (k : Nat) : Entry D := entS z8m (z8n k) z8o
theorem z8r (k : Nat) : EntryOK X 172 (z8q k) := (z8p k).en rfl
def z8s : Plan := ⟨[(0, [(0, none)]), (1, [(2, none)])],
  [],
  []⟩
def z8t (k : Nat) : Calls' D := ⟨[(226, z6g k)], [], [], [], []⟩
theorem z8u (k : Nat) : CallsOK X (z8t k) := .cons (z6h k) (.nil cod)
def z8v (k : Nat) : Cuts D := ⟨[], []⟩
def z8w : List Ar := [.c (.ki .i64)]
def z8x (k : Nat) (x : TupA D z8w) : Option (Int) := S_WeekdayOf k x.1
def z8y (r : Int) : VR D := .p (.c (.int .i64 r))
theorem z8z (k : Nat) : Does P X 173 z8w (z8x k) z8y :=
  does_of (body := bodyOf Go.Proofs.Tryz.f173) (pl := z8s) (k := k) (cu := z8v k) (tys := [[0]]) (z8u k) ctx mixed Go.Proofs.Tryz.func173 (by kernel_rfl) (by kernel_rfl) (cutOK_of (l := []) (by kernel_rfl) trivial) fun x R h => by
    simp only [z8x, S_WeekdayOf, optK_bind, optK_bif, optK_pure, optK_none, optK_oc, optK_guardT, optK_map] at h
    refine hold_of h ?_
    kernel_rfl
def z90 (k : Nat) : Entry D := entS z8w (z8x k) z8y
theorem z91 (k : Nat) : EntryOK X 173 (z90 k) := (z8z k).en rfl
def z92 : Plan := ⟨[(0, [(0, none), (1, none)]), (1, [(0, none), (1, none), (7, none)]), (2, [(4, none)]), (3, [(4, none)])],
  [],
  [(7, ([(1, none)], [(0, none)]))]⟩
def z93 (k : Nat) : Calls' D := ⟨[], [], [], [], []⟩
theorem z94 (k : Nat) : CallsOK X (z93 k) := .nil cod
def z95 (k : Nat) : Cuts D := ⟨[], []⟩
def z96 : List Ar := [.c (.ki .i64), .c (.ki .i64)]
def z97 (k : Nat) (x : TupA D z96) : Option (Int) := S_Max k x.1 x.2.1
def z98 (r : Int) : VR D := .p (.c (.int .i64 r))
theorem z99 (k : Nat) : Does P X 48 z96 (z97 k) z98 :=
  does_of (body := bodyOf Go.Proofs.Tryz.f48) (pl := z92) (k := k) (cu := z95 k) (tys := [[0]]) (z94 k) ctx mixed Go.Proofs.Tryz.func48 (by kernel_rfl) (by kernel_rfl) (cutOK_of (l := []) (by kernel_rfl) trivial) fun x R h => by
    simp only [z97, S_Max, optK_bind, optK_bif, optK_pure, optK_none, optK_oc, optK_guardT, optK_map] at h
    refine hold_of h ?_
    kernel_rfl
def z9a (k : Nat) : Entry D := entS z96 (z97 k) z98
theorem z9b (k : Nat) : EntryOK X 48 (z9a k) := (z99 k).en rfl
def z9c : Plan := ⟨[(0, [(0, none)]), (1, [(0, none), (7, none)]), (2, [(2, none)]), (3, [(0, none), (3, none)]), (4, [(0, none), (3, none), (4, none)]), (5, [(0, none), (3, none), (4, none), (10, none)]), (6, [(0, none), (3, none), (4, none)]), (7, [(0, none), (3, none), (4, none), (5, none)]), (8, [(0, none), (3, none), (4, none), (5, none), (16, none)]), (9, [(0, none), (3, none), (4, none), (5, none)]), (10, [(0, none), (3, none), (4, none)]), (11, [(3, none), (27, none)]), (12, [(2, none)]), (13, [(2, none)])],
  [(0, [(0, none), (3, none)]), (1, [(0, none), (3, none), (4, none)])],
  [(7, ([], [(0, none)])), (10, ([(0, none), (3, none), (4, none)], [(0, none), (3, none)])), (16, ([(0, none), (3, none), (4, none), (5, none)], [(0, none), (3, none), (4, none), (5, none)])), (27, ([(3, none)], [(3, none)]))]⟩
def z9d (k : Nat) : Calls' D := ⟨[], [], [], [], []⟩
theorem z9e (k : Nat) : CallsOK X (z9d k) := .nil cod
def z9f (x : Int × (List UInt8) × Int × Int × Bool × Unit) (o : Int) (Q : Ex → VSt D → Prop) (R : VR D → Prop) : Prop := Q .normal (mkSt ⟨[(0, .hole), (3, .hole), (4, .hole), (5, .hole)], []⟩ [.int .i64 x.1, .str x.2.1, .int .i64 x.2.2.1, .int .i64 o])
def z9g (k : Nat) : Cut D := cutS ⟨[(0, .hole), (3, .hole), (4, .hole), (5, .hole), (16, .hole)], []⟩ [.ki .i64, .ks, .ki .i64, .ki .i64, .kb] (fun (x : Int × (List UInt8) × Int × Int × Bool × Unit) => S_FormatInt_c16 k x.1 x.2.1 x.2.2.1 x.2.2.2.1 x.2.2.2.2.1) z9f
def z9h (k : Nat) : Cuts D := ⟨[], []⟩
theorem z9i (k : Nat) : CutFor X z9c k Go.Proofs.Tryz.f167.results.toList (z9g k) (sub (bodyOf Go.Proofs.Tryz.f167) [1, 1, 1, 0, 1, 0, 0, 1, 0, 0, 1, 0, 1]) :=
  joinCut_s (X := X) (sg := [.ki .i64, .ks, .ki .i64, .ki .i64, .kb]) (cu := z9h k) (cl := z9d k) (tys := [[0]]) (z9e k) (cutOK_of (l := []) (by kernel_rfl) trivial) fun x Q R h => by
    simp only [S_FormatInt_c16, optK_bind, optK_bif, optK_pure, optK_none, optK_oc, optK_guardT, optK_map] at h
    refine hold_of h ?_
    kernel_rfl
def z9j (x : Int × (List UInt8) × Int × Unit) (o : (List UInt8)) (Q : Ex → VSt D → Prop) (R : VR D → Prop) : Prop := Q .normal (mkSt ⟨[(0, .hole), (3, .hole), (4, .hole)], []⟩ [.int .i64 x.1, .str o, .int .i64 x.2.2.1])
def z9k (k : Nat) : Cut D := cutS ⟨[(0, .hole), (3, .hole), (4, .hole)], []⟩ [.ki .i64, .ks, .ki .i64] (fun (x : Int × (List UInt8) × Int × Unit) => S_FormatInt_b1 k x.1 x.2.1 x.2.2.1) z9j
def z9l (k : Nat) : Cuts D := ⟨[], [(16, some (z9g k))]⟩
theorem z9m (k : Nat) : CutFor X z9c k Go.Proofs.Tryz.f167.results.toList (z9k k) (sub (bodyOf Go.Proofs.Tryz.f167) [1, 1, 1, 0, 1, 0, 0, 1, 0]) :=
  joinCut_s (X := X) (sg := [.ki .i64, .ks, .ki .i64]) (cu := z9l k) (cl := z9d k) (tys := [[0]]) (z9e k) (cutOK_of (l := [(z9g k, sub (bodyOf Go.Proofs.Tryz.f167) [1, 1, 1, 0, 1, 0, 0, 1, 0, 0, 1, 0, 1])]) (by kernel_rfl) ⟨z9i k, trivial⟩) fun x Q R h => by
    simp only [S_FormatInt_b1, optK_bind, optK_bif, optK_pure, optK_none, optK_oc, optK_guardT, optK_map] at h
    refine hold_of h ?_
    kernel_rfl
def z9n (x : Int × (List UInt8) × Int × Unit) (o : (List UInt8)) (Q : Ex → VSt D → Prop) (R : VR D → Prop) : Prop := Q .normal (mkSt ⟨[(0, .hole), (3, .hole)], []⟩ [.int .i64 x.1, .str o])
def z9o (k : Nat) : Cut D := cutS ⟨[(0, .hole), (3, .hole), (4, .hole)], []⟩ [.ki .i64, .ks, .ki .i64] (fun (x : Int × (List UInt8) × Int × Unit) => S_FormatInt_b0 k k x.1 x.2.1 x.2.2.1) z9n
def z9p (k : Nat) : Cuts D := ⟨[(1, some (z9k k))], []⟩
theorem z9q (k : Nat) : CutFor X z9c k Go.Proofs.Tryz.f167.results.toList (z9o k) (sub (bodyOf Go.Proofs.Tryz.f167) [1, 1, 1, 0, 1]) :=
  loopCut_s (X := X) (sg := [.ki .i64, .ks, .ki .i64]) (cu := z9p k) (cl := z9d k) (tys := [[0]]) (id := 0) (c := sub (bodyOf Go.Proofs.Tryz.f167) [1, 1, 1, 0, 1, 0, 0]) (f := fun n => fun (x : Int × (List UInt8) × Int × Unit) => S_FormatInt_b0 k n x.1 x.2.1 x.2.2.1) (z9e k) (cutOK_of (l := [(z9k k, sub (bodyOf Go.Proofs.Tryz.f167) [1, 1, 1, 0, 1, 0, 0, 1, 0])]) (by kernel_rfl) ⟨z9m k, trivial⟩) (fun _ => rfl) (fun n x Q R h => by
    simp only [S_FormatInt_b0, optK_bind, optK_bif, optK_pure, optK_none, optK_oc, optK_guardT, optK_map] at h
    refine hold_of h ?_
    kernel_rfl) (by kernel_rfl)
def z9r (k : Nat) : Cuts D := ⟨[(0, some (z9o k))], []⟩
def z9s : List Ar := [.c (.ki .i64)]
def z9t (k : Nat) (x : TupA D z9s) : Option ((List UInt8)) := S_FormatInt k x.1
def z9u (r : (List UInt8)) : VR D := .p (.c (.str r))
theorem z9v (k : Nat) : Does P X 167 z9s (z9t k) z9u :=
  does_of (body := bodyOf Go.Proofs.Tryz.f167) (pl := z9c) (k := k) (cu := z9r k) (tys := [[0]]) (z9e k) ctx mixed Go.Proofs.Tryz.func167 (by kernel_rfl) (by kernel_rfl) (cutOK_of (l := [(z9o k, sub (bodyOf Go.Proofs.Tryz.f167) [1, 1, 1, 0, 1])]) (by kernel_rfl) ⟨z9q k, trivial⟩) fun x R h => by
    simp only [z9t, S_FormatInt, optK_bind, optK_bif, optK_pure, optK_none, optK_oc, optK_guardT, optK_map] at h
    refine hold_of h ?_
    kernel_rfl
def z9w (k : Nat) : Entry D := entS z9s (z9t k) z9u
theorem z9x (k : Nat) : EntryOK X 167 (z9w k) := (z9v k).en rfl
def z9y : Plan := ⟨[(0, [(0, none), (1, none)]), (1, [(1, none), (5, none)]), (2, [(1, none), (5, none), (17, none)]), (3, [(1, none), (5, none)]), (4, [(4, none)])],
  [(0, [(5, none)]), (1, [(1, none), (5, none)])],
  [(17, ([(1, none), (5, none)], [(5, none)]))]⟩
def z9z (k : Nat) : Calls' D := ⟨[(48, z9a k), (167, z9w k)], [], [], [], []⟩
theorem za0 (k : Nat) : CallsOK X (z9z k) := .cons (z9b k) (.cons (z9x k) (.nil cod))
def za1 (x : Int × (List UInt8) × Unit) (o : (List UInt8)) (Q : Ex → VSt D → Prop) (R : VR D → Prop) : Prop := Q .normal (mkSt ⟨[(5, .hole)], []⟩ [.str o])
def za2 (k : Nat) : Cut D := cutS ⟨[(1, .hole), (5, .hole)], []⟩ [.ki .i64, .ks] (fun (x : Int × (List UInt8) × Unit) => S_Digits_b0 k k x.1 x.2.1) za1
def za3 (k : Nat) : Cuts D := ⟨[], []⟩
theorem za4 (k : Nat) : CutFor X z9y k Go.Proofs.Tryz.f174.results.toList (za2 k) (sub (bodyOf Go.Proofs.Tryz.f174) [1, 1, 0]) :=
  loopCut_s (X := X) (sg := [.ki .i64, .ks]) (cu := za3 k) (cl := z9z k) (tys := [[0]]) (id := 0) (c := sub (bodyOf Go.Proofs.Tryz.f174) [1, 1, 0, 0, 0]) (f := fun n => fun (x : Int × (List UInt8) × Unit) => S_Digits_b0 k n x.1 x.2.1) (za0 k) (cutOK_of (l := []) (by kernel_rfl) trivial) (fun _ => rfl) (fun n x Q R h => by
    simp only [S_Digits_b0, optK_bind, optK_bif, optK_pure, optK_none, optK_oc, optK_guardT, optK_map] at h
    refine hold_of h ?_
    kernel_rfl) (by kernel_rfl)
def za5 (k : Nat) : Cuts D := ⟨[(0, some (za2 k))], []⟩
def za6 : List Ar := [.c (.ki .i64), .c (.ki .i64)]
def za7 (k : Nat) (x : TupA D za6) : Option ((List UInt8)) := S_Digits k x.1 x.2.1
def za8 (r : (List UInt8)) : VR D := .p (.c (.str r))
theorem za9 (k : Nat) : Does P X 174 za6 (za7 k) za8 :=
  does_of (body := bodyOf Go.Proofs.Tryz.f174) (pl := z9y) (k := k) (cu := za5 k) (tys := [[0]]) (za0 k) ctx mixed Go.Proofs.Tryz.func174 (by kernel_rfl) (by kernel_rfl) (cutOK_of (l := [(za2 k, sub (bodyOf Go.Proofs.Tryz.f174) [1, 1, 0])]) (by kernel_rfl) ⟨za4 k, trivial⟩) fun x R h => by
    simp only [za7, S_Digits, optK_bind, optK_bif, optK_pure, optK_none, optK_oc, optK_guardT, optK_map] at h
    refine hold_of h ?_
    kernel_rfl
def zaa (k : Nat) : Entry D := entS za6 (za7 k) za8
theorem zab (k : Nat) : EntryOK X 174 (zaa k) := (za9 k).en rfl
def zac : Plan := ⟨[(0, [(0, none)]), (1, [(3, none)]), (2, [(2, none)])],
  [],
  []⟩
def zad (k : Nat) : Calls' D := ⟨[(174, zaa k)], [], [], [], []⟩
theorem zae (k : Nat) : CallsOK X (zad k) := .cons (zab k) (.nil cod)
def zaf (k : Nat) : Cuts D := ⟨[], []⟩
def zag : List Ar := [.c (.ki .i64)]
def zah (k : Nat) (x : TupA D zag) : Option ((List UInt8)) := S_l3Clock k x.1
def zai (r : (List UInt8)) : VR D := .p (.c (.str r))
theorem zaj (k : Nat) : Does P X 175 zag (zah k) zai :=
  does_of (body := bodyOf Go.Proofs.Tryz.f175) (pl := zac) (k := k) (cu := zaf k) (tys := [[0]]) (zae k) ctx mixed Go.Proofs.Tryz.func175 (by kernel_rfl) (by kernel_rfl) (cutOK_of (l := []) (by kernel_rfl) trivial) fun x R h => by
    simp only [zah, S_l3Clock, optK_bind, optK_bif, optK_pure, optK_none, optK_oc, optK_guardT, optK_map] at h
    refine hold_of h ?_
    kernel_rfl
def zak (k : Nat) : Entry D := entS zag (zah k) zai
theorem zal (k : Nat) : EntryOK X 175 (zak k) := (zaj k).en rfl
def zam : Plan := ⟨[(0, [(0, none)]), (1, [(0, none), (3, none), (4, none), (5, none)]), (2, [(0, none), (3, none), (4, none), (5, none), (6, none)]), (3, [(0, none), (3, none), (5, none), (6, none), (7, none)]), (4, [(0, none), (3, none), (5, none), (6, none), (7, none), (8, none)]), (5, [(0, none), (3, none), (5, none), (6, none), (7, none), (8, none), (9, none)]), (6, [(0, none), (3, none), (5, none), (6, none), (7, none), (8, none), (9, none), (10, none)]), (7, [(0, none), (3, none), (5, none), (6, none), (7, none), (8, none), (9, none), (10, none), (69, none)]), (8, [(0, none), (3, none), (6, none), (7, none), (8, none), (9, none), (10, none)]), (9, [(8, none), (9, none), (11, none)]), (10, [(2, some 9)])],
  [],
  [(69, ([(0, none), (3, none), (5, none), (6, none), (7, none), (8, none), (9, none)], [(0, none), (3, none), (6, none), (7, none), (8, none), (9, none), (10, none)]))]⟩
def zan (k : Nat) : Calls' D := ⟨[(171, z8g k), (172, z8q k), (173, z90 k), (168, z5s k), (174, zaa k), (175, zak k), (167, z9w k)], [], [], [], []⟩
theorem zao (k : Nat) : CallsOK X (zan k) := .cons (z8h k) (.cons (z8r k) (.cons (z91 k) (.cons (z5t k) (.cons (zab k) (.cons (zal k) (.cons (z9x k) (.nil cod)))))))
def zap (x : Int × Int × Int × (List UInt8) × (List UInt8) × (List UInt8) × (List UInt8) × (List UInt8) × Bool × Unit) (o : (List UInt8)) (Q : Ex → VSt D → Prop) (R : VR D → Prop) : Prop := Q .normal (mkSt ⟨[(0, .hole), (3, .hole), (6, .hole), (7, .hole), (8, .hole), (9, .hole), (10, .hole)], []⟩ [.int .i64 x.1, .int .i64 x.2.1, .str x.2.2.2.1, .str x.2.2.2.2.1, .str x.2.2.2.2.2.1, .str x.2.2.2.2.2.2.1, .str o])
def zaq (k : Nat) : Cut D := cutS ⟨[(0, .hole), (3, .hole), (5, .hole), (6, .hole), (7, .hole), (8, .hole), (9, .hole), (10, .hole), (69, .hole)], []⟩ [.ki .i64, .ki .i64, .ki .i64, .ks, .ks, .ks, .ks, .ks, .kb] (fun (x : Int × Int × Int × (List UInt8) × (List UInt8) × (List UInt8) × (List UInt8) × (List UInt8) × Bool × Unit) => S_l3Forms_c69 k x.1 x.2.1 x.2.2.1 x.2.2.2.1 x.2.2.2.2.1 x.2.2.2.2.2.1 x.2.2.2.2.2.2.1 x.2.2.2.2.2.2.2.1 x.2.2.2.2.2.2.2.2.1) zap
def zar (k : Nat) : Cuts D := ⟨[], []⟩
theorem zas (k : Nat) : CutFor X zam k Go.Proofs.Tryz.f115.results.toList (zaq k) (sub (bodyOf Go.Proofs.Tryz.f115) [1, 1, 1, 1, 1, 1, 1, 0, 1]) :=
  joinCut_s (X := X) (sg := [.ki .i64, .ki .i64, .ki .i64, .ks, .ks, .ks, .ks, .ks, .kb]) (cu := zar k) (cl := zan k) (tys := [[9]]) (zao k) (cutOK_of (l := []) (by kernel_rfl) trivial) fun x Q R h => by
    simp only [S_l3Forms_c69, optK_bind, optK_bif, optK_pure, optK_none, optK_oc, optK_guardT, optK_map] at h
    refine hold_of h ?_
    kernel_rfl
def zat (k : Nat) : Cuts D := ⟨[], [(69, some (zaq k))]⟩
def zau : List Ar := [.c (.ki .i64)]
def zav (k : Nat) (x : TupA D zau) : Option ((List (List UInt8))) := S_l3Forms k x.1
def zaw (r : (List (List UInt8))) : VR D := .p (.c (.sl 9 r))
theorem zax (k : Nat) : Does P X 115 zau (zav k) zaw :=
  does_of (body := bodyOf Go.Proofs.Tryz.f115) (pl := zam) (k := k) (cu := zat k) (tys := [[9]]) (zao k) ctx mixed Go.Proofs.Tryz.func115 (by kernel_rfl) (by kernel_rfl) (cutOK_of (l := [(zaq k, sub (bodyOf Go.Proofs.Tryz.f115) [1, 1, 1, 1, 1, 1, 1, 0, 1])]) (by kernel_rfl) ⟨zas k, trivial⟩) fun x R h => by
    simp only [zav, S_l3Forms, optK_bind, optK_bif, optK_pure, optK_none, optK_oc, optK_guardT, optK_map] at h
    refine hold_of h ?_
    kernel_rfl
def zay (k : Nat) : Entry D := entS zau (zav k) zaw
theorem zaz (k : Nat) : EntryOK X 115 (zay k) := (zax k).en rfl
def zb0 : Plan := ⟨[(0, [(0, none)]), (1, [(0, none), (4, none)]), (2, [(0, none), (4, none), (5, none), (6, none), (7, none), (8, none)]), (3, [(0, none), (4, none), (5, none), (6, none), (7, none), (8, none), (15, none)]), (4, [(0, none), (5, none)]), (5, [(0, none), (5, none), (6, none)]), (6, [(0, none), (5, none), (6, none), (7, none)]), (7, [(0, none), (5, none), (6, none), (7, none), (8, none)]), (8, [(0, none), (4, none), (5, none), (6, none), (7, none), (8, none), (28, none)]), (9, [(0, none), (5, none)]), (10, [(0, none), (5, none), (6, none)]), (11, [(0, none), (5, none), (6, none), (7, none)]), (12, [(0, none), (5, none), (6, none), (7, none), (43, none)]), (13, [(0, none), (5, none), (6, none), (7, none)]), (14, [(0, none), (5, none), (6, none), (7, none), (8, none)]), (15, [(0, none), (4, none), (5, none), (6, none), (7, none), (8, none), (48, none)]), (16, [(0, none), (4, none), (5, none)]), (17, [(0, none), (4, none), (5, none), (57, none)]), (18, [(0, none), (4, none), (5, none)]), (19, [(0, none), (4, none), (5, none), (6, none)]), (20, [(0, none), (4, none), (5, none), (6, none), (7, none)]), (21, [(0, none), (5, none), (6, none), (7, none), (8, none)]), (22, [(0, none), (8, none), (9, none)]), (23, [(0, none), (8, none), (9, none), (75, none)]), (24, [(2, none), (3, none)]), (25, [(0, none), (10, none)]), (26, [(0, none), (10, none), (96, none)]), (27, [(2, none), (3, none)]), (28, [(0, none), (10, none), (11, some 9)]), (29, [(0, none), (10, none), (11, some 9), (12, none)]), (30, [(0, none), (10, none), (11, some 9), (12, none), (102, none)]), (31, [(0, none), (10, none), (11, some 9), (12, none)]), (32, [(0, none), (10, none), (11, some 9), (12, none), (110, none)]), (33, [(2, none), (3, none)]), (34, [(2, none), (3, none)])],
  [(0, [(0, none), (5, none), (6, none), (7, none), (8, none)]), (1, []), (2, [(0, none), (10, none), (11, some 9), (12, none)])],
  [(15, ([(0, none)], [(0, none), (4, none), (5, none), (6, none), (7, none), (8, none)])), (28, ([(0, none)], [(0, none), (4, none), (5, none), (6, none), (7, none), (8, none)])), (43, ([(0, none), (5, none), (6, none)], [(0, none), (5, none), (6, none), (7, none)])), (48, ([(0, none), (4, none)], [(0, none), (5, none), (6, none), (7, none), (8, none)])), (57, ([(0, none), (4, none), (5, none)], [(0, none), (4, none), (5, none)])), (75, ([], [(0, none), (8, none), (9, none)])), (96, ([], [(0, none), (10, none)])), (102, ([(0, none), (10, none), (11, some 9), (12, none)], [])), (110, ([(10, none)], [(0, none), (10, none), (11, some 9), (12, none)]))]⟩
def zb1 (k : Nat) : Calls' D := ⟨[(112, z5i k), (113, z66 k), (78, z3w k), (114, z7q k), (115, zay k)], [], [], [], []⟩
theorem zb2 (k : Nat) : CallsOK X (zb1 k) := .cons (z5j k) (.cons (z67 k) (.cons (z3x k) (.cons (z7r k) (.cons (zaz k) (.nil cod)))))
def zb3 (x : (List UInt8) × Int × Int × Int × Bool × Unit) (o : Int) (Q : Ex → VSt D → Prop) (R : VR D → Prop) : Prop := Q .normal (mkSt ⟨[(0, .hole), (5, .hole), (6, .hole), (7, .hole)], []⟩ [.str x.1, .int .i64 x.2.1, .int .i64 x.2.2.1, .int .i64 o])
def zb4 (k : Nat) : Cut D := cutS ⟨[(0, .hole), (5, .hole), (6, .hole), (7, .hole), (43, .hole)], []⟩ [.ks, .ki .i64, .ki .i64, .ki .i64, .kb] (fun (x : (List UInt8) × Int × Int × Int × Bool × Unit) => S_ParseDate_c43 k x.1 x.2.1 x.2.2.1 x.2.2.2.1 x.2.2.2.2.1) zb3
def zb5 (k : Nat) : Cuts D := ⟨[], []⟩
theorem zb6 (k : Nat) : CutFor X zb0 k Go.Proofs.Tryz.f49.results.toList (zb4 k) (sub (bodyOf Go.Proofs.Tryz.f49) [1, 1, 1, 0, 0, 1, 1, 1, 0, 1, 1, 1, 0, 1]) :=
  joinCut_s (X := X) (sg := [.ks, .ki .i64, .ki .i64, .ki .i64, .kb]) (cu := zb5 k) (cl := zb1 k) (tys := [[0], [0]]) (zb2 k) (cutOK_of (l := []) (by kernel_rfl) trivial) fun x Q R h => by
    simp only [S_ParseDate_c43, optK_bind, optK_bif, optK_pure, optK_none, optK_oc, optK_guardT, optK_map] at h
    refine hold_of h ?_
    kernel_rfl
def zb7 (x : (List UInt8) × Int × Int × Bool × Unit) (o : Int) (Q : Ex → VSt D → Prop) (R : VR D → Prop) : Prop := Q .normal (mkSt ⟨[(0, .hole), (4, .hole), (5, .hole)], []⟩ [.str x.1, .int .i64 x.2.1, .int .i64 o])
def zb8 (k : Nat) : Cut D := cutS ⟨[(0, .hole), (4, .hole), (5, .hole), (57, .hole)], []⟩ [.ks, .ki .i64, .ki .i64, .kb] (fun (x : (List UInt8) × Int × Int × Bool × Unit) => S_ParseDate_c57 k x.1 x.2.1 x.2.2.1 x.2.2.2.1) zb7
def zb9 (k : Nat) : Cuts D := ⟨[], []⟩
theorem zba (k : Nat) : CutFor X zb0 k Go.Proofs.Tryz.f49.results.toList (zb8 k) (sub (bodyOf Go.Proofs.Tryz.f49) [1, 1, 1, 0, 0, 1, 1, 1, 1, 1, 0, 1, 0, 1]) :=
  joinCut_s (X := X) (sg := [.ks, .ki .i64, .ki .i64, .kb]) (cu := zb9 k) (cl := zb1 k) (tys := [[0], [0]]) (zb2 k) (cutOK_of (l := []) (by kernel_rfl) trivial) fun x Q R h => by
    simp only [S_ParseDate_c57, optK_bind, optK_bif, optK_pure, optK_none, optK_oc, optK_guardT, optK_map] at h
    refine hold_of h ?_
    kernel_rfl
def zbb (x : (List UInt8) × Int × Int × Int × Int × Int × Bool × Unit) (o : Int × Int × Int × Int) (Q : Ex → VSt D → Prop) (R : VR D → Prop) : Prop := Q .normal (mkSt ⟨[(0, .hole), (5, .hole), (6, .hole), (7, .hole), (8, .hole)], []⟩ [.str x.1, .int .i64 o.1, .int .i64 o.2.1, .int .i64 o.2.2.1, .int .i64 o.2.2.2])
def zbc (k : Nat) : Cut D := cutS ⟨[(0, .hole), (4, .hole), (5, .hole), (6, .hole), (7, .hole), (8, .hole), (48, .hole)], []⟩ [.ks, .ki .i64, .ki .i64, .ki .i64, .ki .i64, .ki .i64, .kb] (fun (x : (List UInt8) × Int × Int × Int × Int × Int × Bool × Unit) => S_ParseDate_c48 k x.1 x.2.1 x.2.2.1 x.2.2.2.1 x.2.2.2.2.1 x.2.2.2.2.2.1 x.2.2.2.2.2.2.1) zbb
def zbd (k : Nat) : Cuts D := ⟨[], [(57, some (zb8 k))]⟩
theorem zbe (k : Nat) : CutFor X zb0 k Go.Proofs.Tryz.f49.results.toList (zbc k) (sub (bodyOf Go.Proofs.Tryz.f49) [1, 1, 1, 0, 0, 1, 1, 1, 1, 1]) :=
  joinCut_s (X := X) (sg := [.ks, .ki .i64, .ki .i64, .ki .i64, .ki .i64, .ki .i64, .kb]) (cu := zbd k) (cl := zb1 k) (tys := [[0], [0]]) (zb2 k) (cutOK_of (l := [(zb8 k, sub (bodyOf Go.Proofs.Tryz.f49) [1, 1, 1, 0, 0, 1, 1, 1, 1, 1, 0, 1, 0, 1])]) (by kernel_rfl) ⟨zba k, trivial⟩) fun x Q R h => by
    simp only [S_ParseDate_c48, optK_bind, optK_bif, optK_pure, optK_none, optK_oc, optK_guardT, optK_map] at h
    refine hold_of h ?_
    kernel_rfl
def zbf (x : (List UInt8) × Int × Int × Int × Int × Int × Bool × Unit) (o : Int × Int × Int × Int) (Q : Ex → VSt D → Prop) (R : VR D → Prop) : Prop := Q .normal (mkSt ⟨[(0, .hole), (5, .hole), (6, .hole), (7, .hole), (8, .hole)], []⟩ [.str x.1, .int .i64 o.1, .int .i64 o.2.1, .int .i64 o.2.2.1, .int .i64 o.2.2.2])
def zbg (k : Nat) : Cut D := cutS ⟨[(0, .hole), (4, .hole), (5, .hole), (6, .hole), (7, .hole), (8, .hole), (28, .hole)], []⟩ [.ks, .ki .i64, .ki .i64, .ki .i64, .ki .i64, .ki .i64, .kb] (fun (x : (List UInt8) × Int × Int × Int × Int × Int × Bool × Unit) => S_ParseDate_c28 k x.1 x.2.1 x.2.2.1 x.2.2.2.1 x.2.2.2.2.1 x.2.2.2.2.2.1 x.2.2.2.2.2.2.1) zbf
def zbh (k : Nat) : Cuts D := ⟨[], [(43, some (zb4 k)), (48, some (zbc k))]⟩
theorem zbi (k : Nat) : CutFor X zb0 k Go.Proofs.Tryz.f49.results.toList (zbg k) (sub (bodyOf Go.Proofs.Tryz.f49) [1, 1, 1, 0, 0, 1, 1, 1]) :=
  joinCut_s (X := X) (sg := [.ks, .ki .i64, .ki .i64, .ki .i64, .ki .i64, .ki .i64, .kb]) (cu := zbh k) (cl := zb1 k) (tys := [[0], [0]]) (zb2 k) (cutOK_of (l := [(zb4 k, sub (bodyOf Go.Proofs.Tryz.f49) [1, 1, 1, 0, 0, 1, 1, 1, 0, 1, 1, 1, 0, 1]), (zbc k, sub (bodyOf Go.Proofs.Tryz.f49) [1, 1, 1, 0, 0, 1, 1, 1, 1, 1])]) (by kernel_rfl) ⟨zb6 k, zbe k, trivial⟩) fun x Q R h => by
    simp only [S_ParseDate_c28, optK_bind, optK_bif, optK_pure, optK_none, optK_oc, optK_guardT, optK_map] at h
    refine hold_of h ?_
    kernel_rfl
def zbj (x : (List UInt8) × Int × Int × Int × Int × Int × Bool × Unit) (o : Int × Int × Int × Int) (Q : Ex → VSt D → Prop) (R : VR D → Prop) : Prop := Q .normal (mkSt ⟨[(0, .hole), (5, .hole), (6, .hole), (7, .hole), (8, .hole)], []⟩ [.str x.1, .int .i64 o.1, .int .i64 o.2.1, .int .i64 o.2.2.1, .int .i64 o.2.2.2])
def zbk (k : Nat) : Cut D := cutS ⟨[(0, .hole), (4, .hole), (5, .hole), (6, .hole), (7, .hole), (8, .hole), (15, .hole)], []⟩ [.ks, .ki .i64, .ki .i64, .ki .i64, .ki .i64, .ki .i64, .kb] (fun (x : (List UInt8) × Int × Int × Int × Int × Int × Bool × Unit) => S_ParseDate_c15 k x.1 x.2.1 x.2.2.1 x.2.2.2.1 x.2.2.2.2.1 x.2.2.2.2.2.1 x.2.2.2.2.2.2.1) zbj
def zbl (k : Nat) : Cuts D := ⟨[], [(28, some (zbg k))]⟩
theorem zbm (k : Nat) : CutFor X zb0 k Go.Proofs.Tryz.f49.results.toList (zbk k) (sub (bodyOf Go.Proofs.Tryz.f49) [1, 1, 1, 0, 0, 1]) :=
  joinCut_s (X := X) (sg := [.ks, .ki .i64, .ki .i64, .ki .i64, .ki .i64, .ki .i64, .kb]) (cu := zbl k) (cl := zb1 k) (tys := [[0], [0]]) (zb2 k) (cutOK_of (l := [(zbg k, sub (bodyOf Go.Proofs.Tryz.f49) [1, 1, 1, 0, 0, 1, 1, 1])]) (by kernel_rfl) ⟨zbi k, trivial⟩) fun x Q R h => by
    simp only [S_ParseDate_c15, optK_bind, optK_bif, optK_pure, optK_none, optK_oc, optK_guardT, optK_map] at h
    refine hold_of h ?_
    kernel_rfl
def zbn (x : (List UInt8) × Int × Int × Int × Int × Int × Unit) (o : Int × Int × Int × Int) (Q : Ex → VSt D → Prop) (R : VR D → Prop) : Prop := Q .normal (mkSt ⟨[(0, .hole), (5, .hole), (6, .hole), (7, .hole), (8, .hole)], []⟩ [.str x.1, .int .i64 o.1, .int .i64 o.2.1, .int .i64 o.2.2.1, .int .i64 o.2.2.2])
def zbo (k : Nat) : Cut D := cutS ⟨[(0, .hole), (4, .hole), (5, .hole), (6, .hole), (7, .hole), (8, .hole)], []⟩ [.ks, .ki .i64, .ki .i64, .ki .i64, .ki .i64, .ki .i64] (fun (x : (List UInt8) × Int × Int × Int × Int × Int × Unit) => S_ParseDate_b0 k x.1 x.2.1 x.2.2.1 x.2.2.2.1 x.2.2.2.2.1 x.2.2.2.2.2.1) zbn
def zbp (k : Nat) : Cuts D := ⟨[], [(15, some (zbk k))]⟩
theorem zbq (k : Nat) : CutFor X zb0 k Go.Proofs.Tryz.f49.results.toList (zbo k) (sub (bodyOf Go.Proofs.Tryz.f49) [1, 1, 1, 0]) :=
  joinCut_s (X := X) (sg := [.ks, .ki .i64, .ki .i64, .ki .i64, .ki .i64, .ki .i64]) (cu := zbp k) (cl := zb1 k) (tys := [[0], [0]]) (zb2 k) (cutOK_of (l := [(zbk k, sub (bodyOf Go.Proofs.Tryz.f49) [1, 1, 1, 0, 0, 1])]) (by kernel_rfl) ⟨zbm k, trivial⟩) fun x Q R h => by
    simp only [S_ParseDate_b0, optK_bind, optK_bif, optK_pure, optK_none, optK_oc, optK_guardT, optK_map] at h
    refine hold_of h ?_
    kernel_rfl
def zbr (x : (List UInt8) × Int × Int × (List (List UInt8)) × Unit) (o : Oc (Unit) (Int × Bool)) (Q : Ex → VSt D → Prop) (R : VR D → Prop) : Prop := ocP o (fun v0 => Q .normal (mkSt ⟨[], []⟩ [])) (fun w0 => R (.tup [.c (.int .i64 w0.1), .c (.bool w0.2)]))
def zbs (k : Nat) : Cut D := cutS ⟨[(0, .hole), (10, .hole), (11, .ref 500011), (12, .hole)], [(500011, .row)]⟩ [.ks, .ki .i64, .ki .i64, .kl 9] (fun (x : (List UInt8) × Int × Int × (List (List UInt8)) × Unit) => S_ParseDate_b1 k k x.1 x.2.1 x.2.2.1 x.2.2.2.1) zbr
def zbt (k : Nat) : Cuts D := ⟨[], []⟩
theorem zbu (k : Nat) : CutFor X zb0 k Go.Proofs.Tryz.f49.results.toList (zbs k) (sub (bodyOf Go.Proofs.Tryz.f49) [1, 1, 1, 1, 1, 1, 1, 1, 1, 0, 1]) :=
  loopCut_s (X := X) (sg := [.ks, .ki .i64, .ki .i64, .kl 9]) (cu := zbt k) (cl := zb1 k) (tys := [[0], [0]]) (id := 1) (c := sub (bodyOf Go.Proofs.Tryz.f49) [1, 1, 1, 1, 1, 1, 1, 1, 1, 0, 1, 0, 0]) (f := fun n => fun (x : (List UInt8) × Int × Int × (List (List UInt8)) × Unit) => S_ParseDate_b1 k n x.1 x.2.1 x.2.2.1 x.2.2.2.1) (zb2 k) (cutOK_of (l := []) (by kernel_rfl) trivial) (fun _ => rfl) (fun n x Q R h => by
    simp only [S_ParseDate_b1, optK_bind, optK_bif, optK_pure, optK_none, optK_oc, optK_guardT, optK_map] at h
    refine hold_of h ?_
    kernel_rfl) (by kernel_rfl)
def zbv (k : Nat) : Cuts D := ⟨[(0, some (zbo k)), (1, some (zbs k))], []⟩
def zbw : List Ar := [.c (.ks)]
def zbx (k : Nat) (x : TupA D zbw) : Option (Int × Bool) := S_ParseDate k x.1
def zby (r : Int × Bool) : VR D := .tup [.c (.int .i64 r.1), .c (.bool r.2)]
theorem zbz (k : Nat) : Does P X 49 zbw (zbx k) zby :=
  does_of (body := bodyOf Go.Proofs.Tryz.f49) (pl := zb0) (k := k) (cu := zbv k) (tys := [[0], [0]]) (zb2 k) ctx mixed Go.Proofs.Tryz.func49 (by kernel_rfl) (by kernel_rfl) (cutOK_of (l := [(zbo k, sub (bodyOf Go.Proofs.Tryz.f49) [1, 1, 1, 0]), (zbs k, sub (bodyOf Go.Proofs.Tryz.f49) [1, 1, 1, 1, 1, 1, 1, 1, 1, 0, 1])]) (by kernel_rfl) ⟨zbq k, zbu k, trivial⟩) fun x R h => by
    simp only [zbx, S_ParseDate, optK_bind, optK_bif, optK_pure, optK_none, optK_oc, optK_guardT, optK_map] at h
    refine hold_of h ?_
    kernel_rfl
def zc0 (k : Nat) : Entry D := entS zbw (zbx k) zby
theorem zc1 (k : Nat) : EntryOK X 49 (zc0 k) := (zbz k).en rfl
def zc2 : Plan := ⟨[(0, [(2, none), (3, none)]), (1, [(3, none), (5, none), (6, none)]), (2, [(3, none), (5, none), (22, none)]), (3, [(4, none)]), (4, [(3, none), (5, none), (7, none), (8, none)]), (5, [(3, none), (5, none), (7, none), (28, none)]), (6, [(7, none), (9, none), (10, none)]), (7, [(4, none)]), (8, [(3, none), (11, none), (12, none)]), (9, [(11, none), (12, none), (13, none), (14, none)]), (10, [(4, none)])],
  [],
  [(22, ([], [(3, none), (5, none)])), (28, ([(3, none), (7, none)], [(3, none), (5, none)]))]⟩
def zc3 (k : Nat) : Calls' D := ⟨[(54, z3m k), (55, z4o k), (50, z4y k), (56, z58 k), (49, zc0 k)], [], [], [], []⟩
theorem zc4 (k : Nat) : CallsOK X (zc3 k) := .cons (z3n k) (.cons (z4p k) (.cons (z4z k) (.cons (z59 k) (.cons (zc1 k) (.nil cod)))))
def zc5 (k : Nat) : Cuts D := ⟨[], []⟩
def zc6 : List Ar := [.a [.ks, .ks, .ks, .kl 107], .a [.ki .i64, .kl 107, .ks]]
def zc7 (k : Nat) (x : TupA D zc6) : Option (Bool) := S_RangeHolds k (⟨x.1.1, x.1.2.1, x.1.2.2.1, x.1.2.2.2.1⟩ : IRequest) (⟨x.2.1.1, x.2.1.2.1, x.2.1.2.2.1⟩ : IResponse)
def zc8 (r : Bool) : VR D := .p (.c (.bool r))
theorem zc9 (k : Nat) : Does P X 25 zc6 (zc7 k) zc8 :=
  does_of (body := bodyOf Go.Proofs.Tryz.f25) (pl := zc2) (k := k) (cu := zc5 k) (tys := [[0]]) (zc4 k) ctx mixed Go.Proofs.Tryz.func25 (by kernel_rfl) (by kernel_rfl) (cutOK_of (l := []) (by kernel_rfl) trivial) fun x R h => by
    simp only [zc7, S_RangeHolds, optK_bind, optK_bif, optK_pure, optK_none, optK_oc, optK_guardT, optK_map] at h
    refine hold_of h ?_
    kernel_rfl
def zca (k : Nat) : Entry D := entS zc6 (zc7 k) zc8
theorem zcb (k : Nat) : EntryOK X 25 (zca k) := (zc9 k).en rfl
def zcc : List Ar := [.c (.kl 9), .c (.ks)]
def zcd (k : Nat) (x : TupA D zcc) : Option ((List UInt8)) := strings_Join k x.1 x.2.1
def zce (r : (List UInt8)) : VR D := .p (.c (.str r))
theorem zcf (k : Nat) : Does P X 85 zcc (zcd k) zce := does_join (P := P) (D := D) (X := X) (el := 9) ⟨Go.Proofs.Tryz.f85, Go.Proofs.Tryz.func85, by kernel_rfl, by kernel_rfl⟩ (fun (s : List UInt8) => s) (fun (l : List (List UInt8)) s => joinO l s) (fun _ => rfl) (by kernel_rfl) (fun (l : List (List UInt8)) s => congrArg (fun t => joinO t s) (List.map_id' l).symm) (fun a c sep w => Go.Proofs.Tryz.strings_Join_none a c sep w) (fun bk o c xs sep w hg h1 h2 h3 h4 h5 => Go.Proofs.Tryz.strings_Join bk o c xs sep w h1 h2 h3 h4 h5)
def zcg (k : Nat) : Entry D := entS zcc (zcd k) zce
theorem zch (k : Nat) : EntryOK X 85 (zcg k) := (zcf k).en rfl
def zci : Plan := ⟨[(0, [(0, some 9)]), (1, [(2, none)])],
  [],
  []⟩
def zcj (k : Nat) : Calls' D := ⟨[(85, zcg k)], [], [], [], []⟩
theorem zck (k : Nat) : CallsOK X (zcj k) := .cons (zch k) (.nil cod)
def zcl (k : Nat) : Cuts D := ⟨[], []⟩
def zcm : List Ar := [.c (.kl 9)]
def zcn (k : Nat) (x : TupA D zcm) : Option ((List UInt8)) := I_JoinList k x.1
def zco (r : (List UInt8)) : VR D := .p (.c (.str r))
theorem zcp (k : Nat) : Does P X 119 zcm (zcn k) zco :=
  does_of (body := bodyOf Go.Proofs.Tryz.f119) (pl := zci) (k := k) (cu := zcl k) (tys := [[0]]) (zck k) ctx mixed Go.Proofs.Tryz.func119 (by kernel_rfl) (by kernel_rfl) (cutOK_of (l := []) (by kernel_rfl) trivial) fun x R h => by
    simp only [zcn, I_JoinList, optK_bind, optK_bif, optK_pure, optK_none, optK_oc, optK_guardT, optK_map] at h
    refine hold_of h ?_
    kernel_rfl
def zcq (k : Nat) : Entry D := entS zcm (zcn k) zco
theorem zcr (k : Nat) : EntryOK X 119 (zcq k) := (zcp k).en rfl
def zcs : Plan := ⟨[(0, [(0, some 107), (1, none)]), (1, [(0, some 107), (1, none), (6, some 9)]), (2, [(1, none), (6, some 9), (10, some 107), (11, none), (12, none)]), (3, [(1, none), (6, some 9), (10, some 107), (11, none), (12, none), (13, none)]), (4, [(1, none), (6, some 9), (8, none), (10, some 107), (11, none), (12, none)]), (5, [(1, none), (6, some 9), (8, none), (10, some 107), (11, none), (12, none), (19, none)]), (6, [(1, none), (6, some 9), (10, some 107), (11, none), (12, none)]), (7, [(1, none), (6, some 9), (10, some 107), (11, none), (12, none)]), (8, [(4, none), (5, none)])],
  [(0, [(6, some 9)]), (1, [(1, none), (6, some 9), (10, some 107), (11, none), (12, none)])],
  [(13, ([(1, none), (6, some 9), (10, some 107), (11, none), (12, none)], [(6, some 9)])), (19, ([(1, none), (6, some 9), (8, none), (10, some 107), (11, none), (12, none)], [(1, none), (6, some 9), (10, some 107), (11, none), (12, none)]))]⟩
def zct (k : Nat) : Calls' D := ⟨[(119, zcq k)], [], [], [], []⟩
theorem zcu (k : Nat) : CallsOK X (zct k) := .cons (zcr k) (.nil cod)
def zcv (x : (List UInt8) × (List IField) × Int × Int × Bool × (List (List UInt8)) × (List UInt8) × (List UInt8) × Unit) (o : (List (List UInt8))) (Q : Ex → VSt D → Prop) (R : VR D → Prop) : Prop := Q .normal (mkSt ⟨[(1, .hole), (6, .ref 500006), (10, .hole), (11, .hole), (12, .hole)], [(500006, .row)]⟩ [.str x.1, .sl 107 x.2.1, .int .i64 x.2.2.1, .int .i64 x.2.2.2.1, .sl 9 o])
def zcw (k : Nat) : Cut D := cutS ⟨[(1, .hole), (6, .ref 500006), (8, .ptr 8 0), (10, .hole), (11, .hole), (12, .hole), (19, .hole)], [(500006, .row), (8, .var [.hole, .hole])]⟩ [.ks, .kl 107, .ki .i64, .ki .i64, .kb, .kl 9, .ks, .ks] (fun (x : (List UInt8) × (List IField) × Int × Int × Bool × (List (List UInt8)) × (List UInt8) × (List UInt8) × Unit) => I_GetField_c19 k x.1 x.2.1 x.2.2.1 x.2.2.2.1 x.2.2.2.2.1 x.2.2.2.2.2.1 x.2.2.2.2.2.2.1 x.2.2.2.2.2.2.2.1) zcv
def zcx (k : Nat) : Cuts D := ⟨[], []⟩
theorem zcy (k : Nat) : CutFor X zcs k Go.Proofs.Tryz.f57.results.toList (zcw k) (sub (bodyOf Go.Proofs.Tryz.f57) [1, 1, 0, 1, 0, 0, 1, 1, 0, 0, 1, 1]) :=
  joinCut_s (X := X) (sg := [.ks, .kl 107, .ki .i64, .ki .i64, .kb, .kl 9, .ks, .ks]) (cu := zcx k) (cl := zct k) (tys := [[0], [0]]) (zcu k) (cutOK_of (l := []) (by kernel_rfl) trivial) fun x Q R h => by
    simp only [I_GetField_c19, optK_bind, optK_bif, optK_pure, optK_none, optK_oc, optK_guardT, optK_map] at h
    refine hold_of h ?_
    kernel_rfl
def zcz (x : (List UInt8) × (List IField) × Int × Int × (List (List UInt8)) × Unit) (o : (List (List UInt8))) (Q : Ex → VSt D → Prop) (R : VR D → Prop) : Prop := Q .normal (mkSt ⟨[(1, .hole), (6, .ref 500006), (10, .hole), (11, .hole), (12, .hole)], [(500006, .row)]⟩ [.str x.1, .sl 107 x.2.1, .int .i64 x.2.2.1, .int .i64 x.2.2.2.1, .sl 9 o])
def zd0 (k : Nat) : Cut D := cutS ⟨[(1, .hole), (6, .ref 500006), (10, .hole), (11, .hole), (12, .hole)], [(500006, .row)]⟩ [.ks, .kl 107, .ki .i64, .ki .i64, .kl 9] (fun (x : (List UInt8) × (List IField) × Int × Int × (List (List UInt8)) × Unit) => I_GetField_b1 k x.1 x.2.1 x.2.2.1 x.2.2.2.1 x.2.2.2.2.1) zcz
def zd1 (k : Nat) : Cuts D := ⟨[], [(19, some (zcw k))]⟩
theorem zd2 (k : Nat) : CutFor X zcs k Go.Proofs.Tryz.f57.results.toList (zd0 k) (sub (bodyOf Go.Proofs.Tryz.f57) [1, 1, 0, 1, 0, 0, 1, 1, 0]) :=
  joinCut_s (X := X) (sg := [.ks, .kl 107, .ki .i64, .ki .i64, .kl 9]) (cu := zd1 k) (cl := zct k) (tys := [[0], [0]]) (zcu k) (cutOK_of (l := [(zcw k, sub (bodyOf Go.Proofs.Tryz.f57) [1, 1, 0, 1, 0, 0, 1, 1, 0, 0, 1, 1])]) (by kernel_rfl) ⟨zcy k, trivial⟩) fun x Q R h => by
    simp only [I_GetField_b1, optK_bind, optK_bif, optK_pure, optK_none, optK_oc, optK_guardT, optK_map] at h
    refine hold_of h ?_
    kernel_rfl
def zd3 (x : (List UInt8) × (List IField) × Int × Int × (List (List UInt8)) × Unit) (o : (List (List UInt8))) (Q : Ex → VSt D → Prop) (R : VR D → Prop) : Prop := Q .normal (mkSt ⟨[(6, .ref 500006)], [(500006, .row)]⟩ [.sl 9 o])
def zd4 (k : Nat) : Cut D := cutS ⟨[(1, .hole), (6, .ref 500006), (10, .hole), (11, .hole), (12, .hole)], [(500006, .row)]⟩ [.ks, .kl 107, .ki .i64, .ki .i64, .kl 9] (fun (x : (List UInt8) × (List IField) × Int × Int × (List (List UInt8)) × Unit) => I_GetField_b0 k k x.1 x.2.1 x.2.2.1 x.2.2.2.1 x.2.2.2.2.1) zd3
def zd5 (k : Nat) : Cuts D := ⟨[(1, some (zd0 k))], []⟩
theorem zd6 (k : Nat) : CutFor X zcs k Go.Proofs.Tryz.f57.results.toList (zd4 k) (sub (bodyOf Go.Proofs.Tryz.f57) [1, 1, 0, 1]) :=
  loopCut_s (X := X) (sg := [.ks, .kl 107, .ki .i64, .ki .i64, .kl 9]) (cu := zd5 k) (cl := zct k) (tys := [[0], [0]]) (id := 0) (c := sub (bodyOf Go.Proofs.Tryz.f57) [1, 1, 0, 1, 0, 0]) (f := fun n => fun (x : (List UInt8) × (List IField) × Int × Int × (List (List UInt8)) × Unit) => I_GetField_b0 k n x.1 x.2.1 x.2.2.1 x.2.2.2.1 x.2.2.2.2.1) (zcu k) (cutOK_of (l := [(zd0 k, sub (bodyOf Go.Proofs.Tryz.f57) [1, 1, 0, 1, 0, 0, 1, 1, 0])]) (by kernel_rfl) ⟨zd2 k, trivial⟩) (fun _ => rfl) (fun n x Q R h => by
    simp only [I_GetField_b0, optK_bind, optK_bif, optK_pure, optK_none, optK_oc, optK_guardT, optK_map] at h
    refine hold_of h ?_
    kernel_rfl) (by kernel_rfl)
def zd7 (k : Nat) : Cuts D := ⟨[(0, some (zd4 k))], []⟩
def zd8 : List Ar := [.c (.kl 107), .c (.ks)]
def zd9 (k : Nat) (x : TupA D zd8) : Option ((List UInt8) × Bool) := I_GetField k x.1 x.2.1
def zda (r : (List UInt8) × Bool) : VR D := .tup [.c (.str r.1), .c (.bool r.2)]
theorem zdb (k : Nat) : Does P X 57 zd8 (zd9 k) zda :=
  does_of (body := bodyOf Go.Proofs.Tryz.f57) (pl := zcs) (k := k) (cu := zd7 k) (tys := [[0], [0]]) (zcu k) ctx mixed Go.Proofs.Tryz.func57 (by kernel_rfl) (by kernel_rfl) (cutOK_of (l := [(zd4 k, sub (bodyOf Go.Proofs.Tryz.f57) [1, 1, 0, 1])]) (by kernel_rfl) ⟨zd6 k, trivial⟩) fun x R h => by
    simp only [zd9, I_GetField, optK_bind, optK_bif, optK_pure, optK_none, optK_oc, optK_guardT, optK_map] at h
    refine hold_of h ?_
    kernel_rfl
def zdc (k : Nat) : Entry D := entS zd8 (zd9 k) zda
theorem zdd (k : Nat) : EntryOK X 57 (zdc k) := (zdb k).en rfl
def zde : Plan := ⟨[(0, [(0, none), (1, none)]), (1, [(4, none)])],
  [],
  []⟩
def zdf (k : Nat) : Calls' D := ⟨[], [], [], [], []⟩
theorem zdg (k : Nat) : CallsOK X (zdf k) := .nil cod
def zdh (k : Nat) : Cuts D := ⟨[], []⟩
def zdi : List Ar := [.c (.ks), .c (.ks)]
def zdj (k : Nat) (x : TupA D zdi) : Option (Bool) := internal_stringslite_HasPrefix k x.1 x.2.1
def zdk (r : Bool) : VR D := .p (.c (.bool r))
theorem zdl (k : Nat) : Does P X 144 zdi (zdj k) zdk :=
  does_of (body := bodyOf Go.Proofs.Tryz.f144) (pl := zde) (k := k) (cu := zdh k) (tys := [[0]]) (zdg k) ctx mixed Go.Proofs.Tryz.func144 (by kernel_rfl) (by kernel_rfl) (cutOK_of (l := []) (by kernel_rfl) trivial) fun x R h => by
    simp only [zdj, internal_stringslite_HasPrefix, optK_bind, optK_bif, optK_pure, optK_none, optK_oc, optK_guardT, optK_map] at h
    refine hold_of h ?_
    kernel_rfl
def zdm (k : Nat) : Entry D := entS zdi (zdj k) zdk
theorem zdn (k : Nat) : EntryOK X 144 (zdm k) := (zdl k).en rfl
def zdo : Plan := ⟨[(0, [(0, none), (1, none)]), (1, [(0, none), (1, none), (9, none)]), (2, [(4, none), (5, none)]), (3, [(4, none), (5, none)])],
  [],
  [(9, ([(0, none)], [(0, none), (1, none)]))]⟩
def zdp (k : Nat) : Calls' D := ⟨[(144, zdm k)], [], [], [], []⟩
theorem zdq (k : Nat) : CallsOK X (zdp k) := .cons (zdn k) (.nil cod)
def zdr (k : Nat) : Cuts D := ⟨[], []⟩
def zds : List Ar := [.c (.ks), .c (.ks)]
def zdt (k : Nat) (x : TupA D zds) : Option ((List UInt8) × Bool) := internal_stringslite_CutPrefix k x.1 x.2.1
def zdu (r : (List UInt8) × Bool) : VR D := .tup [.c (.str r.1), .c (.bool r.2)]
theorem zdv (k : Nat) : Does P X 178 zds (zdt k) zdu :=
  does_of (body := bodyOf Go.Proofs.Tryz.f178) (pl := zdo) (k := k) (cu := zdr k) (tys := [[0], [0]]) (zdq k) ctx mixed Go.Proofs.Tryz.func178 (by kernel_rfl) (by kernel_rfl) (cutOK_of (l := []) (by kernel_rfl) trivial) fun x R h => by
    simp only [zdt, internal_stringslite_CutPrefix, optK_bind, optK_bif, optK_pure, optK_none, optK_oc, optK_guardT, optK_map] at h
    refine hold_of h ?_
    kernel_rfl
def zdw (k : Nat) : Entry D := entS zds (zdt k) zdu
theorem zdx (k : Nat) : EntryOK X 178 (zdw k) := (zdv k).en rfl
def zdy : Plan := ⟨[(0, [(0, none), (1, none)]), (1, [(4, none), (5, none)])],
  [],
  []⟩
def zdz (k : Nat) : Calls' D := ⟨[(178, zdw k)], [], [], [], []⟩
theorem ze0 (k : Nat) : CallsOK X (zdz k) := .cons (zdx k) (.nil cod)
def ze1 (k : Nat) : Cuts D := ⟨[], []⟩
def ze2 : List Ar := [.c (.ks), .c (.ks)]
def ze3 (k : Nat) (x : TupA D ze2) : Option ((List UInt8) × Bool) := strings_CutPrefix k x.1 x.2.1
def ze4 (r : (List UInt8) × Bool) : VR D := .tup [.c (.str r.1), .c (.bool r.2)]
theorem ze5 (k : Nat) : Does P X 120 ze2 (ze3 k) ze4 :=
  does_of (body := bodyOf Go.Proofs.Tryz.f120) (pl := zdy) (k := k) (cu := ze1 k) (tys := [[0], [0]]) (ze0 k) ctx mixed Go.Proofs.Tryz.func120 (by kernel_rfl) (by kernel_rfl) (cutOK_of (l := []) (by kernel_rfl) trivial) fun x R h => by
    simp only [ze3, strings_CutPrefix, optK_bind, optK_bif, optK_pure, optK_none, optK_oc, optK_guardT, optK_map] at h
    refine hold_of h ?_
    kernel_rfl
def ze6 (k : Nat) : Entry D := entS ze2 (ze3 k) ze4
theorem ze7 (k : Nat) : EntryOK X 120 (ze6 k) := (ze5 k).en rfl
def ze8 : List Ar := [.c (.ks), .c (.ks)]
def ze9 (k : Nat) (x : TupA D ze8) : Option ((List UInt8)) := strings_Trim k x.1 x.2.1
def zea (r : (List UInt8)) : VR D := .p (.c (.str r))
theorem zeb (k : Nat) : Does P X 121 ze8 (ze9 k) zea := does_trim ⟨Go.Proofs.Tryz.f121, Go.Proofs.Tryz.func121, by kernel_rfl, by kernel_rfl⟩ (fun s cs w hg h1 h2 h3 => Go.Proofs.Any.strings_Trim_laid Go.Proofs.Tryz.lays160 (by kernel_rfl) s cs w h1 h2 h3)
def zec (k : Nat) : Entry D := entS ze8 (ze9 k) zea
theorem zed (k : Nat) : EntryOK X 121 (zec k) := (zeb k).en rfl
def zee : Plan := ⟨[(0, [(0, none), (1, none), (2, none)]), (1, [(6, none)])],
  [],
  []⟩
def zef (k : Nat) : Calls' D := ⟨[], [], [], [], []⟩
theorem zeg (k : Nat) : CallsOK X (zef k) := .nil cod
def zeh (k : Nat) : Cuts D := ⟨[], []⟩
def zei : List Ar := [.c (.ki .i64), .c (.ki .i64), .c (.ki .i64)]
def zej (k : Nat) (x : TupA D zei) : Option (Bool) := I_inRange k x.1 x.2.1 x.2.2.1
def zek (r : Bool) : VR D := .p (.c (.bool r))
theorem zel (k : Nat) : Does P X 94 zei (zej k) zek :=
  does_of (body := bodyOf Go.Proofs.Tryz.f94) (pl := zee) (k := k) (cu := zeh k) (tys := [[0]]) (zeg k) ctx mixed Go.Proofs.Tryz.func94 (by kernel_rfl) (by kernel_rfl) (cutOK_of (l := []) (by kernel_rfl) trivial) fun x R h => by
    simp only [zej, I_inRange, optK_bind, optK_bif, optK_pure, optK_none, optK_oc, optK_guardT, optK_map] at h
    refine hold_of h ?_
    kernel_rfl
def zem (k : Nat) : Entry D := entS zei (zej k) zek
theorem zen (k : Nat) : EntryOK X 94 (zem k) := (zel k).en rfl
def zeo : Plan := ⟨[(0, [(1, none)]), (1, [(1, none), (6, none), (7, none)]), (2, [(1, none), (6, none), (7, none), (8, none)]), (3, [(1, none), (3, none), (6, none), (7, none)]), (4, [(1, none), (6, none), (7, none), (23, none)]), (5, [(2, none)]), (6, [(1, none), (6, none), (7, none)]), (7, [(2, none)])],
  [(0, [(1, none)]), (1, [(1, none), (6, none), (7, none)])],
  [(8, ([(1, none), (6, none), (7, none)], [(1, none)])), (23, ([], [(1, none), (6, none), (7, none)]))]⟩
def zep (k : Nat) : Calls' D := ⟨[(94, zem k)], [], [], [], []⟩
theorem zeq (k : Nat) : CallsOK X (zep k) := .cons (zen k) (.nil cod)
def zer (x : Int × Int × Bool × (List UInt8) × Unit) (o : Oc (Unit) (Bool)) (Q : Ex → VSt D → Prop) (R : VR D → Prop) : Prop := ocP o (fun v0 => Q .normal (mkSt ⟨[(1, .ptr 1 0)], [(1, .var [.hole, .hole])]⟩ [.bool x.2.2.1, .str x.2.2.2.1])) (fun w0 => R (.p (.c (.bool w0))))
def zes (k : Nat) : Cut D := cutS ⟨[(1, .ptr 1 0), (6, .hole), (7, .hole)], [(1, .var [.hole, .hole])]⟩ [.ki .i64, .ki .i64, .kb, .ks] (fun (x : Int × Int × Bool × (List UInt8) × Unit) => I_IsTag_b0 k k x.1 x.2.1 x.2.2.1 x.2.2.2.1) zer
def zet (k : Nat) : Cuts D := ⟨[], []⟩
theorem zeu (k : Nat) : CutFor X zeo k Go.Proofs.Tryz.f186.results.toList (zes k) (sub (bodyOf Go.Proofs.Tryz.f186) [1, 0, 1]) :=
  loopCut_s (X := X) (sg := [.ki .i64, .ki .i64, .kb, .ks]) (cu := zet k) (cl := zep k) (tys := [[0]]) (id := 0) (c := sub (bodyOf Go.Proofs.Tryz.f186) [1, 0, 1, 0, 0]) (f := fun n => fun (x : Int × Int × Bool × (List UInt8) × Unit) => I_IsTag_b0 k n x.1 x.2.1 x.2.2.1 x.2.2.2.1) (zeq k) (cutOK_of (l := []) (by kernel_rfl) trivial) (fun _ => rfl) (fun n x Q R h => by
    simp only [I_IsTag_b0, optK_bind, optK_bif, optK_pure, optK_none, optK_oc, optK_guardT, optK_map] at h
    refine hold_of h ?_
    kernel_rfl) (by kernel_rfl)
def zev (k : Nat) : Cuts D := ⟨[(0, some (zes k))], []⟩
def zew : List Ar := [.a [.kb, .ks]]
def zex (k : Nat) (x : TupA D zew) : Option (Bool) := I_IsTag k (⟨x.1.1, x.1.2.1⟩ : ITag)
def zey (r : Bool) : VR D := .p (.c (.bool r))
theorem zez (k : Nat) : Does P X 186 zew (zex k) zey :=
  does_of (body := bodyOf Go.Proofs.Tryz.f186) (pl := zeo) (k := k) (cu := zev k) (tys := [[0]]) (zeq k) ctx mixed Go.Proofs.Tryz.func186 (by kernel_rfl) (by kernel_rfl) (cutOK_of (l := [(zes k, sub (bodyOf Go.Proofs.Tryz.f186) [1, 0, 1])]) (by kernel_rfl) ⟨zeu k, trivial⟩) fun x R h => by
    simp only [zex, I_IsTag, optK_bind, optK_bif, optK_pure, optK_none, optK_oc, optK_guardT, optK_map] at h
    refine hold_of h ?_
    kernel_rfl
def zf0 (k : Nat) : Entry D := entS zew (zex k) zey
theorem zf1 (k : Nat) : EntryOK X 186 (zf0 k) := (zez k).en rfl
def zf2 : Plan := ⟨[(0, [(1, none)]), (1, [(1, none), (5, none)]), (2, [(2, none)]), (3, [(1, none), (7, none)]), (4, [(2, none)]), (5, [(2, none)])],
  [],
  [(5, ([], [(1, none)])), (7, ([(1, none)], [(1, none)]))]⟩
def zf3 (k : Nat) : Calls' D := ⟨[(186, zf0 k)], [], [], [], []⟩
theorem zf4 (k : Nat) : CallsOK X (zf3 k) := .cons (zf1 k) (.nil cod)
def zf5 (k : Nat) : Cuts D := ⟨[], []⟩
def zf6 : List Ar := [.a [.kb, .ks]]
def zf7 (k : Nat) (x : TupA D zf6) : Option ((List UInt8)) := I_FormatTag k (⟨x.1.1, x.1.2.1⟩ : ITag)
def zf8 (r : (List UInt8)) : VR D := .p (.c (.str r))
theorem zf9 (k : Nat) : Does P X 122 zf6 (zf7 k) zf8 :=
  does_of (body := bodyOf Go.Proofs.Tryz.f122) (pl := zf2) (k := k) (cu := zf5 k) (tys := [[0]]) (zf4 k) ctx mixed Go.Proofs.Tryz.func122 (by kernel_rfl) (by kernel_rfl) (cutOK_of (l := []) (by kernel_rfl) trivial) fun x R h => by
    simp only [zf7, I_FormatTag, optK_bind, optK_bif, optK_pure, optK_none, optK_oc, optK_guardT, optK_map] at h
    refine hold_of h ?_
    kernel_rfl
def zfa (k : Nat) : Entry D := entS zf6 (zf7 k) zf8
theorem zfb (k : Nat) : EntryOK X 122 (zfa k) := (zf9 k).en rfl
def zfc : Plan := ⟨[(0, [(0, none), (2, none)]), (1, [(0, none), (2, none), (4, none)]), (2, [(0, none), (2, none), (4, none), (5, none), (6, none)]), (3, [(0, none), (2, none), (4, none), (5, none)]), (4, [(0, none), (2, none), (4, none)]), (5, [(2, none), (4, none), (25, none)]), (6, [(2, none), (3, none)]), (7, [(2, none), (3, none)])],
  [],
  [(25, ([(2, none)], [(2, none), (4, none)]))]⟩
def zfd (k : Nat) : Calls' D := ⟨[(120, ze6 k), (121, zec k), (122, zfa k)], [], [], [], []⟩
theorem zfe (k : Nat) : CallsOK X (zfd k) := .cons (ze7 k) (.cons (zed k) (.cons (zfb k) (.nil cod)))
def zff (k : Nat) : Cuts D := ⟨[], []⟩
def zfg : List Ar := [.c (.ks)]
def zfh (k : Nat) (x : TupA D zfg) : Option (ITag × Bool) := I_ParseTag k x.1
def zfi (r : ITag × Bool) : VR D := .tup [.agg [.bool r.1.Weak, .str r.1.Text], .c (.bool r.2)]
theorem zfj (k : Nat) : Does P X 58 zfg (zfh k) zfi :=
  does_of (body := bodyOf Go.Proofs.Tryz.f58) (pl := zfc) (k := k) (cu := zff k) (tys := [[0, 0], [0]]) (zfe k) ctx mixed Go.Proofs.Tryz.func58 (by kernel_rfl) (by kernel_rfl) (cutOK_of (l := []) (by kernel_rfl) trivial) fun x R h => by
    simp only [zfh, I_ParseTag, optK_bind, optK_bif, optK_pure, optK_none, optK_oc, optK_guardT, optK_map] at h
    refine hold_of h ?_
    kernel_rfl
def zfk (k : Nat) : Entry D := entS zfg (zfh k) zfi
theorem zfl (k : Nat) : EntryOK X 58 (zfk k) := (zfj k).en rfl
def zfm : Plan := ⟨[(0, [(1, none), (2, none)]), (1, [(2, none), (4, none)]), (2, [(2, none), (3, none)])],
  [],
  []⟩
def zfn (k : Nat) : Calls' D := ⟨[(57, zdc k), (58, zfk k)], [], [], [], []⟩
theorem zfo (k : Nat) : CallsOK X (zfn k) := .cons (zdd k) (.cons (zfl k) (.nil cod))
def zfp (k : Nat) : Cuts D := ⟨[], []⟩
def zfq : List Ar := [.a [.ki .i64, .kl 107, .ks]]
def zfr (k : Nat) (x : TupA D zfq) : Option (ITag × Bool) := I_answerTag k (⟨x.1.1, x.1.2.1, x.1.2.2.1⟩ : IResponse)
def zfs (r : ITag × Bool) : VR D := .tup [.agg [.bool r.1.Weak, .str r.1.Text], .c (.bool r.2)]
theorem zft (k : Nat) : Does P X 59 zfq (zfr k) zfs :=
  does_of (body := bodyOf Go.Proofs.Tryz.f59) (pl := zfm) (k := k) (cu := zfp k) (tys := [[0, 0], [0]]) (zfo k) ctx mixed Go.Proofs.Tryz.func59 (by kernel_rfl) (by kernel_rfl) (cutOK_of (l := []) (by kernel_rfl) trivial) fun x R h => by
    simp only [zfr, I_answerTag, optK_bind, optK_bif, optK_pure, optK_none, optK_oc, optK_guardT, optK_map] at h
    refine hold_of h ?_
    kernel_rfl
def zfu (k : Nat) : Entry D := entS zfq (zfr k) zfs
theorem zfv (k : Nat) : EntryOK X 59 (zfu k) := (zft k).en rfl
def zfw : Plan := ⟨[(0, [(2, none), (3, none)]), (1, [(4, none)])],
  [],
  []⟩
def zfx (k : Nat) : Calls' D := ⟨[], [], [], [], []⟩
theorem zfy (k : Nat) : CallsOK X (zfx k) := .nil cod
def zfz (k : Nat) : Cuts D := ⟨[], []⟩
def zg0 : List Ar := [.a [.kb, .ks], .a [.kb, .ks]]
def zg1 (k : Nat) (x : TupA D zg0) : Option (Bool) := I_StrongSame k (⟨x.1.1, x.1.2.1⟩ : ITag) (⟨x.2.1.1, x.2.1.2.1⟩ : ITag)
def zg2 (r : Bool) : VR D := .p (.c (.bool r))
theorem zg3 (k : Nat) : Does P X 60 zg0 (zg1 k) zg2 :=
  does_of (body := bodyOf Go.Proofs.Tryz.f60) (pl := zfw) (k := k) (cu := zfz k) (tys := [[0]]) (zfy k) ctx mixed Go.Proofs.Tryz.func60 (by kernel_rfl) (by kernel_rfl) (cutOK_of (l := []) (by kernel_rfl) trivial) fun x R h => by
    simp only [zg1, I_StrongSame, optK_bind, optK_bif, optK_pure, optK_none, optK_oc, optK_guardT, optK_map] at h
    refine hold_of h ?_
    kernel_rfl
def zg4 (k : Nat) : Entry D := entS zg0 (zg1 k) zg2
theorem zg5 (k : Nat) : EntryOK X 60 (zg4 k) := (zg3 k).en rfl
def zg6 : List Ar := [.c (.ks), .c (.ks)]
def zg7 (k : Nat) (x : TupA D zg6) : Option ((List UInt8) × (List UInt8) × Bool) := strings_Cut k x.1 x.2.1
def zg8 (r : (List UInt8) × (List UInt8) × Bool) : VR D := .tup [.c (.str r.1), .c (.str r.2.1), .c (.bool r.2.2)]
theorem zg9 (k : Nat) : Does P X 141 zg6 (zg7 k) zg8 := does_cut ⟨Go.Proofs.Tryz.f141, Go.Proofs.Tryz.func141, by kernel_rfl, by kernel_rfl⟩ (fun s sep w hg hs => let ⟨m, hm⟩ := hg.1; Go.Proofs.Tryz.strings_Cut s sep m w hs hm)
def zga (k : Nat) : Entry D := entS zg6 (zg7 k) zg8
theorem zgb (k : Nat) : EntryOK X 141 (zga k) := (zg9 k).en rfl
def zgc : List Ar := [.c (.ks), .c (.ks)]
def zgd (k : Nat) (x : TupA D zgc) : Option ((List UInt8)) := strings_TrimLeft k x.1 x.2.1
def zge (r : (List UInt8)) : VR D := .p (.c (.str r))
theorem zgf (k : Nat) : Does P X 233 zgc (zgd k) zge := does_trimLeft ⟨Go.Proofs.Tryz.f233, Go.Proofs.Tryz.func233, by kernel_rfl, by kernel_rfl⟩ (fun s c w hg h => Go.Proofs.Tryz.strings_TrimLeft_one s c h w)
def zgg (k : Nat) : Entry D := entS zgc (zgd k) zge
theorem zgh (k : Nat) : EntryOK X 233 (zgg k) := (zgf k).en rfl
def zgi : List Ar := [.c (.ks)]
def zgj (k : Nat) (x : TupA D zgi) : Option (Int × Bool) := strconv_Atoi k x.1
def zgk (r : Int × Bool) : VR D := .tup [.c (.int .i64 r.1), .c (.err r.2)]
theorem zgl (k : Nat) : Does P X 176 zgi (zgj k) zgk := does_atoi ⟨Go.Proofs.Tryz.f176, Go.Proofs.Tryz.func176, by kernel_rfl, by kernel_rfl⟩ (fun s v w hg h1 h2 => Go.Proofs.Tryz.strconv_Atoi_ok s h1 v h2 w) (fun s w hg h1 h2 => let ⟨tp, p, hv⟩ := hg.2.1; (Go.Proofs.Tryz.strconv_Atoi_range_var s h1 h2 tp p w hv).mono fun e w1 ⟨N, h, _, _, hb⟩ => ⟨_, h, hb⟩) (fun s w hg h1 h2 h3 => let ⟨tp, p, hv⟩ := hg.2.2.1; (Go.Proofs.Any.strconv_Atoi_syntax_var Go.Proofs.Tryz.laysC172 s h1 (atoi_bad h2 h3) tp p w hv).mono fun e w1 ⟨N, h, _, _, hb⟩ => ⟨_, h, hb⟩)
def zgm (k : Nat) : Entry D := entS zgi (zgj k) zgk
theorem zgn (k : Nat) : EntryOK X 176 (zgm k) := (zgl k).en rfl
def zgo : Plan := ⟨[(0, [(0, none)]), (1, [(3, none), (4, none)]), (2, [(3, none), (12, none)]), (3, [(2, none)]), (4, [(2, none)])],
  [],
  [(12, ([], [(3, none)]))]⟩
def zgp (k : Nat) : Calls' D := ⟨[(233, zgg k), (176, zgm k)], [], [], [], []⟩
theorem zgq (k : Nat) : CallsOK X (zgp k) := .cons (zgh k) (.cons (zgn k) (.nil cod))
def zgr (k : Nat) : Cuts D := ⟨[], []⟩
def zgs : List Ar := [.c (.ks)]
def zgt (k : Nat) (x : TupA D zgs) : Option (Int) := I_digitsIn k x.1
def zgu (r : Int) : VR D := .p (.c (.int .i64 r))
theorem zgv (k : Nat) : Does P X 187 zgs (zgt k) zgu :=
  does_of (body := bodyOf Go.Proofs.Tryz.f187) (pl := zgo) (k := k) (cu := zgr k) (tys := [[0]]) (zgq k) ctx mixed Go.Proofs.Tryz.func187 (by kernel_rfl) (by kernel_rfl) (cutOK_of (l := []) (by kernel_rfl) trivial) fun x R h => by
    simp only [zgt, I_digitsIn, optK_bind, optK_bif, optK_pure, optK_none, optK_oc, optK_guardT, optK_map] at h
    refine hold_of h ?_
    kernel_rfl
def zgw (k : Nat) : Entry D := entS zgs (zgt k) zgu
theorem zgx (k : Nat) : EntryOK X 187 (zgw k) := (zgv k).en rfl
def zgy : List Ar := [.c (.ks), .c (.ks)]
def zgz (k : Nat) (x : TupA D zgy) : Option (Int) := strings_Index k x.1 x.2.1
def zh0 (r : Int) : VR D := .p (.c (.int .i64 r))
theorem zh1 (k : Nat) : Does P X 205 zgy (zgz k) zh0 := does_index ⟨Go.Proofs.Tryz.f205, Go.Proofs.Tryz.func205, by kernel_rfl, by kernel_rfl⟩ (fun s sub w hg hs => let ⟨m, hm⟩ := hg.1; Go.Proofs.Tryz.strings_Index s sub m w hs hm)
def zh2 (k : Nat) : Entry D := entS zgy (zgz k) zh0
theorem zh3 (k : Nat) : EntryOK X 205 (zh2 k) := (zh1 k).en rfl
def zh4 : Plan := ⟨[(0, [(0, none), (1, none)]), (1, [(0, none), (1, none), (7, none)]), (2, [(4, none)]), (3, [(4, none)])],
  [],
  [(7, ([], [(0, none), (1, none)]))]⟩
def zh5 (k : Nat) : Calls' D := ⟨[(94, zem k)], [], [], [], []⟩
theorem zh6 (k : Nat) : CallsOK X (zh5 k) := .cons (zen k) (.nil cod)
def zh7 (k : Nat) : Cuts D := ⟨[], []⟩
def zh8 : List Ar := [.c (.ki .i64), .c (.ki .i64)]
def zh9 (k : Nat) (x : TupA D zh8) : Option (Int) := I_Mod k x.1 x.2.1
def zha (r : Int) : VR D := .p (.c (.int .i64 r))
theorem zhb (k : Nat) : Does P X 237 zh8 (zh9 k) zha :=
  does_of (body := bodyOf Go.Proofs.Tryz.f237) (pl := zh4) (k := k) (cu := zh7 k) (tys := [[0]]) (zh6 k) ctx mixed Go.Proofs.Tryz.func237 (by kernel_rfl) (by kernel_rfl) (cutOK_of (l := []) (by kernel_rfl) trivial) fun x R h => by
    simp only [zh9, I_Mod, optK_bind, optK_bif, optK_pure, optK_none, optK_oc, optK_guardT, optK_map] at h
    refine hold_of h ?_
    kernel_rfl
def zhc (k : Nat) : Entry D := entS zh8 (zh9 k) zha
theorem zhd (k : Nat) : EntryOK X 237 (zhc k) := (zhb k).en rfl
def zhe : Plan := ⟨[(0, [(0, none)]), (1, [(2, none)])],
  [],
  []⟩
def zhf (k : Nat) : Calls' D := ⟨[(237, zhc k)], [], [], [], []⟩
theorem zhg (k : Nat) : CallsOK X (zhf k) := .cons (zhd k) (.nil cod)
def zhh (k : Nat) : Cuts D := ⟨[], []⟩
def zhi : List Ar := [.c (.ki .i64)]
def zhj (k : Nat) (x : TupA D zhi) : Option (Bool) := I_IsLeap k x.1
def zhk (r : Bool) : VR D := .p (.c (.bool r))
theorem zhl (k : Nat) : Does P X 262 zhi (zhj k) zhk :=
  does_of (body := bodyOf Go.Proofs.Tryz.f262) (pl := zhe) (k := k) (cu := zhh k) (tys := [[0]]) (zhg k) ctx mixed Go.Proofs.Tryz.func262 (by kernel_rfl) (by kernel_rfl) (cutOK_of (l := []) (by kernel_rfl) trivial) fun x R h => by
    simp only [zhj, I_IsLeap, optK_bind, optK_bif, optK_pure, optK_none, optK_oc, optK_guardT, optK_map] at h
    refine hold_of h ?_
    kernel_rfl
def zhm (k : Nat) : Entry D := entS zhi (zhj k) zhk
theorem zhn (k : Nat) : EntryOK X 262 (zhm k) := (zhl k).en rfl
def zho : Plan := ⟨[(0, [(0, none), (1, none)]), (1, [(0, none), (5, none)]), (2, [(0, none), (5, none), (6, none)]), (3, [(9, none)]), (4, [(4, none)]), (5, [(4, none)]), (6, [(5, none), (10, none)]), (7, [(5, none), (10, none)]), (8, [(5, none), (10, none)]), (9, [(10, none)]), (10, [(4, none)]), (11, [(4, none)])],
  [(0, [])],
  [(6, ([(0, none)], [(5, none)])), (9, ([], [])), (10, ([(10, none)], [(5, none)]))]⟩
def zhp (k : Nat) : Calls' D := ⟨[(262, zhm k)], [], [], [], []⟩
theorem zhq (k : Nat) : CallsOK X (zhp k) := .cons (zhn k) (.nil cod)
def zhr (x : Int × Int × Bool × Unit) (o : Oc (Unit) (Int)) (Q : Ex → VSt D → Prop) (R : VR D → Prop) : Prop := ocP o (fun v0 => Q .normal (mkSt ⟨[(5, .gone)], []⟩ [])) (fun w0 => R (.p (.c (.int .i64 w0))))
def zhs (k : Nat) : Cut D := cutS ⟨[(0, .hole), (5, .hole), (6, .hole)], []⟩ [.ki .i64, .ki .i64, .kb] (fun (x : Int × Int × Bool × Unit) => I_monthDays_c6 k x.1 x.2.1 x.2.2.1) zhr
def zht (k : Nat) : Cuts D := ⟨[], []⟩
theorem zhu (k : Nat) : CutFor X zho k Go.Proofs.Tryz.f236.results.toList (zhs k) (sub (bodyOf Go.Proofs.Tryz.f236) [1, 0, 1, 0, 1]) :=
  joinCut_s (X := X) (sg := [.ki .i64, .ki .i64, .kb]) (cu := zht k) (cl := zhp k) (tys := [[0]]) (zhq k) (cutOK_of (l := []) (by kernel_rfl) trivial) fun x Q R h => by
    simp only [I_monthDays_c6, optK_bind, optK_bif, optK_pure, optK_none, optK_oc, optK_guardT, optK_map] at h
    refine hold_of h ?_
    kernel_rfl
def zhv (x : Int × Int × Unit) (o : Oc (Unit) (Int)) (Q : Ex → VSt D → Prop) (R : VR D → Prop) : Prop := ocP o (fun v0 => Q .normal (mkSt ⟨[], []⟩ [])) (fun w0 => R (.p (.c (.int .i64 w0))))
def zhw (k : Nat) : Cut D := cutS ⟨[(0, .hole), (5, .hole)], []⟩ [.ki .i64, .ki .i64] (fun (x : Int × Int × Unit) => I_monthDays_b0 k x.1 x.2.1) zhv
def zhx (k : Nat) : Cuts D := ⟨[], [(6, some (zhs k))]⟩
theorem zhy (k : Nat) : CutFor X zho k Go.Proofs.Tryz.f236.results.toList (zhw k) (sub (bodyOf Go.Proofs.Tryz.f236) [1, 0, 1]) :=
  joinCut_s (X := X) (sg := [.ki .i64, .ki .i64]) (cu := zhx k) (cl := zhp k) (tys := [[0]]) (zhq k) (cutOK_of (l := [(zhs k, sub (bodyOf Go.Proofs.Tryz.f236) [1, 0, 1, 0, 1])]) (by kernel_rfl) ⟨zhu k, trivial⟩) fun x Q R h => by
    simp only [I_monthDays_b0, optK_bind, optK_bif, optK_pure, optK_none, optK_oc, optK_guardT, optK_map] at h
    refine hold_of h ?_
    kernel_rfl
def zhz (k : Nat) : Cuts D := ⟨[(0, some (zhw k))], []⟩
def zi0 : List Ar := [.c (.ki .i64), .c (.ki .i64)]
def zi1 (k : Nat) (x : TupA D zi0) : Option (Int) := I_monthDays k x.1 x.2.1
def zi2 (r : Int) : VR D := .p (.c (.int .i64 r))
theorem zi3 (k : Nat) : Does P X 236 zi0 (zi1 k) zi2 :=
  does_of (body := bodyOf Go.Proofs.Tryz.f236) (pl := zho) (k := k) (cu := zhz k) (tys := [[0]]) (zhq k) ctx mixed Go.Proofs.Tryz.func236 (by kernel_rfl) (by kernel_rfl) (cutOK_of (l := [(zhw k, sub (bodyOf Go.Proofs.Tryz.f236) [1, 0, 1])]) (by kernel_rfl) ⟨zhy k, trivial⟩) fun x R h => by
    simp only [zi1, I_monthDays, optK_bind, optK_bif, optK_pure, optK_none, optK_oc, optK_guardT, optK_map] at h
    refine hold_of h ?_
    kernel_rfl
def zi4 (k : Nat) : Entry D := entS zi0 (zi1 k) zi2
theorem zi5 (k : Nat) : EntryOK X 236 (zi4 k) := (zi3 k).en rfl
def zi6 : Plan := ⟨[(0, [(0, none)]), (1, [(4, none)]), (2, [(2, none)]), (3, [(2, none)])],
  [],
  [(4, ([], []))]⟩
def zi7 (k : Nat) : Calls' D := ⟨[(262, zhm k)], [], [], [], []⟩
theorem zi8 (k : Nat) : CallsOK X (zi7 k) := .cons (zhn k) (.nil cod)
def zi9 (k : Nat) : Cuts D := ⟨[], []⟩
def zia : List Ar := [.c (.ki .i64)]
def zib (k : Nat) (x : TupA D zia) : Option (Int) := I_yearDays k x.1
def zic (r : Int) : VR D := .p (.c (.int .i64 r))
theorem zid (k : Nat) : Does P X 235 zia (zib k) zic :=
  does_of (body := bodyOf Go.Proofs.Tryz.f235) (pl := zi6) (k := k) (cu := zi9 k) (tys := [[0]]) (zi8 k) ctx mixed Go.Proofs.Tryz.func235 (by kernel_rfl) (by kernel_rfl) (cutOK_of (l := []) (by kernel_rfl) trivial) fun x R h => by
    simp only [zib, I_yearDays, optK_bind, optK_bif, optK_pure, optK_none, optK_oc, optK_guardT, optK_map] at h
    refine hold_of h ?_
    kernel_rfl
def zie (k : Nat) : Entry D := entS zia (zib k) zic
theorem zif (k : Nat) : EntryOK X 235 (zie k) := (zid k).en rfl
def zig : Plan := ⟨[(0, [(0, none), (1, none), (2, none)]), (1, [(0, none), (1, none), (2, none), (25, none)]), (2, [(6, none)]), (3, [(0, none), (1, none), (7, none)]), (4, [(0, none), (1, none), (7, none), (8, none)]), (5, [(0, none), (1, none), (7, none), (8, none), (30, none)]), (6, [(0, none), (1, none), (7, none), (8, none)]), (7, [(0, none), (1, none), (7, none), (8, none)]), (8, [(0, none), (1, none), (7, none), (9, none)]), (9, [(0, none), (1, none), (7, none), (9, none), (39, none)]), (10, [(0, none), (1, none), (7, none), (9, none)]), (11, [(0, none), (1, none), (7, none), (9, none)]), (12, [(6, none)])],
  [(0, [(0, none), (1, none), (7, none)]), (1, [(0, none), (1, none), (7, none), (8, none)]), (2, [(7, none)]), (3, [(0, none), (1, none), (7, none), (9, none)])],
  [(25, ([], [(0, none), (1, none), (2, none)])), (30, ([(0, none), (1, none), (7, none), (8, none)], [(0, none), (1, none), (7, none)])), (39, ([(0, none), (1, none), (7, none), (9, none)], [(7, none)]))]⟩
def zih (k : Nat) : Calls' D := ⟨[(94, zem k), (236, zi4 k), (235, zie k)], [], [], [], []⟩
theorem zii (k : Nat) : CallsOK X (zih k) := .cons (zen k) (.cons (zi5 k) (.cons (zif k) (.nil cod)))
def zij (x : Int × Int × Int × Int × Unit) (o : Int) (Q : Ex → VSt D → Prop) (R : VR D → Prop) : Prop := Q .normal (mkSt ⟨[(0, .hole), (1, .hole), (7, .hole)], []⟩ [.int .i64 x.1, .int .i64 x.2.1, .int .i64 o])
def zik (k : Nat) : Cut D := cutS ⟨[(0, .hole), (1, .hole), (7, .hole), (8, .hole)], []⟩ [.ki .i64, .ki .i64, .ki .i64, .ki .i64] (fun (x : Int × Int × Int × Int × Unit) => I_DaysOf_b0 k k x.1 x.2.1 x.2.2.1 x.2.2.2.1) zij
def zil (k : Nat) : Cuts D := ⟨[], []⟩
theorem zim (k : Nat) : CutFor X zig k Go.Proofs.Tryz.f234.results.toList (zik k) (sub (bodyOf Go.Proofs.Tryz.f234) [1, 1, 1, 0, 1]) :=
  loopCut_s (X := X) (sg := [.ki .i64, .ki .i64, .ki .i64, .ki .i64]) (cu := zil k) (cl := zih k) (tys := [[0]]) (id := 0) (c := sub (bodyOf Go.Proofs.Tryz.f234) [1, 1, 1, 0, 1, 0, 0]) (f := fun n => fun (x : Int × Int × Int × Int × Unit) => I_DaysOf_b0 k n x.1 x.2.1 x.2.2.1 x.2.2.2.1) (zii k) (cutOK_of (l := []) (by kernel_rfl) trivial) (fun _ => rfl) (fun n x Q R h => by
    simp only [I_DaysOf_b0, optK_bind, optK_bif, optK_pure, optK_none, optK_oc, optK_guardT, optK_map] at h
    refine hold_of h ?_
    kernel_rfl) (by kernel_rfl)
def zin (x : Int × Int × Int × Int × Unit) (o : Int) (Q : Ex → VSt D → Prop) (R : VR D → Prop) : Prop := Q .normal (mkSt ⟨[(7, .hole)], []⟩ [.int .i64 o])
def zio (k : Nat) : Cut D := cutS ⟨[(0, .hole), (1, .hole), (7, .hole), (9, .hole)], []⟩ [.ki .i64, .ki .i64, .ki .i64, .ki .i64] (fun (x : Int × Int × Int × Int × Unit) => I_DaysOf_b2 k k x.1 x.2.1 x.2.2.1 x.2.2.2.1) zin
def zip (k : Nat) : Cuts D := ⟨[], []⟩
theorem ziq (k : Nat) : CutFor X zig k Go.Proofs.Tryz.f234.results.toList (zio k) (sub (bodyOf Go.Proofs.Tryz.f234) [1, 1, 1, 1, 0, 1]) :=
  loopCut_s (X := X) (sg := [.ki .i64, .ki .i64, .ki .i64, .ki .i64]) (cu := zip k) (cl := zih k) (tys := [[0]]) (id := 2) (c := sub (bodyOf Go.Proofs.Tryz.f234) [1, 1, 1, 1, 0, 1, 0, 0]) (f := fun n => fun (x : Int × Int × Int × Int × Unit) => I_DaysOf_b2 k n x.1 x.2.1 x.2.2.1 x.2.2.2.1) (zii k) (cutOK_of (l := []) (by kernel_rfl) trivial) (fun _ => rfl) (fun n x Q R h => by
    simp only [I_DaysOf_b2, optK_bind, optK_bif, optK_pure, optK_none, optK_oc, optK_guardT, optK_map] at h
    refine hold_of h ?_
    kernel_rfl) (by kernel_rfl)
def zir (k : Nat) : Cuts D := ⟨[(0, some (zik k)), (2, some (zio k))], []⟩
def zis : List Ar := [.c (.ki .i64), .c (.ki .i64), .c (.ki .i64)]
def zit (k : Nat) (x : TupA D zis) : Option (Int) := I_DaysOf k x.1 x.2.1 x.2.2.1
def ziu (r : Int) : VR D := .p (.c (.int .i64 r))
theorem ziv (k : Nat) : Does P X 234 zis (zit k) ziu :=
  does_of (body := bodyOf Go.Proofs.Tryz.f234) (pl := zig) (k := k) (cu := zir k) (tys := [[0]]) (zii k) ctx mixed Go.Proofs.Tryz.func234 (by kernel_rfl) (by kernel_rfl) (cutOK_of (l := [(zik k, sub (bodyOf Go.Proofs.Tryz.f234) [1, 1, 1, 0, 1]), (zio k, sub (bodyOf Go.Proofs.Tryz.f234) [1, 1, 1, 1, 0, 1])]) (by kernel_rfl) ⟨zim k, ziq k, trivial⟩) fun x R h => by
    simp only [zit, I_DaysOf, optK_bind, optK_bif, optK_pure, optK_none, optK_oc, optK_guardT, optK_map] at h
    refine hold_of h ?_
    kernel_rfl
def ziw (k : Nat) : Entry D := entS zis (zit k) ziu
theorem zix (k : Nat) : EntryOK X 234 (ziw k) := (ziv k).en rfl
def ziy : Plan := ⟨[(0, [(0, none), (1, none), (2, none), (3, none)]), (1, [(3, none), (10, none)]), (2, [(3, none), (10, none), (19, none)]), (3, [(8, none), (9, none)]), (4, [(8, none), (9, none)])],
  [],
  [(19, ([], [(3, none), (10, none)]))]⟩
def ziz (k : Nat) : Calls' D := ⟨[(205, zh2 k), (234, ziw k), (187, zgw k)], [], [], [], []⟩
theorem zj0 (k : Nat) : CallsOK X (ziz k) := .cons (zh3 k) (.cons (zix k) (.cons (zgx k) (.nil cod)))
def zj1 (k : Nat) : Cuts D := ⟨[], []⟩
def zj2 : List Ar := [.c (.ki .i64), .c (.ks), .c (.ki .i64), .c (.ks)]
def zj3 (k : Nat) (x : TupA D zj2) : Option (Int × Bool) := I_timeOf k x.1 x.2.1 x.2.2.1 x.2.2.2.1
def zj4 (r : Int × Bool) : VR D := .tup [.c (.int .i64 r.1), .c (.bool r.2)]
theorem zj5 (k : Nat) : Does P X 188 zj2 (zj3 k) zj4 :=
  does_of (body := bodyOf Go.Proofs.Tryz.f188) (pl := ziy) (k := k) (cu := zj1 k) (tys := [[0], [0]]) (zj0 k) ctx mixed Go.Proofs.Tryz.func188 (by kernel_rfl) (by kernel_rfl) (cutOK_of (l := []) (by kernel_rfl) trivial) fun x R h => by
    simp only [zj3, I_timeOf, optK_bind, optK_bif, optK_pure, optK_none, optK_oc, optK_guardT, optK_map] at h
    refine hold_of h ?_
    kernel_rfl
def zj6 (k : Nat) : Entry D := entS zj2 (zj3 k) zj4
theorem zj7 (k : Nat) : EntryOK X 188 (zj6 k) := (zj5 k).en rfl
def zj8 : Plan := ⟨[(0, [(0, none), (1, none)]), (1, [(0, none), (1, none), (11, none)]), (2, [(6, none), (7, none), (8, none)]), (3, [(7, none), (29, none)]), (4, [(4, none), (5, none)]), (5, [(7, none), (9, none)]), (6, [(7, none), (9, none), (34, none)]), (7, [(7, none), (9, none)]), (8, [(4, none), (5, none)]), (9, [(0, none), (1, none), (55, none)]), (10, [(4, none), (5, none)]), (11, [(0, none), (75, none)]), (12, [(4, none), (5, none)]), (13, [(4, none), (5, none)])],
  [],
  [(11, ([(0, none)], [(0, none), (1, none)])), (29, ([], [(7, none)])), (34, ([(7, none), (9, none)], [(7, none), (9, none)])), (55, ([(0, none)], [(0, none), (1, none)])), (75, ([(0, none)], []))]⟩
def zj9 (k : Nat) : Calls' D := ⟨[(141, zga k), (187, zgw k), (188, zj6 k)], [], [], [], []⟩
theorem zja (k : Nat) : CallsOK X (zj9 k) := .cons (zgb k) (.cons (zgx k) (.cons (zj7 k) (.nil cod)))
def zjb (x : (List UInt8) × Int × Bool × Unit) (o : Int) (Q : Ex → VSt D → Prop) (R : VR D → Prop) : Prop := Q .normal (mkSt ⟨[(7, .hole), (9, .hole)], []⟩ [.str x.1, .int .i64 o])
def zjc (k : Nat) : Cut D := cutS ⟨[(7, .hole), (9, .hole), (34, .hole)], []⟩ [.ks, .ki .i64, .kb] (fun (x : (List UInt8) × Int × Bool × Unit) => I_dateIn_c34 k x.1 x.2.1 x.2.2.1) zjb
def zjd (k : Nat) : Cuts D := ⟨[], []⟩
theorem zje (k : Nat) : CutFor X zj8 k Go.Proofs.Tryz.f123.results.toList (zjc k) (sub (bodyOf Go.Proofs.Tryz.f123) [1, 0, 1, 0, 1, 1, 1, 0, 1]) :=
  joinCut_s (X := X) (sg := [.ks, .ki .i64, .kb]) (cu := zjd k) (cl := zj9 k) (tys := [[0], [0]]) (zja k) (cutOK_of (l := []) (by kernel_rfl) trivial) fun x Q R h => by
    simp only [I_dateIn_c34, optK_bind, optK_bif, optK_pure, optK_none, optK_oc, optK_guardT, optK_map] at h
    refine hold_of h ?_
    kernel_rfl
def zjf (k : Nat) : Cuts D := ⟨[], [(34, some (zjc k))]⟩
def zjg : List Ar := [.c (.ks), .c (.ki .i64)]
def zjh (k : Nat) (x : TupA D zjg) : Option (Int × Bool) := I_dateIn k x.1 x.2.1
def zji (r : Int × Bool) : VR D := .tup [.c (.int .i64 r.1), .c (.bool r.2)]
theorem zjj (k : Nat) : Does P X 123 zjg (zjh k) zji :=
  does_of (body := bodyOf Go.Proofs.Tryz.f123) (pl := zj8) (k := k) (cu := zjf k) (tys := [[0], [0]]) (zja k) ctx mixed Go.Proofs.Tryz.func123 (by kernel_rfl) (by kernel_rfl) (cutOK_of (l := [(zjc k, sub (bodyOf Go.Proofs.Tryz.f123) [1, 0, 1, 0, 1, 1, 1, 0, 1])]) (by kernel_rfl) ⟨zje k, trivial⟩) fun x R h => by
    simp only [zjh, I_dateIn, optK_bind, optK_bif, optK_pure, optK_none, optK_oc, optK_guardT, optK_map] at h
    refine hold_of h ?_
    kernel_rfl
def zjk (k : Nat) : Entry D := entS zjg (zjh k) zji
theorem zjl (k : Nat) : EntryOK X 123 (zjk k) := (zjj k).en rfl
def zjm : Plan := ⟨[(0, [(0, none)]), (1, [(0, none), (9, none)]), (2, [(2, none), (3, none), (4, none)]), (3, [(0, none), (5, none), (6, none)]), (4, [(0, none), (5, none), (6, none), (13, none)]), (5, [(0, none), (5, none), (6, none)]), (6, [(0, none), (5, none), (6, none)]), (7, [(0, none), (5, none), (6, none), (24, none)]), (8, [(0, none), (5, none), (6, none)]), (9, [(0, none), (5, none), (6, none)]), (10, [(2, none), (3, none), (4, none)])],
  [(0, [(0, none), (5, none), (6, none)]), (1, [(0, none), (5, none), (6, none)]), (2, [(0, none), (5, none), (6, none)]), (3, [(0, none), (5, none), (6, none)])],
  [(9, ([], [(0, none)])), (13, ([(0, none), (5, none), (6, none)], [(0, none), (5, none), (6, none)])), (24, ([(0, none), (5, none), (6, none)], [(0, none), (5, none), (6, none)]))]⟩
def zjn (k : Nat) : Calls' D := ⟨[(94, zem k), (235, zie k), (236, zi4 k)], [], [], [], []⟩
theorem zjo (k : Nat) : CallsOK X (zjn k) := .cons (zen k) (.cons (zif k) (.cons (zi5 k) (.nil cod)))
def zjp (x : Int × Int × Int × Unit) (o : Int × Int) (Q : Ex → VSt D → Prop) (R : VR D → Prop) : Prop := Q .normal (mkSt ⟨[(0, .hole), (5, .hole), (6, .hole)], []⟩ [.int .i64 o.1, .int .i64 o.2, .int .i64 x.2.2.1])
def zjq (k : Nat) : Cut D := cutS ⟨[(0, .hole), (5, .hole), (6, .hole)], []⟩ [.ki .i64, .ki .i64, .ki .i64] (fun (x : Int × Int × Int × Unit) => I_CivilOf_b0 k k x.1 x.2.1 x.2.2.1) zjp
def zjr (k : Nat) : Cuts D := ⟨[], []⟩
theorem zjs (k : Nat) : CutFor X zjm k Go.Proofs.Tryz.f189.results.toList (zjq k) (sub (bodyOf Go.Proofs.Tryz.f189) [1, 1, 1, 0]) :=
  loopCut_s (X := X) (sg := [.ki .i64, .ki .i64, .ki .i64]) (cu := zjr k) (cl := zjn k) (tys := [[0], [0], [0]]) (id := 0) (c := sub (bodyOf Go.Proofs.Tryz.f189) [1, 1, 1, 0, 0, 0]) (f := fun n => fun (x : Int × Int × Int × Unit) => I_CivilOf_b0 k n x.1 x.2.1 x.2.2.1) (zjo k) (cutOK_of (l := []) (by kernel_rfl) trivial) (fun _ => rfl) (fun n x Q R h => by
    simp only [I_CivilOf_b0, optK_bind, optK_bif, optK_pure, optK_none, optK_oc, optK_guardT, optK_map] at h
    refine hold_of h ?_
    kernel_rfl) (by kernel_rfl)
def zjt (x : Int × Int × Int × Unit) (o : Int × Int) (Q : Ex → VSt D → Prop) (R : VR D → Prop) : Prop := Q .normal (mkSt ⟨[(0, .hole), (5, .hole), (6, .hole)], []⟩ [.int .i64 o.1, .int .i64 x.2.1, .int .i64 o.2])
def zju (k : Nat) : Cut D := cutS ⟨[(0, .hole), (5, .hole), (6, .hole)], []⟩ [.ki .i64, .ki .i64, .ki .i64] (fun (x : Int × Int × Int × Unit) => I_CivilOf_b2 k k x.1 x.2.1 x.2.2.1) zjt
def zjv (k : Nat) : Cuts D := ⟨[], []⟩
theorem zjw (k : Nat) : CutFor X zjm k Go.Proofs.Tryz.f189.results.toList (zju k) (sub (bodyOf Go.Proofs.Tryz.f189) [1, 1, 1, 1, 0]) :=
  loopCut_s (X := X) (sg := [.ki .i64, .ki .i64, .ki .i64]) (cu := zjv k) (cl := zjn k) (tys := [[0], [0], [0]]) (id := 2) (c := sub (bodyOf Go.Proofs.Tryz.f189) [1, 1, 1, 1, 0, 0, 0]) (f := fun n => fun (x : Int × Int × Int × Unit) => I_CivilOf_b2 k n x.1 x.2.1 x.2.2.1) (zjo k) (cutOK_of (l := []) (by kernel_rfl) trivial) (fun _ => rfl) (fun n x Q R h => by
    simp only [I_CivilOf_b2, optK_bind, optK_bif, optK_pure, optK_none, optK_oc, optK_guardT, optK_map] at h
    refine hold_of h ?_
    kernel_rfl) (by kernel_rfl)
def zjx (k : Nat) : Cuts D := ⟨[(0, some (zjq k)), (2, some (zju k))], []⟩
def zjy : List Ar := [.c (.ki .i64)]
def zjz (k : Nat) (x : TupA D zjy) : Option (Int × Int × Int) := I_CivilOf k x.1
def zk0 (r : Int × Int × Int) : VR D := .tup [.c (.int .i64 r.1), .c (.int .i64 r.2.1), .c (.int .i64 r.2.2)]
theorem zk1 (k : Nat) : Does P X 189 zjy (zjz k) zk0 :=
  does_of (body := bodyOf Go.Proofs.Tryz.f189) (pl := zjm) (k := k) (cu := zjx k) (tys := [[0], [0], [0]]) (zjo k) ctx mixed Go.Proofs.Tryz.func189 (by kernel_rfl) (by kernel_rfl) (cutOK_of (l := [(zjq k, sub (bodyOf Go.Proofs.Tryz.f189) [1, 1, 1, 0]), (zju k, sub (bodyOf Go.Proofs.Tryz.f189) [1, 1, 1, 1, 0])]) (by kernel_rfl) ⟨zjs k, zjw k, trivial⟩) fun x R h => by
    simp only [zjz, I_CivilOf, optK_bind, optK_bif, optK_pure, optK_none, optK_oc, optK_guardT, optK_map] at h
    refine hold_of h ?_
    kernel_rfl
def zk2 (k : Nat) : Entry D := entS zjy (zjz k) zk0
theorem zk3 (k : Nat) : EntryOK X 189 (zk2 k) := (zk1 k).en rfl
def zk4 : Plan := ⟨[(0, [(0, none)]), (1, [(2, none)])],
  [],
  []⟩
def zk5 (k : Nat) : Calls' D := ⟨[(237, zhc k)], [], [], [], []⟩
theorem zk6 (k : Nat) : CallsOK X (zk5 k) := .cons (zhd k) (.nil cod)
def zk7 (k : Nat) : Cuts D := ⟨[], []⟩
def zk8 : List Ar := [.c (.ki .i64)]
def zk9 (k : Nat) (x : TupA D zk8) : Option (Int) := I_WeekdayOf k x.1
def zka (r : Int) : VR D := .p (.c (.int .i64 r))
theorem zkb (k : Nat) : Does P X 190 zk8 (zk9 k) zka :=
  does_of (body := bodyOf Go.Proofs.Tryz.f190) (pl := zk4) (k := k) (cu := zk7 k) (tys := [[0]]) (zk6 k) ctx mixed Go.Proofs.Tryz.func190 (by kernel_rfl) (by kernel_rfl) (cutOK_of (l := []) (by kernel_rfl) trivial) fun x R h => by
    simp only [zk9, I_WeekdayOf, optK_bind, optK_bif, optK_pure, optK_none, optK_oc, optK_guardT, optK_map] at h
    refine hold_of h ?_
    kernel_rfl
def zkc (k : Nat) : Entry D := entS zk8 (zk9 k) zka
theorem zkd (k : Nat) : EntryOK X 190 (zkc k) := (zkb k).en rfl
def zke : List Ar := [.c (.ki .i64)]
def zkf (k : Nat) (x : TupA D zke) : Option ((List UInt8)) := strconv_Itoa k x.1
def zkg (r : (List UInt8)) : VR D := .p (.c (.str r))
theorem zkh (k : Nat) : Does P X 229 zke (zkf k) zkg := does_itoa ⟨Go.Proofs.Tryz.f229, Go.Proofs.Tryz.func229, by kernel_rfl, by kernel_rfl⟩ (fun n w hg h0 h1 => Go.Proofs.Tryz.strconv_Itoa n h0 h1 w hg.2.2.2)
def zki (k : Nat) : Entry D := entS zke (zkf k) zkg
theorem zkj (k : Nat) : EntryOK X 229 (zki k) := (zkh k).en rfl
def zkk : Plan := ⟨[(0, [(0, none)]), (1, [(2, none)])],
  [],
  []⟩
def zkl (k : Nat) : Calls' D := ⟨[(229, zki k)], [], [], [], []⟩
theorem zkm (k : Nat) : CallsOK X (zkl k) := .cons (zkj k) (.nil cod)
def zkn (k : Nat) : Cuts D := ⟨[], []⟩
def zko : List Ar := [.c (.ki .i64)]
def zkp (k : Nat) (x : TupA D zko) : Option ((List UInt8)) := I_FormatInt k x.1
def zkq (r : (List UInt8)) : VR D := .p (.c (.str r))
theorem zkr (k : Nat) : Does P X 177 zko (zkp k) zkq :=
  does_of (body := bodyOf Go.Proofs.Tryz.f177) (pl := zkk) (k := k) (cu := zkn k) (tys := [[0]]) (zkm k) ctx mixed Go.Proofs.Tryz.func177 (by kernel_rfl) (by kernel_rfl) (cutOK_of (l := []) (by kernel_rfl) trivial) fun x R h => by
    simp only [zkp, I_FormatInt, optK_bind, optK_bif, optK_pure, optK_none, optK_oc, optK_guardT, optK_map] at h
    refine hold_of h ?_
    kernel_rfl
def zks (k : Nat) : Entry D := entS zko (zkp k) zkq
theorem zkt (k : Nat) : EntryOK X 177 (zks k) := (zkr k).en rfl
def zku : Plan := ⟨[(0, [(0, none), (1, none)]), (1, [(1, none), (5, none)]), (2, [(1, none), (5, none), (17, none)]), (3, [(1, none), (5, none)]), (4, [(4, none)])],
  [(0, [(5, none)]), (1, [(1, none), (5, none)])],
  [(17, ([(1, none), (5, none)], [(5, none)]))]⟩
def zkv (k : Nat) : Calls' D := ⟨[(177, zks k)], [], [], [], []⟩
theorem zkw (k : Nat) : CallsOK X (zkv k) := .cons (zkt k) (.nil cod)
def zkx (x : Int × (List UInt8) × Unit) (o : (List UInt8)) (Q : Ex → VSt D → Prop) (R : VR D → Prop) : Prop := Q .normal (mkSt ⟨[(5, .hole)], []⟩ [.str o])
def zky (k : Nat) : Cut D := cutS ⟨[(1, .hole), (5, .hole)], []⟩ [.ki .i64, .ks] (fun (x : Int × (List UInt8) × Unit) => I_Digits_b0 k k x.1 x.2.1) zkx
def zkz (k : Nat) : Cuts D := ⟨[], []⟩
theorem zl0 (k : Nat) : CutFor X zku k Go.Proofs.Tryz.f191.results.toList (zky k) (sub (bodyOf Go.Proofs.Tryz.f191) [1, 1, 0]) :=
  loopCut_s (X := X) (sg := [.ki .i64, .ks]) (cu := zkz k) (cl := zkv k) (tys := [[0]]) (id := 0) (c := sub (bodyOf Go.Proofs.Tryz.f191) [1, 1, 0, 0, 0]) (f := fun n => fun (x : Int × (List UInt8) × Unit) => I_Digits_b0 k n x.1 x.2.1) (zkw k) (cutOK_of (l := []) (by kernel_rfl) trivial) (fun _ => rfl) (fun n x Q R h => by
    simp only [I_Digits_b0, optK_bind, optK_bif, optK_pure, optK_none, optK_oc, optK_guardT, optK_map] at h
    refine hold_of h ?_
    kernel_rfl) (by kernel_rfl)
def zl1 (k : Nat) : Cuts D := ⟨[(0, some (zky k))], []⟩
def zl2 : List Ar := [.c (.ki .i64), .c (.ki .i64)]
def zl3 (k : Nat) (x : TupA D zl2) : Option ((List UInt8)) := I_Digits k x.1 x.2.1
def zl4 (r : (List UInt8)) : VR D := .p (.c (.str r))
theorem zl5 (k : Nat) : Does P X 191 zl2 (zl3 k) zl4 :=
  does_of (body := bodyOf Go.Proofs.Tryz.f191) (pl := zku) (k := k) (cu := zl1 k) (tys := [[0]]) (zkw k) ctx mixed Go.Proofs.Tryz.func191 (by kernel_rfl) (by kernel_rfl) (cutOK_of (l := [(zky k, sub (bodyOf Go.Proofs.Tryz.f191) [1, 1, 0])]) (by kernel_rfl) ⟨zl0 k, trivial⟩) fun x R h => by
    simp only [zl3, I_Digits, optK_bind, optK_bif, optK_pure, optK_none, optK_oc, optK_guardT, optK_map] at h
    refine hold_of h ?_
    kernel_rfl
def zl6 (k : Nat) : Entry D := entS zl2 (zl3 k) zl4
theorem zl7 (k : Nat) : EntryOK X 191 (zl6 k) := (zl5 k).en rfl
def zl8 : Plan := ⟨[(0, [(0, none)]), (1, [(2, none)])],
  [],
  []⟩
def zl9 (k : Nat) : Calls' D := ⟨[], [], [], [], []⟩
theorem zla (k : Nat) : CallsOK X (zl9 k) := .nil cod
def zlb (k : Nat) : Cuts D := ⟨[], []⟩
def zlc : List Ar := [.c (.ki .i64)]
def zld (k : Nat) (x : TupA D zlc) : Option ((List UInt8)) := I_fullDay k x.1
def zle (r : (List UInt8)) : VR D := .p (.c (.str r))
theorem zlf (k : Nat) : Does P X 192 zlc (zld k) zle :=
  does_of (body := bodyOf Go.Proofs.Tryz.f192) (pl := zl8) (k := k) (cu := zlb k) (tys := [[0]]) (zla k) ctx mixed Go.Proofs.Tryz.func192 (by kernel_rfl) (by kernel_rfl) (cutOK_of (l := []) (by kernel_rfl) trivial) fun x R h => by
    simp only [zld, I_fullDay, optK_bind, optK_bif, optK_pure, optK_none, optK_oc, optK_guardT, optK_map] at h
    refine hold_of h ?_
    kernel_rfl
def zlg (k : Nat) : Entry D := entS zlc (zld k) zle
theorem zlh (k : Nat) : EntryOK X 192 (zlg k) := (zlf k).en rfl
def zli : Plan := ⟨[(0, [(0, none), (1, none)]), (1, [(0, none), (1, none), (15, none)]), (2, [(4, none)]), (3, [(0, none), (1, none), (5, none), (6, none), (7, none)]), (4, [(0, none), (1, none), (5, none), (6, none), (7, none), (8, none)]), (5, [(1, none), (5, none), (6, none), (7, none), (8, none), (9, none)]), (6, [(1, none), (5, none), (7, none), (8, none), (9, none), (10, none), (11, none)]), (7, [(5, none), (7, none), (8, none), (9, none), (10, none), (11, none), (53, none)]), (8, [(5, none), (7, none), (8, none), (9, none), (10, none), (11, none), (53, none), (54, none)]), (9, [(4, none)]), (10, [(5, none), (7, none), (8, none), (9, none), (10, none), (11, none), (72, none)]), (11, [(5, none), (7, none), (8, none), (9, none), (11, none), (75, none)]), (12, [(4, none)]), (13, [(4, none)]), (14, [(5, none), (7, none), (9, none), (10, none), (11, none), (12, none)]), (15, [(5, none), (9, none), (10, none), (11, none), (12, none), (97, none)]), (16, [(5, none), (9, none), (10, none), (11, none), (12, none)]), (17, [(4, none)])],
  [(0, [(5, none), (7, none), (9, none), (10, none), (11, none)])],
  [(15, ([], [(0, none), (1, none)])), (54, ([(5, none), (7, none), (9, none), (10, none), (11, none)], [(5, none), (7, none), (8, none), (9, none), (10, none), (11, none), (53, none)])), (72, ([(5, none), (7, none), (8, none), (9, none), (11, none)], [(5, none), (7, none), (9, none), (10, none), (11, none)])), (75, ([], [(5, none), (7, none), (8, none), (9, none), (11, none)])), (97, ([(5, none), (9, none), (10, none), (11, none), (12, none)], [(5, none), (9, none), (10, none), (11, none), (12, none)]))]⟩
def zlj (k : Nat) : Calls' D := ⟨[(94, zem k), (189, zk2 k), (190, zkc k), (191, zl6 k), (177, zks k), (192, zlg k)], [], [], [], []⟩
theorem zlk (k : Nat) : CallsOK X (zlj k) := .cons (zen k) (.cons (zk3 k) (.cons (zkd k) (.cons (zl7 k) (.cons (zkt k) (.cons (zlh k) (.nil cod))))))
def zll (x : Int × (List UInt8) × (List UInt8) × (List UInt8) × (List UInt8) × Bool × Unit) (o : (List UInt8)) (Q : Ex → VSt D → Prop) (R : VR D → Prop) : Prop := Q .normal (mkSt ⟨[(5, .hole), (9, .hole), (10, .hole), (11, .hole), (12, .hole)], []⟩ [.int .i64 x.1, .str x.2.1, .str x.2.2.1, .str x.2.2.2.1, .str o])
def zlm (k : Nat) : Cut D := cutS ⟨[(5, .hole), (9, .hole), (10, .hole), (11, .hole), (12, .hole), (97, .hole)], []⟩ [.ki .i64, .ks, .ks, .ks, .ks, .kb] (fun (x : Int × (List UInt8) × (List UInt8) × (List UInt8) × (List UInt8) × Bool × Unit) => I_dateText_c97 k x.1 x.2.1 x.2.2.1 x.2.2.2.1 x.2.2.2.2.1 x.2.2.2.2.2.1) zll
def zln (k : Nat) : Cuts D := ⟨[], []⟩
theorem zlo (k : Nat) : CutFor X zli k Go.Proofs.Tryz.f124.results.toList (zlm k) (sub (bodyOf Go.Proofs.Tryz.f124) [1, 1, 1, 1, 1, 1, 1, 1, 0, 1]) :=
  joinCut_s (X := X) (sg := [.ki .i64, .ks, .ks, .ks, .ks, .kb]) (cu := zln k) (cl := zlj k) (tys := [[0]]) (zlk k) (cutOK_of (l := []) (by kernel_rfl) trivial) fun x Q R h => by
    simp only [I_dateText_c97, optK_bind, optK_bif, optK_pure, optK_none, optK_oc, optK_guardT, optK_map] at h
    refine hold_of h ?_
    kernel_rfl
def zlp (k : Nat) : Cuts D := ⟨[], [(97, some (zlm k))]⟩
def zlq : List Ar := [.c (.ki .i64), .c (.ki .i64)]
def zlr (k : Nat) (x : TupA D zlq) : Option ((List UInt8)) := I_dateText k x.1 x.2.1
def zls (r : (List UInt8)) : VR D := .p (.c (.str r))
theorem zlt (k : Nat) : Does P X 124 zlq (zlr k) zls :=
  does_of (body := bodyOf Go.Proofs.Tryz.f124) (pl := zli) (k := k) (cu := zlp k) (tys := [[0]]) (zlk k) ctx mixed Go.Proofs.Tryz.func124 (by kernel_rfl) (by kernel_rfl) (cutOK_of (l := [(zlm k, sub (bodyOf Go.Proofs.Tryz.f124) [1, 1, 1, 1, 1, 1, 1, 1, 0, 1])]) (by kernel_rfl) ⟨zlo k, trivial⟩) fun x R h => by
    simp only [zlr, I_dateText, optK_bind, optK_bif, optK_pure, optK_none, optK_oc, optK_guardT, optK_map] at h
    refine hold_of h ?_
    kernel_rfl
def zlu (k : Nat) : Entry D := entS zlq (zlr k) zls
theorem zlv (k : Nat) : EntryOK X 124 (zlu k) := (zlt k).en rfl
def zlw : Plan := ⟨[(0, [(0, none)]), (1, [(0, none), (4, none)]), (2, [(0, none), (4, none), (8, none)]), (3, [(0, none), (4, none)]), (4, [(0, none), (4, none), (5, none), (6, none)]), (5, [(0, none), (4, none), (5, none), (24, none)]), (6, [(2, none), (3, none)]), (7, [(2, none), (3, none)])],
  [(0, []), (1, [(0, none), (4, none)])],
  [(8, ([(0, none), (4, none)], [])), (24, ([(5, none)], [(0, none), (4, none)]))]⟩
def zlx (k : Nat) : Calls' D := ⟨[(123, zjk k), (124, zlu k)], [], [], [], []⟩
theorem zly (k : Nat) : CallsOK X (zlx k) := .cons (zjl k) (.cons (zlv k) (.nil cod))
def zlz (x : (List UInt8) × Int × Unit) (o : Oc (Unit) (Int × Bool)) (Q : Ex → VSt D → Prop) (R : VR D → Prop) : Prop := ocP o (fun v0 => Q .normal (mkSt ⟨[], []⟩ [])) (fun w0 => R (.tup [.c (.int .i64 w0.1), .c (.bool w0.2)]))
def zm0 (k : Nat) : Cut D := cutS ⟨[(0, .hole), (4, .hole)], []⟩ [.ks, .ki .i64] (fun (x : (List UInt8) × Int × Unit) => I_ParseDate_b0 k k x.1 x.2.1) zlz
def zm1 (k : Nat) : Cuts D := ⟨[], []⟩
theorem zm2 (k : Nat) : CutFor X zlw k Go.Proofs.Tryz.f61.results.toList (zm0 k) (sub (bodyOf Go.Proofs.Tryz.f61) [1, 0, 1]) :=
  loopCut_s (X := X) (sg := [.ks, .ki .i64]) (cu := zm1 k) (cl := zlx k) (tys := [[0], [0]]) (id := 0) (c := sub (bodyOf Go.Proofs.Tryz.f61) [1, 0, 1, 0, 0]) (f := fun n => fun (x : (List UInt8) × Int × Unit) => I_ParseDate_b0 k n x.1 x.2.1) (zly k) (cutOK_of (l := []) (by kernel_rfl) trivial) (fun _ => rfl) (fun n x Q R h => by
    simp only [I_ParseDate_b0, optK_bind, optK_bif, optK_pure, optK_none, optK_oc, optK_guardT, optK_map] at h
    refine hold_of h ?_
    kernel_rfl) (by kernel_rfl)
def zm3 (k : Nat) : Cuts D := ⟨[(0, some (zm0 k))], []⟩
def zm4 : List Ar := [.c (.ks)]
def zm5 (k : Nat) (x : TupA D zm4) : Option (Int × Bool) := I_ParseDate k x.1
def zm6 (r : Int × Bool) : VR D := .tup [.c (.int .i64 r.1), .c (.bool r.2)]
theorem zm7 (k : Nat) : Does P X 61 zm4 (zm5 k) zm6 :=
  does_of (body := bodyOf Go.Proofs.Tryz.f61) (pl := zlw) (k := k) (cu := zm3 k) (tys := [[0], [0]]) (zly k) ctx mixed Go.Proofs.Tryz.func61 (by kernel_rfl) (by kernel_rfl) (cutOK_of (l := [(zm0 k, sub (bodyOf Go.Proofs.Tryz.f61) [1, 0, 1])]) (by kernel_rfl) ⟨zm2 k, trivial⟩) fun x R h => by
    simp only [zm5, I_ParseDate, optK_bind, optK_bif, optK_pure, optK_none, optK_oc, optK_guardT, optK_map] at h
    refine hold_of h ?_
    kernel_rfl
def zm8 (k : Nat) : Entry D := entS zm4 (zm5 k) zm6
theorem zm9 (k : Nat) : EntryOK X 61 (zm8 k) := (zm7 k).en rfl
def zma : Plan := ⟨[(0, [(1, none), (2, none)]), (1, [(6, none)]), (2, [(4, none), (5, none)])],
  [],
  []⟩
def zmb (k : Nat) : Calls' D := ⟨[(57, zdc k), (61, zm8 k)], [], [], [], []⟩
theorem zmc (k : Nat) : CallsOK X (zmb k) := .cons (zdd k) (.cons (zm9 k) (.nil cod))
def zmd (k : Nat) : Cuts D := ⟨[], []⟩
def zme : List Ar := [.a [.ki .i64, .kl 107, .ks], .c (.ks)]
def zmf (k : Nat) (x : TupA D zme) : Option (Int × Bool) := I_dateField k (⟨x.1.1, x.1.2.1, x.1.2.2.1⟩ : IResponse) x.2.1
def zmg (r : Int × Bool) : VR D := .tup [.c (.int .i64 r.1), .c (.bool r.2)]
theorem zmh (k : Nat) : Does P X 53 zme (zmf k) zmg :=
  does_of (body := bodyOf Go.Proofs.Tryz.f53) (pl := zma) (k := k) (cu := zmd k) (tys := [[0], [0]]) (zmc k) ctx mixed Go.Proofs.Tryz.func53 (by kernel_rfl) (by kernel_rfl) (cutOK_of (l := []) (by kernel_rfl) trivial) fun x R h => by
    simp only [zmf, I_dateField, optK_bind, optK_bif, optK_pure, optK_none, optK_oc, optK_guardT, optK_map] at h
    refine hold_of h ?_
    kernel_rfl
def zmi (k : Nat) : Entry D := entS zme (zmf k) zmg
theorem zmj (k : Nat) : EntryOK X 53 (zmi k) := (zmh k).en rfl
def zmk : Plan := ⟨[(0, [(2, none), (3, none)]), (1, [(3, none), (5, none), (6, none)]), (2, [(3, none), (5, none), (22, none)]), (3, [(4, none)]), (4, [(3, none), (5, none), (7, none), (8, none)]), (5, [(3, none), (5, none), (7, none), (28, none)]), (6, [(7, none), (9, none), (10, none)]), (7, [(4, none)]), (8, [(3, none), (11, none), (12, none)]), (9, [(11, none), (12, none), (13, none), (14, none)]), (10, [(4, none)])],
  [],
  [(22, ([], [(3, none), (5, none)])), (28, ([(3, none), (7, none)], [(3, none), (5, none)]))]⟩
def zml (k : Nat) : Calls' D := ⟨[(57, zdc k), (58, zfk k), (59, zfu k), (60, zg4 k), (61, zm8 k), (53, zmi k)], [], [], [], []⟩
theorem zmm (k : Nat) : CallsOK X (zml k) := .cons (zdd k) (.cons (zfl k) (.cons (zfv k) (.cons (zg5 k) (.cons (zm9 k) (.cons (zmj k) (.nil cod))))))
def zmn (k : Nat) : Cuts D := ⟨[], []⟩
def zmo : List Ar := [.a [.ks, .ks, .ks, .kl 107], .a [.ki .i64, .kl 107, .ks]]
def zmp (k : Nat) (x : TupA D zmo) : Option (Bool) := I_RangeHolds k (⟨x.1.1, x.1.2.1, x.1.2.2.1, x.1.2.2.2.1⟩ : IRequest) (⟨x.2.1.1, x.2.1.2.1, x.2.1.2.2.1⟩ : IResponse)
def zmq (r : Bool) : VR D := .p (.c (.bool r))
theorem zmr (k : Nat) : Does P X 26 zmo (zmp k) zmq :=
  does_of (body := bodyOf Go.Proofs.Tryz.f26) (pl := zmk) (k := k) (cu := zmn k) (tys := [[0]]) (zmm k) ctx mixed Go.Proofs.Tryz.func26 (by kernel_rfl) (by kernel_rfl) (cutOK_of (l := []) (by kernel_rfl) trivial) fun x R h => by
    simp only [zmp, I_RangeHolds, optK_bind, optK_bif, optK_pure, optK_none, optK_oc, optK_guardT, optK_map] at h
    refine hold_of h ?_
    kernel_rfl
def zms (k : Nat) : Entry D := entS zmo (zmp k) zmq
theorem zmt (k : Nat) : EntryOK X 26 (zms k) := (zmr k).en rfl
def zmu : Plan := ⟨[(0, [(2, none), (3, none)]), (1, [(2, none), (3, none), (9, none)]), (2, [(4, none)]), (3, [(14, none)]), (4, [(4, none)]), (5, [(4, none)])],
  [],
  [(9, ([], [(2, none), (3, none)])), (14, ([], []))]⟩
def zmv (k : Nat) : Calls' D := ⟨[], [], [], [], []⟩
theorem zmw (k : Nat) : CallsOK X (zmv k) := .nil cod
def zmx (k : Nat) : Cuts D := ⟨[], []⟩
def zmy : List Ar := [.a [.ks, .ks], .a [.ks, .ks]]
def zmz (k : Nat) (x : TupA D zmy) : Option (Bool) := L_eqField k (⟨x.1.1, x.1.2.1⟩ : IField) (⟨x.2.1.1, x.2.1.2.1⟩ : IField)
def zn0 (r : Bool) : VR D := .p (.c (.bool r))
theorem zn1 (k : Nat) : Does P X 96 zmy (zmz k) zn0 :=
  does_of (body := bodyOf Go.Proofs.Tryz.f96) (pl := zmu) (k := k) (cu := zmx k) (tys := [[0]]) (zmw k) ctx mixed Go.Proofs.Tryz.func96 (by kernel_rfl) (by kernel_rfl) (cutOK_of (l := []) (by kernel_rfl) trivial) fun x R h => by
    simp only [zmz, L_eqField, optK_bind, optK_bif, optK_pure, optK_none, optK_oc, optK_guardT, optK_map] at h
    refine hold_of h ?_
    kernel_rfl
def zn2 (k : Nat) : Entry D := entS zmy (zmz k) zn0
theorem zn3 (k : Nat) : EntryOK X 96 (zn2 k) := (zn1 k).en rfl
def zn4 : Plan := ⟨[(0, [(0, some 107), (1, some 107)]), (1, [(0, some 107), (1, some 107), (10, none)]), (2, [(4, none)]), (3, [(0, some 107), (1, some 107), (5, none)]), (4, [(0, some 107), (1, some 107), (5, none), (14, none)]), (5, [(0, some 107), (1, some 107), (5, none)]), (6, [(0, some 107), (1, some 107), (5, none), (26, none)]), (7, [(4, none)]), (8, [(4, none)])],
  [(0, []), (1, [(0, some 107), (1, some 107), (5, none)])],
  [(10, ([], [(0, some 107), (1, some 107)])), (14, ([(0, some 107), (1, some 107), (5, none)], [])), (26, ([], [(0, some 107), (1, some 107), (5, none)]))]⟩
def zn5 (k : Nat) : Calls' D := ⟨[(96, zn2 k)], [], [], [], []⟩
theorem zn6 (k : Nat) : CallsOK X (zn5 k) := .cons (zn3 k) (.nil cod)
def zn7 (x : (List IField) × (List IField) × Int × Unit) (o : Oc (Unit) (Bool)) (Q : Ex → VSt D → Prop) (R : VR D → Prop) : Prop := ocP o (fun v0 => Q .normal (mkSt ⟨[], []⟩ [])) (fun w0 => R (.p (.c (.bool w0))))
def zn8 (k : Nat) : Cut D := cutS ⟨[(0, .hole), (1, .hole), (5, .hole)], []⟩ [.kl 107, .kl 107, .ki .i64] (fun (x : (List IField) × (List IField) × Int × Unit) => L_eqFieldS_b0 k k x.1 x.2.1 x.2.2.1) zn7
def zn9 (k : Nat) : Cuts D := ⟨[], []⟩
theorem zna (k : Nat) : CutFor X zn4 k Go.Proofs.Tryz.f39.results.toList (zn8 k) (sub (bodyOf Go.Proofs.Tryz.f39) [1, 1, 0, 1]) :=
  loopCut_s (X := X) (sg := [.kl 107, .kl 107, .ki .i64]) (cu := zn9 k) (cl := zn5 k) (tys := [[0]]) (id := 0) (c := sub (bodyOf Go.Proofs.Tryz.f39) [1, 1, 0, 1, 0, 0]) (f := fun n => fun (x : (List IField) × (List IField) × Int × Unit) => L_eqFieldS_b0 k n x.1 x.2.1 x.2.2.1) (zn6 k) (cutOK_of (l := []) (by kernel_rfl) trivial) (fun _ => rfl) (fun n x Q R h => by
    simp only [L_eqFieldS_b0, optK_bind, optK_bif, optK_pure, optK_none, optK_oc, optK_guardT, optK_map] at h
    refine hold_of h ?_
    kernel_rfl) (by kernel_rfl)
def znb (k : Nat) : Cuts D := ⟨[(0, some (zn8 k))], []⟩
def znc : List Ar := [.c (.kl 107), .c (.kl 107)]
def znd (k : Nat) (x : TupA D znc) : Option (Bool) := L_eqFieldS k x.1 x.2.1
def zne (r : Bool) : VR D := .p (.c (.bool r))
theorem znf (k : Nat) : Does P X 39 znc (znd k) zne :=
  does_of (body := bodyOf Go.Proofs.Tryz.f39) (pl := zn4) (k := k) (cu := znb k) (tys := [[0]]) (zn6 k) ctx mixed Go.Proofs.Tryz.func39 (by kernel_rfl) (by kernel_rfl) (cutOK_of (l := [(zn8 k, sub (bodyOf Go.Proofs.Tryz.f39) [1, 1, 0, 1])]) (by kernel_rfl) ⟨zna k, trivial⟩) fun x R h => by
    simp only [znd, L_eqFieldS, optK_bind, optK_bif, optK_pure, optK_none, optK_oc, optK_guardT, optK_map] at h
    refine hold_of h ?_
    kernel_rfl
def zng (k : Nat) : Entry D := entS znc (znd k) zne
theorem znh (k : Nat) : EntryOK X 39 (zng k) := (znf k).en rfl
def zni : Plan := ⟨[(0, [(2, none), (3, none)]), (1, [(2, none), (3, none), (9, none)]), (2, [(4, none)]), (3, [(2, none), (3, none), (14, none)]), (4, [(4, none)]), (5, [(2, none), (3, none), (19, none)]), (6, [(4, none)]), (7, [(25, none)]), (8, [(4, none)]), (9, [(4, none)])],
  [],
  [(9, ([], [(2, none), (3, none)])), (14, ([], [(2, none), (3, none)])), (19, ([], [(2, none), (3, none)])), (25, ([], []))]⟩
def znj (k : Nat) : Calls' D := ⟨[(39, zng k)], [], [], [], []⟩
theorem znk (k : Nat) : CallsOK X (znj k) := .cons (znh k) (.nil cod)
def znl (k : Nat) : Cuts D := ⟨[], []⟩
def znm : List Ar := [.a [.ks, .ks, .ks, .kl 107], .a [.ks, .ks, .ks, .kl 107]]
def znn (k : Nat) (x : TupA D znm) : Option (Bool) := L_eqRequest k (⟨x.1.1, x.1.2.1, x.1.2.2.1, x.1.2.2.2.1⟩ : IRequest) (⟨x.2.1.1, x.2.1.2.1, x.2.1.2.2.1, x.2.1.2.2.2.1⟩ : IRequest)
def zno (r : Bool) : VR D := .p (.c (.bool r))
theorem znp (k : Nat) : Does P X 14 znm (znn k) zno :=
  does_of (body := bodyOf Go.Proofs.Tryz.f14) (pl := zni) (k := k) (cu := znl k) (tys := [[0]]) (znk k) ctx mixed Go.Proofs.Tryz.func14 (by kernel_rfl) (by kernel_rfl) (cutOK_of (l := []) (by kernel_rfl) trivial) fun x R h => by
    simp only [znn, L_eqRequest, optK_bind, optK_bif, optK_pure, optK_none, optK_oc, optK_guardT, optK_map] at h
    refine hold_of h ?_
    kernel_rfl
def znq (k : Nat) : Entry D := entS znm (znn k) zno
theorem znr (k : Nat) : EntryOK X 14 (znq k) := (znp k).en rfl
def zns : Plan := ⟨[(0, [(2, none), (3, none)]), (1, [(2, none), (3, none), (9, none)]), (2, [(4, none)]), (3, [(2, none), (3, none), (15, none)]), (4, [(4, none)]), (5, [(20, none)]), (6, [(4, none)]), (7, [(4, none)])],
  [],
  [(9, ([], [(2, none), (3, none)])), (15, ([], [(2, none), (3, none)])), (20, ([], []))]⟩
def znt (k : Nat) : Calls' D := ⟨[(39, zng k)], [], [], [], []⟩
theorem znu (k : Nat) : CallsOK X (znt k) := .cons (znh k) (.nil cod)
def znv (k : Nat) : Cuts D := ⟨[], []⟩
def znw : List Ar := [.a [.ki .i64, .kl 107, .ks], .a [.ki .i64, .kl 107, .ks]]
def znx (k : Nat) (x : TupA D znw) : Option (Bool) := L_eqResponse k (⟨x.1.1, x.1.2.1, x.1.2.2.1⟩ : IResponse) (⟨x.2.1.1, x.2.1.2.1, x.2.1.2.2.1⟩ : IResponse)
def zny (r : Bool) : VR D := .p (.c (.bool r))
theorem znz (k : Nat) : Does P X 24 znw (znx k) zny :=
  does_of (body := bodyOf Go.Proofs.Tryz.f24) (pl := zns) (k := k) (cu := znv k) (tys := [[0]]) (znu k) ctx mixed Go.Proofs.Tryz.func24 (by kernel_rfl) (by kernel_rfl) (cutOK_of (l := []) (by kernel_rfl) trivial) fun x R h => by
    simp only [znx, L_eqResponse, optK_bind, optK_bif, optK_pure, optK_none, optK_oc, optK_guardT, optK_map] at h
    refine hold_of h ?_
    kernel_rfl
def zo0 (k : Nat) : Entry D := entS znw (znx k) zny
theorem zo1 (k : Nat) : EntryOK X 24 (zo0 k) := (znz k).en rfl
def zo2 : Plan := ⟨[(0, [(2, none), (3, none)]), (1, [(2, none), (3, none), (5, none)]), (2, [(2, none), (3, none), (5, none)]), (3, [(2, none), (3, none), (5, none), (14, none)]), (4, [(4, none)]), (5, [(2, none), (3, none), (5, none)]), (6, [(2, none), (3, none), (19, none)]), (7, [(4, none)]), (8, [(2, none), (3, none), (6, none)]), (9, [(2, none), (3, none), (6, none), (7, none)]), (10, [(2, none), (3, none), (6, none), (7, none), (8, none)]), (11, [(2, none), (3, none), (6, none), (7, none), (8, none), (9, none)]), (12, [(2, none), (3, none), (7, none), (8, none), (34, none)]), (13, [(4, none)]), (14, [(3, none), (8, none), (39, none)]), (15, [(4, none)]), (16, [(44, none)]), (17, [(4, none)]), (18, [(4, none)])],
  [],
  [(14, ([], [(2, none), (3, none), (5, none)])), (19, ([], [(2, none), (3, none)])), (34, ([], [(2, none), (3, none), (7, none), (8, none)])), (39, ([], [(3, none), (8, none)])), (44, ([], []))]⟩
def zo3 (k : Nat) : Calls' D := ⟨[(10, zw k), (20, z16 k), (12, z24 k), (22, z2e k), (25, zca k), (26, zms k), (14, znq k), (24, zo0 k)], [], [], [], []⟩
theorem zo4 (k : Nat) : CallsOK X (zo3 k) := .cons (zx k) (.cons (z17 k) (.cons (z25 k) (.cons (z2f k) (.cons (zcb k) (.cons (zmt k) (.cons (znr k) (.cons (zo1 k) (.nil cod))))))))
def zo5 (k : Nat) : Cuts D := ⟨[], []⟩
def L_FnExactRangeHolds_ar : List Ar := [.a [.ks, .ks, .ks, .kl 100], .a [.ki .i64, .kl 100, .ks]]
def L_FnExactRangeHolds_f (k : Nat) (x : TupA D L_FnExactRangeHolds_ar) : Option (Bool) := L_FnExactRangeHolds k (⟨x.1.1, x.1.2.1, x.1.2.2.1, x.1.2.2.2.1⟩ : LRequest) (⟨x.2.1.1, x.2.1.2.1, x.2.1.2.2.1⟩ : LResponse)
def L_FnExactRangeHolds_vr (r : Bool) : VR D := .p (.c (.bool r))
theorem L_FnExactRangeHolds_ok (k : Nat) : Does P X 6 L_FnExactRangeHolds_ar (L_FnExactRangeHolds_f k) L_FnExactRangeHolds_vr :=
  does_of (body := bodyOf Go.Proofs.Tryz.f6) (pl := zo2) (k := k) (cu := zo5 k) (tys := [[0]]) (zo4 k) ctx mixed Go.Proofs.Tryz.func6 (by kernel_rfl) (by kernel_rfl) (cutOK_of (l := []) (by kernel_rfl) trivial) fun x R h => by
    simp only [L_FnExactRangeHolds_f, L_FnExactRangeHolds, optK_bind, optK_bif, optK_pure, optK_none, optK_oc, optK_guardT, optK_map] at h
    refine hold_of h ?_
    kernel_rfl
def zo6 (k : Nat) : Entry D := entS L_FnExactRangeHolds_ar (L_FnExactRangeHolds_f k) L_FnExactRangeHolds_vr
theorem zo7 (k : Nat) : EntryOK X 6 (zo6 k) := (L_FnExactRangeHolds_ok k).en rfl

end
end Go.YtjpfnppiocloeaaGreatDoor
