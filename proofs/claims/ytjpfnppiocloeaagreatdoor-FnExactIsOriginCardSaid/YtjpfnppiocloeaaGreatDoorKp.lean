/- The machine computes the functions. Nothing is claimed here. -/
import Derived.Test.YtjpfnppiocloeaaGreatDoorKf
import Derived.Test.YtjpfnppiocloeaaGreatDoorShelf
import Derived.Shelf.Strings.SlTrimAscii
set_option linter.unusedVariables false
set_option linter.unusedSimpArgs false
set_option maxRecDepth 100000
namespace Go.YtjpfnppiocloeaaGreatDoor
open Go Go.RowKit Go.Pv
noncomputable section

def z0 : Plan := ⟨[(0, [(0, some 9), (1, none)]), (1, [(0, some 9), (1, none)]), (2, [(0, some 9), (1, none), (11, none)]), (3, [(4, none)]), (4, [(0, some 9), (1, none), (5, none)]), (5, [(0, some 9), (1, none), (5, none), (15, none)]), (6, [(0, some 9), (1, none), (5, none)]), (7, [(0, some 9), (1, none), (5, none)]), (8, [(0, some 9), (1, none), (5, none), (26, none)]), (9, [(4, none)]), (10, [(4, none)])],
  [(0, [(1, none)]), (1, [(0, some 9), (1, none), (5, none)])],
  [(11, ([], [(0, some 9), (1, none)])), (15, ([(0, some 9), (1, none), (5, none)], [(1, none)])), (26, ([], [(0, some 9), (1, none), (5, none)]))]⟩
def z1 (k : Nat) : Calls' D := ⟨[], [], [], [], []⟩
theorem z2 (k : Nat) : CallsOK X (z1 k) := .nil cod
def z3 (x : (List (List UInt8)) × Int × Int × Unit) (o : Oc (Int) (Int)) (Q : Ex → VSt D → Prop) (R : VR D → Prop) : Prop := ocP o (fun v0 => Q .normal (mkSt ⟨[(1, .hole)], []⟩ [.int .i64 v0])) (fun w0 => R (.p (.c (.int .i64 w0))))
def z4 (k : Nat) : Cut D := cutS ⟨[(0, .hole), (1, .hole), (5, .hole)], []⟩ [.kl 9, .ki .i64, .ki .i64] (fun (x : (List (List UInt8)) × Int × Int × Unit) => L_szStringS_b0 k k x.1 x.2.1 x.2.2.1) z3
def z5 (k : Nat) : Cuts D := ⟨[], []⟩
theorem z6 (k : Nat) : CutFor X z0 k Go.Proofs.Tryz.f156.results.toList (z4 k) (sub (bodyOf Go.Proofs.Tryz.f156) [1, 1, 1, 0, 1]) :=
  loopCut_s (X := X) (sg := [.kl 9, .ki .i64, .ki .i64]) (cu := z5 k) (cl := z1 k) (tys := [[0]]) (id := 0) (c := sub (bodyOf Go.Proofs.Tryz.f156) [1, 1, 1, 0, 1, 0, 0]) (f := fun n => fun (x : (List (List UInt8)) × Int × Int × Unit) => L_szStringS_b0 k n x.1 x.2.1 x.2.2.1) (z2 k) (cutOK_of (l := []) (by kernel_rfl) trivial) (fun _ => rfl) (fun n x Q R h => by
    simp only [L_szStringS_b0, optK_bind, optK_bif, optK_pure, optK_none, optK_oc, optK_guardT, optK_map] at h
    refine hold_of h ?_
    kernel_rfl) (by kernel_rfl)
def z7 (k : Nat) : Cuts D := ⟨[(0, some (z4 k))], []⟩
def z8 : List Ar := [.c (.kl 9), .c (.ki .i64)]
def z9 (k : Nat) (x : TupA D z8) : Option (Int) := L_szStringS k x.1 x.2.1
def za (r : Int) : VR D := .p (.c (.int .i64 r))
theorem zb (k : Nat) : Does P X 156 z8 (z9 k) za :=
  does_of (body := bodyOf Go.Proofs.Tryz.f156) (pl := z0) (k := k) (cu := z7 k) (tys := [[0]]) (z2 k) ctx mixed Go.Proofs.Tryz.func156 (by kernel_rfl) (by kernel_rfl) (cutOK_of (l := [(z4 k, sub (bodyOf Go.Proofs.Tryz.f156) [1, 1, 1, 0, 1])]) (by kernel_rfl) ⟨z6 k, trivial⟩) fun x R h => by
    simp only [z9, L_szStringS, optK_bind, optK_bif, optK_pure, optK_none, optK_oc, optK_guardT, optK_map] at h
    refine hold_of h ?_
    kernel_rfl
def zc (k : Nat) : Entry D := entS z8 (z9 k) za
theorem zd (k : Nat) : EntryOK X 156 (zc k) := (zb k).en rfl
def ze : Plan := ⟨[(0, [(1, none), (2, none)]), (1, [(1, none)]), (2, [(1, none), (11, none)]), (3, [(4, none)]), (4, [(4, none)])],
  [],
  [(11, ([], [(1, none)]))]⟩
def zf (k : Nat) : Calls' D := ⟨[], [], [], [], []⟩
theorem zg (k : Nat) : CallsOK X (zf k) := .nil cod
def zh (k : Nat) : Cuts D := ⟨[], []⟩
def zi : List Ar := [.a [.ki .i64, .ks, .kb], .c (.ki .i64)]
def zj (k : Nat) (x : TupA D zi) : Option (Int) := L_szVersion k (⟨x.1.1, x.1.2.1, x.1.2.2.1⟩ : LVersion) x.2.1
def zk (r : Int) : VR D := .p (.c (.int .i64 r))
theorem zl (k : Nat) : Does P X 222 zi (zj k) zk :=
  does_of (body := bodyOf Go.Proofs.Tryz.f222) (pl := ze) (k := k) (cu := zh k) (tys := [[0]]) (zg k) ctx mixed Go.Proofs.Tryz.func222 (by kernel_rfl) (by kernel_rfl) (cutOK_of (l := []) (by kernel_rfl) trivial) fun x R h => by
    simp only [zj, L_szVersion, optK_bind, optK_bif, optK_pure, optK_none, optK_oc, optK_guardT, optK_map] at h
    refine hold_of h ?_
    kernel_rfl
def zm (k : Nat) : Entry D := entS zi (zj k) zk
theorem zn (k : Nat) : EntryOK X 222 (zm k) := (zl k).en rfl
def zo : Plan := ⟨[(0, [(0, some 210), (1, none)]), (1, [(0, some 210), (1, none)]), (2, [(0, some 210), (1, none), (11, none)]), (3, [(4, none)]), (4, [(0, some 210), (1, none), (5, none)]), (5, [(0, some 210), (1, none), (5, none), (15, none)]), (6, [(0, some 210), (1, none), (5, none)]), (7, [(0, some 210), (1, none), (5, none)]), (8, [(0, some 210), (1, none), (5, none), (25, none)]), (9, [(4, none)]), (10, [(4, none)])],
  [(0, [(1, none)]), (1, [(0, some 210), (1, none), (5, none)])],
  [(11, ([], [(0, some 210), (1, none)])), (15, ([(0, some 210), (1, none), (5, none)], [(1, none)])), (25, ([], [(0, some 210), (1, none), (5, none)]))]⟩
def zp (k : Nat) : Calls' D := ⟨[(222, zm k)], [], [], [], []⟩
theorem zq (k : Nat) : CallsOK X (zp k) := .cons (zn k) (.nil cod)
def zr (x : (List LVersion) × Int × Int × Unit) (o : Oc (Int) (Int)) (Q : Ex → VSt D → Prop) (R : VR D → Prop) : Prop := ocP o (fun v0 => Q .normal (mkSt ⟨[(1, .hole)], []⟩ [.int .i64 v0])) (fun w0 => R (.p (.c (.int .i64 w0))))
def zs (k : Nat) : Cut D := cutS ⟨[(0, .hole), (1, .hole), (5, .hole)], []⟩ [.kl 210, .ki .i64, .ki .i64] (fun (x : (List LVersion) × Int × Int × Unit) => L_szVersionS_b0 k k x.1 x.2.1 x.2.2.1) zr
def zt (k : Nat) : Cuts D := ⟨[], []⟩
theorem zu (k : Nat) : CutFor X zo k Go.Proofs.Tryz.f157.results.toList (zs k) (sub (bodyOf Go.Proofs.Tryz.f157) [1, 1, 1, 0, 1]) :=
  loopCut_s (X := X) (sg := [.kl 210, .ki .i64, .ki .i64]) (cu := zt k) (cl := zp k) (tys := [[0]]) (id := 0) (c := sub (bodyOf Go.Proofs.Tryz.f157) [1, 1, 1, 0, 1, 0, 0]) (f := fun n => fun (x : (List LVersion) × Int × Int × Unit) => L_szVersionS_b0 k n x.1 x.2.1 x.2.2.1) (zq k) (cutOK_of (l := []) (by kernel_rfl) trivial) (fun _ => rfl) (fun n x Q R h => by
    simp only [L_szVersionS_b0, optK_bind, optK_bif, optK_pure, optK_none, optK_oc, optK_guardT, optK_map] at h
    refine hold_of h ?_
    kernel_rfl) (by kernel_rfl)
def zv (k : Nat) : Cuts D := ⟨[(0, some (zs k))], []⟩
def zw : List Ar := [.c (.kl 210), .c (.ki .i64)]
def zx (k : Nat) (x : TupA D zw) : Option (Int) := L_szVersionS k x.1 x.2.1
def zy (r : Int) : VR D := .p (.c (.int .i64 r))
theorem zz (k : Nat) : Does P X 157 zw (zx k) zy :=
  does_of (body := bodyOf Go.Proofs.Tryz.f157) (pl := zo) (k := k) (cu := zv k) (tys := [[0]]) (zq k) ctx mixed Go.Proofs.Tryz.func157 (by kernel_rfl) (by kernel_rfl) (cutOK_of (l := [(zs k, sub (bodyOf Go.Proofs.Tryz.f157) [1, 1, 1, 0, 1])]) (by kernel_rfl) ⟨zu k, trivial⟩) fun x R h => by
    simp only [zx, L_szVersionS, optK_bind, optK_bif, optK_pure, optK_none, optK_oc, optK_guardT, optK_map] at h
    refine hold_of h ?_
    kernel_rfl
def z10 (k : Nat) : Entry D := entS zw (zx k) zy
theorem z11 (k : Nat) : EntryOK X 157 (z10 k) := (zz k).en rfl
def z12 : Plan := ⟨[(0, [(1, none), (2, none)]), (1, [(1, none), (2, none)]), (2, [(1, none), (2, none), (11, none)]), (3, [(4, none)]), (4, [(1, none), (2, none)]), (5, [(1, none), (2, none), (18, none)]), (6, [(4, none)]), (7, [(1, none), (2, none)]), (8, [(1, none), (2, none), (25, none)]), (9, [(4, none)]), (10, [(1, none), (2, none)]), (11, [(1, none), (2, none), (31, none)]), (12, [(4, none)]), (13, [(1, none)]), (14, [(1, none), (37, none)]), (15, [(4, none)]), (16, [(4, none)])],
  [],
  [(11, ([], [(1, none), (2, none)])), (18, ([], [(1, none), (2, none)])), (25, ([], [(1, none), (2, none)])), (31, ([], [(1, none), (2, none)])), (37, ([], [(1, none)]))]⟩
def z13 (k : Nat) : Calls' D := ⟨[(156, zc k), (157, z10 k)], [], [], [], []⟩
theorem z14 (k : Nat) : CallsOK X (z13 k) := .cons (zd k) (.cons (z11 k) (.nil cod))
def z15 (k : Nat) : Cuts D := ⟨[], []⟩
def z16 : List Ar := [.a [.ks, .ks, .ks, .kb, .kl 9, .kl 210], .c (.ki .i64)]
def z17 (k : Nat) (x : TupA D z16) : Option (Int) := L_szResource k (⟨x.1.1, x.1.2.1, x.1.2.2.1, x.1.2.2.2.1, x.1.2.2.2.2.1, x.1.2.2.2.2.2.1⟩ : LResource) x.2.1
def z18 (r : Int) : VR D := .p (.c (.int .i64 r))
theorem z19 (k : Nat) : Does P X 97 z16 (z17 k) z18 :=
  does_of (body := bodyOf Go.Proofs.Tryz.f97) (pl := z12) (k := k) (cu := z15 k) (tys := [[0]]) (z14 k) ctx mixed Go.Proofs.Tryz.func97 (by kernel_rfl) (by kernel_rfl) (cutOK_of (l := []) (by kernel_rfl) trivial) fun x R h => by
    simp only [z17, L_szResource, optK_bind, optK_bif, optK_pure, optK_none, optK_oc, optK_guardT, optK_map] at h
    refine hold_of h ?_
    kernel_rfl
def z1a (k : Nat) : Entry D := entS z16 (z17 k) z18
theorem z1b (k : Nat) : EntryOK X 97 (z1a k) := (z19 k).en rfl
def z1c : Plan := ⟨[(0, [(0, some 119), (1, none)]), (1, [(0, some 119), (1, none)]), (2, [(0, some 119), (1, none), (11, none)]), (3, [(4, none)]), (4, [(0, some 119), (1, none), (5, none)]), (5, [(0, some 119), (1, none), (5, none), (15, none)]), (6, [(0, some 119), (1, none), (5, none)]), (7, [(0, some 119), (1, none), (5, none)]), (8, [(0, some 119), (1, none), (5, none), (25, none)]), (9, [(4, none)]), (10, [(4, none)])],
  [(0, [(1, none)]), (1, [(0, some 119), (1, none), (5, none)])],
  [(11, ([], [(0, some 119), (1, none)])), (15, ([(0, some 119), (1, none), (5, none)], [(1, none)])), (25, ([], [(0, some 119), (1, none), (5, none)]))]⟩
def z1d (k : Nat) : Calls' D := ⟨[(97, z1a k)], [], [], [], []⟩
theorem z1e (k : Nat) : CallsOK X (z1d k) := .cons (z1b k) (.nil cod)
def z1f (x : (List LResource) × Int × Int × Unit) (o : Oc (Int) (Int)) (Q : Ex → VSt D → Prop) (R : VR D → Prop) : Prop := ocP o (fun v0 => Q .normal (mkSt ⟨[(1, .hole)], []⟩ [.int .i64 v0])) (fun w0 => R (.p (.c (.int .i64 w0))))
def z1g (k : Nat) : Cut D := cutS ⟨[(0, .hole), (1, .hole), (5, .hole)], []⟩ [.kl 119, .ki .i64, .ki .i64] (fun (x : (List LResource) × Int × Int × Unit) => L_szResourceS_b0 k k x.1 x.2.1 x.2.2.1) z1f
def z1h (k : Nat) : Cuts D := ⟨[], []⟩
theorem z1i (k : Nat) : CutFor X z1c k Go.Proofs.Tryz.f40.results.toList (z1g k) (sub (bodyOf Go.Proofs.Tryz.f40) [1, 1, 1, 0, 1]) :=
  loopCut_s (X := X) (sg := [.kl 119, .ki .i64, .ki .i64]) (cu := z1h k) (cl := z1d k) (tys := [[0]]) (id := 0) (c := sub (bodyOf Go.Proofs.Tryz.f40) [1, 1, 1, 0, 1, 0, 0]) (f := fun n => fun (x : (List LResource) × Int × Int × Unit) => L_szResourceS_b0 k n x.1 x.2.1 x.2.2.1) (z1e k) (cutOK_of (l := []) (by kernel_rfl) trivial) (fun _ => rfl) (fun n x Q R h => by
    simp only [L_szResourceS_b0, optK_bind, optK_bif, optK_pure, optK_none, optK_oc, optK_guardT, optK_map] at h
    refine hold_of h ?_
    kernel_rfl) (by kernel_rfl)
def z1j (k : Nat) : Cuts D := ⟨[(0, some (z1g k))], []⟩
def z1k : List Ar := [.c (.kl 119), .c (.ki .i64)]
def z1l (k : Nat) (x : TupA D z1k) : Option (Int) := L_szResourceS k x.1 x.2.1
def z1m (r : Int) : VR D := .p (.c (.int .i64 r))
theorem z1n (k : Nat) : Does P X 40 z1k (z1l k) z1m :=
  does_of (body := bodyOf Go.Proofs.Tryz.f40) (pl := z1c) (k := k) (cu := z1j k) (tys := [[0]]) (z1e k) ctx mixed Go.Proofs.Tryz.func40 (by kernel_rfl) (by kernel_rfl) (cutOK_of (l := [(z1g k, sub (bodyOf Go.Proofs.Tryz.f40) [1, 1, 1, 0, 1])]) (by kernel_rfl) ⟨z1i k, trivial⟩) fun x R h => by
    simp only [z1l, L_szResourceS, optK_bind, optK_bif, optK_pure, optK_none, optK_oc, optK_guardT, optK_map] at h
    refine hold_of h ?_
    kernel_rfl
def z1o (k : Nat) : Entry D := entS z1k (z1l k) z1m
theorem z1p (k : Nat) : EntryOK X 40 (z1o k) := (z1n k).en rfl
def z1q : Plan := ⟨[(0, [(1, none), (2, none)]), (1, [(1, none), (2, none)]), (2, [(1, none), (2, none), (11, none)]), (3, [(4, none)]), (4, [(1, none)]), (5, [(1, none), (17, none)]), (6, [(4, none)]), (7, [(4, none)])],
  [],
  [(11, ([], [(1, none), (2, none)])), (17, ([], [(1, none)]))]⟩
def z1r (k : Nat) : Calls' D := ⟨[(40, z1o k)], [], [], [], []⟩
theorem z1s (k : Nat) : CallsOK X (z1r k) := .cons (z1p k) (.nil cod)
def z1t (k : Nat) : Cuts D := ⟨[], []⟩
def z1u : List Ar := [.a [.ks, .kl 119], .c (.ki .i64)]
def z1v (k : Nat) (x : TupA D z1u) : Option (Int) := L_szOrigin k (⟨x.1.1, x.1.2.1⟩ : LOrigin) x.2.1
def z1w (r : Int) : VR D := .p (.c (.int .i64 r))
theorem z1x (k : Nat) : Does P X 15 z1u (z1v k) z1w :=
  does_of (body := bodyOf Go.Proofs.Tryz.f15) (pl := z1q) (k := k) (cu := z1t k) (tys := [[0]]) (z1s k) ctx mixed Go.Proofs.Tryz.func15 (by kernel_rfl) (by kernel_rfl) (cutOK_of (l := []) (by kernel_rfl) trivial) fun x R h => by
    simp only [z1v, L_szOrigin, optK_bind, optK_bif, optK_pure, optK_none, optK_oc, optK_guardT, optK_map] at h
    refine hold_of h ?_
    kernel_rfl
def z1y (k : Nat) : Entry D := entS z1u (z1v k) z1w
theorem z1z (k : Nat) : EntryOK X 15 (z1y k) := (z1x k).en rfl
def z20 : Plan := ⟨[(0, [(0, some 9)]), (1, [(0, some 9), (3, some 9)]), (2, [(0, some 9), (3, some 9), (4, none)]), (3, [(0, some 9), (3, some 9), (4, none), (11, none)]), (4, [(0, some 9), (3, some 9), (4, none)]), (5, [(0, some 9), (3, some 9), (4, none)]), (6, [(2, some 9)])],
  [(0, [(3, some 9)]), (1, [(0, some 9), (3, some 9), (4, none)])],
  [(11, ([(0, some 9), (3, some 9), (4, none)], [(3, some 9)]))]⟩
def z21 (k : Nat) : Calls' D := ⟨[], [], [], [], []⟩
theorem z22 (k : Nat) : CallsOK X (z21 k) := .nil cod
def z23 (x : (List (List UInt8)) × Int × (List (List UInt8)) × Unit) (o : (List (List UInt8))) (Q : Ex → VSt D → Prop) (R : VR D → Prop) : Prop := Q .normal (mkSt ⟨[(3, .ref 500003)], [(500003, .row)]⟩ [.sl 9 o])
def z24 (k : Nat) : Cut D := cutS ⟨[(0, .hole), (3, .ref 500003), (4, .hole)], [(500003, .row)]⟩ [.kl 9, .ki .i64, .kl 9] (fun (x : (List (List UInt8)) × Int × (List (List UInt8)) × Unit) => L_toStringS_b0 k k x.1 x.2.1 x.2.2.1) z23
def z25 (k : Nat) : Cuts D := ⟨[], []⟩
theorem z26 (k : Nat) : CutFor X z20 k Go.Proofs.Tryz.f160.results.toList (z24 k) (sub (bodyOf Go.Proofs.Tryz.f160) [1, 1, 0, 1]) :=
  loopCut_s (X := X) (sg := [.kl 9, .ki .i64, .kl 9]) (cu := z25 k) (cl := z21 k) (tys := [[9]]) (id := 0) (c := sub (bodyOf Go.Proofs.Tryz.f160) [1, 1, 0, 1, 0, 0]) (f := fun n => fun (x : (List (List UInt8)) × Int × (List (List UInt8)) × Unit) => L_toStringS_b0 k n x.1 x.2.1 x.2.2.1) (z22 k) (cutOK_of (l := []) (by kernel_rfl) trivial) (fun _ => rfl) (fun n x Q R h => by
    simp only [L_toStringS_b0, optK_bind, optK_bif, optK_pure, optK_none, optK_oc, optK_guardT, optK_map] at h
    refine hold_of h ?_
    kernel_rfl) (by kernel_rfl)
def z27 (k : Nat) : Cuts D := ⟨[(0, some (z24 k))], []⟩
def z28 : List Ar := [.c (.kl 9)]
def z29 (k : Nat) (x : TupA D z28) : Option ((List (List UInt8))) := L_toStringS k x.1
def z2a (r : (List (List UInt8))) : VR D := .p (.c (.sl 9 r))
theorem z2b (k : Nat) : Does P X 160 z28 (z29 k) z2a :=
  does_of (body := bodyOf Go.Proofs.Tryz.f160) (pl := z20) (k := k) (cu := z27 k) (tys := [[9]]) (z22 k) ctx mixed Go.Proofs.Tryz.func160 (by kernel_rfl) (by kernel_rfl) (cutOK_of (l := [(z24 k, sub (bodyOf Go.Proofs.Tryz.f160) [1, 1, 0, 1])]) (by kernel_rfl) ⟨z26 k, trivial⟩) fun x R h => by
    simp only [z29, L_toStringS, optK_bind, optK_bif, optK_pure, optK_none, optK_oc, optK_guardT, optK_map] at h
    refine hold_of h ?_
    kernel_rfl
def z2c (k : Nat) : Entry D := entS z28 (z29 k) z2a
theorem z2d (k : Nat) : EntryOK X 160 (z2c k) := (z2b k).en rfl
def z2e : Plan := ⟨[(0, [(1, none), (2, none)]), (1, [(1, none), (2, none), (3, none)]), (2, [(1, none), (2, none), (3, none)]), (3, [(1, none), (2, none), (3, none)]), (4, [(2, none), (3, none)]), (5, [(2, none)])],
  [],
  []⟩
def z2f (k : Nat) : Calls' D := ⟨[], [], [], [], []⟩
theorem z2g (k : Nat) : CallsOK X (z2f k) := .nil cod
def z2h (k : Nat) : Cuts D := ⟨[], []⟩
def z2i : List Ar := [.a [.ki .i64, .ks, .kb]]
def z2j (k : Nat) (x : TupA D z2i) : Option (IVersion) := L_toVersion k (⟨x.1.1, x.1.2.1, x.1.2.2.1⟩ : LVersion)
def z2k (r : IVersion) : VR D := .p (.agg [.int .i64 r.At, .str r.Text, .bool r.Gone])
theorem z2l (k : Nat) : Does P X 224 z2i (z2j k) z2k :=
  does_of (body := bodyOf Go.Proofs.Tryz.f224) (pl := z2e) (k := k) (cu := z2h k) (tys := [[0, 0, 0]]) (z2g k) ctx mixed Go.Proofs.Tryz.func224 (by kernel_rfl) (by kernel_rfl) (cutOK_of (l := []) (by kernel_rfl) trivial) fun x R h => by
    simp only [z2j, L_toVersion, optK_bind, optK_bif, optK_pure, optK_none, optK_oc, optK_guardT, optK_map] at h
    refine hold_of h ?_
    kernel_rfl
def z2m (k : Nat) : Entry D := entS z2i (z2j k) z2k
theorem z2n (k : Nat) : EntryOK X 224 (z2m k) := (z2l k).en rfl
def z2o : Plan := ⟨[(0, [(0, some 210)]), (1, [(0, some 210), (3, some 121)]), (2, [(0, some 210), (3, some 121), (4, none)]), (3, [(0, some 210), (3, some 121), (4, none), (11, none)]), (4, [(0, some 210), (3, some 121), (4, none)]), (5, [(0, some 210), (3, some 121), (4, none)]), (6, [(2, some 121)])],
  [(0, [(3, some 121)]), (1, [(0, some 210), (3, some 121), (4, none)])],
  [(11, ([(0, some 210), (3, some 121), (4, none)], [(3, some 121)]))]⟩
def z2p (k : Nat) : Calls' D := ⟨[(224, z2m k)], [], [], [], []⟩
theorem z2q (k : Nat) : CallsOK X (z2p k) := .cons (z2n k) (.nil cod)
def z2r (x : (List LVersion) × Int × (List IVersion) × Unit) (o : (List IVersion)) (Q : Ex → VSt D → Prop) (R : VR D → Prop) : Prop := Q .normal (mkSt ⟨[(3, .ref 500003)], [(500003, .row)]⟩ [.sl 121 o])
def z2s (k : Nat) : Cut D := cutS ⟨[(0, .hole), (3, .ref 500003), (4, .hole)], [(500003, .row)]⟩ [.kl 210, .ki .i64, .kl 121] (fun (x : (List LVersion) × Int × (List IVersion) × Unit) => L_toVersionS_b0 k k x.1 x.2.1 x.2.2.1) z2r
def z2t (k : Nat) : Cuts D := ⟨[], []⟩
theorem z2u (k : Nat) : CutFor X z2o k Go.Proofs.Tryz.f161.results.toList (z2s k) (sub (bodyOf Go.Proofs.Tryz.f161) [1, 1, 0, 1]) :=
  loopCut_s (X := X) (sg := [.kl 210, .ki .i64, .kl 121]) (cu := z2t k) (cl := z2p k) (tys := [[121]]) (id := 0) (c := sub (bodyOf Go.Proofs.Tryz.f161) [1, 1, 0, 1, 0, 0]) (f := fun n => fun (x : (List LVersion) × Int × (List IVersion) × Unit) => L_toVersionS_b0 k n x.1 x.2.1 x.2.2.1) (z2q k) (cutOK_of (l := []) (by kernel_rfl) trivial) (fun _ => rfl) (fun n x Q R h => by
    simp only [L_toVersionS_b0, optK_bind, optK_bif, optK_pure, optK_none, optK_oc, optK_guardT, optK_map] at h
    refine hold_of h ?_
    kernel_rfl) (by kernel_rfl)
def z2v (k : Nat) : Cuts D := ⟨[(0, some (z2s k))], []⟩
def z2w : List Ar := [.c (.kl 210)]
def z2x (k : Nat) (x : TupA D z2w) : Option ((List IVersion)) := L_toVersionS k x.1
def z2y (r : (List IVersion)) : VR D := .p (.c (.sl 121 r))
theorem z2z (k : Nat) : Does P X 161 z2w (z2x k) z2y :=
  does_of (body := bodyOf Go.Proofs.Tryz.f161) (pl := z2o) (k := k) (cu := z2v k) (tys := [[121]]) (z2q k) ctx mixed Go.Proofs.Tryz.func161 (by kernel_rfl) (by kernel_rfl) (cutOK_of (l := [(z2s k, sub (bodyOf Go.Proofs.Tryz.f161) [1, 1, 0, 1])]) (by kernel_rfl) ⟨z2u k, trivial⟩) fun x R h => by
    simp only [z2x, L_toVersionS, optK_bind, optK_bif, optK_pure, optK_none, optK_oc, optK_guardT, optK_map] at h
    refine hold_of h ?_
    kernel_rfl
def z30 (k : Nat) : Entry D := entS z2w (z2x k) z2y
theorem z31 (k : Nat) : EntryOK X 161 (z30 k) := (z2z k).en rfl
def z32 : Plan := ⟨[(0, [(1, none), (2, none)]), (1, [(1, none), (2, none), (3, none)]), (2, [(1, none), (2, none), (3, none)]), (3, [(1, none), (2, none), (3, none)]), (4, [(1, none), (2, none), (3, none)]), (5, [(1, none), (2, none), (3, none)]), (6, [(1, none), (2, none), (3, none)]), (7, [(2, none), (3, none)]), (8, [(2, none)])],
  [],
  []⟩
def z33 (k : Nat) : Calls' D := ⟨[(160, z2c k), (161, z30 k)], [], [], [], []⟩
theorem z34 (k : Nat) : CallsOK X (z33 k) := .cons (z2d k) (.cons (z31 k) (.nil cod))
def z35 (k : Nat) : Cuts D := ⟨[], []⟩
def z36 : List Ar := [.a [.ks, .ks, .ks, .kb, .kl 9, .kl 210]]
def z37 (k : Nat) (x : TupA D z36) : Option (IResource) := L_toResource k (⟨x.1.1, x.1.2.1, x.1.2.2.1, x.1.2.2.2.1, x.1.2.2.2.2.1, x.1.2.2.2.2.2.1⟩ : LResource)
def z38 (r : IResource) : VR D := .p (.agg [.str r.Target, .str r.Control, .str r.Keys, .bool r.Private, .sl 9 r.Langs, .sl 121 r.Versions])
theorem z39 (k : Nat) : Does P X 102 z36 (z37 k) z38 :=
  does_of (body := bodyOf Go.Proofs.Tryz.f102) (pl := z32) (k := k) (cu := z35 k) (tys := [[0, 0, 0, 0, 9, 121]]) (z34 k) ctx mixed Go.Proofs.Tryz.func102 (by kernel_rfl) (by kernel_rfl) (cutOK_of (l := []) (by kernel_rfl) trivial) fun x R h => by
    simp only [z37, L_toResource, optK_bind, optK_bif, optK_pure, optK_none, optK_oc, optK_guardT, optK_map] at h
    refine hold_of h ?_
    kernel_rfl
def z3a (k : Nat) : Entry D := entS z36 (z37 k) z38
theorem z3b (k : Nat) : EntryOK X 102 (z3a k) := (z39 k).en rfl
def z3c : Plan := ⟨[(0, [(0, some 119)]), (1, [(0, some 119), (3, some 71)]), (2, [(0, some 119), (3, some 71), (4, none)]), (3, [(0, some 119), (3, some 71), (4, none), (11, none)]), (4, [(0, some 119), (3, some 71), (4, none)]), (5, [(0, some 119), (3, some 71), (4, none)]), (6, [(2, some 71)])],
  [(0, [(3, some 71)]), (1, [(0, some 119), (3, some 71), (4, none)])],
  [(11, ([(0, some 119), (3, some 71), (4, none)], [(3, some 71)]))]⟩
def z3d (k : Nat) : Calls' D := ⟨[(102, z3a k)], [], [], [], []⟩
theorem z3e (k : Nat) : CallsOK X (z3d k) := .cons (z3b k) (.nil cod)
def z3f (x : (List LResource) × Int × (List IResource) × Unit) (o : (List IResource)) (Q : Ex → VSt D → Prop) (R : VR D → Prop) : Prop := Q .normal (mkSt ⟨[(3, .ref 500003)], [(500003, .row)]⟩ [.sl 71 o])
def z3g (k : Nat) : Cut D := cutS ⟨[(0, .hole), (3, .ref 500003), (4, .hole)], [(500003, .row)]⟩ [.kl 119, .ki .i64, .kl 71] (fun (x : (List LResource) × Int × (List IResource) × Unit) => L_toResourceS_b0 k k x.1 x.2.1 x.2.2.1) z3f
def z3h (k : Nat) : Cuts D := ⟨[], []⟩
theorem z3i (k : Nat) : CutFor X z3c k Go.Proofs.Tryz.f43.results.toList (z3g k) (sub (bodyOf Go.Proofs.Tryz.f43) [1, 1, 0, 1]) :=
  loopCut_s (X := X) (sg := [.kl 119, .ki .i64, .kl 71]) (cu := z3h k) (cl := z3d k) (tys := [[71]]) (id := 0) (c := sub (bodyOf Go.Proofs.Tryz.f43) [1, 1, 0, 1, 0, 0]) (f := fun n => fun (x : (List LResource) × Int × (List IResource) × Unit) => L_toResourceS_b0 k n x.1 x.2.1 x.2.2.1) (z3e k) (cutOK_of (l := []) (by kernel_rfl) trivial) (fun _ => rfl) (fun n x Q R h => by
    simp only [L_toResourceS_b0, optK_bind, optK_bif, optK_pure, optK_none, optK_oc, optK_guardT, optK_map] at h
    refine hold_of h ?_
    kernel_rfl) (by kernel_rfl)
def z3j (k : Nat) : Cuts D := ⟨[(0, some (z3g k))], []⟩
def z3k : List Ar := [.c (.kl 119)]
def z3l (k : Nat) (x : TupA D z3k) : Option ((List IResource)) := L_toResourceS k x.1
def z3m (r : (List IResource)) : VR D := .p (.c (.sl 71 r))
theorem z3n (k : Nat) : Does P X 43 z3k (z3l k) z3m :=
  does_of (body := bodyOf Go.Proofs.Tryz.f43) (pl := z3c) (k := k) (cu := z3j k) (tys := [[71]]) (z3e k) ctx mixed Go.Proofs.Tryz.func43 (by kernel_rfl) (by kernel_rfl) (cutOK_of (l := [(z3g k, sub (bodyOf Go.Proofs.Tryz.f43) [1, 1, 0, 1])]) (by kernel_rfl) ⟨z3i k, trivial⟩) fun x R h => by
    simp only [z3l, L_toResourceS, optK_bind, optK_bif, optK_pure, optK_none, optK_oc, optK_guardT, optK_map] at h
    refine hold_of h ?_
    kernel_rfl
def z3o (k : Nat) : Entry D := entS z3k (z3l k) z3m
theorem z3p (k : Nat) : EntryOK X 43 (z3o k) := (z3n k).en rfl
def z3q : Plan := ⟨[(0, [(1, none), (2, none)]), (1, [(1, none), (2, none), (3, none)]), (2, [(1, none), (2, none), (3, none)]), (3, [(2, none), (3, none)]), (4, [(2, none)])],
  [],
  []⟩
def z3r (k : Nat) : Calls' D := ⟨[(43, z3o k)], [], [], [], []⟩
theorem z3s (k : Nat) : CallsOK X (z3r k) := .cons (z3p k) (.nil cod)
def z3t (k : Nat) : Cuts D := ⟨[], []⟩
def z3u : List Ar := [.a [.ks, .kl 119]]
def z3v (k : Nat) (x : TupA D z3u) : Option (IOrigin) := L_toOrigin k (⟨x.1.1, x.1.2.1⟩ : LOrigin)
def z3w (r : IOrigin) : VR D := .p (.agg [.str r.Host, .sl 71 r.Resources])
theorem z3x (k : Nat) : Does P X 17 z3u (z3v k) z3w :=
  does_of (body := bodyOf Go.Proofs.Tryz.f17) (pl := z3q) (k := k) (cu := z3t k) (tys := [[0, 71]]) (z3s k) ctx mixed Go.Proofs.Tryz.func17 (by kernel_rfl) (by kernel_rfl) (cutOK_of (l := []) (by kernel_rfl) trivial) fun x R h => by
    simp only [z3v, L_toOrigin, optK_bind, optK_bif, optK_pure, optK_none, optK_oc, optK_guardT, optK_map] at h
    refine hold_of h ?_
    kernel_rfl
def z3y (k : Nat) : Entry D := entS z3u (z3v k) z3w
theorem z3z (k : Nat) : EntryOK X 17 (z3y k) := (z3x k).en rfl
def z40 : Plan := ⟨[(0, [(0, none), (1, none), (2, none)]), (1, [(6, none)])],
  [],
  []⟩
def z41 (k : Nat) : Calls' D := ⟨[], [], [], [], []⟩
theorem z42 (k : Nat) : CallsOK X (z41 k) := .nil cod
def z43 (k : Nat) : Cuts D := ⟨[], []⟩
def z44 : List Ar := [.c (.ki .i64), .c (.ki .i64), .c (.ki .i64)]
def z45 (k : Nat) (x : TupA D z44) : Option (Bool) := S_l1In k x.1 x.2.1 x.2.2.1
def z46 (r : Bool) : VR D := .p (.c (.bool r))
theorem z47 (k : Nat) : Does P X 78 z44 (z45 k) z46 :=
  does_of (body := bodyOf Go.Proofs.Tryz.f78) (pl := z40) (k := k) (cu := z43 k) (tys := [[0]]) (z42 k) ctx mixed Go.Proofs.Tryz.func78 (by kernel_rfl) (by kernel_rfl) (cutOK_of (l := []) (by kernel_rfl) trivial) fun x R h => by
    simp only [z45, S_l1In, optK_bind, optK_bif, optK_pure, optK_none, optK_oc, optK_guardT, optK_map] at h
    refine hold_of h ?_
    kernel_rfl
def z48 (k : Nat) : Entry D := entS z44 (z45 k) z46
theorem z49 (k : Nat) : EntryOK X 78 (z48 k) := (z47 k).en rfl
def z4a : Plan := ⟨[(0, [(0, none)]), (1, [(2, none)])],
  [],
  []⟩
def z4b (k : Nat) : Calls' D := ⟨[(78, z48 k)], [], [], [], []⟩
theorem z4c (k : Nat) : CallsOK X (z4b k) := .cons (z49 k) (.nil cod)
def z4d (k : Nat) : Cuts D := ⟨[], []⟩
def z4e : List Ar := [.c (.ki .u8)]
def z4f (k : Nat) (x : TupA D z4e) : Option (Bool) := S_l4Letter k x.1
def z4g (r : Bool) : VR D := .p (.c (.bool r))
theorem z4h (k : Nat) : Does P X 137 z4e (z4f k) z4g :=
  does_of (body := bodyOf Go.Proofs.Tryz.f137) (pl := z4a) (k := k) (cu := z4d k) (tys := [[0]]) (z4c k) ctx mixed Go.Proofs.Tryz.func137 (by kernel_rfl) (by kernel_rfl) (cutOK_of (l := []) (by kernel_rfl) trivial) fun x R h => by
    simp only [z4f, S_l4Letter, optK_bind, optK_bif, optK_pure, optK_none, optK_oc, optK_guardT, optK_map] at h
    refine hold_of h ?_
    kernel_rfl
def z4i (k : Nat) : Entry D := entS z4e (z4f k) z4g
theorem z4j (k : Nat) : EntryOK X 137 (z4i k) := (z4h k).en rfl
def z4k : Plan := ⟨[(0, [(0, none)]), (1, [(0, none), (3, none)]), (2, [(0, none), (3, none), (5, none)]), (3, [(0, none), (3, none)]), (4, [(0, none), (3, none), (11, none)]), (5, [(2, none)]), (6, [(2, none)])],
  [(0, [(0, none)]), (1, [(0, none), (3, none)])],
  [(5, ([(0, none), (3, none)], [(0, none)])), (11, ([], [(0, none), (3, none)]))]⟩
def z4l (k : Nat) : Calls' D := ⟨[(137, z4i k)], [], [], [], []⟩
theorem z4m (k : Nat) : CallsOK X (z4l k) := .cons (z4j k) (.nil cod)
def z4n (x : Int × Int × Unit) (o : Oc (Unit) (Bool)) (Q : Ex → VSt D → Prop) (R : VR D → Prop) : Prop := ocP o (fun v0 => Q .normal (mkSt ⟨[(0, .hole)], []⟩ [.int .u8 x.1])) (fun w0 => R (.p (.c (.bool w0))))
def z4o (k : Nat) : Cut D := cutS ⟨[(0, .hole), (3, .hole)], []⟩ [.ki .u8, .ki .i64] (fun (x : Int × Int × Unit) => S_l4Token_b0 k k x.1 x.2.1) z4n
def z4p (k : Nat) : Cuts D := ⟨[], []⟩
theorem z4q (k : Nat) : CutFor X z4k k Go.Proofs.Tryz.f139.results.toList (z4o k) (sub (bodyOf Go.Proofs.Tryz.f139) [1, 0, 1]) :=
  loopCut_s (X := X) (sg := [.ki .u8, .ki .i64]) (cu := z4p k) (cl := z4l k) (tys := [[0]]) (id := 0) (c := sub (bodyOf Go.Proofs.Tryz.f139) [1, 0, 1, 0, 0]) (f := fun n => fun (x : Int × Int × Unit) => S_l4Token_b0 k n x.1 x.2.1) (z4m k) (cutOK_of (l := []) (by kernel_rfl) trivial) (fun _ => rfl) (fun n x Q R h => by
    simp only [S_l4Token_b0, optK_bind, optK_bif, optK_pure, optK_none, optK_oc, optK_guardT, optK_map] at h
    refine hold_of h ?_
    kernel_rfl) (by kernel_rfl)
def z4r (k : Nat) : Cuts D := ⟨[(0, some (z4o k))], []⟩
def z4s : List Ar := [.c (.ki .u8)]
def z4t (k : Nat) (x : TupA D z4s) : Option (Bool) := S_l4Token k x.1
def z4u (r : Bool) : VR D := .p (.c (.bool r))
theorem z4v (k : Nat) : Does P X 139 z4s (z4t k) z4u :=
  does_of (body := bodyOf Go.Proofs.Tryz.f139) (pl := z4k) (k := k) (cu := z4r k) (tys := [[0]]) (z4m k) ctx mixed Go.Proofs.Tryz.func139 (by kernel_rfl) (by kernel_rfl) (cutOK_of (l := [(z4o k, sub (bodyOf Go.Proofs.Tryz.f139) [1, 0, 1])]) (by kernel_rfl) ⟨z4q k, trivial⟩) fun x R h => by
    simp only [z4t, S_l4Token, optK_bind, optK_bif, optK_pure, optK_none, optK_oc, optK_guardT, optK_map] at h
    refine hold_of h ?_
    kernel_rfl
def z4w (k : Nat) : Entry D := entS z4s (z4t k) z4u
theorem z4x (k : Nat) : EntryOK X 139 (z4w k) := (z4v k).en rfl
def z4y : Plan := ⟨[(0, [(0, none)]), (1, [(0, none), (3, none)]), (2, [(0, none), (3, none), (7, none)]), (3, [(0, none), (3, none)]), (4, [(0, none), (3, none), (14, none)]), (5, [(2, none)]), (6, [(2, none)])],
  [(0, [(0, none)]), (1, [(0, none), (3, none)])],
  [(7, ([(0, none), (3, none)], [(0, none)])), (14, ([], [(0, none), (3, none)]))]⟩
def z4z (k : Nat) : Calls' D := ⟨[(139, z4w k), (78, z48 k)], [], [], [], []⟩
theorem z50 (k : Nat) : CallsOK X (z4z k) := .cons (z4x k) (.cons (z49 k) (.nil cod))
def z51 (x : (List UInt8) × Int × Unit) (o : Oc (Unit) (Bool)) (Q : Ex → VSt D → Prop) (R : VR D → Prop) : Prop := ocP o (fun v0 => Q .normal (mkSt ⟨[(0, .hole)], []⟩ [.str x.1])) (fun w0 => R (.p (.c (.bool w0))))
def z52 (k : Nat) : Cut D := cutS ⟨[(0, .hole), (3, .hole)], []⟩ [.ks, .ki .i64] (fun (x : (List UInt8) × Int × Unit) => S_IsToken_b0 k k x.1 x.2.1) z51
def z53 (k : Nat) : Cuts D := ⟨[], []⟩
theorem z54 (k : Nat) : CutFor X z4y k Go.Proofs.Tryz.f79.results.toList (z52 k) (sub (bodyOf Go.Proofs.Tryz.f79) [1, 0, 1]) :=
  loopCut_s (X := X) (sg := [.ks, .ki .i64]) (cu := z53 k) (cl := z4z k) (tys := [[0]]) (id := 0) (c := sub (bodyOf Go.Proofs.Tryz.f79) [1, 0, 1, 0, 0]) (f := fun n => fun (x : (List UInt8) × Int × Unit) => S_IsToken_b0 k n x.1 x.2.1) (z50 k) (cutOK_of (l := []) (by kernel_rfl) trivial) (fun _ => rfl) (fun n x Q R h => by
    simp only [S_IsToken_b0, optK_bind, optK_bif, optK_pure, optK_none, optK_oc, optK_guardT, optK_map] at h
    refine hold_of h ?_
    kernel_rfl) (by kernel_rfl)
def z55 (k : Nat) : Cuts D := ⟨[(0, some (z52 k))], []⟩
def z56 : List Ar := [.c (.ks)]
def z57 (k : Nat) (x : TupA D z56) : Option (Bool) := S_IsToken k x.1
def z58 (r : Bool) : VR D := .p (.c (.bool r))
theorem z59 (k : Nat) : Does P X 79 z56 (z57 k) z58 :=
  does_of (body := bodyOf Go.Proofs.Tryz.f79) (pl := z4y) (k := k) (cu := z55 k) (tys := [[0]]) (z50 k) ctx mixed Go.Proofs.Tryz.func79 (by kernel_rfl) (by kernel_rfl) (cutOK_of (l := [(z52 k, sub (bodyOf Go.Proofs.Tryz.f79) [1, 0, 1])]) (by kernel_rfl) ⟨z54 k, trivial⟩) fun x R h => by
    simp only [z57, S_IsToken, optK_bind, optK_bif, optK_pure, optK_none, optK_oc, optK_guardT, optK_map] at h
    refine hold_of h ?_
    kernel_rfl
def z5a (k : Nat) : Entry D := entS z56 (z57 k) z58
theorem z5b (k : Nat) : EntryOK X 79 (z5a k) := (z59 k).en rfl
def z5c : Plan := ⟨[(0, [(0, none)]), (1, [(3, some 5)]), (2, [(3, some 5), (4, none)]), (3, [(3, some 5), (4, none), (10, none)]), (4, [(3, some 5), (4, none)]), (5, [(3, some 5), (4, none), (18, none)]), (6, [(3, some 5), (4, none)]), (7, [(2, none)])],
  [(0, [(3, some 5)]), (1, [(3, some 5), (4, none)])],
  [(10, ([(3, some 5), (4, none)], [(3, some 5)])), (18, ([(3, some 5), (4, none)], [(3, some 5), (4, none)]))]⟩
def z5d (k : Nat) : Calls' D := ⟨[(78, z48 k)], [], [], [], []⟩
theorem z5e (k : Nat) : CallsOK X (z5d k) := .cons (z49 k) (.nil cod)
def z5f (x : Int × Bool × (List Int) × Unit) (o : (List Int)) (Q : Ex → VSt D → Prop) (R : VR D → Prop) : Prop := Q .normal (mkSt ⟨[(3, .ref 500003), (4, .hole)], [(500003, .row)]⟩ [.int .i64 x.1, .sl 5 o])
def z5g (k : Nat) : Cut D := cutS ⟨[(3, .ref 500003), (4, .hole), (18, .hole)], [(500003, .row)]⟩ [.ki .i64, .kb, .kl 5] (fun (x : Int × Bool × (List Int) × Unit) => S_LowerText_c18 k x.1 x.2.1 x.2.2.1) z5f
def z5h (k : Nat) : Cuts D := ⟨[], []⟩
theorem z5i (k : Nat) : CutFor X z5c k Go.Proofs.Tryz.f158.results.toList (z5g k) (sub (bodyOf Go.Proofs.Tryz.f158) [1, 1, 0, 1, 0, 0, 1, 0, 0, 1]) :=
  joinCut_s (X := X) (sg := [.ki .i64, .kb, .kl 5]) (cu := z5h k) (cl := z5d k) (tys := [[0]]) (z5e k) (cutOK_of (l := []) (by kernel_rfl) trivial) fun x Q R h => by
    simp only [S_LowerText_c18, optK_bind, optK_bif, optK_pure, optK_none, optK_oc, optK_guardT, optK_map] at h
    refine hold_of h ?_
    kernel_rfl
def z5j (x : Int × (List Int) × Unit) (o : (List Int)) (Q : Ex → VSt D → Prop) (R : VR D → Prop) : Prop := Q .normal (mkSt ⟨[(3, .ref 500003), (4, .hole)], [(500003, .row)]⟩ [.int .i64 x.1, .sl 5 o])
def z5k (k : Nat) : Cut D := cutS ⟨[(3, .ref 500003), (4, .hole)], [(500003, .row)]⟩ [.ki .i64, .kl 5] (fun (x : Int × (List Int) × Unit) => S_LowerText_b1 k x.1 x.2.1) z5j
def z5l (k : Nat) : Cuts D := ⟨[], [(18, some (z5g k))]⟩
theorem z5m (k : Nat) : CutFor X z5c k Go.Proofs.Tryz.f158.results.toList (z5k k) (sub (bodyOf Go.Proofs.Tryz.f158) [1, 1, 0, 1, 0, 0, 1, 0]) :=
  joinCut_s (X := X) (sg := [.ki .i64, .kl 5]) (cu := z5l k) (cl := z5d k) (tys := [[0]]) (z5e k) (cutOK_of (l := [(z5g k, sub (bodyOf Go.Proofs.Tryz.f158) [1, 1, 0, 1, 0, 0, 1, 0, 0, 1])]) (by kernel_rfl) ⟨z5i k, trivial⟩) fun x Q R h => by
    simp only [S_LowerText_b1, optK_bind, optK_bif, optK_pure, optK_none, optK_oc, optK_guardT, optK_map] at h
    refine hold_of h ?_
    kernel_rfl
def z5n (x : Int × (List Int) × Unit) (o : (List Int)) (Q : Ex → VSt D → Prop) (R : VR D → Prop) : Prop := Q .normal (mkSt ⟨[(3, .ref 500003)], [(500003, .row)]⟩ [.sl 5 o])
def z5o (k : Nat) : Cut D := cutS ⟨[(3, .ref 500003), (4, .hole)], [(500003, .row)]⟩ [.ki .i64, .kl 5] (fun (x : Int × (List Int) × Unit) => S_LowerText_b0 k k x.1 x.2.1) z5n
def z5p (k : Nat) : Cuts D := ⟨[(1, some (z5k k))], []⟩
theorem z5q (k : Nat) : CutFor X z5c k Go.Proofs.Tryz.f158.results.toList (z5o k) (sub (bodyOf Go.Proofs.Tryz.f158) [1, 1, 0, 1]) :=
  loopCut_s (X := X) (sg := [.ki .i64, .kl 5]) (cu := z5p k) (cl := z5d k) (tys := [[0]]) (id := 0) (c := sub (bodyOf Go.Proofs.Tryz.f158) [1, 1, 0, 1, 0, 0]) (f := fun n => fun (x : Int × (List Int) × Unit) => S_LowerText_b0 k n x.1 x.2.1) (z5e k) (cutOK_of (l := [(z5k k, sub (bodyOf Go.Proofs.Tryz.f158) [1, 1, 0, 1, 0, 0, 1, 0])]) (by kernel_rfl) ⟨z5m k, trivial⟩) (fun _ => rfl) (fun n x Q R h => by
    simp only [S_LowerText_b0, optK_bind, optK_bif, optK_pure, optK_none, optK_oc, optK_guardT, optK_map] at h
    refine hold_of h ?_
    kernel_rfl) (by kernel_rfl)
def z5r (k : Nat) : Cuts D := ⟨[(0, some (z5o k))], []⟩
def z5s : List Ar := [.c (.ks)]
def z5t (k : Nat) (x : TupA D z5s) : Option ((List UInt8)) := S_LowerText k x.1
def z5u (r : (List UInt8)) : VR D := .p (.c (.str r))
theorem z5v (k : Nat) : Does P X 158 z5s (z5t k) z5u :=
  does_of (body := bodyOf Go.Proofs.Tryz.f158) (pl := z5c) (k := k) (cu := z5r k) (tys := [[0]]) (z5e k) ctx mixed Go.Proofs.Tryz.func158 (by kernel_rfl) (by kernel_rfl) (cutOK_of (l := [(z5o k, sub (bodyOf Go.Proofs.Tryz.f158) [1, 1, 0, 1])]) (by kernel_rfl) ⟨z5q k, trivial⟩) fun x R h => by
    simp only [z5t, S_LowerText, optK_bind, optK_bif, optK_pure, optK_none, optK_oc, optK_guardT, optK_map] at h
    refine hold_of h ?_
    kernel_rfl
def z5w (k : Nat) : Entry D := entS z5s (z5t k) z5u
theorem z5x (k : Nat) : EntryOK X 158 (z5w k) := (z5v k).en rfl
def z5y : Plan := ⟨[(0, [(0, none)]), (1, [(2, none)])],
  [],
  []⟩
def z5z (k : Nat) : Calls' D := ⟨[(79, z5a k), (158, z5w k)], [], [], [], []⟩
theorem z60 (k : Nat) : CallsOK X (z5z k) := .cons (z5b k) (.cons (z5x k) (.nil cod))
def z61 (k : Nat) : Cuts D := ⟨[], []⟩
def z62 : List Ar := [.c (.ks)]
def z63 (k : Nat) (x : TupA D z62) : Option (Bool) := S_l5Name k x.1
def z64 (r : Bool) : VR D := .p (.c (.bool r))
theorem z65 (k : Nat) : Does P X 98 z62 (z63 k) z64 :=
  does_of (body := bodyOf Go.Proofs.Tryz.f98) (pl := z5y) (k := k) (cu := z61 k) (tys := [[0]]) (z60 k) ctx mixed Go.Proofs.Tryz.func98 (by kernel_rfl) (by kernel_rfl) (cutOK_of (l := []) (by kernel_rfl) trivial) fun x R h => by
    simp only [z63, S_l5Name, optK_bind, optK_bif, optK_pure, optK_none, optK_oc, optK_guardT, optK_map] at h
    refine hold_of h ?_
    kernel_rfl
def z66 (k : Nat) : Entry D := entS z62 (z63 k) z64
theorem z67 (k : Nat) : EntryOK X 98 (z66 k) := (z65 k).en rfl
def z68 : Plan := ⟨[(0, [(0, none)]), (1, [(0, none), (5, none)]), (2, [(0, none), (5, none), (9, none)]), (3, [(0, none), (5, none)]), (4, [(0, none), (5, none), (15, none)]), (5, [(2, none), (3, none), (4, none)]), (6, [(2, none), (3, none), (4, none)])],
  [(0, [(0, none)]), (1, [(0, none), (5, none)])],
  [(9, ([(0, none), (5, none)], [(0, none)])), (15, ([(0, none), (5, none)], [(0, none), (5, none)]))]⟩
def z69 (k : Nat) : Calls' D := ⟨[], [], [], [], []⟩
theorem z6a (k : Nat) : CallsOK X (z69 k) := .nil cod
def z6b (x : (List UInt8) × Int × Unit) (o : Oc (Unit) ((List UInt8) × (List UInt8) × Bool)) (Q : Ex → VSt D → Prop) (R : VR D → Prop) : Prop := ocP o (fun v0 => Q .normal (mkSt ⟨[(0, .hole)], []⟩ [.str x.1])) (fun w0 => R (.tup [.c (.str w0.1), .c (.str w0.2.1), .c (.bool w0.2.2)]))
def z6c (k : Nat) : Cut D := cutS ⟨[(0, .hole), (5, .hole)], []⟩ [.ks, .ki .i64] (fun (x : (List UInt8) × Int × Unit) => S_SplitTarget_b0 k k x.1 x.2.1) z6b
def z6d (k : Nat) : Cuts D := ⟨[], []⟩
theorem z6e (k : Nat) : CutFor X z68 k Go.Proofs.Tryz.f74.results.toList (z6c k) (sub (bodyOf Go.Proofs.Tryz.f74) [1, 0, 1]) :=
  loopCut_s (X := X) (sg := [.ks, .ki .i64]) (cu := z6d k) (cl := z69 k) (tys := [[0], [0], [0]]) (id := 0) (c := sub (bodyOf Go.Proofs.Tryz.f74) [1, 0, 1, 0, 0]) (f := fun n => fun (x : (List UInt8) × Int × Unit) => S_SplitTarget_b0 k n x.1 x.2.1) (z6a k) (cutOK_of (l := []) (by kernel_rfl) trivial) (fun _ => rfl) (fun n x Q R h => by
    simp only [S_SplitTarget_b0, optK_bind, optK_bif, optK_pure, optK_none, optK_oc, optK_guardT, optK_map] at h
    refine hold_of h ?_
    kernel_rfl) (by kernel_rfl)
def z6f (k : Nat) : Cuts D := ⟨[(0, some (z6c k))], []⟩
def z6g : List Ar := [.c (.ks)]
def z6h (k : Nat) (x : TupA D z6g) : Option ((List UInt8) × (List UInt8) × Bool) := S_SplitTarget k x.1
def z6i (r : (List UInt8) × (List UInt8) × Bool) : VR D := .tup [.c (.str r.1), .c (.str r.2.1), .c (.bool r.2.2)]
theorem z6j (k : Nat) : Does P X 74 z6g (z6h k) z6i :=
  does_of (body := bodyOf Go.Proofs.Tryz.f74) (pl := z68) (k := k) (cu := z6f k) (tys := [[0], [0], [0]]) (z6a k) ctx mixed Go.Proofs.Tryz.func74 (by kernel_rfl) (by kernel_rfl) (cutOK_of (l := [(z6c k, sub (bodyOf Go.Proofs.Tryz.f74) [1, 0, 1])]) (by kernel_rfl) ⟨z6e k, trivial⟩) fun x R h => by
    simp only [z6h, S_SplitTarget, optK_bind, optK_bif, optK_pure, optK_none, optK_oc, optK_guardT, optK_map] at h
    refine hold_of h ?_
    kernel_rfl
def z6k (k : Nat) : Entry D := entS z6g (z6h k) z6i
theorem z6l (k : Nat) : EntryOK X 74 (z6k k) := (z6j k).en rfl
def z6m : Plan := ⟨[(0, [(0, none)]), (1, [(0, none), (3, none)]), (2, [(2, none)]), (3, [(0, none), (10, none)]), (4, [(2, none)]), (5, [(0, none), (18, none)]), (6, [(2, none)]), (7, [(2, none)])],
  [(0, [])],
  [(3, ([(0, none)], [(0, none)])), (10, ([(0, none)], [(0, none)])), (18, ([(0, none)], []))]⟩
def z6n (k : Nat) : Calls' D := ⟨[(78, z48 k)], [], [], [], []⟩
theorem z6o (k : Nat) : CallsOK X (z6n k) := .cons (z49 k) (.nil cod)
def z6p (k : Nat) : Cuts D := ⟨[], []⟩
def z6q : List Ar := [.c (.ki .u8)]
def z6r (k : Nat) (x : TupA D z6q) : Option (Int) := S_l12Hex k x.1
def z6s (r : Int) : VR D := .p (.c (.int .i64 r))
theorem z6t (k : Nat) : Does P X 136 z6q (z6r k) z6s :=
  does_of (body := bodyOf Go.Proofs.Tryz.f136) (pl := z6m) (k := k) (cu := z6p k) (tys := [[0]]) (z6o k) ctx mixed Go.Proofs.Tryz.func136 (by kernel_rfl) (by kernel_rfl) (cutOK_of (l := []) (by kernel_rfl) trivial) fun x R h => by
    simp only [z6r, S_l12Hex, optK_bind, optK_bif, optK_pure, optK_none, optK_oc, optK_guardT, optK_map] at h
    refine hold_of h ?_
    kernel_rfl
def z6u (k : Nat) : Entry D := entS z6q (z6r k) z6s
theorem z6v (k : Nat) : EntryOK X 136 (z6u k) := (z6t k).en rfl
def z6w : Plan := ⟨[(0, [(0, none)]), (1, [(0, none), (4, some 5)]), (2, [(0, none), (4, some 5), (5, none)]), (3, [(0, none), (4, some 5), (5, none), (11, none)]), (4, [(0, none), (4, some 5), (5, none)]), (5, [(0, none), (4, some 5), (5, none), (17, none)]), (6, [(0, none), (4, some 5), (5, none)]), (7, [(0, none), (4, some 5), (5, none), (44, none)]), (8, [(2, none), (3, none)]), (9, [(0, none), (4, some 5), (5, none), (6, none)]), (10, [(0, none), (4, some 5), (5, none), (6, none), (75, none)]), (11, [(0, none), (4, some 5), (5, none)]), (12, [(0, none), (4, some 5), (5, none)]), (13, [(0, none), (4, some 5), (5, none)]), (14, [(2, none), (3, none)])],
  [(0, [(4, some 5)]), (1, [(0, none), (4, some 5), (5, none)])],
  [(11, ([(0, none), (4, some 5), (5, none)], [(4, some 5)])), (17, ([(0, none), (4, some 5), (5, none)], [(0, none), (4, some 5), (5, none)])), (44, ([], [(0, none), (4, some 5), (5, none)])), (75, ([(0, none), (4, some 5), (5, none), (6, none)], [(0, none), (4, some 5), (5, none), (6, none)]))]⟩
def z6x (k : Nat) : Calls' D := ⟨[(136, z6u k), (137, z4i k)], [], [], [], []⟩
theorem z6y (k : Nat) : CallsOK X (z6x k) := .cons (z6v k) (.cons (z4j k) (.nil cod))
def z6z (x : (List UInt8) × Int × Int × Bool × (List Int) × Unit) (o : (List Int)) (Q : Ex → VSt D → Prop) (R : VR D → Prop) : Prop := Q .normal (mkSt ⟨[(0, .hole), (4, .ref 500004), (5, .hole)], [(500004, .row)]⟩ [.str x.1, .int .i64 x.2.1, .sl 5 o])
def z70 (k : Nat) : Cut D := cutS ⟨[(0, .hole), (4, .ref 500004), (5, .hole), (6, .hole), (75, .hole)], [(500004, .row)]⟩ [.ks, .ki .i64, .ki .u8, .kb, .kl 5] (fun (x : (List UInt8) × Int × Int × Bool × (List Int) × Unit) => S_l12Plain_c75 k x.1 x.2.1 x.2.2.1 x.2.2.2.1 x.2.2.2.2.1) z6z
def z71 (k : Nat) : Cuts D := ⟨[], []⟩
theorem z72 (k : Nat) : CutFor X z6w k Go.Proofs.Tryz.f75.results.toList (z70 k) (sub (bodyOf Go.Proofs.Tryz.f75) [1, 1, 0, 1, 0, 0, 1, 0, 0, 1, 1, 1, 0, 1]) :=
  joinCut_s (X := X) (sg := [.ks, .ki .i64, .ki .u8, .kb, .kl 5]) (cu := z71 k) (cl := z6x k) (tys := [[0], [0]]) (z6y k) (cutOK_of (l := []) (by kernel_rfl) trivial) fun x Q R h => by
    simp only [S_l12Plain_c75, optK_bind, optK_bif, optK_pure, optK_none, optK_oc, optK_guardT, optK_map] at h
    refine hold_of h ?_
    kernel_rfl
def z73 (x : (List UInt8) × Int × (List Int) × Unit) (o : Oc (Int × (List Int)) ((List UInt8) × Bool)) (Q : Ex → VSt D → Prop) (R : VR D → Prop) : Prop := ocP o (fun v0 => Q .normal (mkSt ⟨[(0, .hole), (4, .ref 500004), (5, .hole)], [(500004, .row)]⟩ [.str x.1, .int .i64 v0.1, .sl 5 v0.2])) (fun w0 => R (.tup [.c (.str w0.1), .c (.bool w0.2)]))
def z74 (k : Nat) : Cut D := cutS ⟨[(0, .hole), (4, .ref 500004), (5, .hole)], [(500004, .row)]⟩ [.ks, .ki .i64, .kl 5] (fun (x : (List UInt8) × Int × (List Int) × Unit) => S_l12Plain_b1 k x.1 x.2.1 x.2.2.1) z73
def z75 (k : Nat) : Cuts D := ⟨[], [(75, some (z70 k))]⟩
theorem z76 (k : Nat) : CutFor X z6w k Go.Proofs.Tryz.f75.results.toList (z74 k) (sub (bodyOf Go.Proofs.Tryz.f75) [1, 1, 0, 1, 0, 0, 1, 0]) :=
  joinCut_s (X := X) (sg := [.ks, .ki .i64, .kl 5]) (cu := z75 k) (cl := z6x k) (tys := [[0], [0]]) (z6y k) (cutOK_of (l := [(z70 k, sub (bodyOf Go.Proofs.Tryz.f75) [1, 1, 0, 1, 0, 0, 1, 0, 0, 1, 1, 1, 0, 1])]) (by kernel_rfl) ⟨z72 k, trivial⟩) fun x Q R h => by
    simp only [S_l12Plain_b1, optK_bind, optK_bif, optK_pure, optK_none, optK_oc, optK_guardT, optK_map] at h
    refine hold_of h ?_
    kernel_rfl
def z77 (x : (List UInt8) × Int × (List Int) × Unit) (o : Oc ((List Int)) ((List UInt8) × Bool)) (Q : Ex → VSt D → Prop) (R : VR D → Prop) : Prop := ocP o (fun v0 => Q .normal (mkSt ⟨[(4, .ref 500004)], [(500004, .row)]⟩ [.sl 5 v0])) (fun w0 => R (.tup [.c (.str w0.1), .c (.bool w0.2)]))
def z78 (k : Nat) : Cut D := cutS ⟨[(0, .hole), (4, .ref 500004), (5, .hole)], [(500004, .row)]⟩ [.ks, .ki .i64, .kl 5] (fun (x : (List UInt8) × Int × (List Int) × Unit) => S_l12Plain_b0 k k x.1 x.2.1 x.2.2.1) z77
def z79 (k : Nat) : Cuts D := ⟨[(1, some (z74 k))], []⟩
theorem z7a (k : Nat) : CutFor X z6w k Go.Proofs.Tryz.f75.results.toList (z78 k) (sub (bodyOf Go.Proofs.Tryz.f75) [1, 1, 0, 1]) :=
  loopCut_s (X := X) (sg := [.ks, .ki .i64, .kl 5]) (cu := z79 k) (cl := z6x k) (tys := [[0], [0]]) (id := 0) (c := sub (bodyOf Go.Proofs.Tryz.f75) [1, 1, 0, 1, 0, 0]) (f := fun n => fun (x : (List UInt8) × Int × (List Int) × Unit) => S_l12Plain_b0 k n x.1 x.2.1 x.2.2.1) (z6y k) (cutOK_of (l := [(z74 k, sub (bodyOf Go.Proofs.Tryz.f75) [1, 1, 0, 1, 0, 0, 1, 0])]) (by kernel_rfl) ⟨z76 k, trivial⟩) (fun _ => rfl) (fun n x Q R h => by
    simp only [S_l12Plain_b0, optK_bind, optK_bif, optK_pure, optK_none, optK_oc, optK_guardT, optK_map] at h
    refine hold_of h ?_
    kernel_rfl) (by kernel_rfl)
def z7b (k : Nat) : Cuts D := ⟨[(0, some (z78 k))], []⟩
def z7c : List Ar := [.c (.ks)]
def z7d (k : Nat) (x : TupA D z7c) : Option ((List UInt8) × Bool) := S_l12Plain k x.1
def z7e (r : (List UInt8) × Bool) : VR D := .tup [.c (.str r.1), .c (.bool r.2)]
theorem z7f (k : Nat) : Does P X 75 z7c (z7d k) z7e :=
  does_of (body := bodyOf Go.Proofs.Tryz.f75) (pl := z6w) (k := k) (cu := z7b k) (tys := [[0], [0]]) (z6y k) ctx mixed Go.Proofs.Tryz.func75 (by kernel_rfl) (by kernel_rfl) (cutOK_of (l := [(z78 k, sub (bodyOf Go.Proofs.Tryz.f75) [1, 1, 0, 1])]) (by kernel_rfl) ⟨z7a k, trivial⟩) fun x R h => by
    simp only [z7d, S_l12Plain, optK_bind, optK_bif, optK_pure, optK_none, optK_oc, optK_guardT, optK_map] at h
    refine hold_of h ?_
    kernel_rfl
def z7g (k : Nat) : Entry D := entS z7c (z7d k) z7e
theorem z7h (k : Nat) : EntryOK X 75 (z7g k) := (z7f k).en rfl
def z7i : Plan := ⟨[(0, [(0, none), (1, none)]), (1, [(0, none), (1, none), (5, some 9)]), (2, [(0, none), (1, none), (5, some 9), (6, none)]), (3, [(0, none), (1, none), (5, some 9), (6, none), (7, none)]), (4, [(0, none), (1, none), (5, some 9), (6, none), (7, none), (12, none)]), (5, [(0, none), (1, none), (5, some 9), (6, none), (7, none)]), (6, [(0, none), (1, none), (5, some 9), (6, none), (7, none), (19, none)]), (7, [(0, none), (1, none), (5, some 9), (7, none)]), (8, [(0, none), (1, none), (5, some 9), (6, none), (7, none)]), (9, [(4, some 9)])],
  [(0, [(0, none), (5, some 9), (6, none)]), (1, [(0, none), (1, none), (5, some 9), (6, none), (7, none)])],
  [(12, ([(0, none), (1, none), (5, some 9), (6, none), (7, none)], [(0, none), (5, some 9), (6, none)])), (19, ([(0, none), (1, none), (5, some 9), (6, none), (7, none)], [(0, none), (1, none), (5, some 9), (6, none), (7, none)]))]⟩
def z7j (k : Nat) : Calls' D := ⟨[], [], [], [], []⟩
theorem z7k (k : Nat) : CallsOK X (z7j k) := .nil cod
def z7l (x : (List UInt8) × Int × Int × Int × Bool × (List (List UInt8)) × Unit) (o : Int × (List (List UInt8))) (Q : Ex → VSt D → Prop) (R : VR D → Prop) : Prop := Q .normal (mkSt ⟨[(0, .hole), (1, .hole), (5, .ref 500005), (6, .hole), (7, .hole)], [(500005, .row)]⟩ [.str x.1, .int .u8 x.2.1, .int .i64 o.1, .int .i64 x.2.2.2.1, .sl 9 o.2])
def z7m (k : Nat) : Cut D := cutS ⟨[(0, .hole), (1, .hole), (5, .ref 500005), (6, .hole), (7, .hole), (19, .hole)], [(500005, .row)]⟩ [.ks, .ki .u8, .ki .i64, .ki .i64, .kb, .kl 9] (fun (x : (List UInt8) × Int × Int × Int × Bool × (List (List UInt8)) × Unit) => S_l12Split_c19 k x.1 x.2.1 x.2.2.1 x.2.2.2.1 x.2.2.2.2.1 x.2.2.2.2.2.1) z7l
def z7n (k : Nat) : Cuts D := ⟨[], []⟩
theorem z7o (k : Nat) : CutFor X z7i k Go.Proofs.Tryz.f138.results.toList (z7m k) (sub (bodyOf Go.Proofs.Tryz.f138) [1, 1, 1, 0, 1, 0, 0, 1, 0, 0, 1]) :=
  joinCut_s (X := X) (sg := [.ks, .ki .u8, .ki .i64, .ki .i64, .kb, .kl 9]) (cu := z7n k) (cl := z7j k) (tys := [[9]]) (z7k k) (cutOK_of (l := []) (by kernel_rfl) trivial) fun x Q R h => by
    simp only [S_l12Split_c19, optK_bind, optK_bif, optK_pure, optK_none, optK_oc, optK_guardT, optK_map] at h
    refine hold_of h ?_
    kernel_rfl
def z7p (x : (List UInt8) × Int × Int × Int × (List (List UInt8)) × Unit) (o : Int × (List (List UInt8))) (Q : Ex → VSt D → Prop) (R : VR D → Prop) : Prop := Q .normal (mkSt ⟨[(0, .hole), (1, .hole), (5, .ref 500005), (6, .hole), (7, .hole)], [(500005, .row)]⟩ [.str x.1, .int .u8 x.2.1, .int .i64 o.1, .int .i64 x.2.2.2.1, .sl 9 o.2])
def z7q (k : Nat) : Cut D := cutS ⟨[(0, .hole), (1, .hole), (5, .ref 500005), (6, .hole), (7, .hole)], [(500005, .row)]⟩ [.ks, .ki .u8, .ki .i64, .ki .i64, .kl 9] (fun (x : (List UInt8) × Int × Int × Int × (List (List UInt8)) × Unit) => S_l12Split_b1 k x.1 x.2.1 x.2.2.1 x.2.2.2.1 x.2.2.2.2.1) z7p
def z7r (k : Nat) : Cuts D := ⟨[], [(19, some (z7m k))]⟩
theorem z7s (k : Nat) : CutFor X z7i k Go.Proofs.Tryz.f138.results.toList (z7q k) (sub (bodyOf Go.Proofs.Tryz.f138) [1, 1, 1, 0, 1, 0, 0, 1, 0]) :=
  joinCut_s (X := X) (sg := [.ks, .ki .u8, .ki .i64, .ki .i64, .kl 9]) (cu := z7r k) (cl := z7j k) (tys := [[9]]) (z7k k) (cutOK_of (l := [(z7m k, sub (bodyOf Go.Proofs.Tryz.f138) [1, 1, 1, 0, 1, 0, 0, 1, 0, 0, 1])]) (by kernel_rfl) ⟨z7o k, trivial⟩) fun x Q R h => by
    simp only [S_l12Split_b1, optK_bind, optK_bif, optK_pure, optK_none, optK_oc, optK_guardT, optK_map] at h
    refine hold_of h ?_
    kernel_rfl
def z7t (x : (List UInt8) × Int × Int × Int × (List (List UInt8)) × Unit) (o : Int × (List (List UInt8))) (Q : Ex → VSt D → Prop) (R : VR D → Prop) : Prop := Q .normal (mkSt ⟨[(0, .hole), (5, .ref 500005), (6, .hole)], [(500005, .row)]⟩ [.str x.1, .int .i64 o.1, .sl 9 o.2])
def z7u (k : Nat) : Cut D := cutS ⟨[(0, .hole), (1, .hole), (5, .ref 500005), (6, .hole), (7, .hole)], [(500005, .row)]⟩ [.ks, .ki .u8, .ki .i64, .ki .i64, .kl 9] (fun (x : (List UInt8) × Int × Int × Int × (List (List UInt8)) × Unit) => S_l12Split_b0 k k x.1 x.2.1 x.2.2.1 x.2.2.2.1 x.2.2.2.2.1) z7t
def z7v (k : Nat) : Cuts D := ⟨[(1, some (z7q k))], []⟩
theorem z7w (k : Nat) : CutFor X z7i k Go.Proofs.Tryz.f138.results.toList (z7u k) (sub (bodyOf Go.Proofs.Tryz.f138) [1, 1, 1, 0, 1]) :=
  loopCut_s (X := X) (sg := [.ks, .ki .u8, .ki .i64, .ki .i64, .kl 9]) (cu := z7v k) (cl := z7j k) (tys := [[9]]) (id := 0) (c := sub (bodyOf Go.Proofs.Tryz.f138) [1, 1, 1, 0, 1, 0, 0]) (f := fun n => fun (x : (List UInt8) × Int × Int × Int × (List (List UInt8)) × Unit) => S_l12Split_b0 k n x.1 x.2.1 x.2.2.1 x.2.2.2.1 x.2.2.2.2.1) (z7k k) (cutOK_of (l := [(z7q k, sub (bodyOf Go.Proofs.Tryz.f138) [1, 1, 1, 0, 1, 0, 0, 1, 0])]) (by kernel_rfl) ⟨z7s k, trivial⟩) (fun _ => rfl) (fun n x Q R h => by
    simp only [S_l12Split_b0, optK_bind, optK_bif, optK_pure, optK_none, optK_oc, optK_guardT, optK_map] at h
    refine hold_of h ?_
    kernel_rfl) (by kernel_rfl)
def z7x (k : Nat) : Cuts D := ⟨[(0, some (z7u k))], []⟩
def z7y : List Ar := [.c (.ks), .c (.ki .u8)]
def z7z (k : Nat) (x : TupA D z7y) : Option ((List (List UInt8))) := S_l12Split k x.1 x.2.1
def z80 (r : (List (List UInt8))) : VR D := .p (.c (.sl 9 r))
theorem z81 (k : Nat) : Does P X 138 z7y (z7z k) z80 :=
  does_of (body := bodyOf Go.Proofs.Tryz.f138) (pl := z7i) (k := k) (cu := z7x k) (tys := [[9]]) (z7k k) ctx mixed Go.Proofs.Tryz.func138 (by kernel_rfl) (by kernel_rfl) (cutOK_of (l := [(z7u k, sub (bodyOf Go.Proofs.Tryz.f138) [1, 1, 1, 0, 1])]) (by kernel_rfl) ⟨z7w k, trivial⟩) fun x R h => by
    simp only [z7z, S_l12Split, optK_bind, optK_bif, optK_pure, optK_none, optK_oc, optK_guardT, optK_map] at h
    refine hold_of h ?_
    kernel_rfl
def z82 (k : Nat) : Entry D := entS z7y (z7z k) z80
theorem z83 (k : Nat) : EntryOK X 138 (z82 k) := (z81 k).en rfl
def z84 : Plan := ⟨[(0, [(0, none)]), (1, [(3, some 9)]), (2, [(3, some 9), (4, some 9)]), (3, [(3, some 9), (4, some 9), (5, none)]), (4, [(3, some 9), (4, some 9), (5, none), (16, none)]), (5, [(3, some 9), (4, some 9), (5, none)]), (6, [(3, some 9), (4, some 9), (5, none), (6, none)]), (7, [(3, some 9), (4, some 9), (5, none), (6, none), (24, none)]), (8, [(3, some 9), (4, some 9), (5, none), (6, none)]), (9, [(3, some 9), (4, some 9), (5, none), (6, none), (40, none)]), (10, [(3, some 9), (4, some 9), (5, none)]), (11, [(3, some 9), (4, some 9), (5, none), (6, none)]), (12, [(3, some 9), (4, some 9), (5, none), (60, none)]), (13, [(3, some 9), (4, some 9), (5, none)]), (14, [(4, some 9), (7, none)]), (15, [(4, some 9), (7, none), (8, none)]), (16, [(4, some 9), (7, none), (8, none), (67, none)]), (17, [(4, some 9), (7, none), (8, none)]), (18, [(4, some 9), (7, none), (8, none)]), (19, [(2, none)])],
  [(0, [(4, some 9)]), (1, [(3, some 9), (4, some 9), (5, none)]), (2, [(3, some 9), (4, some 9), (5, none), (6, none)]), (3, [(7, none)]), (4, [(4, some 9), (7, none), (8, none)])],
  [(16, ([(3, some 9), (4, some 9), (5, none)], [(4, some 9)])), (24, ([(3, some 9), (4, some 9), (5, none), (6, none)], [(3, some 9), (4, some 9), (5, none), (6, none)])), (40, ([(3, some 9), (4, some 9), (5, none)], [(3, some 9), (4, some 9), (5, none), (6, none)])), (60, ([(3, some 9), (4, some 9), (5, none)], [(3, some 9), (4, some 9), (5, none)])), (67, ([(4, some 9), (7, none), (8, none)], [(7, none)]))]⟩
def z85 (k : Nat) : Calls' D := ⟨[(138, z82 k)], [], [], [], []⟩
theorem z86 (k : Nat) : CallsOK X (z85 k) := .cons (z83 k) (.nil cod)
def z87 (x : Int × Bool × Bool × (List (List UInt8)) × (List (List UInt8)) × Unit) (o : Bool × (List (List UInt8))) (Q : Ex → VSt D → Prop) (R : VR D → Prop) : Prop := Q .normal (mkSt ⟨[(3, .ref 500003), (4, .ref 500004), (5, .hole), (6, .hole)], [(500003, .row), (500004, .row)]⟩ [.int .i64 x.1, .bool o.1, .sl 9 x.2.2.2.1, .sl 9 o.2])
def z88 (k : Nat) : Cut D := cutS ⟨[(3, .ref 500003), (4, .ref 500004), (5, .hole), (6, .hole), (40, .hole)], [(500003, .row), (500004, .row)]⟩ [.ki .i64, .kb, .kb, .kl 9, .kl 9] (fun (x : Int × Bool × Bool × (List (List UInt8)) × (List (List UInt8)) × Unit) => S_l12Path_c40 k x.1 x.2.1 x.2.2.1 x.2.2.2.1 x.2.2.2.2.1) z87
def z89 (k : Nat) : Cuts D := ⟨[], []⟩
theorem z8a (k : Nat) : CutFor X z84 k Go.Proofs.Tryz.f76.results.toList (z88 k) (sub (bodyOf Go.Proofs.Tryz.f76) [1, 1, 1, 0, 1, 0, 0, 1, 0, 0, 1, 0, 0, 1, 1, 1]) :=
  joinCut_s (X := X) (sg := [.ki .i64, .kb, .kb, .kl 9, .kl 9]) (cu := z89 k) (cl := z85 k) (tys := [[0]]) (z86 k) (cutOK_of (l := []) (by kernel_rfl) trivial) fun x Q R h => by
    simp only [S_l12Path_c40, optK_bind, optK_bif, optK_pure, optK_none, optK_oc, optK_guardT, optK_map] at h
    refine hold_of h ?_
    kernel_rfl
def z8b (x : Int × Bool × Bool × (List (List UInt8)) × (List (List UInt8)) × Unit) (o : Bool × (List (List UInt8))) (Q : Ex → VSt D → Prop) (R : VR D → Prop) : Prop := Q .normal (mkSt ⟨[(3, .ref 500003), (4, .ref 500004), (5, .hole), (6, .hole)], [(500003, .row), (500004, .row)]⟩ [.int .i64 x.1, .bool o.1, .sl 9 x.2.2.2.1, .sl 9 o.2])
def z8c (k : Nat) : Cut D := cutS ⟨[(3, .ref 500003), (4, .ref 500004), (5, .hole), (6, .hole), (24, .hole)], [(500003, .row), (500004, .row)]⟩ [.ki .i64, .kb, .kb, .kl 9, .kl 9] (fun (x : Int × Bool × Bool × (List (List UInt8)) × (List (List UInt8)) × Unit) => S_l12Path_c24 k x.1 x.2.1 x.2.2.1 x.2.2.2.1 x.2.2.2.2.1) z8b
def z8d (k : Nat) : Cuts D := ⟨[], [(40, some (z88 k))]⟩
theorem z8e (k : Nat) : CutFor X z84 k Go.Proofs.Tryz.f76.results.toList (z8c k) (sub (bodyOf Go.Proofs.Tryz.f76) [1, 1, 1, 0, 1, 0, 0, 1, 0, 0, 1, 0, 0, 1]) :=
  joinCut_s (X := X) (sg := [.ki .i64, .kb, .kb, .kl 9, .kl 9]) (cu := z8d k) (cl := z85 k) (tys := [[0]]) (z86 k) (cutOK_of (l := [(z88 k, sub (bodyOf Go.Proofs.Tryz.f76) [1, 1, 1, 0, 1, 0, 0, 1, 0, 0, 1, 0, 0, 1, 1, 1])]) (by kernel_rfl) ⟨z8a k, trivial⟩) fun x Q R h => by
    simp only [S_l12Path_c24, optK_bind, optK_bif, optK_pure, optK_none, optK_oc, optK_guardT, optK_map] at h
    refine hold_of h ?_
    kernel_rfl
def z8f (x : Int × Bool × (List (List UInt8)) × (List (List UInt8)) × Unit) (o : Bool × (List (List UInt8))) (Q : Ex → VSt D → Prop) (R : VR D → Prop) : Prop := Q .normal (mkSt ⟨[(3, .ref 500003), (4, .ref 500004), (5, .hole), (6, .hole)], [(500003, .row), (500004, .row)]⟩ [.int .i64 x.1, .bool o.1, .sl 9 x.2.2.1, .sl 9 o.2])
def z8g (k : Nat) : Cut D := cutS ⟨[(3, .ref 500003), (4, .ref 500004), (5, .hole), (6, .hole)], [(500003, .row), (500004, .row)]⟩ [.ki .i64, .kb, .kl 9, .kl 9] (fun (x : Int × Bool × (List (List UInt8)) × (List (List UInt8)) × Unit) => S_l12Path_b2 k x.1 x.2.1 x.2.2.1 x.2.2.2.1) z8f
def z8h (k : Nat) : Cuts D := ⟨[], [(24, some (z8c k))]⟩
theorem z8i (k : Nat) : CutFor X z84 k Go.Proofs.Tryz.f76.results.toList (z8g k) (sub (bodyOf Go.Proofs.Tryz.f76) [1, 1, 1, 0, 1, 0, 0, 1, 0, 0, 1, 0]) :=
  joinCut_s (X := X) (sg := [.ki .i64, .kb, .kl 9, .kl 9]) (cu := z8h k) (cl := z85 k) (tys := [[0]]) (z86 k) (cutOK_of (l := [(z8c k, sub (bodyOf Go.Proofs.Tryz.f76) [1, 1, 1, 0, 1, 0, 0, 1, 0, 0, 1, 0, 0, 1])]) (by kernel_rfl) ⟨z8e k, trivial⟩) fun x Q R h => by
    simp only [S_l12Path_b2, optK_bind, optK_bif, optK_pure, optK_none, optK_oc, optK_guardT, optK_map] at h
    refine hold_of h ?_
    kernel_rfl
def z8j (x : Int × Bool × (List (List UInt8)) × (List (List UInt8)) × Unit) (o : (List (List UInt8))) (Q : Ex → VSt D → Prop) (R : VR D → Prop) : Prop := Q .normal (mkSt ⟨[(3, .ref 500003), (4, .ref 500004), (5, .hole)], [(500003, .row), (500004, .row)]⟩ [.int .i64 x.1, .sl 9 x.2.2.1, .sl 9 o])
def z8k (k : Nat) : Cut D := cutS ⟨[(3, .ref 500003), (4, .ref 500004), (5, .hole), (60, .hole)], [(500003, .row), (500004, .row)]⟩ [.ki .i64, .kb, .kl 9, .kl 9] (fun (x : Int × Bool × (List (List UInt8)) × (List (List UInt8)) × Unit) => S_l12Path_c60 k x.1 x.2.1 x.2.2.1 x.2.2.2.1) z8j
def z8l (k : Nat) : Cuts D := ⟨[], []⟩
theorem z8m (k : Nat) : CutFor X z84 k Go.Proofs.Tryz.f76.results.toList (z8k k) (sub (bodyOf Go.Proofs.Tryz.f76) [1, 1, 1, 0, 1, 0, 0, 1, 0, 0, 1, 1, 1]) :=
  joinCut_s (X := X) (sg := [.ki .i64, .kb, .kl 9, .kl 9]) (cu := z8l k) (cl := z85 k) (tys := [[0]]) (z86 k) (cutOK_of (l := []) (by kernel_rfl) trivial) fun x Q R h => by
    simp only [S_l12Path_c60, optK_bind, optK_bif, optK_pure, optK_none, optK_oc, optK_guardT, optK_map] at h
    refine hold_of h ?_
    kernel_rfl
def z8n (x : Int × (List (List UInt8)) × (List (List UInt8)) × Unit) (o : (List (List UInt8))) (Q : Ex → VSt D → Prop) (R : VR D → Prop) : Prop := Q .normal (mkSt ⟨[(3, .ref 500003), (4, .ref 500004), (5, .hole)], [(500003, .row), (500004, .row)]⟩ [.int .i64 x.1, .sl 9 x.2.1, .sl 9 o])
def z8o (k : Nat) : Cut D := cutS ⟨[(3, .ref 500003), (4, .ref 500004), (5, .hole)], [(500003, .row), (500004, .row)]⟩ [.ki .i64, .kl 9, .kl 9] (fun (x : Int × (List (List UInt8)) × (List (List UInt8)) × Unit) => S_l12Path_b1 k x.1 x.2.1 x.2.2.1) z8n
def z8p (k : Nat) : Cuts D := ⟨[(2, some (z8g k))], [(60, some (z8k k))]⟩
theorem z8q (k : Nat) : CutFor X z84 k Go.Proofs.Tryz.f76.results.toList (z8o k) (sub (bodyOf Go.Proofs.Tryz.f76) [1, 1, 1, 0, 1, 0, 0, 1, 0]) :=
  joinCut_s (X := X) (sg := [.ki .i64, .kl 9, .kl 9]) (cu := z8p k) (cl := z85 k) (tys := [[0]]) (z86 k) (cutOK_of (l := [(z8g k, sub (bodyOf Go.Proofs.Tryz.f76) [1, 1, 1, 0, 1, 0, 0, 1, 0, 0, 1, 0]), (z8k k, sub (bodyOf Go.Proofs.Tryz.f76) [1, 1, 1, 0, 1, 0, 0, 1, 0, 0, 1, 1, 1])]) (by kernel_rfl) ⟨z8i k, z8m k, trivial⟩) fun x Q R h => by
    simp only [S_l12Path_b1, optK_bind, optK_bif, optK_pure, optK_none, optK_oc, optK_guardT, optK_map] at h
    refine hold_of h ?_
    kernel_rfl
def z8r (x : Int × (List (List UInt8)) × (List (List UInt8)) × Unit) (o : (List (List UInt8))) (Q : Ex → VSt D → Prop) (R : VR D → Prop) : Prop := Q .normal (mkSt ⟨[(4, .ref 500004)], [(500004, .row)]⟩ [.sl 9 o])
def z8s (k : Nat) : Cut D := cutS ⟨[(3, .ref 500003), (4, .ref 500004), (5, .hole)], [(500003, .row), (500004, .row)]⟩ [.ki .i64, .kl 9, .kl 9] (fun (x : Int × (List (List UInt8)) × (List (List UInt8)) × Unit) => S_l12Path_b0 k k x.1 x.2.1 x.2.2.1) z8r
def z8t (k : Nat) : Cuts D := ⟨[(1, some (z8o k))], []⟩
theorem z8u (k : Nat) : CutFor X z84 k Go.Proofs.Tryz.f76.results.toList (z8s k) (sub (bodyOf Go.Proofs.Tryz.f76) [1, 1, 1, 0, 1]) :=
  loopCut_s (X := X) (sg := [.ki .i64, .kl 9, .kl 9]) (cu := z8t k) (cl := z85 k) (tys := [[0]]) (id := 0) (c := sub (bodyOf Go.Proofs.Tryz.f76) [1, 1, 1, 0, 1, 0, 0]) (f := fun n => fun (x : Int × (List (List UInt8)) × (List (List UInt8)) × Unit) => S_l12Path_b0 k n x.1 x.2.1 x.2.2.1) (z86 k) (cutOK_of (l := [(z8o k, sub (bodyOf Go.Proofs.Tryz.f76) [1, 1, 1, 0, 1, 0, 0, 1, 0])]) (by kernel_rfl) ⟨z8q k, trivial⟩) (fun _ => rfl) (fun n x Q R h => by
    simp only [S_l12Path_b0, optK_bind, optK_bif, optK_pure, optK_none, optK_oc, optK_guardT, optK_map] at h
    refine hold_of h ?_
    kernel_rfl) (by kernel_rfl)
def z8v (x : (List UInt8) × Int × (List (List UInt8)) × Unit) (o : (List UInt8)) (Q : Ex → VSt D → Prop) (R : VR D → Prop) : Prop := Q .normal (mkSt ⟨[(7, .hole)], []⟩ [.str o])
def z8w (k : Nat) : Cut D := cutS ⟨[(4, .ref 500004), (7, .hole), (8, .hole)], [(500004, .row)]⟩ [.ks, .ki .i64, .kl 9] (fun (x : (List UInt8) × Int × (List (List UInt8)) × Unit) => S_l12Path_b3 k k x.1 x.2.1 x.2.2.1) z8v
def z8x (k : Nat) : Cuts D := ⟨[], []⟩
theorem z8y (k : Nat) : CutFor X z84 k Go.Proofs.Tryz.f76.results.toList (z8w k) (sub (bodyOf Go.Proofs.Tryz.f76) [1, 1, 1, 1, 1, 0, 1]) :=
  loopCut_s (X := X) (sg := [.ks, .ki .i64, .kl 9]) (cu := z8x k) (cl := z85 k) (tys := [[0]]) (id := 3) (c := sub (bodyOf Go.Proofs.Tryz.f76) [1, 1, 1, 1, 1, 0, 1, 0, 0]) (f := fun n => fun (x : (List UInt8) × Int × (List (List UInt8)) × Unit) => S_l12Path_b3 k n x.1 x.2.1 x.2.2.1) (z86 k) (cutOK_of (l := []) (by kernel_rfl) trivial) (fun _ => rfl) (fun n x Q R h => by
    simp only [S_l12Path_b3, optK_bind, optK_bif, optK_pure, optK_none, optK_oc, optK_guardT, optK_map] at h
    refine hold_of h ?_
    kernel_rfl) (by kernel_rfl)
def z8z (k : Nat) : Cuts D := ⟨[(0, some (z8s k)), (3, some (z8w k))], []⟩
def z90 : List Ar := [.c (.ks)]
def z91 (k : Nat) (x : TupA D z90) : Option ((List UInt8)) := S_l12Path k x.1
def z92 (r : (List UInt8)) : VR D := .p (.c (.str r))
theorem z93 (k : Nat) : Does P X 76 z90 (z91 k) z92 :=
  does_of (body := bodyOf Go.Proofs.Tryz.f76) (pl := z84) (k := k) (cu := z8z k) (tys := [[0]]) (z86 k) ctx mixed Go.Proofs.Tryz.func76 (by kernel_rfl) (by kernel_rfl) (cutOK_of (l := [(z8s k, sub (bodyOf Go.Proofs.Tryz.f76) [1, 1, 1, 0, 1]), (z8w k, sub (bodyOf Go.Proofs.Tryz.f76) [1, 1, 1, 1, 1, 0, 1])]) (by kernel_rfl) ⟨z8u k, z8y k, trivial⟩) fun x R h => by
    simp only [z91, S_l12Path, optK_bind, optK_bif, optK_pure, optK_none, optK_oc, optK_guardT, optK_map] at h
    refine hold_of h ?_
    kernel_rfl
def z94 (k : Nat) : Entry D := entS z90 (z91 k) z92
theorem z95 (k : Nat) : EntryOK X 76 (z94 k) := (z93 k).en rfl
def z96 : Plan := ⟨[(0, [(0, none)]), (1, [(3, some 9)]), (2, [(3, some 9), (4, some 9)]), (3, [(3, some 9), (4, some 9), (5, none)]), (4, [(3, some 9), (4, some 9), (5, none), (15, none)]), (5, [(3, some 9), (4, some 9), (5, none)]), (6, [(3, some 9), (4, some 9), (5, none), (6, none)]), (7, [(3, some 9), (4, some 9), (5, none), (6, none), (33, none)]), (8, [(3, some 9), (4, some 9), (5, none), (6, none)]), (9, [(3, some 9), (4, some 9), (5, none), (6, none), (40, none)]), (10, [(3, some 9), (4, some 9), (5, none)]), (11, [(4, some 9), (7, none)]), (12, [(4, some 9), (7, none), (8, none)]), (13, [(4, some 9), (7, none), (8, none), (59, none)]), (14, [(4, some 9), (7, none), (8, none)]), (15, [(4, some 9), (7, none), (8, none), (63, none)]), (16, [(4, some 9), (7, none), (8, none)]), (17, [(4, some 9), (7, none), (8, none)]), (18, [(2, none)])],
  [(0, [(4, some 9)]), (1, [(3, some 9), (4, some 9), (5, none)]), (2, [(3, some 9), (4, some 9), (5, none), (6, none)]), (3, [(3, some 9), (4, some 9), (5, none), (6, none)]), (4, [(7, none)]), (5, [(4, some 9), (7, none), (8, none)])],
  [(15, ([(3, some 9), (4, some 9), (5, none)], [(4, some 9)])), (33, ([(3, some 9), (4, some 9), (5, none), (6, none)], [(3, some 9), (4, some 9), (5, none), (6, none)])), (40, ([(3, some 9), (4, some 9), (5, none), (6, none), (1000004, some 9)], [(3, some 9), (4, some 9), (5, none)])), (59, ([(4, some 9), (7, none), (8, none)], [(7, none)])), (63, ([(4, some 9), (7, none), (8, none)], [(4, some 9), (7, none), (8, none)]))]⟩
def z97 (k : Nat) : Calls' D := ⟨[(138, z82 k)], [], [], [], []⟩
theorem z98 (k : Nat) : CallsOK X (z97 k) := .cons (z83 k) (.nil cod)
def z99 (x : Int × Int × (List (List UInt8)) × (List (List UInt8)) × Unit) (o : Int) (Q : Ex → VSt D → Prop) (R : VR D → Prop) : Prop := Q .normal (mkSt ⟨[(3, .ref 500003), (4, .ref 500004), (5, .hole), (6, .hole)], [(500003, .row), (500004, .row)]⟩ [.int .i64 x.1, .int .i64 o, .sl 9 x.2.2.1, .sl 9 x.2.2.2.1])
def z9a (k : Nat) : Cut D := cutS ⟨[(3, .ref 500003), (4, .ref 500004), (5, .hole), (6, .hole)], [(500003, .row), (500004, .row)]⟩ [.ki .i64, .ki .i64, .kl 9, .kl 9] (fun (x : Int × Int × (List (List UInt8)) × (List (List UInt8)) × Unit) => S_l12Query_b2 k k x.1 x.2.1 x.2.2.1 x.2.2.2.1) z99
def z9b (k : Nat) : Cuts D := ⟨[], []⟩
theorem z9c (k : Nat) : CutFor X z96 k Go.Proofs.Tryz.f77.results.toList (z9a k) (sub (bodyOf Go.Proofs.Tryz.f77) [1, 1, 1, 0, 1, 0, 0, 1, 0, 0, 1, 0]) :=
  loopCut_s (X := X) (sg := [.ki .i64, .ki .i64, .kl 9, .kl 9]) (cu := z9b k) (cl := z97 k) (tys := [[0]]) (id := 2) (c := sub (bodyOf Go.Proofs.Tryz.f77) [1, 1, 1, 0, 1, 0, 0, 1, 0, 0, 1, 0, 0, 0]) (f := fun n => fun (x : Int × Int × (List (List UInt8)) × (List (List UInt8)) × Unit) => S_l12Query_b2 k n x.1 x.2.1 x.2.2.1 x.2.2.2.1) (z98 k) (cutOK_of (l := []) (by kernel_rfl) trivial) (fun _ => rfl) (fun n x Q R h => by
    simp only [S_l12Query_b2, optK_bind, optK_bif, optK_pure, optK_none, optK_oc, optK_guardT, optK_map] at h
    refine hold_of h ?_
    kernel_rfl) (by kernel_rfl)
def z9d (x : Int × Int × Bool × (List (List UInt8)) × (List (List UInt8)) × Unit) (o : (List (List UInt8))) (Q : Ex → VSt D → Prop) (R : VR D → Prop) : Prop := Q .normal (mkSt ⟨[(3, .ref 500003), (4, .ref 500004), (5, .hole)], [(500003, .row), (500004, .row)]⟩ [.int .i64 x.1, .sl 9 x.2.2.2.1, .sl 9 o])
def z9e (k : Nat) : Cut D := cutS ⟨[(3, .ref 500003), (4, .ref 500004), (5, .hole), (6, .hole), (40, .hole)], [(500003, .row), (500004, .row)]⟩ [.ki .i64, .ki .i64, .kb, .kl 9, .kl 9] (fun (x : Int × Int × Bool × (List (List UInt8)) × (List (List UInt8)) × Unit) => S_l12Query_c40 k x.1 x.2.1 x.2.2.1 x.2.2.2.1 x.2.2.2.2.1) z9d
def z9f (k : Nat) : Cuts D := ⟨[], []⟩
theorem z9g (k : Nat) : CutFor X z96 k Go.Proofs.Tryz.f77.results.toList (z9e k) (sub (bodyOf Go.Proofs.Tryz.f77) [1, 1, 1, 0, 1, 0, 0, 1, 0, 0, 1, 1, 1]) :=
  joinCut_s (X := X) (sg := [.ki .i64, .ki .i64, .kb, .kl 9, .kl 9]) (cu := z9f k) (cl := z97 k) (tys := [[0]]) (z98 k) (cutOK_of (l := []) (by kernel_rfl) trivial) fun x Q R h => by
    simp only [S_l12Query_c40, optK_bind, optK_bif, optK_pure, optK_none, optK_oc, optK_guardT, optK_map] at h
    refine hold_of h ?_
    kernel_rfl
def z9h (x : Int × (List (List UInt8)) × (List (List UInt8)) × Unit) (o : (List (List UInt8))) (Q : Ex → VSt D → Prop) (R : VR D → Prop) : Prop := Q .normal (mkSt ⟨[(3, .ref 500003), (4, .ref 500004), (5, .hole)], [(500003, .row), (500004, .row)]⟩ [.int .i64 x.1, .sl 9 x.2.1, .sl 9 o])
def z9i (k : Nat) : Cut D := cutS ⟨[(3, .ref 500003), (4, .ref 500004), (5, .hole)], [(500003, .row), (500004, .row)]⟩ [.ki .i64, .kl 9, .kl 9] (fun (x : Int × (List (List UInt8)) × (List (List UInt8)) × Unit) => S_l12Query_b1 k x.1 x.2.1 x.2.2.1) z9h
def z9j (k : Nat) : Cuts D := ⟨[(2, some (z9a k))], [(40, some (z9e k))]⟩
theorem z9k (k : Nat) : CutFor X z96 k Go.Proofs.Tryz.f77.results.toList (z9i k) (sub (bodyOf Go.Proofs.Tryz.f77) [1, 1, 1, 0, 1, 0, 0, 1, 0]) :=
  joinCut_s (X := X) (sg := [.ki .i64, .kl 9, .kl 9]) (cu := z9j k) (cl := z97 k) (tys := [[0]]) (z98 k) (cutOK_of (l := [(z9a k, sub (bodyOf Go.Proofs.Tryz.f77) [1, 1, 1, 0, 1, 0, 0, 1, 0, 0, 1, 0]), (z9e k, sub (bodyOf Go.Proofs.Tryz.f77) [1, 1, 1, 0, 1, 0, 0, 1, 0, 0, 1, 1, 1])]) (by kernel_rfl) ⟨z9c k, z9g k, trivial⟩) fun x Q R h => by
    simp only [S_l12Query_b1, optK_bind, optK_bif, optK_pure, optK_none, optK_oc, optK_guardT, optK_map] at h
    refine hold_of h ?_
    kernel_rfl
def z9l (x : Int × (List (List UInt8)) × (List (List UInt8)) × Unit) (o : (List (List UInt8))) (Q : Ex → VSt D → Prop) (R : VR D → Prop) : Prop := Q .normal (mkSt ⟨[(4, .ref 500004)], [(500004, .row)]⟩ [.sl 9 o])
def z9m (k : Nat) : Cut D := cutS ⟨[(3, .ref 500003), (4, .ref 500004), (5, .hole)], [(500003, .row), (500004, .row)]⟩ [.ki .i64, .kl 9, .kl 9] (fun (x : Int × (List (List UInt8)) × (List (List UInt8)) × Unit) => S_l12Query_b0 k k x.1 x.2.1 x.2.2.1) z9l
def z9n (k : Nat) : Cuts D := ⟨[(1, some (z9i k))], []⟩
theorem z9o (k : Nat) : CutFor X z96 k Go.Proofs.Tryz.f77.results.toList (z9m k) (sub (bodyOf Go.Proofs.Tryz.f77) [1, 1, 1, 0, 1]) :=
  loopCut_s (X := X) (sg := [.ki .i64, .kl 9, .kl 9]) (cu := z9n k) (cl := z97 k) (tys := [[0]]) (id := 0) (c := sub (bodyOf Go.Proofs.Tryz.f77) [1, 1, 1, 0, 1, 0, 0]) (f := fun n => fun (x : Int × (List (List UInt8)) × (List (List UInt8)) × Unit) => S_l12Query_b0 k n x.1 x.2.1 x.2.2.1) (z98 k) (cutOK_of (l := [(z9i k, sub (bodyOf Go.Proofs.Tryz.f77) [1, 1, 1, 0, 1, 0, 0, 1, 0])]) (by kernel_rfl) ⟨z9k k, trivial⟩) (fun _ => rfl) (fun n x Q R h => by
    simp only [S_l12Query_b0, optK_bind, optK_bif, optK_pure, optK_none, optK_oc, optK_guardT, optK_map] at h
    refine hold_of h ?_
    kernel_rfl) (by kernel_rfl)
def z9p (x : (List UInt8) × Int × Bool × (List (List UInt8)) × Unit) (o : (List UInt8)) (Q : Ex → VSt D → Prop) (R : VR D → Prop) : Prop := Q .normal (mkSt ⟨[(4, .ref 500004), (7, .hole), (8, .hole)], [(500004, .row)]⟩ [.str o, .int .i64 x.2.1, .sl 9 x.2.2.2.1])
def z9q (k : Nat) : Cut D := cutS ⟨[(4, .ref 500004), (7, .hole), (8, .hole), (63, .hole)], [(500004, .row)]⟩ [.ks, .ki .i64, .kb, .kl 9] (fun (x : (List UInt8) × Int × Bool × (List (List UInt8)) × Unit) => S_l12Query_c63 k x.1 x.2.1 x.2.2.1 x.2.2.2.1) z9p
def z9r (k : Nat) : Cuts D := ⟨[], []⟩
theorem z9s (k : Nat) : CutFor X z96 k Go.Proofs.Tryz.f77.results.toList (z9q k) (sub (bodyOf Go.Proofs.Tryz.f77) [1, 1, 1, 1, 1, 0, 1, 0, 0, 1, 0, 0, 0, 1]) :=
  joinCut_s (X := X) (sg := [.ks, .ki .i64, .kb, .kl 9]) (cu := z9r k) (cl := z97 k) (tys := [[0]]) (z98 k) (cutOK_of (l := []) (by kernel_rfl) trivial) fun x Q R h => by
    simp only [S_l12Query_c63, optK_bind, optK_bif, optK_pure, optK_none, optK_oc, optK_guardT, optK_map] at h
    refine hold_of h ?_
    kernel_rfl
def z9t (x : (List UInt8) × Int × (List (List UInt8)) × Unit) (o : (List UInt8)) (Q : Ex → VSt D → Prop) (R : VR D → Prop) : Prop := Q .normal (mkSt ⟨[(4, .ref 500004), (7, .hole), (8, .hole)], [(500004, .row)]⟩ [.str o, .int .i64 x.2.1, .sl 9 x.2.2.1])
def z9u (k : Nat) : Cut D := cutS ⟨[(4, .ref 500004), (7, .hole), (8, .hole)], [(500004, .row)]⟩ [.ks, .ki .i64, .kl 9] (fun (x : (List UInt8) × Int × (List (List UInt8)) × Unit) => S_l12Query_b5 k x.1 x.2.1 x.2.2.1) z9t
def z9v (k : Nat) : Cuts D := ⟨[], [(63, some (z9q k))]⟩
theorem z9w (k : Nat) : CutFor X z96 k Go.Proofs.Tryz.f77.results.toList (z9u k) (sub (bodyOf Go.Proofs.Tryz.f77) [1, 1, 1, 1, 1, 0, 1, 0, 0, 1, 0]) :=
  joinCut_s (X := X) (sg := [.ks, .ki .i64, .kl 9]) (cu := z9v k) (cl := z97 k) (tys := [[0]]) (z98 k) (cutOK_of (l := [(z9q k, sub (bodyOf Go.Proofs.Tryz.f77) [1, 1, 1, 1, 1, 0, 1, 0, 0, 1, 0, 0, 0, 1])]) (by kernel_rfl) ⟨z9s k, trivial⟩) fun x Q R h => by
    simp only [S_l12Query_b5, optK_bind, optK_bif, optK_pure, optK_none, optK_oc, optK_guardT, optK_map] at h
    refine hold_of h ?_
    kernel_rfl
def z9x (x : (List UInt8) × Int × (List (List UInt8)) × Unit) (o : (List UInt8)) (Q : Ex → VSt D → Prop) (R : VR D → Prop) : Prop := Q .normal (mkSt ⟨[(7, .hole)], []⟩ [.str o])
def z9y (k : Nat) : Cut D := cutS ⟨[(4, .ref 500004), (7, .hole), (8, .hole)], [(500004, .row)]⟩ [.ks, .ki .i64, .kl 9] (fun (x : (List UInt8) × Int × (List (List UInt8)) × Unit) => S_l12Query_b4 k k x.1 x.2.1 x.2.2.1) z9x
def z9z (k : Nat) : Cuts D := ⟨[(5, some (z9u k))], []⟩
theorem za0 (k : Nat) : CutFor X z96 k Go.Proofs.Tryz.f77.results.toList (z9y k) (sub (bodyOf Go.Proofs.Tryz.f77) [1, 1, 1, 1, 1, 0, 1]) :=
  loopCut_s (X := X) (sg := [.ks, .ki .i64, .kl 9]) (cu := z9z k) (cl := z97 k) (tys := [[0]]) (id := 4) (c := sub (bodyOf Go.Proofs.Tryz.f77) [1, 1, 1, 1, 1, 0, 1, 0, 0]) (f := fun n => fun (x : (List UInt8) × Int × (List (List UInt8)) × Unit) => S_l12Query_b4 k n x.1 x.2.1 x.2.2.1) (z98 k) (cutOK_of (l := [(z9u k, sub (bodyOf Go.Proofs.Tryz.f77) [1, 1, 1, 1, 1, 0, 1, 0, 0, 1, 0])]) (by kernel_rfl) ⟨z9w k, trivial⟩) (fun _ => rfl) (fun n x Q R h => by
    simp only [S_l12Query_b4, optK_bind, optK_bif, optK_pure, optK_none, optK_oc, optK_guardT, optK_map] at h
    refine hold_of h ?_
    kernel_rfl) (by kernel_rfl)
def za1 (k : Nat) : Cuts D := ⟨[(0, some (z9m k)), (4, some (z9y k))], []⟩
def za2 : List Ar := [.c (.ks)]
def za3 (k : Nat) (x : TupA D za2) : Option ((List UInt8)) := S_l12Query k x.1
def za4 (r : (List UInt8)) : VR D := .p (.c (.str r))
theorem za5 (k : Nat) : Does P X 77 za2 (za3 k) za4 :=
  does_of (body := bodyOf Go.Proofs.Tryz.f77) (pl := z96) (k := k) (cu := za1 k) (tys := [[0]]) (z98 k) ctx mixed Go.Proofs.Tryz.func77 (by kernel_rfl) (by kernel_rfl) (cutOK_of (l := [(z9m k, sub (bodyOf Go.Proofs.Tryz.f77) [1, 1, 1, 0, 1]), (z9y k, sub (bodyOf Go.Proofs.Tryz.f77) [1, 1, 1, 1, 1, 0, 1])]) (by kernel_rfl) ⟨z9o k, za0 k, trivial⟩) fun x R h => by
    simp only [za3, S_l12Query, optK_bind, optK_bif, optK_pure, optK_none, optK_oc, optK_guardT, optK_map] at h
    refine hold_of h ?_
    kernel_rfl
def za6 (k : Nat) : Entry D := entS za2 (za3 k) za4
theorem za7 (k : Nat) : EntryOK X 77 (za6 k) := (za5 k).en rfl
def za8 : Plan := ⟨[(0, [(0, none)]), (1, [(4, none), (5, none)]), (2, [(5, none), (7, none), (8, none)]), (3, [(7, none), (8, none), (9, none), (10, none)]), (4, [(7, none), (9, none), (44, none)]), (5, [(2, none), (3, none)]), (6, [(9, none), (11, none)]), (7, [(11, none), (12, none)]), (8, [(11, none), (12, none), (50, none)]), (9, [(11, none)]), (10, [(2, none), (3, none)])],
  [],
  [(44, ([], [(7, none), (9, none)])), (50, ([(11, none), (12, none)], [(11, none)]))]⟩
def za9 (k : Nat) : Calls' D := ⟨[(74, z6k k), (75, z7g k), (76, z94 k), (77, za6 k)], [], [], [], []⟩
theorem zaa (k : Nat) : CallsOK X (za9 k) := .cons (z6l k) (.cons (z7h k) (.cons (z95 k) (.cons (za7 k) (.nil cod))))
def zab (x : (List UInt8) × (List UInt8) × Bool × Unit) (o : (List UInt8)) (Q : Ex → VSt D → Prop) (R : VR D → Prop) : Prop := Q .normal (mkSt ⟨[(11, .hole)], []⟩ [.str o])
def zac (k : Nat) : Cut D := cutS ⟨[(11, .hole), (12, .hole), (50, .hole)], []⟩ [.ks, .ks, .kb] (fun (x : (List UInt8) × (List UInt8) × Bool × Unit) => S_NormalTarget_c50 k x.1 x.2.1 x.2.2.1) zab
def zad (k : Nat) : Cuts D := ⟨[], []⟩
theorem zae (k : Nat) : CutFor X za8 k Go.Proofs.Tryz.f34.results.toList (zac k) (sub (bodyOf Go.Proofs.Tryz.f34) [1, 1, 1, 1, 1, 1, 0, 1, 1]) :=
  joinCut_s (X := X) (sg := [.ks, .ks, .kb]) (cu := zad k) (cl := za9 k) (tys := [[0], [0]]) (zaa k) (cutOK_of (l := []) (by kernel_rfl) trivial) fun x Q R h => by
    simp only [S_NormalTarget_c50, optK_bind, optK_bif, optK_pure, optK_none, optK_oc, optK_guardT, optK_map] at h
    refine hold_of h ?_
    kernel_rfl
def zaf (k : Nat) : Cuts D := ⟨[], [(50, some (zac k))]⟩
def zag : List Ar := [.c (.ks)]
def zah (k : Nat) (x : TupA D zag) : Option ((List UInt8) × Bool) := S_NormalTarget k x.1
def zai (r : (List UInt8) × Bool) : VR D := .tup [.c (.str r.1), .c (.bool r.2)]
theorem zaj (k : Nat) : Does P X 34 zag (zah k) zai :=
  does_of (body := bodyOf Go.Proofs.Tryz.f34) (pl := za8) (k := k) (cu := zaf k) (tys := [[0], [0]]) (zaa k) ctx mixed Go.Proofs.Tryz.func34 (by kernel_rfl) (by kernel_rfl) (cutOK_of (l := [(zac k, sub (bodyOf Go.Proofs.Tryz.f34) [1, 1, 1, 1, 1, 1, 0, 1, 1])]) (by kernel_rfl) ⟨zae k, trivial⟩) fun x R h => by
    simp only [zah, S_NormalTarget, optK_bind, optK_bif, optK_pure, optK_none, optK_oc, optK_guardT, optK_map] at h
    refine hold_of h ?_
    kernel_rfl
def zak (k : Nat) : Entry D := entS zag (zah k) zai
theorem zal (k : Nat) : EntryOK X 34 (zak k) := (zaj k).en rfl
def zam : Plan := ⟨[(0, [(0, none)]), (1, [(0, none), (3, none), (4, none)]), (2, [(2, none)])],
  [],
  []⟩
def zan (k : Nat) : Calls' D := ⟨[(34, zak k)], [], [], [], []⟩
theorem zao (k : Nat) : CallsOK X (zan k) := .cons (zal k) (.nil cod)
def zap (k : Nat) : Cuts D := ⟨[], []⟩
def zaq : List Ar := [.c (.ks)]
def zar (k : Nat) (x : TupA D zaq) : Option (Bool) := S_IsNormalTarget k x.1
def zas (r : Bool) : VR D := .p (.c (.bool r))
theorem zat (k : Nat) : Does P X 99 zaq (zar k) zas :=
  does_of (body := bodyOf Go.Proofs.Tryz.f99) (pl := zam) (k := k) (cu := zap k) (tys := [[0]]) (zao k) ctx mixed Go.Proofs.Tryz.func99 (by kernel_rfl) (by kernel_rfl) (cutOK_of (l := []) (by kernel_rfl) trivial) fun x R h => by
    simp only [zar, S_IsNormalTarget, optK_bind, optK_bif, optK_pure, optK_none, optK_oc, optK_guardT, optK_map] at h
    refine hold_of h ?_
    kernel_rfl
def zau (k : Nat) : Entry D := entS zaq (zar k) zas
theorem zav (k : Nat) : EntryOK X 99 (zau k) := (zat k).en rfl
def zaw : Plan := ⟨[(0, [(0, none)]), (1, [(2, none)])],
  [],
  []⟩
def zax (k : Nat) : Calls' D := ⟨[], [], [], [], []⟩
theorem zay (k : Nat) : CallsOK X (zax k) := .nil cod
def zaz (k : Nat) : Cuts D := ⟨[], []⟩
def zb0 : List Ar := [.c (.ki .u8)]
def zb1 (k : Nat) (x : TupA D zb0) : Option (Bool) := S_l4Blank k x.1
def zb2 (r : Bool) : VR D := .p (.c (.bool r))
theorem zb3 (k : Nat) : Does P X 223 zb0 (zb1 k) zb2 :=
  does_of (body := bodyOf Go.Proofs.Tryz.f223) (pl := zaw) (k := k) (cu := zaz k) (tys := [[0]]) (zay k) ctx mixed Go.Proofs.Tryz.func223 (by kernel_rfl) (by kernel_rfl) (cutOK_of (l := []) (by kernel_rfl) trivial) fun x R h => by
    simp only [zb1, S_l4Blank, optK_bind, optK_bif, optK_pure, optK_none, optK_oc, optK_guardT, optK_map] at h
    refine hold_of h ?_
    kernel_rfl
def zb4 (k : Nat) : Entry D := entS zb0 (zb1 k) zb2
theorem zb5 (k : Nat) : EntryOK X 223 (zb4 k) := (zb3 k).en rfl
def zb6 : Plan := ⟨[(0, [(0, none)]), (1, [(0, none), (10, none)]), (2, [(0, none)]), (3, [(0, none), (23, none)]), (4, [(0, none)]), (5, [(2, none)])],
  [(0, [(0, none)]), (1, [(0, none)]), (2, [(0, none)]), (3, [(0, none)])],
  [(10, ([(0, none)], [(0, none)])), (23, ([(0, none)], [(0, none)]))]⟩
def zb7 (k : Nat) : Calls' D := ⟨[(223, zb4 k)], [], [], [], []⟩
theorem zb8 (k : Nat) : CallsOK X (zb7 k) := .cons (zb5 k) (.nil cod)
def zb9 (x : (List UInt8) × Unit) (o : (List UInt8)) (Q : Ex → VSt D → Prop) (R : VR D → Prop) : Prop := Q .normal (mkSt ⟨[(0, .hole)], []⟩ [.str o])
def zba (k : Nat) : Cut D := cutS ⟨[(0, .hole)], []⟩ [.ks] (fun (x : (List UInt8) × Unit) => S_TrimText_b0 k k x.1) zb9
def zbb (k : Nat) : Cuts D := ⟨[], []⟩
theorem zbc (k : Nat) : CutFor X zb6 k Go.Proofs.Tryz.f159.results.toList (zba k) (sub (bodyOf Go.Proofs.Tryz.f159) [1, 0]) :=
  loopCut_s (X := X) (sg := [.ks]) (cu := zbb k) (cl := zb7 k) (tys := [[0]]) (id := 0) (c := sub (bodyOf Go.Proofs.Tryz.f159) [1, 0, 0, 0]) (f := fun n => fun (x : (List UInt8) × Unit) => S_TrimText_b0 k n x.1) (zb8 k) (cutOK_of (l := []) (by kernel_rfl) trivial) (fun _ => rfl) (fun n x Q R h => by
    simp only [S_TrimText_b0, optK_bind, optK_bif, optK_pure, optK_none, optK_oc, optK_guardT, optK_map] at h
    refine hold_of h ?_
    kernel_rfl) (by kernel_rfl)
def zbd (x : (List UInt8) × Unit) (o : (List UInt8)) (Q : Ex → VSt D → Prop) (R : VR D → Prop) : Prop := Q .normal (mkSt ⟨[(0, .hole)], []⟩ [.str o])
def zbe (k : Nat) : Cut D := cutS ⟨[(0, .hole)], []⟩ [.ks] (fun (x : (List UInt8) × Unit) => S_TrimText_b2 k k x.1) zbd
def zbf (k : Nat) : Cuts D := ⟨[], []⟩
theorem zbg (k : Nat) : CutFor X zb6 k Go.Proofs.Tryz.f159.results.toList (zbe k) (sub (bodyOf Go.Proofs.Tryz.f159) [1, 1, 0]) :=
  loopCut_s (X := X) (sg := [.ks]) (cu := zbf k) (cl := zb7 k) (tys := [[0]]) (id := 2) (c := sub (bodyOf Go.Proofs.Tryz.f159) [1, 1, 0, 0, 0]) (f := fun n => fun (x : (List UInt8) × Unit) => S_TrimText_b2 k n x.1) (zb8 k) (cutOK_of (l := []) (by kernel_rfl) trivial) (fun _ => rfl) (fun n x Q R h => by
    simp only [S_TrimText_b2, optK_bind, optK_bif, optK_pure, optK_none, optK_oc, optK_guardT, optK_map] at h
    refine hold_of h ?_
    kernel_rfl) (by kernel_rfl)
def zbh (k : Nat) : Cuts D := ⟨[(0, some (zba k)), (2, some (zbe k))], []⟩
def zbi : List Ar := [.c (.ks)]
def zbj (k : Nat) (x : TupA D zbi) : Option ((List UInt8)) := S_TrimText k x.1
def zbk (r : (List UInt8)) : VR D := .p (.c (.str r))
theorem zbl (k : Nat) : Does P X 159 zbi (zbj k) zbk :=
  does_of (body := bodyOf Go.Proofs.Tryz.f159) (pl := zb6) (k := k) (cu := zbh k) (tys := [[0]]) (zb8 k) ctx mixed Go.Proofs.Tryz.func159 (by kernel_rfl) (by kernel_rfl) (cutOK_of (l := [(zba k, sub (bodyOf Go.Proofs.Tryz.f159) [1, 0]), (zbe k, sub (bodyOf Go.Proofs.Tryz.f159) [1, 1, 0])]) (by kernel_rfl) ⟨zbc k, zbg k, trivial⟩) fun x R h => by
    simp only [zbj, S_TrimText, optK_bind, optK_bif, optK_pure, optK_none, optK_oc, optK_guardT, optK_map] at h
    refine hold_of h ?_
    kernel_rfl
def zbm (k : Nat) : Entry D := entS zbi (zbj k) zbk
theorem zbn (k : Nat) : EntryOK X 159 (zbm k) := (zbl k).en rfl
def zbo : Plan := ⟨[(0, [(0, none)]), (1, [(0, none), (3, none)]), (2, [(0, none), (3, none), (7, none)]), (3, [(0, none), (3, none)]), (4, [(0, none), (3, none), (21, none)]), (5, [(2, none)]), (6, [(2, none)])],
  [(0, [(0, none)]), (1, [(0, none), (3, none)])],
  [(7, ([(0, none), (3, none)], [(0, none)])), (21, ([], [(0, none), (3, none)]))]⟩
def zbp (k : Nat) : Calls' D := ⟨[(78, z48 k), (159, zbm k)], [], [], [], []⟩
theorem zbq (k : Nat) : CallsOK X (zbp k) := .cons (z49 k) (.cons (zbn k) (.nil cod))
def zbr (x : (List UInt8) × Int × Unit) (o : Oc (Unit) (Bool)) (Q : Ex → VSt D → Prop) (R : VR D → Prop) : Prop := ocP o (fun v0 => Q .normal (mkSt ⟨[(0, .hole)], []⟩ [.str x.1])) (fun w0 => R (.p (.c (.bool w0))))
def zbs (k : Nat) : Cut D := cutS ⟨[(0, .hole), (3, .hole)], []⟩ [.ks, .ki .i64] (fun (x : (List UInt8) × Int × Unit) => S_l5Value_b0 k k x.1 x.2.1) zbr
def zbt (k : Nat) : Cuts D := ⟨[], []⟩
theorem zbu (k : Nat) : CutFor X zbo k Go.Proofs.Tryz.f100.results.toList (zbs k) (sub (bodyOf Go.Proofs.Tryz.f100) [1, 0, 1]) :=
  loopCut_s (X := X) (sg := [.ks, .ki .i64]) (cu := zbt k) (cl := zbp k) (tys := [[0]]) (id := 0) (c := sub (bodyOf Go.Proofs.Tryz.f100) [1, 0, 1, 0, 0]) (f := fun n => fun (x : (List UInt8) × Int × Unit) => S_l5Value_b0 k n x.1 x.2.1) (zbq k) (cutOK_of (l := []) (by kernel_rfl) trivial) (fun _ => rfl) (fun n x Q R h => by
    simp only [S_l5Value_b0, optK_bind, optK_bif, optK_pure, optK_none, optK_oc, optK_guardT, optK_map] at h
    refine hold_of h ?_
    kernel_rfl) (by kernel_rfl)
def zbv (k : Nat) : Cuts D := ⟨[(0, some (zbs k))], []⟩
def zbw : List Ar := [.c (.ks)]
def zbx (k : Nat) (x : TupA D zbw) : Option (Bool) := S_l5Value k x.1
def zby (r : Bool) : VR D := .p (.c (.bool r))
theorem zbz (k : Nat) : Does P X 100 zbw (zbx k) zby :=
  does_of (body := bodyOf Go.Proofs.Tryz.f100) (pl := zbo) (k := k) (cu := zbv k) (tys := [[0]]) (zbq k) ctx mixed Go.Proofs.Tryz.func100 (by kernel_rfl) (by kernel_rfl) (cutOK_of (l := [(zbs k, sub (bodyOf Go.Proofs.Tryz.f100) [1, 0, 1])]) (by kernel_rfl) ⟨zbu k, trivial⟩) fun x R h => by
    simp only [zbx, S_l5Value, optK_bind, optK_bif, optK_pure, optK_none, optK_oc, optK_guardT, optK_map] at h
    refine hold_of h ?_
    kernel_rfl
def zc0 (k : Nat) : Entry D := entS zbw (zbx k) zby
theorem zc1 (k : Nat) : EntryOK X 100 (zc0 k) := (zbz k).en rfl
def zc2 : Plan := ⟨[(0, [(0, none)]), (1, [(0, none), (6, none)]), (2, [(2, none)]), (3, [(3, some 9)]), (4, [(3, some 9), (4, none)]), (5, [(3, some 9), (4, none), (12, none)]), (6, [(3, some 9), (4, none)]), (7, [(3, some 9), (4, none), (20, none)]), (8, [(2, none)]), (9, [(2, none)])],
  [(0, [(3, some 9)]), (1, [(3, some 9), (4, none)])],
  [(6, ([], [(0, none)])), (12, ([(3, some 9), (4, none)], [(3, some 9)])), (20, ([], [(3, some 9), (4, none)]))]⟩
def zc3 (k : Nat) : Calls' D := ⟨[(138, z82 k), (79, z5a k)], [], [], [], []⟩
theorem zc4 (k : Nat) : CallsOK X (zc3 k) := .cons (z83 k) (.cons (z5b k) (.nil cod))
def zc5 (x : Int × (List (List UInt8)) × Unit) (o : Oc (Unit) (Bool)) (Q : Ex → VSt D → Prop) (R : VR D → Prop) : Prop := ocP o (fun v0 => Q .normal (mkSt ⟨[(3, .ref 500003)], [(500003, .row)]⟩ [.sl 9 x.2.1])) (fun w0 => R (.p (.c (.bool w0))))
def zc6 (k : Nat) : Cut D := cutS ⟨[(3, .ref 500003), (4, .hole)], [(500003, .row)]⟩ [.ki .i64, .kl 9] (fun (x : Int × (List (List UInt8)) × Unit) => S_l15Keys_b0 k k x.1 x.2.1) zc5
def zc7 (k : Nat) : Cuts D := ⟨[], []⟩
theorem zc8 (k : Nat) : CutFor X zc2 k Go.Proofs.Tryz.f101.results.toList (zc6 k) (sub (bodyOf Go.Proofs.Tryz.f101) [1, 1, 1, 0, 1]) :=
  loopCut_s (X := X) (sg := [.ki .i64, .kl 9]) (cu := zc7 k) (cl := zc3 k) (tys := [[0]]) (id := 0) (c := sub (bodyOf Go.Proofs.Tryz.f101) [1, 1, 1, 0, 1, 0, 0]) (f := fun n => fun (x : Int × (List (List UInt8)) × Unit) => S_l15Keys_b0 k n x.1 x.2.1) (zc4 k) (cutOK_of (l := []) (by kernel_rfl) trivial) (fun _ => rfl) (fun n x Q R h => by
    simp only [S_l15Keys_b0, optK_bind, optK_bif, optK_pure, optK_none, optK_oc, optK_guardT, optK_map] at h
    refine hold_of h ?_
    kernel_rfl) (by kernel_rfl)
def zc9 (k : Nat) : Cuts D := ⟨[(0, some (zc6 k))], []⟩
def zca : List Ar := [.c (.ks)]
def zcb (k : Nat) (x : TupA D zca) : Option (Bool) := S_l15Keys k x.1
def zcc (r : Bool) : VR D := .p (.c (.bool r))
theorem zcd (k : Nat) : Does P X 101 zca (zcb k) zcc :=
  does_of (body := bodyOf Go.Proofs.Tryz.f101) (pl := zc2) (k := k) (cu := zc9 k) (tys := [[0]]) (zc4 k) ctx mixed Go.Proofs.Tryz.func101 (by kernel_rfl) (by kernel_rfl) (cutOK_of (l := [(zc6 k, sub (bodyOf Go.Proofs.Tryz.f101) [1, 1, 1, 0, 1])]) (by kernel_rfl) ⟨zc8 k, trivial⟩) fun x R h => by
    simp only [zcb, S_l15Keys, optK_bind, optK_bif, optK_pure, optK_none, optK_oc, optK_guardT, optK_map] at h
    refine hold_of h ?_
    kernel_rfl
def zce (k : Nat) : Entry D := entS zca (zcb k) zcc
theorem zcf (k : Nat) : EntryOK X 101 (zce k) := (zcd k).en rfl
def zcg : Plan := ⟨[(0, [(1, none)]), (1, [(1, none), (3, none)]), (2, [(1, none), (3, none), (11, none)]), (3, [(1, none), (3, none)]), (4, [(1, none), (3, none), (4, none)]), (5, [(1, none), (3, none), (4, none), (16, none)]), (6, [(1, none), (3, none), (4, none)]), (7, [(1, none), (3, none), (4, none), (29, none)]), (8, [(2, none)]), (9, [(1, none), (3, none), (53, none)]), (10, [(2, none)]), (11, [(1, none), (5, none)]), (12, [(1, none), (5, none), (58, none)]), (13, [(1, none), (5, none)]), (14, [(1, none), (5, none), (6, none)]), (15, [(1, none), (5, none), (91, none)]), (16, [(2, none)]), (17, [(2, none)])],
  [(0, [(1, none)]), (1, [(1, none), (3, none)]), (2, [(1, none), (3, none)]), (3, [(1, none), (3, none), (4, none)]), (4, [(1, none)]), (5, [(1, none), (5, none)])],
  [(11, ([(1, none), (3, none)], [(1, none)])), (16, ([(1, none), (3, none), (4, none)], [(1, none), (3, none)])), (29, ([], [(1, none), (3, none), (4, none)])), (53, ([], [(1, none), (3, none)])), (58, ([(1, none), (5, none)], [(1, none)])), (91, ([], [(1, none), (5, none)]))]⟩
def zch (k : Nat) : Calls' D := ⟨[(98, z66 k), (78, z48 k), (99, zau k), (100, zc0 k), (101, zce k)], [], [], [], []⟩
theorem zci (k : Nat) : CallsOK X (zch k) := .cons (z67 k) (.cons (z49 k) (.cons (zav k) (.cons (zc1 k) (.cons (zcf k) (.nil cod)))))
def zcj (x : Int × Int × (List UInt8) × (List UInt8) × (List UInt8) × Bool × (List (List UInt8)) × (List IVersion) × Unit) (o : Oc (Unit) (Bool)) (Q : Ex → VSt D → Prop) (R : VR D → Prop) : Prop := ocP o (fun v0 => Q .normal (mkSt ⟨[(1, .ptr 1 0), (3, .hole)], [(1, .var [.hole, .hole, .hole, .hole, .hole, .hole])]⟩ [.int .i64 x.1, .str x.2.2.1, .str x.2.2.2.1, .str x.2.2.2.2.1, .bool x.2.2.2.2.2.1, .sl 9 x.2.2.2.2.2.2.1, .sl 121 x.2.2.2.2.2.2.2.1])) (fun w0 => R (.p (.c (.bool w0))))
def zck (k : Nat) : Cut D := cutS ⟨[(1, .ptr 1 0), (3, .hole), (4, .hole)], [(1, .var [.hole, .hole, .hole, .hole, .hole, .hole])]⟩ [.ki .i64, .ki .i64, .ks, .ks, .ks, .kb, .kl 9, .kl 121] (fun (x : Int × Int × (List UInt8) × (List UInt8) × (List UInt8) × Bool × (List (List UInt8)) × (List IVersion) × Unit) => S_l15Resource_b2 k k x.1 x.2.1 x.2.2.1 x.2.2.2.1 x.2.2.2.2.1 x.2.2.2.2.2.1 x.2.2.2.2.2.2.1 x.2.2.2.2.2.2.2.1) zcj
def zcl (k : Nat) : Cuts D := ⟨[], []⟩
theorem zcm (k : Nat) : CutFor X zcg k Go.Proofs.Tryz.f41.results.toList (zck k) (sub (bodyOf Go.Proofs.Tryz.f41) [1, 0, 1, 0, 0, 1, 0, 0, 0, 1]) :=
  loopCut_s (X := X) (sg := [.ki .i64, .ki .i64, .ks, .ks, .ks, .kb, .kl 9, .kl 121]) (cu := zcl k) (cl := zch k) (tys := [[0]]) (id := 2) (c := sub (bodyOf Go.Proofs.Tryz.f41) [1, 0, 1, 0, 0, 1, 0, 0, 0, 1, 0, 0]) (f := fun n => fun (x : Int × Int × (List UInt8) × (List UInt8) × (List UInt8) × Bool × (List (List UInt8)) × (List IVersion) × Unit) => S_l15Resource_b2 k n x.1 x.2.1 x.2.2.1 x.2.2.2.1 x.2.2.2.2.1 x.2.2.2.2.2.1 x.2.2.2.2.2.2.1 x.2.2.2.2.2.2.2.1) (zci k) (cutOK_of (l := []) (by kernel_rfl) trivial) (fun _ => rfl) (fun n x Q R h => by
    simp only [S_l15Resource_b2, optK_bind, optK_bif, optK_pure, optK_none, optK_oc, optK_guardT, optK_map] at h
    refine hold_of h ?_
    kernel_rfl) (by kernel_rfl)
def zcn (x : Int × (List UInt8) × (List UInt8) × (List UInt8) × Bool × (List (List UInt8)) × (List IVersion) × Unit) (o : Oc (Unit) (Bool)) (Q : Ex → VSt D → Prop) (R : VR D → Prop) : Prop := ocP o (fun v0 => Q .normal (mkSt ⟨[(1, .ptr 1 0)], [(1, .var [.hole, .hole, .hole, .hole, .hole, .hole])]⟩ [.str x.2.1, .str x.2.2.1, .str x.2.2.2.1, .bool x.2.2.2.2.1, .sl 9 x.2.2.2.2.2.1, .sl 121 x.2.2.2.2.2.2.1])) (fun w0 => R (.p (.c (.bool w0))))
def zco (k : Nat) : Cut D := cutS ⟨[(1, .ptr 1 0), (3, .hole)], [(1, .var [.hole, .hole, .hole, .hole, .hole, .hole])]⟩ [.ki .i64, .ks, .ks, .ks, .kb, .kl 9, .kl 121] (fun (x : Int × (List UInt8) × (List UInt8) × (List UInt8) × Bool × (List (List UInt8)) × (List IVersion) × Unit) => S_l15Resource_b0 k k x.1 x.2.1 x.2.2.1 x.2.2.2.1 x.2.2.2.2.1 x.2.2.2.2.2.1 x.2.2.2.2.2.2.1) zcn
def zcp (k : Nat) : Cuts D := ⟨[(2, some (zck k))], []⟩
theorem zcq (k : Nat) : CutFor X zcg k Go.Proofs.Tryz.f41.results.toList (zco k) (sub (bodyOf Go.Proofs.Tryz.f41) [1, 0, 1]) :=
  loopCut_s (X := X) (sg := [.ki .i64, .ks, .ks, .ks, .kb, .kl 9, .kl 121]) (cu := zcp k) (cl := zch k) (tys := [[0]]) (id := 0) (c := sub (bodyOf Go.Proofs.Tryz.f41) [1, 0, 1, 0, 0]) (f := fun n => fun (x : Int × (List UInt8) × (List UInt8) × (List UInt8) × Bool × (List (List UInt8)) × (List IVersion) × Unit) => S_l15Resource_b0 k n x.1 x.2.1 x.2.2.1 x.2.2.2.1 x.2.2.2.2.1 x.2.2.2.2.2.1 x.2.2.2.2.2.2.1) (zci k) (cutOK_of (l := [(zck k, sub (bodyOf Go.Proofs.Tryz.f41) [1, 0, 1, 0, 0, 1, 0, 0, 0, 1])]) (by kernel_rfl) ⟨zcm k, trivial⟩) (fun _ => rfl) (fun n x Q R h => by
    simp only [S_l15Resource_b0, optK_bind, optK_bif, optK_pure, optK_none, optK_oc, optK_guardT, optK_map] at h
    refine hold_of h ?_
    kernel_rfl) (by kernel_rfl)
def zcr (x : Int × (List UInt8) × (List UInt8) × (List UInt8) × Bool × (List (List UInt8)) × (List IVersion) × Unit) (o : Oc (Unit) (Bool)) (Q : Ex → VSt D → Prop) (R : VR D → Prop) : Prop := ocP o (fun v0 => Q .normal (mkSt ⟨[(1, .ptr 1 0)], [(1, .var [.hole, .hole, .hole, .hole, .hole, .hole])]⟩ [.str x.2.1, .str x.2.2.1, .str x.2.2.2.1, .bool x.2.2.2.2.1, .sl 9 x.2.2.2.2.2.1, .sl 121 x.2.2.2.2.2.2.1])) (fun w0 => R (.p (.c (.bool w0))))
def zcs (k : Nat) : Cut D := cutS ⟨[(1, .ptr 1 0), (5, .hole)], [(1, .var [.hole, .hole, .hole, .hole, .hole, .hole])]⟩ [.ki .i64, .ks, .ks, .ks, .kb, .kl 9, .kl 121] (fun (x : Int × (List UInt8) × (List UInt8) × (List UInt8) × Bool × (List (List UInt8)) × (List IVersion) × Unit) => S_l15Resource_b4 k k x.1 x.2.1 x.2.2.1 x.2.2.2.1 x.2.2.2.2.1 x.2.2.2.2.2.1 x.2.2.2.2.2.2.1) zcr
def zct (k : Nat) : Cuts D := ⟨[], []⟩
theorem zcu (k : Nat) : CutFor X zcg k Go.Proofs.Tryz.f41.results.toList (zcs k) (sub (bodyOf Go.Proofs.Tryz.f41) [1, 1, 0, 1]) :=
  loopCut_s (X := X) (sg := [.ki .i64, .ks, .ks, .ks, .kb, .kl 9, .kl 121]) (cu := zct k) (cl := zch k) (tys := [[0]]) (id := 4) (c := sub (bodyOf Go.Proofs.Tryz.f41) [1, 1, 0, 1, 0, 0]) (f := fun n => fun (x : Int × (List UInt8) × (List UInt8) × (List UInt8) × Bool × (List (List UInt8)) × (List IVersion) × Unit) => S_l15Resource_b4 k n x.1 x.2.1 x.2.2.1 x.2.2.2.1 x.2.2.2.2.1 x.2.2.2.2.2.1 x.2.2.2.2.2.2.1) (zci k) (cutOK_of (l := []) (by kernel_rfl) trivial) (fun _ => rfl) (fun n x Q R h => by
    simp only [S_l15Resource_b4, optK_bind, optK_bif, optK_pure, optK_none, optK_oc, optK_guardT, optK_map] at h
    refine hold_of h ?_
    kernel_rfl) (by kernel_rfl)
def zcv (k : Nat) : Cuts D := ⟨[(0, some (zco k)), (4, some (zcs k))], []⟩
def zcw : List Ar := [.a [.ks, .ks, .ks, .kb, .kl 9, .kl 121]]
def zcx (k : Nat) (x : TupA D zcw) : Option (Bool) := S_l15Resource k (⟨x.1.1, x.1.2.1, x.1.2.2.1, x.1.2.2.2.1, x.1.2.2.2.2.1, x.1.2.2.2.2.2.1⟩ : IResource)
def zcy (r : Bool) : VR D := .p (.c (.bool r))
theorem zcz (k : Nat) : Does P X 41 zcw (zcx k) zcy :=
  does_of (body := bodyOf Go.Proofs.Tryz.f41) (pl := zcg) (k := k) (cu := zcv k) (tys := [[0]]) (zci k) ctx mixed Go.Proofs.Tryz.func41 (by kernel_rfl) (by kernel_rfl) (cutOK_of (l := [(zco k, sub (bodyOf Go.Proofs.Tryz.f41) [1, 0, 1]), (zcs k, sub (bodyOf Go.Proofs.Tryz.f41) [1, 1, 0, 1])]) (by kernel_rfl) ⟨zcq k, zcu k, trivial⟩) fun x R h => by
    simp only [zcx, S_l15Resource, optK_bind, optK_bif, optK_pure, optK_none, optK_oc, optK_guardT, optK_map] at h
    refine hold_of h ?_
    kernel_rfl
def zd0 (k : Nat) : Entry D := entS zcw (zcx k) zcy
theorem zd1 (k : Nat) : EntryOK X 41 (zd0 k) := (zcz k).en rfl
def zd2 : Plan := ⟨[(0, [(1, none), (2, none)]), (1, [(1, none), (2, none), (5, none)]), (2, [(1, none), (2, none), (5, none), (10, none)]), (3, [(1, none), (2, none), (5, none)]), (4, [(1, none), (2, none), (5, none), (20, none)]), (5, [(4, none)]), (6, [(4, none)])],
  [(0, []), (1, [(1, none), (2, none), (5, none)])],
  [(10, ([(1, none), (2, none), (5, none)], [])), (20, ([(5, none)], [(1, none), (2, none), (5, none)]))]⟩
def zd3 (k : Nat) : Calls' D := ⟨[], [], [], [], []⟩
theorem zd4 (k : Nat) : CallsOK X (zd3 k) := .nil cod
def zd5 (x : (List UInt8) × Int × (List UInt8) × (List IResource) × Unit) (o : Oc (Unit) (Int)) (Q : Ex → VSt D → Prop) (R : VR D → Prop) : Prop := ocP o (fun v0 => Q .normal (mkSt ⟨[], []⟩ [])) (fun w0 => R (.p (.c (.int .i64 w0))))
def zd6 (k : Nat) : Cut D := cutS ⟨[(1, .hole), (2, .ptr 2 0), (5, .hole)], [(2, .var [.hole, .hole])]⟩ [.ks, .ki .i64, .ks, .kl 71] (fun (x : (List UInt8) × Int × (List UInt8) × (List IResource) × Unit) => S_FindResource_b0 k k x.1 x.2.1 x.2.2.1 x.2.2.2.1) zd5
def zd7 (k : Nat) : Cuts D := ⟨[], []⟩
theorem zd8 (k : Nat) : CutFor X zd2 k Go.Proofs.Tryz.f42.results.toList (zd6 k) (sub (bodyOf Go.Proofs.Tryz.f42) [1, 0, 1]) :=
  loopCut_s (X := X) (sg := [.ks, .ki .i64, .ks, .kl 71]) (cu := zd7 k) (cl := zd3 k) (tys := [[0]]) (id := 0) (c := sub (bodyOf Go.Proofs.Tryz.f42) [1, 0, 1, 0, 0]) (f := fun n => fun (x : (List UInt8) × Int × (List UInt8) × (List IResource) × Unit) => S_FindResource_b0 k n x.1 x.2.1 x.2.2.1 x.2.2.2.1) (zd4 k) (cutOK_of (l := []) (by kernel_rfl) trivial) (fun _ => rfl) (fun n x Q R h => by
    simp only [S_FindResource_b0, optK_bind, optK_bif, optK_pure, optK_none, optK_oc, optK_guardT, optK_map] at h
    refine hold_of h ?_
    kernel_rfl) (by kernel_rfl)
def zd9 (k : Nat) : Cuts D := ⟨[(0, some (zd6 k))], []⟩
def zda : List Ar := [.a [.ks, .kl 71], .c (.ks)]
def zdb (k : Nat) (x : TupA D zda) : Option (Int) := S_FindResource k (⟨x.1.1, x.1.2.1⟩ : IOrigin) x.2.1
def zdc (r : Int) : VR D := .p (.c (.int .i64 r))
theorem zdd (k : Nat) : Does P X 42 zda (zdb k) zdc :=
  does_of (body := bodyOf Go.Proofs.Tryz.f42) (pl := zd2) (k := k) (cu := zd9 k) (tys := [[0]]) (zd4 k) ctx mixed Go.Proofs.Tryz.func42 (by kernel_rfl) (by kernel_rfl) (cutOK_of (l := [(zd6 k, sub (bodyOf Go.Proofs.Tryz.f42) [1, 0, 1])]) (by kernel_rfl) ⟨zd8 k, trivial⟩) fun x R h => by
    simp only [zdb, S_FindResource, optK_bind, optK_bif, optK_pure, optK_none, optK_oc, optK_guardT, optK_map] at h
    refine hold_of h ?_
    kernel_rfl
def zde (k : Nat) : Entry D := entS zda (zdb k) zdc
theorem zdf (k : Nat) : EntryOK X 42 (zde k) := (zdd k).en rfl
def zdg : Plan := ⟨[(0, [(0, some 9)]), (1, [(0, some 9), (3, none)]), (2, [(0, some 9), (3, none), (4, none)]), (3, [(0, some 9), (3, none), (4, none), (8, none)]), (4, [(0, some 9), (3, none), (4, none)]), (5, [(0, some 9), (3, none), (4, none), (12, none)]), (6, [(0, some 9), (3, none), (4, none)]), (7, [(0, some 9), (3, none), (4, none)]), (8, [(2, none)])],
  [(0, [(3, none)]), (1, [(0, some 9), (3, none), (4, none)])],
  [(8, ([(0, some 9), (3, none), (4, none)], [(3, none)])), (12, ([(0, some 9), (3, none), (4, none)], [(0, some 9), (3, none), (4, none)]))]⟩
def zdh (k : Nat) : Calls' D := ⟨[], [], [], [], []⟩
theorem zdi (k : Nat) : CallsOK X (zdh k) := .nil cod
def zdj (x : (List (List UInt8)) × (List UInt8) × Int × Bool × Unit) (o : (List UInt8)) (Q : Ex → VSt D → Prop) (R : VR D → Prop) : Prop := Q .normal (mkSt ⟨[(0, .hole), (3, .hole), (4, .hole)], []⟩ [.sl 9 x.1, .str o, .int .i64 x.2.2.1])
def zdk (k : Nat) : Cut D := cutS ⟨[(0, .hole), (3, .hole), (4, .hole), (12, .hole)], []⟩ [.kl 9, .ks, .ki .i64, .kb] (fun (x : (List (List UInt8)) × (List UInt8) × Int × Bool × Unit) => S_JoinList_c12 k x.1 x.2.1 x.2.2.1 x.2.2.2.1) zdj
def zdl (k : Nat) : Cuts D := ⟨[], []⟩
theorem zdm (k : Nat) : CutFor X zdg k Go.Proofs.Tryz.f117.results.toList (zdk k) (sub (bodyOf Go.Proofs.Tryz.f117) [1, 1, 0, 1, 0, 0, 1, 0, 0, 0, 1]) :=
  joinCut_s (X := X) (sg := [.kl 9, .ks, .ki .i64, .kb]) (cu := zdl k) (cl := zdh k) (tys := [[0]]) (zdi k) (cutOK_of (l := []) (by kernel_rfl) trivial) fun x Q R h => by
    simp only [S_JoinList_c12, optK_bind, optK_bif, optK_pure, optK_none, optK_oc, optK_guardT, optK_map] at h
    refine hold_of h ?_
    kernel_rfl
def zdn (x : (List (List UInt8)) × (List UInt8) × Int × Unit) (o : (List UInt8)) (Q : Ex → VSt D → Prop) (R : VR D → Prop) : Prop := Q .normal (mkSt ⟨[(0, .hole), (3, .hole), (4, .hole)], []⟩ [.sl 9 x.1, .str o, .int .i64 x.2.2.1])
def zdo (k : Nat) : Cut D := cutS ⟨[(0, .hole), (3, .hole), (4, .hole)], []⟩ [.kl 9, .ks, .ki .i64] (fun (x : (List (List UInt8)) × (List UInt8) × Int × Unit) => S_JoinList_b1 k x.1 x.2.1 x.2.2.1) zdn
def zdp (k : Nat) : Cuts D := ⟨[], [(12, some (zdk k))]⟩
theorem zdq (k : Nat) : CutFor X zdg k Go.Proofs.Tryz.f117.results.toList (zdo k) (sub (bodyOf Go.Proofs.Tryz.f117) [1, 1, 0, 1, 0, 0, 1, 0]) :=
  joinCut_s (X := X) (sg := [.kl 9, .ks, .ki .i64]) (cu := zdp k) (cl := zdh k) (tys := [[0]]) (zdi k) (cutOK_of (l := [(zdk k, sub (bodyOf Go.Proofs.Tryz.f117) [1, 1, 0, 1, 0, 0, 1, 0, 0, 0, 1])]) (by kernel_rfl) ⟨zdm k, trivial⟩) fun x Q R h => by
    simp only [S_JoinList_b1, optK_bind, optK_bif, optK_pure, optK_none, optK_oc, optK_guardT, optK_map] at h
    refine hold_of h ?_
    kernel_rfl
def zdr (x : (List (List UInt8)) × (List UInt8) × Int × Unit) (o : (List UInt8)) (Q : Ex → VSt D → Prop) (R : VR D → Prop) : Prop := Q .normal (mkSt ⟨[(3, .hole)], []⟩ [.str o])
def zds (k : Nat) : Cut D := cutS ⟨[(0, .hole), (3, .hole), (4, .hole)], []⟩ [.kl 9, .ks, .ki .i64] (fun (x : (List (List UInt8)) × (List UInt8) × Int × Unit) => S_JoinList_b0 k k x.1 x.2.1 x.2.2.1) zdr
def zdt (k : Nat) : Cuts D := ⟨[(1, some (zdo k))], []⟩
theorem zdu (k : Nat) : CutFor X zdg k Go.Proofs.Tryz.f117.results.toList (zds k) (sub (bodyOf Go.Proofs.Tryz.f117) [1, 1, 0, 1]) :=
  loopCut_s (X := X) (sg := [.kl 9, .ks, .ki .i64]) (cu := zdt k) (cl := zdh k) (tys := [[0]]) (id := 0) (c := sub (bodyOf Go.Proofs.Tryz.f117) [1, 1, 0, 1, 0, 0]) (f := fun n => fun (x : (List (List UInt8)) × (List UInt8) × Int × Unit) => S_JoinList_b0 k n x.1 x.2.1 x.2.2.1) (zdi k) (cutOK_of (l := [(zdo k, sub (bodyOf Go.Proofs.Tryz.f117) [1, 1, 0, 1, 0, 0, 1, 0])]) (by kernel_rfl) ⟨zdq k, trivial⟩) (fun _ => rfl) (fun n x Q R h => by
    simp only [S_JoinList_b0, optK_bind, optK_bif, optK_pure, optK_none, optK_oc, optK_guardT, optK_map] at h
    refine hold_of h ?_
    kernel_rfl) (by kernel_rfl)
def zdv (k : Nat) : Cuts D := ⟨[(0, some (zds k))], []⟩
def zdw : List Ar := [.c (.kl 9)]
def zdx (k : Nat) (x : TupA D zdw) : Option ((List UInt8)) := S_JoinList k x.1
def zdy (r : (List UInt8)) : VR D := .p (.c (.str r))
theorem zdz (k : Nat) : Does P X 117 zdw (zdx k) zdy :=
  does_of (body := bodyOf Go.Proofs.Tryz.f117) (pl := zdg) (k := k) (cu := zdv k) (tys := [[0]]) (zdi k) ctx mixed Go.Proofs.Tryz.func117 (by kernel_rfl) (by kernel_rfl) (cutOK_of (l := [(zds k, sub (bodyOf Go.Proofs.Tryz.f117) [1, 1, 0, 1])]) (by kernel_rfl) ⟨zdu k, trivial⟩) fun x R h => by
    simp only [zdx, S_JoinList, optK_bind, optK_bif, optK_pure, optK_none, optK_oc, optK_guardT, optK_map] at h
    refine hold_of h ?_
    kernel_rfl
def ze0 (k : Nat) : Entry D := entS zdw (zdx k) zdy
theorem ze1 (k : Nat) : EntryOK X 117 (ze0 k) := (zdz k).en rfl
def ze2 : Plan := ⟨[(0, [(0, some 107), (1, none)]), (1, [(0, some 107), (1, none), (6, some 9)]), (2, [(0, some 107), (1, none), (6, some 9), (7, none)]), (3, [(0, some 107), (1, none), (6, some 9), (7, none), (12, none)]), (4, [(0, some 107), (1, none), (6, some 9), (7, none)]), (5, [(0, some 107), (1, none), (6, some 9), (7, none), (21, none)]), (6, [(0, some 107), (1, none), (6, some 9), (7, none)]), (7, [(4, none), (5, none)])],
  [(0, [(6, some 9)]), (1, [(0, some 107), (1, none), (6, some 9), (7, none)])],
  [(12, ([(0, some 107), (1, none), (6, some 9), (7, none)], [(6, some 9)])), (21, ([(0, some 107), (1, none), (6, some 9), (7, none)], [(0, some 107), (1, none), (6, some 9), (7, none)]))]⟩
def ze3 (k : Nat) : Calls' D := ⟨[(117, ze0 k)], [], [], [], []⟩
theorem ze4 (k : Nat) : CallsOK X (ze3 k) := .cons (ze1 k) (.nil cod)
def ze5 (x : (List IField) × (List UInt8) × Int × Bool × (List (List UInt8)) × Unit) (o : (List (List UInt8))) (Q : Ex → VSt D → Prop) (R : VR D → Prop) : Prop := Q .normal (mkSt ⟨[(0, .hole), (1, .hole), (6, .ref 500006), (7, .hole)], [(500006, .row)]⟩ [.sl 107 x.1, .str x.2.1, .int .i64 x.2.2.1, .sl 9 o])
def ze6 (k : Nat) : Cut D := cutS ⟨[(0, .hole), (1, .hole), (6, .ref 500006), (7, .hole), (21, .hole)], [(500006, .row)]⟩ [.kl 107, .ks, .ki .i64, .kb, .kl 9] (fun (x : (List IField) × (List UInt8) × Int × Bool × (List (List UInt8)) × Unit) => S_GetField_c21 k x.1 x.2.1 x.2.2.1 x.2.2.2.1 x.2.2.2.2.1) ze5
def ze7 (k : Nat) : Cuts D := ⟨[], []⟩
theorem ze8 (k : Nat) : CutFor X ze2 k Go.Proofs.Tryz.f54.results.toList (ze6 k) (sub (bodyOf Go.Proofs.Tryz.f54) [1, 1, 0, 1, 0, 0, 1, 0, 0, 1]) :=
  joinCut_s (X := X) (sg := [.kl 107, .ks, .ki .i64, .kb, .kl 9]) (cu := ze7 k) (cl := ze3 k) (tys := [[0], [0]]) (ze4 k) (cutOK_of (l := []) (by kernel_rfl) trivial) fun x Q R h => by
    simp only [S_GetField_c21, optK_bind, optK_bif, optK_pure, optK_none, optK_oc, optK_guardT, optK_map] at h
    refine hold_of h ?_
    kernel_rfl
def ze9 (x : (List IField) × (List UInt8) × Int × (List (List UInt8)) × Unit) (o : (List (List UInt8))) (Q : Ex → VSt D → Prop) (R : VR D → Prop) : Prop := Q .normal (mkSt ⟨[(0, .hole), (1, .hole), (6, .ref 500006), (7, .hole)], [(500006, .row)]⟩ [.sl 107 x.1, .str x.2.1, .int .i64 x.2.2.1, .sl 9 o])
def zea (k : Nat) : Cut D := cutS ⟨[(0, .hole), (1, .hole), (6, .ref 500006), (7, .hole)], [(500006, .row)]⟩ [.kl 107, .ks, .ki .i64, .kl 9] (fun (x : (List IField) × (List UInt8) × Int × (List (List UInt8)) × Unit) => S_GetField_b1 k x.1 x.2.1 x.2.2.1 x.2.2.2.1) ze9
def zeb (k : Nat) : Cuts D := ⟨[], [(21, some (ze6 k))]⟩
theorem zec (k : Nat) : CutFor X ze2 k Go.Proofs.Tryz.f54.results.toList (zea k) (sub (bodyOf Go.Proofs.Tryz.f54) [1, 1, 0, 1, 0, 0, 1, 0]) :=
  joinCut_s (X := X) (sg := [.kl 107, .ks, .ki .i64, .kl 9]) (cu := zeb k) (cl := ze3 k) (tys := [[0], [0]]) (ze4 k) (cutOK_of (l := [(ze6 k, sub (bodyOf Go.Proofs.Tryz.f54) [1, 1, 0, 1, 0, 0, 1, 0, 0, 1])]) (by kernel_rfl) ⟨ze8 k, trivial⟩) fun x Q R h => by
    simp only [S_GetField_b1, optK_bind, optK_bif, optK_pure, optK_none, optK_oc, optK_guardT, optK_map] at h
    refine hold_of h ?_
    kernel_rfl
def zed (x : (List IField) × (List UInt8) × Int × (List (List UInt8)) × Unit) (o : (List (List UInt8))) (Q : Ex → VSt D → Prop) (R : VR D → Prop) : Prop := Q .normal (mkSt ⟨[(6, .ref 500006)], [(500006, .row)]⟩ [.sl 9 o])
def zee (k : Nat) : Cut D := cutS ⟨[(0, .hole), (1, .hole), (6, .ref 500006), (7, .hole)], [(500006, .row)]⟩ [.kl 107, .ks, .ki .i64, .kl 9] (fun (x : (List IField) × (List UInt8) × Int × (List (List UInt8)) × Unit) => S_GetField_b0 k k x.1 x.2.1 x.2.2.1 x.2.2.2.1) zed
def zef (k : Nat) : Cuts D := ⟨[(1, some (zea k))], []⟩
theorem zeg (k : Nat) : CutFor X ze2 k Go.Proofs.Tryz.f54.results.toList (zee k) (sub (bodyOf Go.Proofs.Tryz.f54) [1, 1, 0, 1]) :=
  loopCut_s (X := X) (sg := [.kl 107, .ks, .ki .i64, .kl 9]) (cu := zef k) (cl := ze3 k) (tys := [[0], [0]]) (id := 0) (c := sub (bodyOf Go.Proofs.Tryz.f54) [1, 1, 0, 1, 0, 0]) (f := fun n => fun (x : (List IField) × (List UInt8) × Int × (List (List UInt8)) × Unit) => S_GetField_b0 k n x.1 x.2.1 x.2.2.1 x.2.2.2.1) (ze4 k) (cutOK_of (l := [(zea k, sub (bodyOf Go.Proofs.Tryz.f54) [1, 1, 0, 1, 0, 0, 1, 0])]) (by kernel_rfl) ⟨zec k, trivial⟩) (fun _ => rfl) (fun n x Q R h => by
    simp only [S_GetField_b0, optK_bind, optK_bif, optK_pure, optK_none, optK_oc, optK_guardT, optK_map] at h
    refine hold_of h ?_
    kernel_rfl) (by kernel_rfl)
def zeh (k : Nat) : Cuts D := ⟨[(0, some (zee k))], []⟩
def zei : List Ar := [.c (.kl 107), .c (.ks)]
def zej (k : Nat) (x : TupA D zei) : Option ((List UInt8) × Bool) := S_GetField k x.1 x.2.1
def zek (r : (List UInt8) × Bool) : VR D := .tup [.c (.str r.1), .c (.bool r.2)]
theorem zel (k : Nat) : Does P X 54 zei (zej k) zek :=
  does_of (body := bodyOf Go.Proofs.Tryz.f54) (pl := ze2) (k := k) (cu := zeh k) (tys := [[0], [0]]) (ze4 k) ctx mixed Go.Proofs.Tryz.func54 (by kernel_rfl) (by kernel_rfl) (cutOK_of (l := [(zee k, sub (bodyOf Go.Proofs.Tryz.f54) [1, 1, 0, 1])]) (by kernel_rfl) ⟨zeg k, trivial⟩) fun x R h => by
    simp only [zej, S_GetField, optK_bind, optK_bif, optK_pure, optK_none, optK_oc, optK_guardT, optK_map] at h
    refine hold_of h ?_
    kernel_rfl
def zem (k : Nat) : Entry D := entS zei (zej k) zek
theorem zen (k : Nat) : EntryOK X 54 (zem k) := (zel k).en rfl
def zeo : Plan := ⟨[(0, [(0, some 107)]), (1, [(0, some 107), (3, none)]), (2, [(0, some 107), (3, none), (7, none)]), (3, [(0, some 107), (3, none)]), (4, [(0, some 107), (3, none), (25, none)]), (5, [(2, none)]), (6, [(2, none)])],
  [(0, [(0, some 107)]), (1, [(0, some 107), (3, none)])],
  [(7, ([(0, some 107), (3, none)], [(0, some 107)])), (25, ([], [(0, some 107), (3, none)]))]⟩
def zep (k : Nat) : Calls' D := ⟨[(98, z66 k), (100, zc0 k)], [], [], [], []⟩
theorem zeq (k : Nat) : CallsOK X (zep k) := .cons (z67 k) (.cons (zc1 k) (.nil cod))
def zer (x : (List IField) × Int × Unit) (o : Oc (Unit) (Bool)) (Q : Ex → VSt D → Prop) (R : VR D → Prop) : Prop := ocP o (fun v0 => Q .normal (mkSt ⟨[(0, .hole)], []⟩ [.sl 107 x.1])) (fun w0 => R (.p (.c (.bool w0))))
def zes (k : Nat) : Cut D := cutS ⟨[(0, .hole), (3, .hole)], []⟩ [.kl 107, .ki .i64] (fun (x : (List IField) × Int × Unit) => S_AreFields_b0 k k x.1 x.2.1) zer
def zet (k : Nat) : Cuts D := ⟨[], []⟩
theorem zeu (k : Nat) : CutFor X zeo k Go.Proofs.Tryz.f140.results.toList (zes k) (sub (bodyOf Go.Proofs.Tryz.f140) [1, 0, 1]) :=
  loopCut_s (X := X) (sg := [.kl 107, .ki .i64]) (cu := zet k) (cl := zep k) (tys := [[0]]) (id := 0) (c := sub (bodyOf Go.Proofs.Tryz.f140) [1, 0, 1, 0, 0]) (f := fun n => fun (x : (List IField) × Int × Unit) => S_AreFields_b0 k n x.1 x.2.1) (zeq k) (cutOK_of (l := []) (by kernel_rfl) trivial) (fun _ => rfl) (fun n x Q R h => by
    simp only [S_AreFields_b0, optK_bind, optK_bif, optK_pure, optK_none, optK_oc, optK_guardT, optK_map] at h
    refine hold_of h ?_
    kernel_rfl) (by kernel_rfl)
def zev (k : Nat) : Cuts D := ⟨[(0, some (zes k))], []⟩
def zew : List Ar := [.c (.kl 107)]
def zex (k : Nat) (x : TupA D zew) : Option (Bool) := S_AreFields k x.1
def zey (r : Bool) : VR D := .p (.c (.bool r))
theorem zez (k : Nat) : Does P X 140 zew (zex k) zey :=
  does_of (body := bodyOf Go.Proofs.Tryz.f140) (pl := zeo) (k := k) (cu := zev k) (tys := [[0]]) (zeq k) ctx mixed Go.Proofs.Tryz.func140 (by kernel_rfl) (by kernel_rfl) (cutOK_of (l := [(zes k, sub (bodyOf Go.Proofs.Tryz.f140) [1, 0, 1])]) (by kernel_rfl) ⟨zeu k, trivial⟩) fun x R h => by
    simp only [zex, S_AreFields, optK_bind, optK_bif, optK_pure, optK_none, optK_oc, optK_guardT, optK_map] at h
    refine hold_of h ?_
    kernel_rfl
def zf0 (k : Nat) : Entry D := entS zew (zex k) zey
theorem zf1 (k : Nat) : EntryOK X 140 (zf0 k) := (zez k).en rfl
def zf2 : Plan := ⟨[(0, [(0, some 107)]), (1, [(0, some 107), (4, none)]), (2, [(2, none)])],
  [],
  []⟩
def zf3 (k : Nat) : Calls' D := ⟨[(54, zem k), (140, zf0 k)], [], [], [], []⟩
theorem zf4 (k : Nat) : CallsOK X (zf3 k) := .cons (zen k) (.cons (zf1 k) (.nil cod))
def zf5 (k : Nat) : Cuts D := ⟨[], []⟩
def zf6 : List Ar := [.c (.kl 107)]
def zf7 (k : Nat) (x : TupA D zf6) : Option (Bool) := S_l11Fields k x.1
def zf8 (r : Bool) : VR D := .p (.c (.bool r))
theorem zf9 (k : Nat) : Does P X 80 zf6 (zf7 k) zf8 :=
  does_of (body := bodyOf Go.Proofs.Tryz.f80) (pl := zf2) (k := k) (cu := zf5 k) (tys := [[0]]) (zf4 k) ctx mixed Go.Proofs.Tryz.func80 (by kernel_rfl) (by kernel_rfl) (cutOK_of (l := []) (by kernel_rfl) trivial) fun x R h => by
    simp only [zf7, S_l11Fields, optK_bind, optK_bif, optK_pure, optK_none, optK_oc, optK_guardT, optK_map] at h
    refine hold_of h ?_
    kernel_rfl
def zfa (k : Nat) : Entry D := entS zf6 (zf7 k) zf8
theorem zfb (k : Nat) : EntryOK X 80 (zfa k) := (zf9 k).en rfl
def zfc : Plan := ⟨[(0, [(1, none)]), (1, [(1, none), (3, none)]), (2, [(1, none), (3, none), (13, none)]), (3, [(1, none), (3, none)]), (4, [(1, none), (3, none), (21, none)]), (5, [(2, none)]), (6, [(1, none), (4, none)]), (7, [(1, none), (4, none), (26, none)]), (8, [(1, none), (4, none)]), (9, [(1, none), (4, none), (5, none)]), (10, [(1, none), (4, none), (50, none)]), (11, [(2, none)]), (12, [(1, none), (6, none)]), (13, [(1, none), (6, none), (55, none)]), (14, [(1, none), (6, none)]), (15, [(1, none), (6, none), (64, none)]), (16, [(2, none)]), (17, [(1, none), (8, none)]), (18, [(2, none)])],
  [(0, [(1, none)]), (1, [(1, none), (3, none)]), (2, [(1, none)]), (3, [(1, none), (4, none)]), (4, [(1, none)]), (5, [(1, none), (6, none)])],
  [(13, ([(1, none), (3, none)], [(1, none)])), (21, ([], [(1, none), (3, none)])), (26, ([(1, none), (4, none)], [(1, none)])), (50, ([], [(1, none), (4, none)])), (55, ([(1, none), (6, none)], [(1, none)])), (64, ([], [(1, none), (6, none)]))]⟩
def zfd (k : Nat) : Calls' D := ⟨[(78, z48 k), (54, zem k), (79, z5a k), (80, zfa k)], [], [], [], []⟩
theorem zfe (k : Nat) : CallsOK X (zfd k) := .cons (z49 k) (.cons (zen k) (.cons (z5b k) (.cons (zfb k) (.nil cod))))
def zff (x : Int × (List UInt8) × (List UInt8) × (List UInt8) × (List IField) × Unit) (o : Oc (Unit) (Bool)) (Q : Ex → VSt D → Prop) (R : VR D → Prop) : Prop := ocP o (fun v0 => Q .normal (mkSt ⟨[(1, .ptr 1 0)], [(1, .var [.hole, .hole, .hole, .hole])]⟩ [.str x.2.1, .str x.2.2.1, .str x.2.2.2.1, .sl 107 x.2.2.2.2.1])) (fun w0 => R (.p (.c (.bool w0))))
def zfg (k : Nat) : Cut D := cutS ⟨[(1, .ptr 1 0), (3, .hole)], [(1, .var [.hole, .hole, .hole, .hole])]⟩ [.ki .i64, .ks, .ks, .ks, .kl 107] (fun (x : Int × (List UInt8) × (List UInt8) × (List UInt8) × (List IField) × Unit) => S_IsRequest_b0 k k x.1 x.2.1 x.2.2.1 x.2.2.2.1 x.2.2.2.2.1) zff
def zfh (k : Nat) : Cuts D := ⟨[], []⟩
theorem zfi (k : Nat) : CutFor X zfc k Go.Proofs.Tryz.f35.results.toList (zfg k) (sub (bodyOf Go.Proofs.Tryz.f35) [1, 0, 1]) :=
  loopCut_s (X := X) (sg := [.ki .i64, .ks, .ks, .ks, .kl 107]) (cu := zfh k) (cl := zfd k) (tys := [[0]]) (id := 0) (c := sub (bodyOf Go.Proofs.Tryz.f35) [1, 0, 1, 0, 0]) (f := fun n => fun (x : Int × (List UInt8) × (List UInt8) × (List UInt8) × (List IField) × Unit) => S_IsRequest_b0 k n x.1 x.2.1 x.2.2.1 x.2.2.2.1 x.2.2.2.2.1) (zfe k) (cutOK_of (l := []) (by kernel_rfl) trivial) (fun _ => rfl) (fun n x Q R h => by
    simp only [S_IsRequest_b0, optK_bind, optK_bif, optK_pure, optK_none, optK_oc, optK_guardT, optK_map] at h
    refine hold_of h ?_
    kernel_rfl) (by kernel_rfl)
def zfj (x : Int × (List UInt8) × (List UInt8) × (List UInt8) × (List IField) × Unit) (o : Oc (Unit) (Bool)) (Q : Ex → VSt D → Prop) (R : VR D → Prop) : Prop := ocP o (fun v0 => Q .normal (mkSt ⟨[(1, .ptr 1 0)], [(1, .var [.hole, .hole, .hole, .hole])]⟩ [.str x.2.1, .str x.2.2.1, .str x.2.2.2.1, .sl 107 x.2.2.2.2.1])) (fun w0 => R (.p (.c (.bool w0))))
def zfk (k : Nat) : Cut D := cutS ⟨[(1, .ptr 1 0), (4, .hole)], [(1, .var [.hole, .hole, .hole, .hole])]⟩ [.ki .i64, .ks, .ks, .ks, .kl 107] (fun (x : Int × (List UInt8) × (List UInt8) × (List UInt8) × (List IField) × Unit) => S_IsRequest_b2 k k x.1 x.2.1 x.2.2.1 x.2.2.2.1 x.2.2.2.2.1) zfj
def zfl (k : Nat) : Cuts D := ⟨[], []⟩
theorem zfm (k : Nat) : CutFor X zfc k Go.Proofs.Tryz.f35.results.toList (zfk k) (sub (bodyOf Go.Proofs.Tryz.f35) [1, 1, 0, 1]) :=
  loopCut_s (X := X) (sg := [.ki .i64, .ks, .ks, .ks, .kl 107]) (cu := zfl k) (cl := zfd k) (tys := [[0]]) (id := 2) (c := sub (bodyOf Go.Proofs.Tryz.f35) [1, 1, 0, 1, 0, 0]) (f := fun n => fun (x : Int × (List UInt8) × (List UInt8) × (List UInt8) × (List IField) × Unit) => S_IsRequest_b2 k n x.1 x.2.1 x.2.2.1 x.2.2.2.1 x.2.2.2.2.1) (zfe k) (cutOK_of (l := []) (by kernel_rfl) trivial) (fun _ => rfl) (fun n x Q R h => by
    simp only [S_IsRequest_b2, optK_bind, optK_bif, optK_pure, optK_none, optK_oc, optK_guardT, optK_map] at h
    refine hold_of h ?_
    kernel_rfl) (by kernel_rfl)
def zfn (x : Int × (List UInt8) × (List UInt8) × (List UInt8) × (List IField) × Unit) (o : Oc (Unit) (Bool)) (Q : Ex → VSt D → Prop) (R : VR D → Prop) : Prop := ocP o (fun v0 => Q .normal (mkSt ⟨[(1, .ptr 1 0)], [(1, .var [.hole, .hole, .hole, .hole])]⟩ [.str x.2.1, .str x.2.2.1, .str x.2.2.2.1, .sl 107 x.2.2.2.2.1])) (fun w0 => R (.p (.c (.bool w0))))
def zfo (k : Nat) : Cut D := cutS ⟨[(1, .ptr 1 0), (6, .hole)], [(1, .var [.hole, .hole, .hole, .hole])]⟩ [.ki .i64, .ks, .ks, .ks, .kl 107] (fun (x : Int × (List UInt8) × (List UInt8) × (List UInt8) × (List IField) × Unit) => S_IsRequest_b4 k k x.1 x.2.1 x.2.2.1 x.2.2.2.1 x.2.2.2.2.1) zfn
def zfp (k : Nat) : Cuts D := ⟨[], []⟩
theorem zfq (k : Nat) : CutFor X zfc k Go.Proofs.Tryz.f35.results.toList (zfo k) (sub (bodyOf Go.Proofs.Tryz.f35) [1, 1, 1, 0, 1]) :=
  loopCut_s (X := X) (sg := [.ki .i64, .ks, .ks, .ks, .kl 107]) (cu := zfp k) (cl := zfd k) (tys := [[0]]) (id := 4) (c := sub (bodyOf Go.Proofs.Tryz.f35) [1, 1, 1, 0, 1, 0, 0]) (f := fun n => fun (x : Int × (List UInt8) × (List UInt8) × (List UInt8) × (List IField) × Unit) => S_IsRequest_b4 k n x.1 x.2.1 x.2.2.1 x.2.2.2.1 x.2.2.2.2.1) (zfe k) (cutOK_of (l := []) (by kernel_rfl) trivial) (fun _ => rfl) (fun n x Q R h => by
    simp only [S_IsRequest_b4, optK_bind, optK_bif, optK_pure, optK_none, optK_oc, optK_guardT, optK_map] at h
    refine hold_of h ?_
    kernel_rfl) (by kernel_rfl)
def zfr (k : Nat) : Cuts D := ⟨[(0, some (zfg k)), (2, some (zfk k)), (4, some (zfo k))], []⟩
def zfs : List Ar := [.a [.ks, .ks, .ks, .kl 107]]
def zft (k : Nat) (x : TupA D zfs) : Option (Bool) := S_IsRequest k (⟨x.1.1, x.1.2.1, x.1.2.2.1, x.1.2.2.2.1⟩ : IRequest)
def zfu (r : Bool) : VR D := .p (.c (.bool r))
theorem zfv (k : Nat) : Does P X 35 zfs (zft k) zfu :=
  does_of (body := bodyOf Go.Proofs.Tryz.f35) (pl := zfc) (k := k) (cu := zfr k) (tys := [[0]]) (zfe k) ctx mixed Go.Proofs.Tryz.func35 (by kernel_rfl) (by kernel_rfl) (cutOK_of (l := [(zfg k, sub (bodyOf Go.Proofs.Tryz.f35) [1, 0, 1]), (zfk k, sub (bodyOf Go.Proofs.Tryz.f35) [1, 1, 0, 1]), (zfo k, sub (bodyOf Go.Proofs.Tryz.f35) [1, 1, 1, 0, 1])]) (by kernel_rfl) ⟨zfi k, zfm k, zfq k, trivial⟩) fun x R h => by
    simp only [zft, S_IsRequest, optK_bind, optK_bif, optK_pure, optK_none, optK_oc, optK_guardT, optK_map] at h
    refine hold_of h ?_
    kernel_rfl
def zfw (k : Nat) : Entry D := entS zfs (zft k) zfu
theorem zfx (k : Nat) : EntryOK X 35 (zfw k) := (zfv k).en rfl
def zfy : Plan := ⟨[(0, [(1, none)]), (1, [(1, none), (3, none)]), (2, [(1, none), (3, none), (8, none)]), (3, [(1, none), (3, none)]), (4, [(1, none), (3, none), (29, none)]), (5, [(2, none)]), (6, [(2, none)])],
  [(0, [(1, none)]), (1, [(1, none), (3, none)])],
  [(8, ([(1, none), (3, none)], [(1, none)])), (29, ([], [(1, none), (3, none)]))]⟩
def zfz (k : Nat) : Calls' D := ⟨[(41, zd0 k), (42, zde k), (35, zfw k)], [], [], [], []⟩
theorem zg0 (k : Nat) : CallsOK X (zfz k) := .cons (zd1 k) (.cons (zdf k) (.cons (zfx k) (.nil cod)))
def zg1 (x : Int × (List UInt8) × (List IResource) × Unit) (o : Oc (Unit) (Bool)) (Q : Ex → VSt D → Prop) (R : VR D → Prop) : Prop := ocP o (fun v0 => Q .normal (mkSt ⟨[(1, .ptr 1 0)], [(1, .var [.hole, .hole])]⟩ [.str x.2.1, .sl 71 x.2.2.1])) (fun w0 => R (.p (.c (.bool w0))))
def zg2 (k : Nat) : Cut D := cutS ⟨[(1, .ptr 1 0), (3, .hole)], [(1, .var [.hole, .hole])]⟩ [.ki .i64, .ks, .kl 71] (fun (x : Int × (List UInt8) × (List IResource) × Unit) => S_IsOrigin_b0 k k x.1 x.2.1 x.2.2.1) zg1
def zg3 (k : Nat) : Cuts D := ⟨[], []⟩
theorem zg4 (k : Nat) : CutFor X zfy k Go.Proofs.Tryz.f16.results.toList (zg2 k) (sub (bodyOf Go.Proofs.Tryz.f16) [1, 0, 1]) :=
  loopCut_s (X := X) (sg := [.ki .i64, .ks, .kl 71]) (cu := zg3 k) (cl := zfz k) (tys := [[0]]) (id := 0) (c := sub (bodyOf Go.Proofs.Tryz.f16) [1, 0, 1, 0, 0]) (f := fun n => fun (x : Int × (List UInt8) × (List IResource) × Unit) => S_IsOrigin_b0 k n x.1 x.2.1 x.2.2.1) (zg0 k) (cutOK_of (l := []) (by kernel_rfl) trivial) (fun _ => rfl) (fun n x Q R h => by
    simp only [S_IsOrigin_b0, optK_bind, optK_bif, optK_pure, optK_none, optK_oc, optK_guardT, optK_map] at h
    refine hold_of h ?_
    kernel_rfl) (by kernel_rfl)
def zg5 (k : Nat) : Cuts D := ⟨[(0, some (zg2 k))], []⟩
def zg6 : List Ar := [.a [.ks, .kl 71]]
def zg7 (k : Nat) (x : TupA D zg6) : Option (Bool) := S_IsOrigin k (⟨x.1.1, x.1.2.1⟩ : IOrigin)
def zg8 (r : Bool) : VR D := .p (.c (.bool r))
theorem zg9 (k : Nat) : Does P X 16 zg6 (zg7 k) zg8 :=
  does_of (body := bodyOf Go.Proofs.Tryz.f16) (pl := zfy) (k := k) (cu := zg5 k) (tys := [[0]]) (zg0 k) ctx mixed Go.Proofs.Tryz.func16 (by kernel_rfl) (by kernel_rfl) (cutOK_of (l := [(zg2 k, sub (bodyOf Go.Proofs.Tryz.f16) [1, 0, 1])]) (by kernel_rfl) ⟨zg4 k, trivial⟩) fun x R h => by
    simp only [zg7, S_IsOrigin, optK_bind, optK_bif, optK_pure, optK_none, optK_oc, optK_guardT, optK_map] at h
    refine hold_of h ?_
    kernel_rfl
def zga (k : Nat) : Entry D := entS zg6 (zg7 k) zg8
theorem zgb (k : Nat) : EntryOK X 16 (zga k) := (zg9 k).en rfl
def zgc : List Ar := [.c (.ks), .c (.ki .u8)]
def zgd (k : Nat) (x : TupA D zgc) : Option (Int) := strings_IndexByte k x.1 x.2.1
def zge (r : Int) : VR D := .p (.c (.int .i64 r))
theorem zgf (k : Nat) : Does P X 143 zgc (zgd k) zge := does_indexByte ⟨Go.Proofs.Tryz.f143, Go.Proofs.Tryz.func143, by kernel_rfl, by kernel_rfl⟩ (fun s c w hg => Go.Proofs.Tryz.strings_IndexByte s c w)
def zgg (k : Nat) : Entry D := entS zgc (zgd k) zge
theorem zgh (k : Nat) : EntryOK X 143 (zgg k) := (zgf k).en rfl
def zgi : Plan := ⟨[(0, [(0, none)]), (1, [(2, none)])],
  [],
  []⟩
def zgj (k : Nat) : Calls' D := ⟨[(143, zgg k)], [], [], [], []⟩
theorem zgk (k : Nat) : CallsOK X (zgj k) := .cons (zgh k) (.nil cod)
def zgl (k : Nat) : Cuts D := ⟨[], []⟩
def zgm : List Ar := [.c (.ki .u8)]
def zgn (k : Nat) (x : TupA D zgm) : Option (Bool) := I_isTokenByte k x.1
def zgo (r : Bool) : VR D := .p (.c (.bool r))
theorem zgp (k : Nat) : Does P X 152 zgm (zgn k) zgo :=
  does_of (body := bodyOf Go.Proofs.Tryz.f152) (pl := zgi) (k := k) (cu := zgl k) (tys := [[0]]) (zgk k) ctx mixed Go.Proofs.Tryz.func152 (by kernel_rfl) (by kernel_rfl) (cutOK_of (l := []) (by kernel_rfl) trivial) fun x R h => by
    simp only [zgn, I_isTokenByte, optK_bind, optK_bif, optK_pure, optK_none, optK_oc, optK_guardT, optK_map] at h
    refine hold_of h ?_
    kernel_rfl
def zgq (k : Nat) : Entry D := entS zgm (zgn k) zgo
theorem zgr (k : Nat) : EntryOK X 152 (zgq k) := (zgp k).en rfl
def zgs : Plan := ⟨[(0, [(0, none), (1, none), (2, none)]), (1, [(6, none)])],
  [],
  []⟩
def zgt (k : Nat) : Calls' D := ⟨[], [], [], [], []⟩
theorem zgu (k : Nat) : CallsOK X (zgt k) := .nil cod
def zgv (k : Nat) : Cuts D := ⟨[], []⟩
def zgw : List Ar := [.c (.ki .i64), .c (.ki .i64), .c (.ki .i64)]
def zgx (k : Nat) (x : TupA D zgw) : Option (Bool) := I_inRange k x.1 x.2.1 x.2.2.1
def zgy (r : Bool) : VR D := .p (.c (.bool r))
theorem zgz (k : Nat) : Does P X 94 zgw (zgx k) zgy :=
  does_of (body := bodyOf Go.Proofs.Tryz.f94) (pl := zgs) (k := k) (cu := zgv k) (tys := [[0]]) (zgu k) ctx mixed Go.Proofs.Tryz.func94 (by kernel_rfl) (by kernel_rfl) (cutOK_of (l := []) (by kernel_rfl) trivial) fun x R h => by
    simp only [zgx, I_inRange, optK_bind, optK_bif, optK_pure, optK_none, optK_oc, optK_guardT, optK_map] at h
    refine hold_of h ?_
    kernel_rfl
def zh0 (k : Nat) : Entry D := entS zgw (zgx k) zgy
theorem zh1 (k : Nat) : EntryOK X 94 (zh0 k) := (zgz k).en rfl
def zh2 : Plan := ⟨[(0, [(0, none)]), (1, [(0, none), (5, none), (6, none)]), (2, [(0, none), (5, none), (6, none), (7, none)]), (3, [(0, none), (3, none), (5, none), (6, none)]), (4, [(0, none), (5, none), (6, none), (13, none)]), (5, [(2, none)]), (6, [(0, none), (5, none), (6, none)]), (7, [(2, none)])],
  [(0, [(0, none)]), (1, [(0, none), (5, none), (6, none)])],
  [(7, ([(0, none), (5, none), (6, none)], [(0, none)])), (13, ([], [(0, none), (5, none), (6, none)]))]⟩
def zh3 (k : Nat) : Calls' D := ⟨[(152, zgq k), (94, zh0 k)], [], [], [], []⟩
theorem zh4 (k : Nat) : CallsOK X (zh3 k) := .cons (zgr k) (.cons (zh1 k) (.nil cod))
def zh5 (x : (List UInt8) × Int × Int × Unit) (o : Oc (Unit) (Bool)) (Q : Ex → VSt D → Prop) (R : VR D → Prop) : Prop := ocP o (fun v0 => Q .normal (mkSt ⟨[(0, .hole)], []⟩ [.str x.1])) (fun w0 => R (.p (.c (.bool w0))))
def zh6 (k : Nat) : Cut D := cutS ⟨[(0, .hole), (5, .hole), (6, .hole)], []⟩ [.ks, .ki .i64, .ki .i64] (fun (x : (List UInt8) × Int × Int × Unit) => I_IsToken_b0 k k x.1 x.2.1 x.2.2.1) zh5
def zh7 (k : Nat) : Cuts D := ⟨[], []⟩
theorem zh8 (k : Nat) : CutFor X zh2 k Go.Proofs.Tryz.f91.results.toList (zh6 k) (sub (bodyOf Go.Proofs.Tryz.f91) [1, 0, 1]) :=
  loopCut_s (X := X) (sg := [.ks, .ki .i64, .ki .i64]) (cu := zh7 k) (cl := zh3 k) (tys := [[0]]) (id := 0) (c := sub (bodyOf Go.Proofs.Tryz.f91) [1, 0, 1, 0, 0]) (f := fun n => fun (x : (List UInt8) × Int × Int × Unit) => I_IsToken_b0 k n x.1 x.2.1 x.2.2.1) (zh4 k) (cutOK_of (l := []) (by kernel_rfl) trivial) (fun _ => rfl) (fun n x Q R h => by
    simp only [I_IsToken_b0, optK_bind, optK_bif, optK_pure, optK_none, optK_oc, optK_guardT, optK_map] at h
    refine hold_of h ?_
    kernel_rfl) (by kernel_rfl)
def zh9 (k : Nat) : Cuts D := ⟨[(0, some (zh6 k))], []⟩
def zha : List Ar := [.c (.ks)]
def zhb (k : Nat) (x : TupA D zha) : Option (Bool) := I_IsToken k x.1
def zhc (r : Bool) : VR D := .p (.c (.bool r))
theorem zhd (k : Nat) : Does P X 91 zha (zhb k) zhc :=
  does_of (body := bodyOf Go.Proofs.Tryz.f91) (pl := zh2) (k := k) (cu := zh9 k) (tys := [[0]]) (zh4 k) ctx mixed Go.Proofs.Tryz.func91 (by kernel_rfl) (by kernel_rfl) (cutOK_of (l := [(zh6 k, sub (bodyOf Go.Proofs.Tryz.f91) [1, 0, 1])]) (by kernel_rfl) ⟨zh8 k, trivial⟩) fun x R h => by
    simp only [zhb, I_IsToken, optK_bind, optK_bif, optK_pure, optK_none, optK_oc, optK_guardT, optK_map] at h
    refine hold_of h ?_
    kernel_rfl
def zhe (k : Nat) : Entry D := entS zha (zhb k) zhc
theorem zhf (k : Nat) : EntryOK X 91 (zhe k) := (zhd k).en rfl
def zhg : List Ar := [.c (.ks)]
def zhh (k : Nat) (x : TupA D zhg) : Option ((List UInt8)) := strings_ToUpper k x.1
def zhi (r : (List UInt8)) : VR D := .p (.c (.str r))
theorem zhj (k : Nat) : Does P X 92 zhg (zhh k) zhi := does_toUpper ⟨Go.Proofs.Tryz.f92, Go.Proofs.Tryz.func92, by kernel_rfl, by kernel_rfl⟩ (fun s w hg h1 h2 => Go.Proofs.Tryz.strings_ToUpper_ascii s w h1 h2)
def zhk (k : Nat) : Entry D := entS zhg (zhh k) zhi
theorem zhl (k : Nat) : EntryOK X 92 (zhk k) := (zhj k).en rfl
def zhm : Plan := ⟨[(0, [(0, none)]), (1, [(0, none), (6, none), (7, none)]), (2, [(0, none), (6, none), (7, none), (8, none)]), (3, [(0, none), (3, none), (6, none), (7, none)]), (4, [(0, none), (4, none), (6, none), (7, none)]), (5, [(0, none), (6, none), (7, none), (35, none)]), (6, [(2, none)]), (7, [(0, none), (6, none), (7, none)]), (8, [(2, none)])],
  [(0, [(0, none)]), (1, [(0, none), (6, none), (7, none)])],
  [(8, ([(0, none), (6, none), (7, none)], [(0, none)])), (35, ([], [(0, none), (6, none), (7, none)]))]⟩
def zhn (k : Nat) : Calls' D := ⟨[(94, zh0 k)], [], [], [], []⟩
theorem zho (k : Nat) : CallsOK X (zhn k) := .cons (zh1 k) (.nil cod)
def zhp (x : (List UInt8) × Int × Int × Unit) (o : Oc (Unit) (Bool)) (Q : Ex → VSt D → Prop) (R : VR D → Prop) : Prop := ocP o (fun v0 => Q .normal (mkSt ⟨[(0, .hole)], []⟩ [.str x.1])) (fun w0 => R (.p (.c (.bool w0))))
def zhq (k : Nat) : Cut D := cutS ⟨[(0, .hole), (6, .hole), (7, .hole)], []⟩ [.ks, .ki .i64, .ki .i64] (fun (x : (List UInt8) × Int × Int × Unit) => I_isHost_b0 k k x.1 x.2.1 x.2.2.1) zhp
def zhr (k : Nat) : Cuts D := ⟨[], []⟩
theorem zhs (k : Nat) : CutFor X zhm k Go.Proofs.Tryz.f93.results.toList (zhq k) (sub (bodyOf Go.Proofs.Tryz.f93) [1, 0, 1]) :=
  loopCut_s (X := X) (sg := [.ks, .ki .i64, .ki .i64]) (cu := zhr k) (cl := zhn k) (tys := [[0]]) (id := 0) (c := sub (bodyOf Go.Proofs.Tryz.f93) [1, 0, 1, 0, 0]) (f := fun n => fun (x : (List UInt8) × Int × Int × Unit) => I_isHost_b0 k n x.1 x.2.1 x.2.2.1) (zho k) (cutOK_of (l := []) (by kernel_rfl) trivial) (fun _ => rfl) (fun n x Q R h => by
    simp only [I_isHost_b0, optK_bind, optK_bif, optK_pure, optK_none, optK_oc, optK_guardT, optK_map] at h
    refine hold_of h ?_
    kernel_rfl) (by kernel_rfl)
def zht (k : Nat) : Cuts D := ⟨[(0, some (zhq k))], []⟩
def zhu : List Ar := [.c (.ks)]
def zhv (k : Nat) (x : TupA D zhu) : Option (Bool) := I_isHost k x.1
def zhw (r : Bool) : VR D := .p (.c (.bool r))
theorem zhx (k : Nat) : Does P X 93 zhu (zhv k) zhw :=
  does_of (body := bodyOf Go.Proofs.Tryz.f93) (pl := zhm) (k := k) (cu := zht k) (tys := [[0]]) (zho k) ctx mixed Go.Proofs.Tryz.func93 (by kernel_rfl) (by kernel_rfl) (cutOK_of (l := [(zhq k, sub (bodyOf Go.Proofs.Tryz.f93) [1, 0, 1])]) (by kernel_rfl) ⟨zhs k, trivial⟩) fun x R h => by
    simp only [zhv, I_isHost, optK_bind, optK_bif, optK_pure, optK_none, optK_oc, optK_guardT, optK_map] at h
    refine hold_of h ?_
    kernel_rfl
def zhy (k : Nat) : Entry D := entS zhu (zhv k) zhw
theorem zhz (k : Nat) : EntryOK X 93 (zhy k) := (zhx k).en rfl
def zi0 : Plan := ⟨[(0, [(0, none)]), (1, [(3, some 5)]), (2, [(3, some 5), (8, some 5), (9, none), (10, none)]), (3, [(3, some 5), (8, some 5), (9, none), (10, none), (11, none)]), (4, [(3, some 5), (4, none), (5, none), (8, some 5), (9, none), (10, none)]), (5, [(3, some 5), (4, none), (5, none), (8, some 5), (9, none), (10, none), (20, none)]), (6, [(3, some 5), (8, some 5), (9, none), (10, none)]), (7, [(3, some 5), (8, some 5), (9, none), (10, none)]), (8, [(2, none)])],
  [(0, [(3, some 5)]), (1, [(3, some 5), (8, some 5), (9, none), (10, none)])],
  [(11, ([(3, some 5), (8, some 5), (9, none), (10, none)], [(3, some 5)])), (20, ([(3, some 5), (4, none), (5, none), (8, some 5), (9, none), (10, none)], [(3, some 5), (8, some 5), (9, none), (10, none)]))]⟩
def zi1 (k : Nat) : Calls' D := ⟨[], [], [], [], []⟩
theorem zi2 (k : Nat) : CallsOK X (zi1 k) := .nil cod
def zi3 (x : Int × Int × Int × Int × Bool × (List Int) × Unit) (o : (List Int)) (Q : Ex → VSt D → Prop) (R : VR D → Prop) : Prop := Q .normal (mkSt ⟨[(3, .ref 500008), (8, .ref 500008), (9, .hole), (10, .hole)], [(500008, .row)]⟩ [.int .i64 x.2.2.1, .int .i64 x.2.2.2.1, .sl 5 o])
def zi4 (k : Nat) : Cut D := cutS ⟨[(3, .ref 500008), (4, .hole), (5, .hole), (8, .ref 500008), (9, .hole), (10, .hole), (20, .hole)], [(500008, .row)]⟩ [.ki .i64, .ki .u8, .ki .i64, .ki .i64, .kb, .kl 5] (fun (x : Int × Int × Int × Int × Bool × (List Int) × Unit) => I_LowerText_c20 k x.1 x.2.1 x.2.2.1 x.2.2.2.1 x.2.2.2.2.1 x.2.2.2.2.2.1) zi3
def zi5 (k : Nat) : Cuts D := ⟨[], []⟩
theorem zi6 (k : Nat) : CutFor X zi0 k Go.Proofs.Tryz.f108.results.toList (zi4 k) (sub (bodyOf Go.Proofs.Tryz.f108) [1, 1, 0, 1, 0, 0, 1, 1, 0, 0, 1, 1]) :=
  joinCut_s (X := X) (sg := [.ki .i64, .ki .u8, .ki .i64, .ki .i64, .kb, .kl 5]) (cu := zi5 k) (cl := zi1 k) (tys := [[0]]) (zi2 k) (cutOK_of (l := []) (by kernel_rfl) trivial) fun x Q R h => by
    simp only [I_LowerText_c20, optK_bind, optK_bif, optK_pure, optK_none, optK_oc, optK_guardT, optK_map] at h
    refine hold_of h ?_
    kernel_rfl
def zi7 (x : Int × Int × (List Int) × Unit) (o : (List Int)) (Q : Ex → VSt D → Prop) (R : VR D → Prop) : Prop := Q .normal (mkSt ⟨[(3, .ref 500008), (8, .ref 500008), (9, .hole), (10, .hole)], [(500008, .row)]⟩ [.int .i64 x.1, .int .i64 x.2.1, .sl 5 o])
def zi8 (k : Nat) : Cut D := cutS ⟨[(3, .ref 500008), (8, .ref 500008), (9, .hole), (10, .hole)], [(500008, .row)]⟩ [.ki .i64, .ki .i64, .kl 5] (fun (x : Int × Int × (List Int) × Unit) => I_LowerText_b1 k x.1 x.2.1 x.2.2.1) zi7
def zi9 (k : Nat) : Cuts D := ⟨[], [(20, some (zi4 k))]⟩
theorem zia (k : Nat) : CutFor X zi0 k Go.Proofs.Tryz.f108.results.toList (zi8 k) (sub (bodyOf Go.Proofs.Tryz.f108) [1, 1, 0, 1, 0, 0, 1, 1, 0]) :=
  joinCut_s (X := X) (sg := [.ki .i64, .ki .i64, .kl 5]) (cu := zi9 k) (cl := zi1 k) (tys := [[0]]) (zi2 k) (cutOK_of (l := [(zi4 k, sub (bodyOf Go.Proofs.Tryz.f108) [1, 1, 0, 1, 0, 0, 1, 1, 0, 0, 1, 1])]) (by kernel_rfl) ⟨zi6 k, trivial⟩) fun x Q R h => by
    simp only [I_LowerText_b1, optK_bind, optK_bif, optK_pure, optK_none, optK_oc, optK_guardT, optK_map] at h
    refine hold_of h ?_
    kernel_rfl
def zib (x : Int × Int × (List Int) × Unit) (o : (List Int)) (Q : Ex → VSt D → Prop) (R : VR D → Prop) : Prop := Q .normal (mkSt ⟨[(3, .ref 500003)], [(500003, .row)]⟩ [.sl 5 o])
def zic (k : Nat) : Cut D := cutS ⟨[(3, .ref 500008), (8, .ref 500008), (9, .hole), (10, .hole)], [(500008, .row)]⟩ [.ki .i64, .ki .i64, .kl 5] (fun (x : Int × Int × (List Int) × Unit) => I_LowerText_b0 k k x.1 x.2.1 x.2.2.1) zib
def zid (k : Nat) : Cuts D := ⟨[(1, some (zi8 k))], []⟩
theorem zie (k : Nat) : CutFor X zi0 k Go.Proofs.Tryz.f108.results.toList (zic k) (sub (bodyOf Go.Proofs.Tryz.f108) [1, 1, 0, 1]) :=
  loopCut_s (X := X) (sg := [.ki .i64, .ki .i64, .kl 5]) (cu := zid k) (cl := zi1 k) (tys := [[0]]) (id := 0) (c := sub (bodyOf Go.Proofs.Tryz.f108) [1, 1, 0, 1, 0, 0]) (f := fun n => fun (x : Int × Int × (List Int) × Unit) => I_LowerText_b0 k n x.1 x.2.1 x.2.2.1) (zi2 k) (cutOK_of (l := [(zi8 k, sub (bodyOf Go.Proofs.Tryz.f108) [1, 1, 0, 1, 0, 0, 1, 1, 0])]) (by kernel_rfl) ⟨zia k, trivial⟩) (fun _ => rfl) (fun n x Q R h => by
    simp only [I_LowerText_b0, optK_bind, optK_bif, optK_pure, optK_none, optK_oc, optK_guardT, optK_map] at h
    refine hold_of h ?_
    kernel_rfl) (by kernel_rfl)
def zif (k : Nat) : Cuts D := ⟨[(0, some (zic k))], []⟩
def zig : List Ar := [.c (.ks)]
def zih (k : Nat) (x : TupA D zig) : Option ((List UInt8)) := I_LowerText k x.1
def zii (r : (List UInt8)) : VR D := .p (.c (.str r))
theorem zij (k : Nat) : Does P X 108 zig (zih k) zii :=
  does_of (body := bodyOf Go.Proofs.Tryz.f108) (pl := zi0) (k := k) (cu := zif k) (tys := [[0]]) (zi2 k) ctx mixed Go.Proofs.Tryz.func108 (by kernel_rfl) (by kernel_rfl) (cutOK_of (l := [(zic k, sub (bodyOf Go.Proofs.Tryz.f108) [1, 1, 0, 1])]) (by kernel_rfl) ⟨zie k, trivial⟩) fun x R h => by
    simp only [zih, I_LowerText, optK_bind, optK_bif, optK_pure, optK_none, optK_oc, optK_guardT, optK_map] at h
    refine hold_of h ?_
    kernel_rfl
def zik (k : Nat) : Entry D := entS zig (zih k) zii
theorem zil (k : Nat) : EntryOK X 108 (zik k) := (zij k).en rfl
def zim : List Ar := [.c (.ks), .c (.ks)]
def zin (k : Nat) (x : TupA D zim) : Option ((List UInt8)) := strings_Trim k x.1 x.2.1
def zio (r : (List UInt8)) : VR D := .p (.c (.str r))
theorem zip (k : Nat) : Does P X 121 zim (zin k) zio := does_trim ⟨Go.Proofs.Tryz.f121, Go.Proofs.Tryz.func121, by kernel_rfl, by kernel_rfl⟩ (fun s cs w hg h1 h2 h3 => Go.Proofs.Any.strings_Trim_laid Go.Proofs.Tryz.lays160 (by kernel_rfl) s cs w h1 h2 h3)
def ziq (k : Nat) : Entry D := entS zim (zin k) zio
theorem zir (k : Nat) : EntryOK X 121 (ziq k) := (zip k).en rfl
def zis : Plan := ⟨[(0, [(0, none)]), (1, [(2, none)])],
  [],
  []⟩
def zit (k : Nat) : Calls' D := ⟨[(121, ziq k)], [], [], [], []⟩
theorem ziu (k : Nat) : CallsOK X (zit k) := .cons (zir k) (.nil cod)
def ziv (k : Nat) : Cuts D := ⟨[], []⟩
def ziw : List Ar := [.c (.ks)]
def zix (k : Nat) (x : TupA D ziw) : Option ((List UInt8)) := I_TrimText k x.1
def ziy (r : (List UInt8)) : VR D := .p (.c (.str r))
theorem ziz (k : Nat) : Does P X 127 ziw (zix k) ziy :=
  does_of (body := bodyOf Go.Proofs.Tryz.f127) (pl := zis) (k := k) (cu := ziv k) (tys := [[0]]) (ziu k) ctx mixed Go.Proofs.Tryz.func127 (by kernel_rfl) (by kernel_rfl) (cutOK_of (l := []) (by kernel_rfl) trivial) fun x R h => by
    simp only [zix, I_TrimText, optK_bind, optK_bif, optK_pure, optK_none, optK_oc, optK_guardT, optK_map] at h
    refine hold_of h ?_
    kernel_rfl
def zj0 (k : Nat) : Entry D := entS ziw (zix k) ziy
theorem zj1 (k : Nat) : EntryOK X 127 (zj0 k) := (ziz k).en rfl
def zj2 : Plan := ⟨[(0, [(0, none)]), (1, [(0, none), (5, none), (6, none)]), (2, [(0, none), (5, none), (6, none), (7, none)]), (3, [(0, none), (3, none), (5, none), (6, none)]), (4, [(0, none), (5, none), (6, none), (20, none)]), (5, [(2, none)]), (6, [(0, none), (5, none), (6, none)]), (7, [(2, none)])],
  [(0, [(0, none)]), (1, [(0, none), (5, none), (6, none)])],
  [(7, ([(0, none), (5, none), (6, none)], [(0, none)])), (20, ([], [(0, none), (5, none), (6, none)]))]⟩
def zj3 (k : Nat) : Calls' D := ⟨[(94, zh0 k), (127, zj0 k)], [], [], [], []⟩
theorem zj4 (k : Nat) : CallsOK X (zj3 k) := .cons (zh1 k) (.cons (zj1 k) (.nil cod))
def zj5 (x : (List UInt8) × Int × Int × Unit) (o : Oc (Unit) (Bool)) (Q : Ex → VSt D → Prop) (R : VR D → Prop) : Prop := ocP o (fun v0 => Q .normal (mkSt ⟨[(0, .hole)], []⟩ [.str x.1])) (fun w0 => R (.p (.c (.bool w0))))
def zj6 (k : Nat) : Cut D := cutS ⟨[(0, .hole), (5, .hole), (6, .hole)], []⟩ [.ks, .ki .i64, .ki .i64] (fun (x : (List UInt8) × Int × Int × Unit) => I_isFieldValue_b0 k k x.1 x.2.1 x.2.2.1) zj5
def zj7 (k : Nat) : Cuts D := ⟨[], []⟩
theorem zj8 (k : Nat) : CutFor X zj2 k Go.Proofs.Tryz.f106.results.toList (zj6 k) (sub (bodyOf Go.Proofs.Tryz.f106) [1, 0, 1]) :=
  loopCut_s (X := X) (sg := [.ks, .ki .i64, .ki .i64]) (cu := zj7 k) (cl := zj3 k) (tys := [[0]]) (id := 0) (c := sub (bodyOf Go.Proofs.Tryz.f106) [1, 0, 1, 0, 0]) (f := fun n => fun (x : (List UInt8) × Int × Int × Unit) => I_isFieldValue_b0 k n x.1 x.2.1 x.2.2.1) (zj4 k) (cutOK_of (l := []) (by kernel_rfl) trivial) (fun _ => rfl) (fun n x Q R h => by
    simp only [I_isFieldValue_b0, optK_bind, optK_bif, optK_pure, optK_none, optK_oc, optK_guardT, optK_map] at h
    refine hold_of h ?_
    kernel_rfl) (by kernel_rfl)
def zj9 (k : Nat) : Cuts D := ⟨[(0, some (zj6 k))], []⟩
def zja : List Ar := [.c (.ks)]
def zjb (k : Nat) (x : TupA D zja) : Option (Bool) := I_isFieldValue k x.1
def zjc (r : Bool) : VR D := .p (.c (.bool r))
theorem zjd (k : Nat) : Does P X 106 zja (zjb k) zjc :=
  does_of (body := bodyOf Go.Proofs.Tryz.f106) (pl := zj2) (k := k) (cu := zj9 k) (tys := [[0]]) (zj4 k) ctx mixed Go.Proofs.Tryz.func106 (by kernel_rfl) (by kernel_rfl) (cutOK_of (l := [(zj6 k, sub (bodyOf Go.Proofs.Tryz.f106) [1, 0, 1])]) (by kernel_rfl) ⟨zj8 k, trivial⟩) fun x R h => by
    simp only [zjb, I_isFieldValue, optK_bind, optK_bif, optK_pure, optK_none, optK_oc, optK_guardT, optK_map] at h
    refine hold_of h ?_
    kernel_rfl
def zje (k : Nat) : Entry D := entS zja (zjb k) zjc
theorem zjf (k : Nat) : EntryOK X 106 (zje k) := (zjd k).en rfl
def zjg : Plan := ⟨[(0, [(0, some 107)]), (1, [(0, some 107), (5, some 107), (6, none), (7, none)]), (2, [(0, some 107), (5, some 107), (6, none), (7, none), (8, none)]), (3, [(0, some 107), (4, none), (5, some 107), (6, none), (7, none)]), (4, [(0, some 107), (5, some 107), (6, none), (7, none), (28, none)]), (5, [(2, none)]), (6, [(0, some 107), (5, some 107), (6, none), (7, none)]), (7, [(2, none)])],
  [(0, [(0, some 107)]), (1, [(0, some 107), (5, some 107), (6, none), (7, none)])],
  [(8, ([(0, some 107), (5, some 107), (6, none), (7, none)], [(0, some 107)])), (28, ([], [(0, some 107), (5, some 107), (6, none), (7, none)]))]⟩
def zjh (k : Nat) : Calls' D := ⟨[(91, zhe k), (108, zik k), (106, zje k)], [], [], [], []⟩
theorem zji (k : Nat) : CallsOK X (zjh k) := .cons (zhf k) (.cons (zil k) (.cons (zjf k) (.nil cod)))
def zjj (x : (List IField) × (List IField) × Int × Int × Unit) (o : Oc (Unit) (Bool)) (Q : Ex → VSt D → Prop) (R : VR D → Prop) : Prop := ocP o (fun v0 => Q .normal (mkSt ⟨[(0, .hole)], []⟩ [.sl 107 x.1])) (fun w0 => R (.p (.c (.bool w0))))
def zjk (k : Nat) : Cut D := cutS ⟨[(0, .hole), (5, .hole), (6, .hole), (7, .hole)], []⟩ [.kl 107, .kl 107, .ki .i64, .ki .i64] (fun (x : (List IField) × (List IField) × Int × Int × Unit) => I_AreFields_b0 k k x.1 x.2.1 x.2.2.1 x.2.2.2.1) zjj
def zjl (k : Nat) : Cuts D := ⟨[], []⟩
theorem zjm (k : Nat) : CutFor X zjg k Go.Proofs.Tryz.f95.results.toList (zjk k) (sub (bodyOf Go.Proofs.Tryz.f95) [1, 0, 1]) :=
  loopCut_s (X := X) (sg := [.kl 107, .kl 107, .ki .i64, .ki .i64]) (cu := zjl k) (cl := zjh k) (tys := [[0]]) (id := 0) (c := sub (bodyOf Go.Proofs.Tryz.f95) [1, 0, 1, 0, 0]) (f := fun n => fun (x : (List IField) × (List IField) × Int × Int × Unit) => I_AreFields_b0 k n x.1 x.2.1 x.2.2.1 x.2.2.2.1) (zji k) (cutOK_of (l := []) (by kernel_rfl) trivial) (fun _ => rfl) (fun n x Q R h => by
    simp only [I_AreFields_b0, optK_bind, optK_bif, optK_pure, optK_none, optK_oc, optK_guardT, optK_map] at h
    refine hold_of h ?_
    kernel_rfl) (by kernel_rfl)
def zjn (k : Nat) : Cuts D := ⟨[(0, some (zjk k))], []⟩
def zjo : List Ar := [.c (.kl 107)]
def zjp (k : Nat) (x : TupA D zjo) : Option (Bool) := I_AreFields k x.1
def zjq (r : Bool) : VR D := .p (.c (.bool r))
theorem zjr (k : Nat) : Does P X 95 zjo (zjp k) zjq :=
  does_of (body := bodyOf Go.Proofs.Tryz.f95) (pl := zjg) (k := k) (cu := zjn k) (tys := [[0]]) (zji k) ctx mixed Go.Proofs.Tryz.func95 (by kernel_rfl) (by kernel_rfl) (cutOK_of (l := [(zjk k, sub (bodyOf Go.Proofs.Tryz.f95) [1, 0, 1])]) (by kernel_rfl) ⟨zjm k, trivial⟩) fun x R h => by
    simp only [zjp, I_AreFields, optK_bind, optK_bif, optK_pure, optK_none, optK_oc, optK_guardT, optK_map] at h
    refine hold_of h ?_
    kernel_rfl
def zjs (k : Nat) : Entry D := entS zjo (zjp k) zjq
theorem zjt (k : Nat) : EntryOK X 95 (zjs k) := (zjr k).en rfl
def zju : Plan := ⟨[(0, [(1, none), (2, none)]), (1, [(3, none)])],
  [],
  []⟩
def zjv (k : Nat) : Calls' D := ⟨[], [], [], [], []⟩
theorem zjw (k : Nat) : CallsOK X (zjv k) := .nil cod
def zjx (k : Nat) : Cuts D := ⟨[], []⟩
def zjy : List Ar := [.a [.ks, .ks], .x [.ks]]
def zjz (k : Nat) (x : TupA D zjy) : Option (Bool) := I_hasField_1 k (⟨x.1.1, x.1.2.1⟩ : IField) x.2.1.1
def zk0 (r : Bool) : VR D := .p (.c (.bool r))
theorem zk1 (k : Nat) : Does P X 135 zjy (zjz k) zk0 :=
  does_of (body := bodyOf Go.Proofs.Tryz.f135) (pl := zju) (k := k) (cu := zjx k) (tys := [[0]]) (zjw k) ctx mixed Go.Proofs.Tryz.func135 (by kernel_rfl) (by kernel_rfl) (cutOK_of (l := []) (by kernel_rfl) trivial) fun x R h => by
    simp only [zjz, I_hasField_1, optK_bind, optK_bif, optK_pure, optK_none, optK_oc, optK_guardT, optK_map] at h
    refine hold_of h ?_
    kernel_rfl
def zk2 (k : Nat) : Entry D := entS zjy (zjz k) zk0
theorem zk3 (k : Nat) : EntryOK X 135 (zk2 k) := (zk1 k).en rfl
def zk4 : Plan := ⟨[(0, [(0, some 107), (1, none)]), (1, [(0, some 107), (1, none), (7, none), (8, none)]), (2, [(0, some 107), (1, none), (7, none), (8, none), (9, none)]), (3, [(0, some 107), (1, none), (5, none), (7, none), (8, none)]), (4, [(0, some 107), (1, none), (5, none), (7, none), (8, none), (16, none)]), (5, [(4, none)]), (6, [(0, some 107), (1, none), (7, none), (8, none)]), (7, [(4, none)])],
  [(0, []), (1, [(0, some 107), (1, none), (7, none), (8, none)])],
  [(9, ([(0, some 107), (1, none), (7, none), (8, none)], [])), (16, ([(5, none)], [(0, some 107), (1, none), (7, none), (8, none)]))]⟩
def zk5 (k : Nat) : Calls' D := ⟨[(135, zk2 k)], [], [], [], []⟩
theorem zk6 (k : Nat) : CallsOK X (zk5 k) := .cons (zk3 k) (.nil cod)
def zk7 (x : (List IField) × (List UInt8) × Int × Int × Unit) (o : Oc (Unit) (Int)) (Q : Ex → VSt D → Prop) (R : VR D → Prop) : Prop := ocP o (fun v0 => Q .normal (mkSt ⟨[], []⟩ [])) (fun w0 => R (.p (.c (.int .i64 w0))))
def zk8 (k : Nat) : Cut D := cutS ⟨[(0, .hole), (1, .clo 135 [.rptr 1]), (7, .hole), (8, .hole)], []⟩ [.kl 107, .ks, .ki .i64, .ki .i64] (fun (x : (List IField) × (List UInt8) × Int × Int × Unit) => slices_IndexFunc_IField_at_I_hasField_1_b0 k k x.1 x.2.1 x.2.2.1 x.2.2.2.1) zk7
def zk9 (k : Nat) : Cuts D := ⟨[], []⟩
theorem zka (k : Nat) : CutFor X zk4 k Go.Proofs.Tryz.f198.results.toList (zk8 k) (sub (bodyOf Go.Proofs.Tryz.f198) [1, 0, 1]) :=
  loopCut_s (X := X) (sg := [.kl 107, .ks, .ki .i64, .ki .i64]) (cu := zk9 k) (cl := zk5 k) (tys := [[0]]) (id := 0) (c := sub (bodyOf Go.Proofs.Tryz.f198) [1, 0, 1, 0, 0]) (f := fun n => fun (x : (List IField) × (List UInt8) × Int × Int × Unit) => slices_IndexFunc_IField_at_I_hasField_1_b0 k n x.1 x.2.1 x.2.2.1 x.2.2.2.1) (zk6 k) (cutOK_of (l := []) (by kernel_rfl) trivial) (fun _ => rfl) (fun n x Q R h => by
    simp only [slices_IndexFunc_IField_at_I_hasField_1_b0, optK_bind, optK_bif, optK_pure, optK_none, optK_oc, optK_guardT, optK_map] at h
    refine hold_of h ?_
    kernel_rfl) (by kernel_rfl)
def zkb (k : Nat) : Cuts D := ⟨[(0, some (zk8 k))], []⟩
def zkc : List Ar := [.c (.kl 107), .f 135 [[.ks]]]
def zkd (k : Nat) (x : TupA D zkc) : Option (Int) := slices_IndexFunc_IField_at_I_hasField_1 k x.1 x.2.1.1.1
def zke (r : Int) : VR D := .p (.c (.int .i64 r))
theorem zkf (k : Nat) : Does P X 198 zkc (zkd k) zke :=
  does_of (body := bodyOf Go.Proofs.Tryz.f198) (pl := zk4) (k := k) (cu := zkb k) (tys := [[0]]) (zk6 k) ctx mixed Go.Proofs.Tryz.func198 (by kernel_rfl) (by kernel_rfl) (cutOK_of (l := [(zk8 k, sub (bodyOf Go.Proofs.Tryz.f198) [1, 0, 1])]) (by kernel_rfl) ⟨zka k, trivial⟩) fun x R h => by
    simp only [zkd, slices_IndexFunc_IField_at_I_hasField_1, optK_bind, optK_bif, optK_pure, optK_none, optK_oc, optK_guardT, optK_map] at h
    refine hold_of h ?_
    kernel_rfl
def zkg (k : Nat) : Entry D := entS zkc (zkd k) zke
theorem zkh (k : Nat) : EntryOK X 198 (zkg k) := (zkf k).en rfl
def zki : Plan := ⟨[(0, [(0, some 107), (1, none)]), (1, [(4, none)])],
  [],
  []⟩
def zkj (k : Nat) : Calls' D := ⟨[(198, zkg k)], [], [], [], []⟩
theorem zkk (k : Nat) : CallsOK X (zkj k) := .cons (zkh k) (.nil cod)
def zkl (k : Nat) : Cuts D := ⟨[], []⟩
def zkm : List Ar := [.c (.kl 107), .f 135 [[.ks]]]
def zkn (k : Nat) (x : TupA D zkm) : Option (Bool) := slices_ContainsFunc_IField_at_I_hasField_1 k x.1 x.2.1.1.1
def zko (r : Bool) : VR D := .p (.c (.bool r))
theorem zkp (k : Nat) : Does P X 134 zkm (zkn k) zko :=
  does_of (body := bodyOf Go.Proofs.Tryz.f134) (pl := zki) (k := k) (cu := zkl k) (tys := [[0]]) (zkk k) ctx mixed Go.Proofs.Tryz.func134 (by kernel_rfl) (by kernel_rfl) (cutOK_of (l := []) (by kernel_rfl) trivial) fun x R h => by
    simp only [zkn, slices_ContainsFunc_IField_at_I_hasField_1, optK_bind, optK_bif, optK_pure, optK_none, optK_oc, optK_guardT, optK_map] at h
    refine hold_of h ?_
    kernel_rfl
def zkq (k : Nat) : Entry D := entS zkm (zkn k) zko
theorem zkr (k : Nat) : EntryOK X 134 (zkq k) := (zkp k).en rfl
def zks : Plan := ⟨[(0, [(0, some 107), (3, none)]), (1, [(4, none)])],
  [],
  []⟩
def zkt (k : Nat) : Calls' D := ⟨[(134, zkq k)], [], [], [], []⟩
theorem zku (k : Nat) : CallsOK X (zkt k) := .cons (zkr k) (.nil cod)
def zkv (k : Nat) : Cuts D := ⟨[], []⟩
def zkw : List Ar := [.c (.kl 107), .c (.ks)]
def zkx (k : Nat) (x : TupA D zkw) : Option (Bool) := I_hasField k x.1 x.2.1
def zky (r : Bool) : VR D := .p (.c (.bool r))
theorem zkz (k : Nat) : Does P X 72 zkw (zkx k) zky :=
  does_of (body := bodyOf Go.Proofs.Tryz.f72) (pl := zks) (k := k) (cu := zkv k) (tys := [[0]]) (zku k) ctx mixed Go.Proofs.Tryz.func72 (by kernel_rfl) (by kernel_rfl) (cutOK_of (l := []) (by kernel_rfl) trivial) fun x R h => by
    simp only [zkx, I_hasField, optK_bind, optK_bif, optK_pure, optK_none, optK_oc, optK_guardT, optK_map] at h
    refine hold_of h ?_
    kernel_rfl
def zl0 (k : Nat) : Entry D := entS zkw (zkx k) zky
theorem zl1 (k : Nat) : EntryOK X 72 (zl0 k) := (zkz k).en rfl
def zl2 : Plan := ⟨[(0, [(1, none)]), (1, [(1, none), (34, none)]), (2, [(2, none)]), (3, [(1, none), (37, none), (38, none)]), (4, [(1, none), (37, none), (38, none), (39, none)]), (5, [(1, none), (3, none), (37, none), (38, none)]), (6, [(1, none), (37, none), (38, none), (47, none)]), (7, [(2, none)]), (8, [(1, none), (37, none), (38, none)]), (9, [(2, none)])],
  [(0, [(1, none)]), (1, [(1, none), (37, none), (38, none)])],
  [(34, ([], [(1, none)])), (39, ([(1, none), (37, none), (38, none)], [(1, none)])), (47, ([], [(1, none), (37, none), (38, none)]))]⟩
def zl3 (k : Nat) : Calls' D := ⟨[(91, zhe k), (92, zhk k), (93, zhy k), (94, zh0 k), (95, zjs k), (72, zl0 k)], [], [], [], []⟩
theorem zl4 (k : Nat) : CallsOK X (zl3 k) := .cons (zhf k) (.cons (zhl k) (.cons (zhz k) (.cons (zh1 k) (.cons (zjt k) (.cons (zl1 k) (.nil cod))))))
def zl5 (x : Int × Int × (List UInt8) × (List UInt8) × (List UInt8) × (List IField) × Unit) (o : Oc (Unit) (Bool)) (Q : Ex → VSt D → Prop) (R : VR D → Prop) : Prop := ocP o (fun v0 => Q .normal (mkSt ⟨[(1, .ptr 1 0)], [(1, .var [.hole, .hole, .hole, .hole])]⟩ [.str x.2.2.1, .str x.2.2.2.1, .str x.2.2.2.2.1, .sl 107 x.2.2.2.2.2.1])) (fun w0 => R (.p (.c (.bool w0))))
def zl6 (k : Nat) : Cut D := cutS ⟨[(1, .ptr 1 0), (37, .hole), (38, .hole)], [(1, .var [.hole, .hole, .hole, .hole])]⟩ [.ki .i64, .ki .i64, .ks, .ks, .ks, .kl 107] (fun (x : Int × Int × (List UInt8) × (List UInt8) × (List UInt8) × (List IField) × Unit) => I_IsRequest_b0 k k x.1 x.2.1 x.2.2.1 x.2.2.2.1 x.2.2.2.2.1 x.2.2.2.2.2.1) zl5
def zl7 (k : Nat) : Cuts D := ⟨[], []⟩
theorem zl8 (k : Nat) : CutFor X zl2 k Go.Proofs.Tryz.f38.results.toList (zl6 k) (sub (bodyOf Go.Proofs.Tryz.f38) [1, 1, 0, 1]) :=
  loopCut_s (X := X) (sg := [.ki .i64, .ki .i64, .ks, .ks, .ks, .kl 107]) (cu := zl7 k) (cl := zl3 k) (tys := [[0]]) (id := 0) (c := sub (bodyOf Go.Proofs.Tryz.f38) [1, 1, 0, 1, 0, 0]) (f := fun n => fun (x : Int × Int × (List UInt8) × (List UInt8) × (List UInt8) × (List IField) × Unit) => I_IsRequest_b0 k n x.1 x.2.1 x.2.2.1 x.2.2.2.1 x.2.2.2.2.1 x.2.2.2.2.2.1) (zl4 k) (cutOK_of (l := []) (by kernel_rfl) trivial) (fun _ => rfl) (fun n x Q R h => by
    simp only [I_IsRequest_b0, optK_bind, optK_bif, optK_pure, optK_none, optK_oc, optK_guardT, optK_map] at h
    refine hold_of h ?_
    kernel_rfl) (by kernel_rfl)
def zl9 (k : Nat) : Cuts D := ⟨[(0, some (zl6 k))], []⟩
def zla : List Ar := [.a [.ks, .ks, .ks, .kl 107]]
def zlb (k : Nat) (x : TupA D zla) : Option (Bool) := I_IsRequest k (⟨x.1.1, x.1.2.1, x.1.2.2.1, x.1.2.2.2.1⟩ : IRequest)
def zlc (r : Bool) : VR D := .p (.c (.bool r))
theorem zld (k : Nat) : Does P X 38 zla (zlb k) zlc :=
  does_of (body := bodyOf Go.Proofs.Tryz.f38) (pl := zl2) (k := k) (cu := zl9 k) (tys := [[0]]) (zl4 k) ctx mixed Go.Proofs.Tryz.func38 (by kernel_rfl) (by kernel_rfl) (cutOK_of (l := [(zl6 k, sub (bodyOf Go.Proofs.Tryz.f38) [1, 1, 0, 1])]) (by kernel_rfl) ⟨zl8 k, trivial⟩) fun x R h => by
    simp only [zlb, I_IsRequest, optK_bind, optK_bif, optK_pure, optK_none, optK_oc, optK_guardT, optK_map] at h
    refine hold_of h ?_
    kernel_rfl
def zle (k : Nat) : Entry D := entS zla (zlb k) zlc
theorem zlf (k : Nat) : EntryOK X 38 (zle k) := (zld k).en rfl
def zlg : Plan := ⟨[(0, [(1, none), (2, none)]), (1, [(3, none)])],
  [],
  []⟩
def zlh (k : Nat) : Calls' D := ⟨[], [], [], [], []⟩
theorem zli (k : Nat) : CallsOK X (zlh k) := .nil cod
def zlj (k : Nat) : Cuts D := ⟨[], []⟩
def zlk : List Ar := [.a [.ks, .ks, .ks, .kb, .kl 9, .kl 121], .x [.ks]]
def zll (k : Nat) (x : TupA D zlk) : Option (Bool) := I_FindResource_1 k (⟨x.1.1, x.1.2.1, x.1.2.2.1, x.1.2.2.2.1, x.1.2.2.2.2.1, x.1.2.2.2.2.2.1⟩ : IResource) x.2.1.1
def zlm (r : Bool) : VR D := .p (.c (.bool r))
theorem zln (k : Nat) : Does P X 104 zlk (zll k) zlm :=
  does_of (body := bodyOf Go.Proofs.Tryz.f104) (pl := zlg) (k := k) (cu := zlj k) (tys := [[0]]) (zli k) ctx mixed Go.Proofs.Tryz.func104 (by kernel_rfl) (by kernel_rfl) (cutOK_of (l := []) (by kernel_rfl) trivial) fun x R h => by
    simp only [zll, I_FindResource_1, optK_bind, optK_bif, optK_pure, optK_none, optK_oc, optK_guardT, optK_map] at h
    refine hold_of h ?_
    kernel_rfl
def zlo (k : Nat) : Entry D := entS zlk (zll k) zlm
theorem zlp (k : Nat) : EntryOK X 104 (zlo k) := (zln k).en rfl
def zlq : Plan := ⟨[(0, [(0, some 71), (1, none)]), (1, [(0, some 71), (1, none), (7, none), (8, none)]), (2, [(0, some 71), (1, none), (7, none), (8, none), (9, none)]), (3, [(0, some 71), (1, none), (5, none), (7, none), (8, none)]), (4, [(0, some 71), (1, none), (5, none), (7, none), (8, none), (16, none)]), (5, [(4, none)]), (6, [(0, some 71), (1, none), (7, none), (8, none)]), (7, [(4, none)])],
  [(0, []), (1, [(0, some 71), (1, none), (7, none), (8, none)])],
  [(9, ([(0, some 71), (1, none), (7, none), (8, none)], [])), (16, ([(5, none)], [(0, some 71), (1, none), (7, none), (8, none)]))]⟩
def zlr (k : Nat) : Calls' D := ⟨[(104, zlo k)], [], [], [], []⟩
theorem zls (k : Nat) : CallsOK X (zlr k) := .cons (zlp k) (.nil cod)
def zlt (x : (List IResource) × (List UInt8) × Int × Int × Unit) (o : Oc (Unit) (Int)) (Q : Ex → VSt D → Prop) (R : VR D → Prop) : Prop := ocP o (fun v0 => Q .normal (mkSt ⟨[], []⟩ [])) (fun w0 => R (.p (.c (.int .i64 w0))))
def zlu (k : Nat) : Cut D := cutS ⟨[(0, .hole), (1, .clo 104 [.rptr 1]), (7, .hole), (8, .hole)], []⟩ [.kl 71, .ks, .ki .i64, .ki .i64] (fun (x : (List IResource) × (List UInt8) × Int × Int × Unit) => slices_IndexFunc_IResource_at_I_FindResource_1_b0 k k x.1 x.2.1 x.2.2.1 x.2.2.2.1) zlt
def zlv (k : Nat) : Cuts D := ⟨[], []⟩
theorem zlw (k : Nat) : CutFor X zlq k Go.Proofs.Tryz.f103.results.toList (zlu k) (sub (bodyOf Go.Proofs.Tryz.f103) [1, 0, 1]) :=
  loopCut_s (X := X) (sg := [.kl 71, .ks, .ki .i64, .ki .i64]) (cu := zlv k) (cl := zlr k) (tys := [[0]]) (id := 0) (c := sub (bodyOf Go.Proofs.Tryz.f103) [1, 0, 1, 0, 0]) (f := fun n => fun (x : (List IResource) × (List UInt8) × Int × Int × Unit) => slices_IndexFunc_IResource_at_I_FindResource_1_b0 k n x.1 x.2.1 x.2.2.1 x.2.2.2.1) (zls k) (cutOK_of (l := []) (by kernel_rfl) trivial) (fun _ => rfl) (fun n x Q R h => by
    simp only [slices_IndexFunc_IResource_at_I_FindResource_1_b0, optK_bind, optK_bif, optK_pure, optK_none, optK_oc, optK_guardT, optK_map] at h
    refine hold_of h ?_
    kernel_rfl) (by kernel_rfl)
def zlx (k : Nat) : Cuts D := ⟨[(0, some (zlu k))], []⟩
def zly : List Ar := [.c (.kl 71), .f 104 [[.ks]]]
def zlz (k : Nat) (x : TupA D zly) : Option (Int) := slices_IndexFunc_IResource_at_I_FindResource_1 k x.1 x.2.1.1.1
def zm0 (r : Int) : VR D := .p (.c (.int .i64 r))
theorem zm1 (k : Nat) : Does P X 103 zly (zlz k) zm0 :=
  does_of (body := bodyOf Go.Proofs.Tryz.f103) (pl := zlq) (k := k) (cu := zlx k) (tys := [[0]]) (zls k) ctx mixed Go.Proofs.Tryz.func103 (by kernel_rfl) (by kernel_rfl) (cutOK_of (l := [(zlu k, sub (bodyOf Go.Proofs.Tryz.f103) [1, 0, 1])]) (by kernel_rfl) ⟨zlw k, trivial⟩) fun x R h => by
    simp only [zlz, slices_IndexFunc_IResource_at_I_FindResource_1, optK_bind, optK_bif, optK_pure, optK_none, optK_oc, optK_guardT, optK_map] at h
    refine hold_of h ?_
    kernel_rfl
def zm2 (k : Nat) : Entry D := entS zly (zlz k) zm0
theorem zm3 (k : Nat) : EntryOK X 103 (zm2 k) := (zm1 k).en rfl
def zm4 : Plan := ⟨[(0, [(2, none), (3, none)]), (1, [(4, none)])],
  [],
  []⟩
def zm5 (k : Nat) : Calls' D := ⟨[(103, zm2 k)], [], [], [], []⟩
theorem zm6 (k : Nat) : CallsOK X (zm5 k) := .cons (zm3 k) (.nil cod)
def zm7 (k : Nat) : Cuts D := ⟨[], []⟩
def zm8 : List Ar := [.a [.ks, .kl 71], .c (.ks)]
def zm9 (k : Nat) (x : TupA D zm8) : Option (Int) := I_FindResource k (⟨x.1.1, x.1.2.1⟩ : IOrigin) x.2.1
def zma (r : Int) : VR D := .p (.c (.int .i64 r))
theorem zmb (k : Nat) : Does P X 44 zm8 (zm9 k) zma :=
  does_of (body := bodyOf Go.Proofs.Tryz.f44) (pl := zm4) (k := k) (cu := zm7 k) (tys := [[0]]) (zm6 k) ctx mixed Go.Proofs.Tryz.func44 (by kernel_rfl) (by kernel_rfl) (cutOK_of (l := []) (by kernel_rfl) trivial) fun x R h => by
    simp only [zm9, I_FindResource, optK_bind, optK_bif, optK_pure, optK_none, optK_oc, optK_guardT, optK_map] at h
    refine hold_of h ?_
    kernel_rfl
def zmc (k : Nat) : Entry D := entS zm8 (zm9 k) zma
theorem zmd (k : Nat) : EntryOK X 44 (zmc k) := (zmb k).en rfl
def zme : List Ar := [.c (.ks), .c (.ks)]
def zmf (k : Nat) (x : TupA D zme) : Option ((List UInt8) × (List UInt8) × Bool) := strings_Cut k x.1 x.2.1
def zmg (r : (List UInt8) × (List UInt8) × Bool) : VR D := .tup [.c (.str r.1), .c (.str r.2.1), .c (.bool r.2.2)]
theorem zmh (k : Nat) : Does P X 141 zme (zmf k) zmg := does_cut ⟨Go.Proofs.Tryz.f141, Go.Proofs.Tryz.func141, by kernel_rfl, by kernel_rfl⟩ (fun s sep w hg hs => let ⟨m, hm⟩ := hg; Go.Proofs.Tryz.strings_Cut s sep m w hs hm)
def zmi (k : Nat) : Entry D := entS zme (zmf k) zmg
theorem zmj (k : Nat) : EntryOK X 141 (zmi k) := (zmh k).en rfl
def zmk : Plan := ⟨[(0, [(0, none)]), (1, [(2, none), (3, none), (4, none)])],
  [],
  []⟩
def zml (k : Nat) : Calls' D := ⟨[(141, zmi k)], [], [], [], []⟩
theorem zmm (k : Nat) : CallsOK X (zml k) := .cons (zmj k) (.nil cod)
def zmn (k : Nat) : Cuts D := ⟨[], []⟩
def zmo : List Ar := [.c (.ks)]
def zmp (k : Nat) (x : TupA D zmo) : Option ((List UInt8) × (List UInt8) × Bool) := I_SplitTarget k x.1
def zmq (r : (List UInt8) × (List UInt8) × Bool) : VR D := .tup [.c (.str r.1), .c (.str r.2.1), .c (.bool r.2.2)]
theorem zmr (k : Nat) : Does P X 82 zmo (zmp k) zmq :=
  does_of (body := bodyOf Go.Proofs.Tryz.f82) (pl := zmk) (k := k) (cu := zmn k) (tys := [[0], [0], [0]]) (zmm k) ctx mixed Go.Proofs.Tryz.func82 (by kernel_rfl) (by kernel_rfl) (cutOK_of (l := []) (by kernel_rfl) trivial) fun x R h => by
    simp only [zmp, I_SplitTarget, optK_bind, optK_bif, optK_pure, optK_none, optK_oc, optK_guardT, optK_map] at h
    refine hold_of h ?_
    kernel_rfl
def zms (k : Nat) : Entry D := entS zmo (zmp k) zmq
theorem zmt (k : Nat) : EntryOK X 82 (zms k) := (zmr k).en rfl
def zmu : Plan := ⟨[(0, [(0, none)]), (1, [(0, none), (8, none)]), (2, [(0, none)]), (3, [(2, none)])],
  [],
  [(8, ([(0, none)], [(0, none)]))]⟩
def zmv (k : Nat) : Calls' D := ⟨[(143, zgg k)], [], [], [], []⟩
theorem zmw (k : Nat) : CallsOK X (zmv k) := .cons (zgh k) (.nil cod)
def zmx (x : Int × Bool × Unit) (o : Int) (Q : Ex → VSt D → Prop) (R : VR D → Prop) : Prop := Q .normal (mkSt ⟨[(0, .hole)], []⟩ [.int .u8 o])
def zmy (k : Nat) : Cut D := cutS ⟨[(0, .hole), (8, .hole)], []⟩ [.ki .u8, .kb] (fun (x : Int × Bool × Unit) => I_hexDigit_c8 k x.1 x.2.1) zmx
def zmz (k : Nat) : Cuts D := ⟨[], []⟩
theorem zn0 (k : Nat) : CutFor X zmu k Go.Proofs.Tryz.f142.results.toList (zmy k) (sub (bodyOf Go.Proofs.Tryz.f142) [1, 0, 1]) :=
  joinCut_s (X := X) (sg := [.ki .u8, .kb]) (cu := zmz k) (cl := zmv k) (tys := [[0]]) (zmw k) (cutOK_of (l := []) (by kernel_rfl) trivial) fun x Q R h => by
    simp only [I_hexDigit_c8, optK_bind, optK_bif, optK_pure, optK_none, optK_oc, optK_guardT, optK_map] at h
    refine hold_of h ?_
    kernel_rfl
def zn1 (k : Nat) : Cuts D := ⟨[], [(8, some (zmy k))]⟩
def zn2 : List Ar := [.c (.ki .u8)]
def zn3 (k : Nat) (x : TupA D zn2) : Option (Int) := I_hexDigit k x.1
def zn4 (r : Int) : VR D := .p (.c (.int .i64 r))
theorem zn5 (k : Nat) : Does P X 142 zn2 (zn3 k) zn4 :=
  does_of (body := bodyOf Go.Proofs.Tryz.f142) (pl := zmu) (k := k) (cu := zn1 k) (tys := [[0]]) (zmw k) ctx mixed Go.Proofs.Tryz.func142 (by kernel_rfl) (by kernel_rfl) (cutOK_of (l := [(zmy k, sub (bodyOf Go.Proofs.Tryz.f142) [1, 0, 1])]) (by kernel_rfl) ⟨zn0 k, trivial⟩) fun x R h => by
    simp only [zn3, I_hexDigit, optK_bind, optK_bif, optK_pure, optK_none, optK_oc, optK_guardT, optK_map] at h
    refine hold_of h ?_
    kernel_rfl
def zn6 (k : Nat) : Entry D := entS zn2 (zn3 k) zn4
theorem zn7 (k : Nat) : EntryOK X 142 (zn6 k) := (zn5 k).en rfl
def zn8 : Plan := ⟨[(0, [(0, none)]), (1, [(0, none), (4, some 5)]), (2, [(0, none), (4, some 5), (5, none)]), (3, [(0, none), (4, some 5), (5, none), (13, none)]), (4, [(0, none), (4, some 5), (5, none)]), (5, [(0, none), (4, some 5), (5, none), (19, none)]), (6, [(0, none), (4, some 5), (5, none)]), (7, [(0, none), (4, some 5), (5, none), (46, none)]), (8, [(2, none), (3, none)]), (9, [(0, none), (4, some 5), (5, none), (6, none), (7, none)]), (10, [(0, none), (4, some 5), (5, none), (6, none), (7, none), (8, none)]), (11, [(0, none), (4, some 5), (5, none), (6, none), (7, none), (8, none), (88, none)]), (12, [(0, none), (4, some 5), (5, none)]), (13, [(0, none), (4, some 5), (5, none)]), (14, [(0, none), (4, some 5), (5, none)]), (15, [(2, none), (3, none)])],
  [(0, [(4, some 5)]), (1, [(0, none), (4, some 5), (5, none)])],
  [(13, ([(0, none), (4, some 5), (5, none)], [(4, some 5)])), (19, ([(0, none), (4, some 5), (5, none)], [(0, none), (4, some 5), (5, none)])), (46, ([], [(0, none), (4, some 5), (5, none)])), (88, ([(0, none), (4, some 5), (5, none), (8, none)], [(0, none), (4, some 5), (5, none), (6, none), (7, none)]))]⟩
def zn9 (k : Nat) : Calls' D := ⟨[(142, zn6 k), (143, zgg k)], [], [], [], []⟩
theorem zna (k : Nat) : CallsOK X (zn9 k) := .cons (zn7 k) (.cons (zgh k) (.nil cod))
def znb (x : (List UInt8) × Int × Int × Int × Int × Bool × (List Int) × Unit) (o : (List Int)) (Q : Ex → VSt D → Prop) (R : VR D → Prop) : Prop := Q .normal (mkSt ⟨[(0, .hole), (4, .ref 500004), (5, .hole)], [(500004, .row)]⟩ [.str x.1, .int .i64 x.2.1, .sl 5 o])
def znc (k : Nat) : Cut D := cutS ⟨[(0, .hole), (4, .ref 500004), (5, .hole), (6, .hole), (7, .hole), (8, .hole), (88, .hole)], [(500004, .row)]⟩ [.ks, .ki .i64, .ki .i64, .ki .i64, .ki .u8, .kb, .kl 5] (fun (x : (List UInt8) × Int × Int × Int × Int × Bool × (List Int) × Unit) => I_decodedTarget_c88 k x.1 x.2.1 x.2.2.1 x.2.2.2.1 x.2.2.2.2.1 x.2.2.2.2.2.1 x.2.2.2.2.2.2.1) znb
def znd (k : Nat) : Cuts D := ⟨[], []⟩
theorem zne (k : Nat) : CutFor X zn8 k Go.Proofs.Tryz.f83.results.toList (znc k) (sub (bodyOf Go.Proofs.Tryz.f83) [1, 1, 0, 1, 0, 0, 1, 0, 0, 1, 1, 1, 1, 0, 1]) :=
  joinCut_s (X := X) (sg := [.ks, .ki .i64, .ki .i64, .ki .i64, .ki .u8, .kb, .kl 5]) (cu := znd k) (cl := zn9 k) (tys := [[0], [0]]) (zna k) (cutOK_of (l := []) (by kernel_rfl) trivial) fun x Q R h => by
    simp only [I_decodedTarget_c88, optK_bind, optK_bif, optK_pure, optK_none, optK_oc, optK_guardT, optK_map] at h
    refine hold_of h ?_
    kernel_rfl
def znf (x : (List UInt8) × Int × (List Int) × Unit) (o : Oc (Int × (List Int)) ((List UInt8) × Bool)) (Q : Ex → VSt D → Prop) (R : VR D → Prop) : Prop := ocP o (fun v0 => Q .normal (mkSt ⟨[(0, .hole), (4, .ref 500004), (5, .hole)], [(500004, .row)]⟩ [.str x.1, .int .i64 v0.1, .sl 5 v0.2])) (fun w0 => R (.tup [.c (.str w0.1), .c (.bool w0.2)]))
def zng (k : Nat) : Cut D := cutS ⟨[(0, .hole), (4, .ref 500004), (5, .hole)], [(500004, .row)]⟩ [.ks, .ki .i64, .kl 5] (fun (x : (List UInt8) × Int × (List Int) × Unit) => I_decodedTarget_b1 k x.1 x.2.1 x.2.2.1) znf
def znh (k : Nat) : Cuts D := ⟨[], [(88, some (znc k))]⟩
theorem zni (k : Nat) : CutFor X zn8 k Go.Proofs.Tryz.f83.results.toList (zng k) (sub (bodyOf Go.Proofs.Tryz.f83) [1, 1, 0, 1, 0, 0, 1, 0]) :=
  joinCut_s (X := X) (sg := [.ks, .ki .i64, .kl 5]) (cu := znh k) (cl := zn9 k) (tys := [[0], [0]]) (zna k) (cutOK_of (l := [(znc k, sub (bodyOf Go.Proofs.Tryz.f83) [1, 1, 0, 1, 0, 0, 1, 0, 0, 1, 1, 1, 1, 0, 1])]) (by kernel_rfl) ⟨zne k, trivial⟩) fun x Q R h => by
    simp only [I_decodedTarget_b1, optK_bind, optK_bif, optK_pure, optK_none, optK_oc, optK_guardT, optK_map] at h
    refine hold_of h ?_
    kernel_rfl
def znj (x : (List UInt8) × Int × (List Int) × Unit) (o : Oc ((List Int)) ((List UInt8) × Bool)) (Q : Ex → VSt D → Prop) (R : VR D → Prop) : Prop := ocP o (fun v0 => Q .normal (mkSt ⟨[(4, .ref 500004)], [(500004, .row)]⟩ [.sl 5 v0])) (fun w0 => R (.tup [.c (.str w0.1), .c (.bool w0.2)]))
def znk (k : Nat) : Cut D := cutS ⟨[(0, .hole), (4, .ref 500004), (5, .hole)], [(500004, .row)]⟩ [.ks, .ki .i64, .kl 5] (fun (x : (List UInt8) × Int × (List Int) × Unit) => I_decodedTarget_b0 k k x.1 x.2.1 x.2.2.1) znj
def znl (k : Nat) : Cuts D := ⟨[(1, some (zng k))], []⟩
theorem znm (k : Nat) : CutFor X zn8 k Go.Proofs.Tryz.f83.results.toList (znk k) (sub (bodyOf Go.Proofs.Tryz.f83) [1, 1, 0, 1]) :=
  loopCut_s (X := X) (sg := [.ks, .ki .i64, .kl 5]) (cu := znl k) (cl := zn9 k) (tys := [[0], [0]]) (id := 0) (c := sub (bodyOf Go.Proofs.Tryz.f83) [1, 1, 0, 1, 0, 0]) (f := fun n => fun (x : (List UInt8) × Int × (List Int) × Unit) => I_decodedTarget_b0 k n x.1 x.2.1 x.2.2.1) (zna k) (cutOK_of (l := [(zng k, sub (bodyOf Go.Proofs.Tryz.f83) [1, 1, 0, 1, 0, 0, 1, 0])]) (by kernel_rfl) ⟨zni k, trivial⟩) (fun _ => rfl) (fun n x Q R h => by
    simp only [I_decodedTarget_b0, optK_bind, optK_bif, optK_pure, optK_none, optK_oc, optK_guardT, optK_map] at h
    refine hold_of h ?_
    kernel_rfl) (by kernel_rfl)
def znn (k : Nat) : Cuts D := ⟨[(0, some (znk k))], []⟩
def zno : List Ar := [.c (.ks)]
def znp (k : Nat) (x : TupA D zno) : Option ((List UInt8) × Bool) := I_decodedTarget k x.1
def znq (r : (List UInt8) × Bool) : VR D := .tup [.c (.str r.1), .c (.bool r.2)]
theorem znr (k : Nat) : Does P X 83 zno (znp k) znq :=
  does_of (body := bodyOf Go.Proofs.Tryz.f83) (pl := zn8) (k := k) (cu := znn k) (tys := [[0], [0]]) (zna k) ctx mixed Go.Proofs.Tryz.func83 (by kernel_rfl) (by kernel_rfl) (cutOK_of (l := [(znk k, sub (bodyOf Go.Proofs.Tryz.f83) [1, 1, 0, 1])]) (by kernel_rfl) ⟨znm k, trivial⟩) fun x R h => by
    simp only [znp, I_decodedTarget, optK_bind, optK_bif, optK_pure, optK_none, optK_oc, optK_guardT, optK_map] at h
    refine hold_of h ?_
    kernel_rfl
def zns (k : Nat) : Entry D := entS zno (znp k) znq
theorem znt (k : Nat) : EntryOK X 83 (zns k) := (znr k).en rfl
def znu : Plan := ⟨[(0, [(0, none), (1, none)]), (1, [(4, none)])],
  [],
  []⟩
def znv (k : Nat) : Calls' D := ⟨[], [], [], [], []⟩
theorem znw (k : Nat) : CallsOK X (znv k) := .nil cod
def znx (k : Nat) : Cuts D := ⟨[], []⟩
def zny : List Ar := [.c (.ks), .c (.ks)]
def znz (k : Nat) (x : TupA D zny) : Option (Bool) := internal_stringslite_HasPrefix k x.1 x.2.1
def zo0 (r : Bool) : VR D := .p (.c (.bool r))
theorem zo1 (k : Nat) : Does P X 144 zny (znz k) zo0 :=
  does_of (body := bodyOf Go.Proofs.Tryz.f144) (pl := znu) (k := k) (cu := znx k) (tys := [[0]]) (znw k) ctx mixed Go.Proofs.Tryz.func144 (by kernel_rfl) (by kernel_rfl) (cutOK_of (l := []) (by kernel_rfl) trivial) fun x R h => by
    simp only [znz, internal_stringslite_HasPrefix, optK_bind, optK_bif, optK_pure, optK_none, optK_oc, optK_guardT, optK_map] at h
    refine hold_of h ?_
    kernel_rfl
def zo2 (k : Nat) : Entry D := entS zny (znz k) zo0
theorem zo3 (k : Nat) : EntryOK X 144 (zo2 k) := (zo1 k).en rfl
def zo4 : Plan := ⟨[(0, [(0, none), (1, none)]), (1, [(4, none)])],
  [],
  []⟩
def zo5 (k : Nat) : Calls' D := ⟨[(144, zo2 k)], [], [], [], []⟩
theorem zo6 (k : Nat) : CallsOK X (zo5 k) := .cons (zo3 k) (.nil cod)
def zo7 (k : Nat) : Cuts D := ⟨[], []⟩
def zo8 : List Ar := [.c (.ks), .c (.ks)]
def zo9 (k : Nat) (x : TupA D zo8) : Option (Bool) := strings_HasPrefix k x.1 x.2.1
def zoa (r : Bool) : VR D := .p (.c (.bool r))
theorem zob (k : Nat) : Does P X 84 zo8 (zo9 k) zoa :=
  does_of (body := bodyOf Go.Proofs.Tryz.f84) (pl := zo4) (k := k) (cu := zo7 k) (tys := [[0]]) (zo6 k) ctx mixed Go.Proofs.Tryz.func84 (by kernel_rfl) (by kernel_rfl) (cutOK_of (l := []) (by kernel_rfl) trivial) fun x R h => by
    simp only [zo9, strings_HasPrefix, optK_bind, optK_bif, optK_pure, optK_none, optK_oc, optK_guardT, optK_map] at h
    refine hold_of h ?_
    kernel_rfl
def zoc (k : Nat) : Entry D := entS zo8 (zo9 k) zoa
theorem zod (k : Nat) : EntryOK X 84 (zoc k) := (zob k).en rfl
def zoe : List Ar := [.c (.ks), .c (.ks)]
def zof (k : Nat) (x : TupA D zoe) : Option ((List (List UInt8))) := strings_Split k x.1 x.2.1
def zog (r : (List (List UInt8))) : VR D := .p (.c (.sl 9 r))
theorem zoh (k : Nat) : Does P X 87 zoe (zof k) zog := does_split (P := P) (D := D) (X := X) (el := 9) ⟨Go.Proofs.Tryz.f87, Go.Proofs.Tryz.func87, by kernel_rfl, by kernel_rfl⟩ (fun (s : List UInt8) => s) (fun l s => splitO l s) (fun _ => rfl) (by kernel_rfl) (fun l s => (split_id l s).symm) (fun s sep w hg h1 h2 => let ⟨m, hm⟩ := hg; Go.Proofs.Tryz.strings_Split s sep m w h1 hm h2) (fun s sep h => Go.Lib.splitB_all sep h 0 _ s rfl)
def zoi (k : Nat) : Entry D := entS zoe (zof k) zog
theorem zoj (k : Nat) : EntryOK X 87 (zoi k) := (zoh k).en rfl
def zok : Plan := ⟨[(0, [(0, some 9)]), (1, [(0, some 9), (3, some 9)]), (2, [(0, some 9), (3, some 9), (7, some 9), (8, none), (9, none)]), (3, [(0, some 9), (3, some 9), (7, some 9), (8, none), (9, none), (10, none)]), (4, [(0, some 9), (3, some 9), (4, none), (5, none), (7, some 9), (8, none), (9, none)]), (5, [(0, some 9), (3, some 9), (4, none), (5, none), (7, some 9), (8, none), (9, none), (20, none)]), (6, [(0, some 9), (3, some 9), (4, none), (5, none), (7, some 9), (8, none), (9, none)]), (7, [(0, some 9), (3, some 9), (4, none), (5, none), (7, some 9), (8, none), (9, none), (26, none)]), (8, [(0, some 9), (3, some 9), (7, some 9), (8, none), (9, none)]), (9, [(0, some 9), (3, some 9), (7, some 9), (8, none), (9, none), (37, none)]), (10, [(0, some 9), (3, some 9), (7, some 9), (8, none), (9, none)]), (11, [(0, some 9), (3, some 9), (7, some 9), (8, none), (9, none)]), (12, [(2, some 9)])],
  [(0, [(3, some 9)]), (1, [(0, some 9), (3, some 9), (7, some 9), (8, none), (9, none)]), (2, [(0, some 9), (3, some 9), (7, some 9), (8, none), (9, none)])],
  [(10, ([(0, some 9), (3, some 9), (7, some 9), (8, none), (9, none)], [(3, some 9)])), (20, ([(0, some 9), (3, some 9), (4, none), (5, none), (7, some 9), (8, none), (9, none)], [(0, some 9), (3, some 9), (4, none), (5, none), (7, some 9), (8, none), (9, none)])), (26, ([(0, some 9), (3, some 9), (5, none), (7, some 9), (8, none), (9, none)], [(0, some 9), (3, some 9), (4, none), (7, some 9), (8, none), (9, none)])), (37, ([(0, some 9), (3, some 9), (7, some 9), (8, none), (9, none)], [(0, some 9), (3, some 9), (7, some 9), (8, none), (9, none)]))]⟩
def zol (k : Nat) : Calls' D := ⟨[], [], [], [], []⟩
theorem zom (k : Nat) : CallsOK X (zol k) := .nil cod
def zon (x : (List (List UInt8)) × Int × (List UInt8) × (List (List UInt8)) × Int × Int × Bool × (List (List UInt8)) × Unit) (o : (List (List UInt8))) (Q : Ex → VSt D → Prop) (R : VR D → Prop) : Prop := Q .normal (mkSt ⟨[(0, .hole), (3, .ref 500003), (4, .hole), (5, .hole), (7, .hole), (8, .hole), (9, .hole)], [(500003, .row)]⟩ [.sl 9 x.1, .int .i64 x.2.1, .str x.2.2.1, .sl 9 x.2.2.2.1, .int .i64 x.2.2.2.2.1, .int .i64 x.2.2.2.2.2.1, .sl 9 o])
def zoo (k : Nat) : Cut D := cutS ⟨[(0, .hole), (3, .ref 500003), (4, .hole), (5, .hole), (7, .hole), (8, .hole), (9, .hole), (20, .hole)], [(500003, .row)]⟩ [.kl 9, .ki .i64, .ks, .kl 9, .ki .i64, .ki .i64, .kb, .kl 9] (fun (x : (List (List UInt8)) × Int × (List UInt8) × (List (List UInt8)) × Int × Int × Bool × (List (List UInt8)) × Unit) => I_cleanComponents_c20 k x.1 x.2.1 x.2.2.1 x.2.2.2.1 x.2.2.2.2.1 x.2.2.2.2.2.1 x.2.2.2.2.2.2.1 x.2.2.2.2.2.2.2.1) zon
def zop (k : Nat) : Cuts D := ⟨[], []⟩
theorem zoq (k : Nat) : CutFor X zok k Go.Proofs.Tryz.f86.results.toList (zoo k) (sub (bodyOf Go.Proofs.Tryz.f86) [1, 1, 0, 1, 0, 0, 1, 1, 0, 0, 1, 0, 1]) :=
  joinCut_s (X := X) (sg := [.kl 9, .ki .i64, .ks, .kl 9, .ki .i64, .ki .i64, .kb, .kl 9]) (cu := zop k) (cl := zol k) (tys := [[9]]) (zom k) (cutOK_of (l := []) (by kernel_rfl) trivial) fun x Q R h => by
    simp only [I_cleanComponents_c20, optK_bind, optK_bif, optK_pure, optK_none, optK_oc, optK_guardT, optK_map] at h
    refine hold_of h ?_
    kernel_rfl
def zor (x : (List (List UInt8)) × (List (List UInt8)) × Int × Int × Bool × (List (List UInt8)) × Unit) (o : (List (List UInt8))) (Q : Ex → VSt D → Prop) (R : VR D → Prop) : Prop := Q .normal (mkSt ⟨[(0, .hole), (3, .ref 500003), (7, .hole), (8, .hole), (9, .hole)], [(500003, .row)]⟩ [.sl 9 x.1, .sl 9 x.2.1, .int .i64 x.2.2.1, .int .i64 x.2.2.2.1, .sl 9 o])
def zos (k : Nat) : Cut D := cutS ⟨[(0, .hole), (3, .ref 500003), (7, .hole), (8, .hole), (9, .hole), (37, .hole)], [(500003, .row)]⟩ [.kl 9, .kl 9, .ki .i64, .ki .i64, .kb, .kl 9] (fun (x : (List (List UInt8)) × (List (List UInt8)) × Int × Int × Bool × (List (List UInt8)) × Unit) => I_cleanComponents_c37 k x.1 x.2.1 x.2.2.1 x.2.2.2.1 x.2.2.2.2.1 x.2.2.2.2.2.1) zor
def zot (k : Nat) : Cuts D := ⟨[], []⟩
theorem zou (k : Nat) : CutFor X zok k Go.Proofs.Tryz.f86.results.toList (zos k) (sub (bodyOf Go.Proofs.Tryz.f86) [1, 1, 0, 1, 0, 0, 1, 1, 0, 0, 1, 1, 0, 1, 1, 1]) :=
  joinCut_s (X := X) (sg := [.kl 9, .kl 9, .ki .i64, .ki .i64, .kb, .kl 9]) (cu := zot k) (cl := zol k) (tys := [[9]]) (zom k) (cutOK_of (l := []) (by kernel_rfl) trivial) fun x Q R h => by
    simp only [I_cleanComponents_c37, optK_bind, optK_bif, optK_pure, optK_none, optK_oc, optK_guardT, optK_map] at h
    refine hold_of h ?_
    kernel_rfl
def zov (x : (List (List UInt8)) × Int × (List UInt8) × (List (List UInt8)) × Int × Int × Bool × (List (List UInt8)) × Unit) (o : (List (List UInt8))) (Q : Ex → VSt D → Prop) (R : VR D → Prop) : Prop := Q .normal (mkSt ⟨[(0, .hole), (3, .ref 500003), (7, .hole), (8, .hole), (9, .hole)], [(500003, .row)]⟩ [.sl 9 x.1, .sl 9 x.2.2.2.1, .int .i64 x.2.2.2.2.1, .int .i64 x.2.2.2.2.2.1, .sl 9 o])
def zow (k : Nat) : Cut D := cutS ⟨[(0, .hole), (3, .ref 500003), (4, .hole), (5, .hole), (7, .hole), (8, .hole), (9, .hole), (26, .hole)], [(500003, .row)]⟩ [.kl 9, .ki .i64, .ks, .kl 9, .ki .i64, .ki .i64, .kb, .kl 9] (fun (x : (List (List UInt8)) × Int × (List UInt8) × (List (List UInt8)) × Int × Int × Bool × (List (List UInt8)) × Unit) => I_cleanComponents_c26 k x.1 x.2.1 x.2.2.1 x.2.2.2.1 x.2.2.2.2.1 x.2.2.2.2.2.1 x.2.2.2.2.2.2.1 x.2.2.2.2.2.2.2.1) zov
def zox (k : Nat) : Cuts D := ⟨[], [(37, some (zos k))]⟩
theorem zoy (k : Nat) : CutFor X zok k Go.Proofs.Tryz.f86.results.toList (zow k) (sub (bodyOf Go.Proofs.Tryz.f86) [1, 1, 0, 1, 0, 0, 1, 1, 0, 0, 1, 1, 0, 1]) :=
  joinCut_s (X := X) (sg := [.kl 9, .ki .i64, .ks, .kl 9, .ki .i64, .ki .i64, .kb, .kl 9]) (cu := zox k) (cl := zol k) (tys := [[9]]) (zom k) (cutOK_of (l := [(zos k, sub (bodyOf Go.Proofs.Tryz.f86) [1, 1, 0, 1, 0, 0, 1, 1, 0, 0, 1, 1, 0, 1, 1, 1])]) (by kernel_rfl) ⟨zou k, trivial⟩) fun x Q R h => by
    simp only [I_cleanComponents_c26, optK_bind, optK_bif, optK_pure, optK_none, optK_oc, optK_guardT, optK_map] at h
    refine hold_of h ?_
    kernel_rfl
def zoz (x : (List (List UInt8)) × Int × (List UInt8) × (List (List UInt8)) × Int × Int × (List (List UInt8)) × Unit) (o : (List (List UInt8))) (Q : Ex → VSt D → Prop) (R : VR D → Prop) : Prop := Q .normal (mkSt ⟨[(0, .hole), (3, .ref 500003), (7, .hole), (8, .hole), (9, .hole)], [(500003, .row)]⟩ [.sl 9 x.1, .sl 9 x.2.2.2.1, .int .i64 x.2.2.2.2.1, .int .i64 x.2.2.2.2.2.1, .sl 9 o])
def zp0 (k : Nat) : Cut D := cutS ⟨[(0, .hole), (3, .ref 500003), (4, .hole), (5, .hole), (7, .hole), (8, .hole), (9, .hole)], [(500003, .row)]⟩ [.kl 9, .ki .i64, .ks, .kl 9, .ki .i64, .ki .i64, .kl 9] (fun (x : (List (List UInt8)) × Int × (List UInt8) × (List (List UInt8)) × Int × Int × (List (List UInt8)) × Unit) => I_cleanComponents_b2 k x.1 x.2.1 x.2.2.1 x.2.2.2.1 x.2.2.2.2.1 x.2.2.2.2.2.1 x.2.2.2.2.2.2.1) zoz
def zp1 (k : Nat) : Cuts D := ⟨[], [(26, some (zow k))]⟩
theorem zp2 (k : Nat) : CutFor X zok k Go.Proofs.Tryz.f86.results.toList (zp0 k) (sub (bodyOf Go.Proofs.Tryz.f86) [1, 1, 0, 1, 0, 0, 1, 1, 0, 0, 1, 1]) :=
  joinCut_s (X := X) (sg := [.kl 9, .ki .i64, .ks, .kl 9, .ki .i64, .ki .i64, .kl 9]) (cu := zp1 k) (cl := zol k) (tys := [[9]]) (zom k) (cutOK_of (l := [(zow k, sub (bodyOf Go.Proofs.Tryz.f86) [1, 1, 0, 1, 0, 0, 1, 1, 0, 0, 1, 1, 0, 1])]) (by kernel_rfl) ⟨zoy k, trivial⟩) fun x Q R h => by
    simp only [I_cleanComponents_b2, optK_bind, optK_bif, optK_pure, optK_none, optK_oc, optK_guardT, optK_map] at h
    refine hold_of h ?_
    kernel_rfl
def zp3 (x : (List (List UInt8)) × (List (List UInt8)) × Int × Int × (List (List UInt8)) × Unit) (o : (List (List UInt8))) (Q : Ex → VSt D → Prop) (R : VR D → Prop) : Prop := Q .normal (mkSt ⟨[(0, .hole), (3, .ref 500003), (7, .hole), (8, .hole), (9, .hole)], [(500003, .row)]⟩ [.sl 9 x.1, .sl 9 x.2.1, .int .i64 x.2.2.1, .int .i64 x.2.2.2.1, .sl 9 o])
def zp4 (k : Nat) : Cut D := cutS ⟨[(0, .hole), (3, .ref 500003), (7, .hole), (8, .hole), (9, .hole)], [(500003, .row)]⟩ [.kl 9, .kl 9, .ki .i64, .ki .i64, .kl 9] (fun (x : (List (List UInt8)) × (List (List UInt8)) × Int × Int × (List (List UInt8)) × Unit) => I_cleanComponents_b1 k x.1 x.2.1 x.2.2.1 x.2.2.2.1 x.2.2.2.2.1) zp3
def zp5 (k : Nat) : Cuts D := ⟨[(2, some (zp0 k))], [(20, some (zoo k))]⟩
theorem zp6 (k : Nat) : CutFor X zok k Go.Proofs.Tryz.f86.results.toList (zp4 k) (sub (bodyOf Go.Proofs.Tryz.f86) [1, 1, 0, 1, 0, 0, 1, 1, 0]) :=
  joinCut_s (X := X) (sg := [.kl 9, .kl 9, .ki .i64, .ki .i64, .kl 9]) (cu := zp5 k) (cl := zol k) (tys := [[9]]) (zom k) (cutOK_of (l := [(zoo k, sub (bodyOf Go.Proofs.Tryz.f86) [1, 1, 0, 1, 0, 0, 1, 1, 0, 0, 1, 0, 1]), (zp0 k, sub (bodyOf Go.Proofs.Tryz.f86) [1, 1, 0, 1, 0, 0, 1, 1, 0, 0, 1, 1])]) (by kernel_rfl) ⟨zoq k, zp2 k, trivial⟩) fun x Q R h => by
    simp only [I_cleanComponents_b1, optK_bind, optK_bif, optK_pure, optK_none, optK_oc, optK_guardT, optK_map] at h
    refine hold_of h ?_
    kernel_rfl
def zp7 (x : (List (List UInt8)) × (List (List UInt8)) × Int × Int × (List (List UInt8)) × Unit) (o : (List (List UInt8))) (Q : Ex → VSt D → Prop) (R : VR D → Prop) : Prop := Q .normal (mkSt ⟨[(3, .ref 500003)], [(500003, .row)]⟩ [.sl 9 o])
def zp8 (k : Nat) : Cut D := cutS ⟨[(0, .hole), (3, .ref 500003), (7, .hole), (8, .hole), (9, .hole)], [(500003, .row)]⟩ [.kl 9, .kl 9, .ki .i64, .ki .i64, .kl 9] (fun (x : (List (List UInt8)) × (List (List UInt8)) × Int × Int × (List (List UInt8)) × Unit) => I_cleanComponents_b0 k k x.1 x.2.1 x.2.2.1 x.2.2.2.1 x.2.2.2.2.1) zp7
def zp9 (k : Nat) : Cuts D := ⟨[(1, some (zp4 k))], []⟩
theorem zpa (k : Nat) : CutFor X zok k Go.Proofs.Tryz.f86.results.toList (zp8 k) (sub (bodyOf Go.Proofs.Tryz.f86) [1, 1, 0, 1]) :=
  loopCut_s (X := X) (sg := [.kl 9, .kl 9, .ki .i64, .ki .i64, .kl 9]) (cu := zp9 k) (cl := zol k) (tys := [[9]]) (id := 0) (c := sub (bodyOf Go.Proofs.Tryz.f86) [1, 1, 0, 1, 0, 0]) (f := fun n => fun (x : (List (List UInt8)) × (List (List UInt8)) × Int × Int × (List (List UInt8)) × Unit) => I_cleanComponents_b0 k n x.1 x.2.1 x.2.2.1 x.2.2.2.1 x.2.2.2.2.1) (zom k) (cutOK_of (l := [(zp4 k, sub (bodyOf Go.Proofs.Tryz.f86) [1, 1, 0, 1, 0, 0, 1, 1, 0])]) (by kernel_rfl) ⟨zp6 k, trivial⟩) (fun _ => rfl) (fun n x Q R h => by
    simp only [I_cleanComponents_b0, optK_bind, optK_bif, optK_pure, optK_none, optK_oc, optK_guardT, optK_map] at h
    refine hold_of h ?_
    kernel_rfl) (by kernel_rfl)
def zpb (k : Nat) : Cuts D := ⟨[(0, some (zp8 k))], []⟩
def zpc : List Ar := [.c (.kl 9)]
def zpd (k : Nat) (x : TupA D zpc) : Option ((List (List UInt8))) := I_cleanComponents k x.1
def zpe (r : (List (List UInt8))) : VR D := .p (.c (.sl 9 r))
theorem zpf (k : Nat) : Does P X 86 zpc (zpd k) zpe :=
  does_of (body := bodyOf Go.Proofs.Tryz.f86) (pl := zok) (k := k) (cu := zpb k) (tys := [[9]]) (zom k) ctx mixed Go.Proofs.Tryz.func86 (by kernel_rfl) (by kernel_rfl) (cutOK_of (l := [(zp8 k, sub (bodyOf Go.Proofs.Tryz.f86) [1, 1, 0, 1])]) (by kernel_rfl) ⟨zpa k, trivial⟩) fun x R h => by
    simp only [zpd, I_cleanComponents, optK_bind, optK_bif, optK_pure, optK_none, optK_oc, optK_guardT, optK_map] at h
    refine hold_of h ?_
    kernel_rfl
def zpg (k : Nat) : Entry D := entS zpc (zpd k) zpe
theorem zph (k : Nat) : EntryOK X 86 (zpg k) := (zpf k).en rfl
def zpi : List Ar := [.c (.kl 9), .c (.ks)]
def zpj (k : Nat) (x : TupA D zpi) : Option ((List UInt8)) := strings_Join k x.1 x.2.1
def zpk (r : (List UInt8)) : VR D := .p (.c (.str r))
theorem zpl (k : Nat) : Does P X 85 zpi (zpj k) zpk := does_join (P := P) (D := D) (X := X) (el := 9) ⟨Go.Proofs.Tryz.f85, Go.Proofs.Tryz.func85, by kernel_rfl, by kernel_rfl⟩ (fun (s : List UInt8) => s) (fun (l : List (List UInt8)) s => joinO l s) (fun _ => rfl) (by kernel_rfl) (fun (l : List (List UInt8)) s => congrArg (fun t => joinO t s) (List.map_id' l).symm) (fun a c sep w => Go.Proofs.Tryz.strings_Join_none a c sep w) (fun bk o c xs sep w hg h1 h2 h3 h4 h5 => Go.Proofs.Tryz.strings_Join bk o c xs sep w h1 h2 h3 h4 h5)
def zpm (k : Nat) : Entry D := entS zpi (zpj k) zpk
theorem zpn (k : Nat) : EntryOK X 85 (zpm k) := (zpl k).en rfl
def zpo : Plan := ⟨[(0, [(0, none)]), (1, [(2, none)])],
  [],
  []⟩
def zpp (k : Nat) : Calls' D := ⟨[], [], [], [], []⟩
theorem zpq (k : Nat) : CallsOK X (zpp k) := .nil cod
def zpr (k : Nat) : Cuts D := ⟨[], []⟩
def zps : List Ar := [.c (.ks)]
def zpt (k : Nat) (x : TupA D zps) : Option (Bool) := I_NormalTarget_1 k x.1
def zpu (r : Bool) : VR D := .p (.c (.bool r))
theorem zpv (k : Nat) : Does P X 89 zps (zpt k) zpu :=
  does_of (body := bodyOf Go.Proofs.Tryz.f89) (pl := zpo) (k := k) (cu := zpr k) (tys := [[0]]) (zpq k) ctx mixed Go.Proofs.Tryz.func89 (by kernel_rfl) (by kernel_rfl) (cutOK_of (l := []) (by kernel_rfl) trivial) fun x R h => by
    simp only [zpt, I_NormalTarget_1, optK_bind, optK_bif, optK_pure, optK_none, optK_oc, optK_guardT, optK_map] at h
    refine hold_of h ?_
    kernel_rfl
def zpw (k : Nat) : Entry D := entS zps (zpt k) zpu
theorem zpx (k : Nat) : EntryOK X 89 (zpw k) := (zpv k).en rfl
def zpy : Plan := ⟨[(0, [(0, some 9), (1, none)]), (1, [(0, some 9), (1, none), (7, none), (8, none)]), (2, [(0, some 9), (1, none), (7, none), (8, none), (9, none)]), (3, [(0, some 9), (1, none), (5, none), (7, none), (8, none)]), (4, [(0, some 9), (1, none), (5, none), (7, none), (8, none), (16, none)]), (5, [(4, none)]), (6, [(0, some 9), (1, none), (7, none), (8, none)]), (7, [(4, none)])],
  [(0, []), (1, [(0, some 9), (1, none), (7, none), (8, none)])],
  [(9, ([(0, some 9), (1, none), (7, none), (8, none)], [])), (16, ([(5, none)], [(0, some 9), (1, none), (7, none), (8, none)]))]⟩
def zpz (k : Nat) : Calls' D := ⟨[(89, zpw k)], [], [], [], []⟩
theorem zq0 (k : Nat) : CallsOK X (zpz k) := .cons (zpx k) (.nil cod)
def zq1 (x : (List (List UInt8)) × Int × Int × Unit) (o : Oc (Unit) (Int)) (Q : Ex → VSt D → Prop) (R : VR D → Prop) : Prop := ocP o (fun v0 => Q .normal (mkSt ⟨[], []⟩ [])) (fun w0 => R (.p (.c (.int .i64 w0))))
def zq2 (k : Nat) : Cut D := cutS ⟨[(0, .hole), (1, .clo 89 []), (7, .hole), (8, .hole)], []⟩ [.kl 9, .ki .i64, .ki .i64] (fun (x : (List (List UInt8)) × Int × Int × Unit) => slices_IndexFunc_string_at_I_NormalTarget_1_b0 k k x.1 x.2.1 x.2.2.1) zq1
def zq3 (k : Nat) : Cuts D := ⟨[], []⟩
theorem zq4 (k : Nat) : CutFor X zpy k Go.Proofs.Tryz.f149.results.toList (zq2 k) (sub (bodyOf Go.Proofs.Tryz.f149) [1, 0, 1]) :=
  loopCut_s (X := X) (sg := [.kl 9, .ki .i64, .ki .i64]) (cu := zq3 k) (cl := zpz k) (tys := [[0]]) (id := 0) (c := sub (bodyOf Go.Proofs.Tryz.f149) [1, 0, 1, 0, 0]) (f := fun n => fun (x : (List (List UInt8)) × Int × Int × Unit) => slices_IndexFunc_string_at_I_NormalTarget_1_b0 k n x.1 x.2.1 x.2.2.1) (zq0 k) (cutOK_of (l := []) (by kernel_rfl) trivial) (fun _ => rfl) (fun n x Q R h => by
    simp only [slices_IndexFunc_string_at_I_NormalTarget_1_b0, optK_bind, optK_bif, optK_pure, optK_none, optK_oc, optK_guardT, optK_map] at h
    refine hold_of h ?_
    kernel_rfl) (by kernel_rfl)
def zq5 (k : Nat) : Cuts D := ⟨[(0, some (zq2 k))], []⟩
def zq6 : List Ar := [.c (.kl 9), .f 89 []]
def zq7 (k : Nat) (x : TupA D zq6) : Option (Int) := slices_IndexFunc_string_at_I_NormalTarget_1 k x.1
def zq8 (r : Int) : VR D := .p (.c (.int .i64 r))
theorem zq9 (k : Nat) : Does P X 149 zq6 (zq7 k) zq8 :=
  does_of (body := bodyOf Go.Proofs.Tryz.f149) (pl := zpy) (k := k) (cu := zq5 k) (tys := [[0]]) (zq0 k) ctx mixed Go.Proofs.Tryz.func149 (by kernel_rfl) (by kernel_rfl) (cutOK_of (l := [(zq2 k, sub (bodyOf Go.Proofs.Tryz.f149) [1, 0, 1])]) (by kernel_rfl) ⟨zq4 k, trivial⟩) fun x R h => by
    simp only [zq7, slices_IndexFunc_string_at_I_NormalTarget_1, optK_bind, optK_bif, optK_pure, optK_none, optK_oc, optK_guardT, optK_map] at h
    refine hold_of h ?_
    kernel_rfl
def zqa (k : Nat) : Entry D := entS zq6 (zq7 k) zq8
theorem zqb (k : Nat) : EntryOK X 149 (zqa k) := (zq9 k).en rfl
def zqc : Plan := ⟨[(0, [(0, some 9), (1, none)]), (1, [(0, some 9), (1, none), (5, none)]), (2, [(0, some 9), (1, none), (5, none), (12, none)]), (3, [(4, some 9)]), (4, [(0, some 9), (1, none), (5, none), (6, none)]), (5, [(0, some 9), (1, none), (5, none), (6, none), (19, none)]), (6, [(0, some 9), (1, none), (5, none), (6, none)]), (7, [(0, some 9), (1, none), (5, none), (6, none), (7, none)]), (8, [(0, some 9), (1, none), (5, none), (6, none), (7, none), (29, none)]), (9, [(0, some 9), (1, none), (5, none), (6, none)]), (10, [(0, some 9), (1, none), (5, none), (6, none)]), (11, [(0, some 9), (5, none)]), (12, [(4, some 9)])],
  [(0, [(0, some 9), (5, none)]), (1, [(0, some 9), (1, none), (5, none), (6, none)])],
  [(12, ([(0, some 9)], [(0, some 9), (1, none), (5, none)])), (19, ([(0, some 9), (1, none), (5, none), (6, none)], [(0, some 9), (5, none)])), (29, ([(0, some 9), (1, none), (5, none), (6, none), (7, none)], [(0, some 9), (1, none), (5, none), (6, none)]))]⟩
def zqd (k : Nat) : Calls' D := ⟨[(149, zqa k), (89, zpw k)], [], [], [], []⟩
theorem zqe (k : Nat) : CallsOK X (zqd k) := .cons (zqb k) (.cons (zpx k) (.nil cod))
def zqf (x : Int × Int × (List UInt8) × Bool × (List (List UInt8)) × Unit) (o : Int × (List (List UInt8))) (Q : Ex → VSt D → Prop) (R : VR D → Prop) : Prop := Q .normal (mkSt ⟨[(0, .ref 500000), (1, .clo 89 []), (5, .hole), (6, .hole)], [(500000, .row)]⟩ [.int .i64 o.1, .int .i64 x.2.1, .sl 9 o.2])
def zqg (k : Nat) : Cut D := cutS ⟨[(0, .ref 500000), (1, .clo 89 []), (5, .hole), (6, .hole), (7, .hole), (29, .hole)], [(500000, .row)]⟩ [.ki .i64, .ki .i64, .ks, .kb, .kl 9] (fun (x : Int × Int × (List UInt8) × Bool × (List (List UInt8)) × Unit) => slices_DeleteFunc_string_at_I_NormalTarget_1_c29 k x.1 x.2.1 x.2.2.1 x.2.2.2.1 x.2.2.2.2.1) zqf
def zqh (k : Nat) : Cuts D := ⟨[], []⟩
theorem zqi (k : Nat) : CutFor X zqc k Go.Proofs.Tryz.f88.results.toList (zqg k) (sub (bodyOf Go.Proofs.Tryz.f88) [1, 1, 1, 0, 1, 0, 0, 1, 0, 0, 1, 1]) :=
  joinCut_s (X := X) (sg := [.ki .i64, .ki .i64, .ks, .kb, .kl 9]) (cu := zqh k) (cl := zqd k) (tys := [[9]]) (zqe k) (cutOK_of (l := []) (by kernel_rfl) trivial) fun x Q R h => by
    simp only [slices_DeleteFunc_string_at_I_NormalTarget_1_c29, optK_bind, optK_bif, optK_pure, optK_none, optK_oc, optK_guardT, optK_map] at h
    refine hold_of h ?_
    kernel_rfl
def zqj (x : Int × Int × (List (List UInt8)) × Unit) (o : Int × (List (List UInt8))) (Q : Ex → VSt D → Prop) (R : VR D → Prop) : Prop := Q .normal (mkSt ⟨[(0, .ref 500000), (1, .clo 89 []), (5, .hole), (6, .hole)], [(500000, .row)]⟩ [.int .i64 o.1, .int .i64 x.2.1, .sl 9 o.2])
def zqk (k : Nat) : Cut D := cutS ⟨[(0, .ref 500000), (1, .clo 89 []), (5, .hole), (6, .hole)], [(500000, .row)]⟩ [.ki .i64, .ki .i64, .kl 9] (fun (x : Int × Int × (List (List UInt8)) × Unit) => slices_DeleteFunc_string_at_I_NormalTarget_1_b1 k x.1 x.2.1 x.2.2.1) zqj
def zql (k : Nat) : Cuts D := ⟨[], [(29, some (zqg k))]⟩
theorem zqm (k : Nat) : CutFor X zqc k Go.Proofs.Tryz.f88.results.toList (zqk k) (sub (bodyOf Go.Proofs.Tryz.f88) [1, 1, 1, 0, 1, 0, 0, 1, 0]) :=
  joinCut_s (X := X) (sg := [.ki .i64, .ki .i64, .kl 9]) (cu := zql k) (cl := zqd k) (tys := [[9]]) (zqe k) (cutOK_of (l := [(zqg k, sub (bodyOf Go.Proofs.Tryz.f88) [1, 1, 1, 0, 1, 0, 0, 1, 0, 0, 1, 1])]) (by kernel_rfl) ⟨zqi k, trivial⟩) fun x Q R h => by
    simp only [slices_DeleteFunc_string_at_I_NormalTarget_1_b1, optK_bind, optK_bif, optK_pure, optK_none, optK_oc, optK_guardT, optK_map] at h
    refine hold_of h ?_
    kernel_rfl
def zqn (x : Int × Int × (List (List UInt8)) × Unit) (o : Int × (List (List UInt8))) (Q : Ex → VSt D → Prop) (R : VR D → Prop) : Prop := Q .normal (mkSt ⟨[(0, .ref 500000), (5, .hole)], [(500000, .row)]⟩ [.int .i64 o.1, .sl 9 o.2])
def zqo (k : Nat) : Cut D := cutS ⟨[(0, .ref 500000), (1, .clo 89 []), (5, .hole), (6, .hole)], [(500000, .row)]⟩ [.ki .i64, .ki .i64, .kl 9] (fun (x : Int × Int × (List (List UInt8)) × Unit) => slices_DeleteFunc_string_at_I_NormalTarget_1_b0 k k x.1 x.2.1 x.2.2.1) zqn
def zqp (k : Nat) : Cuts D := ⟨[(1, some (zqk k))], []⟩
theorem zqq (k : Nat) : CutFor X zqc k Go.Proofs.Tryz.f88.results.toList (zqo k) (sub (bodyOf Go.Proofs.Tryz.f88) [1, 1, 1, 0, 1]) :=
  loopCut_s (X := X) (sg := [.ki .i64, .ki .i64, .kl 9]) (cu := zqp k) (cl := zqd k) (tys := [[9]]) (id := 0) (c := sub (bodyOf Go.Proofs.Tryz.f88) [1, 1, 1, 0, 1, 0, 0]) (f := fun n => fun (x : Int × Int × (List (List UInt8)) × Unit) => slices_DeleteFunc_string_at_I_NormalTarget_1_b0 k n x.1 x.2.1 x.2.2.1) (zqe k) (cutOK_of (l := [(zqk k, sub (bodyOf Go.Proofs.Tryz.f88) [1, 1, 1, 0, 1, 0, 0, 1, 0])]) (by kernel_rfl) ⟨zqm k, trivial⟩) (fun _ => rfl) (fun n x Q R h => by
    simp only [slices_DeleteFunc_string_at_I_NormalTarget_1_b0, optK_bind, optK_bif, optK_pure, optK_none, optK_oc, optK_guardT, optK_map] at h
    refine hold_of h ?_
    kernel_rfl) (by kernel_rfl)
def zqr (k : Nat) : Cuts D := ⟨[(0, some (zqo k))], []⟩
def zqs : List Ar := [.f 89 []]
def zqt (k : Nat) (l : List (D 9)) (x : TupA D zqs) : Option ((List (List UInt8))) := slices_DeleteFunc_string_at_I_NormalTarget_1 k l
def zqu (r : (List (List UInt8))) : VR D := .p (.c (.sl 9 r))
theorem zqv (k : Nat) : DoesT P X 88 9 zqs (zqt k) zqu (fun _ => none) :=
  doesT_of (body := bodyOf Go.Proofs.Tryz.f88) (pl := zqc) (k := k) (cu := zqr k) (tys := [[9]]) (zqe k) ctx mixed Go.Proofs.Tryz.func88 (by kernel_rfl) (by kernel_rfl) (cutOK_of (l := [(zqo k, sub (bodyOf Go.Proofs.Tryz.f88) [1, 1, 1, 0, 1])]) (by kernel_rfl) ⟨zqq k, trivial⟩) fun l x R h => by
    simp only [zqt, slices_DeleteFunc_string_at_I_NormalTarget_1, optK_bind, optK_bif, optK_pure, optK_none, optK_oc, optK_guardT, optK_map] at h
    refine hold_of h ?_
    kernel_rfl
def zqw (k : Nat) : EntryT D := entT 9 zqs (zqt k) zqu (fun _ => none)
theorem zqx (k : Nat) : EntryTOK X 88 (zqw k) := (zqv k).en rfl
def zqy (k : Nat) (l : List (D 9)) (x : TupA D []) : Option (List (D 9)) := slices_Sort_string k l
def zqz (r : List (D 9)) : VR D := .tup []
def zr0 (r : List (D 9)) : Option (List (D 9)) := some r
theorem zr1 (k : Nat) : DoesT P X 90 9 [] (zqy k) zqz zr0 := does_sort (P := P) (D := D) (X := X) (el := 9) ⟨Go.Proofs.Tryz.f90, Go.Proofs.Tryz.func90, by kernel_rfl, by kernel_rfl⟩ (fun (s : List UInt8) => s) (fun (l : List (List UInt8)) => sortO l) (fun _ => rfl) (by kernel_rfl) sort_hf (fun p cap w => Go.Proofs.Tryz.slices_Sort_string_none p cap w) (fun blk off cap ss w h1 h2 h3 => Go.Proofs.Tryz.slices_Sort_string blk off cap ss w h1 h2 h3)
def zr2 (k : Nat) : EntryT D := entT 9 [] (zqy k) zqz zr0
theorem zr3 (k : Nat) : EntryTOK X 90 (zr2 k) := (zr1 k).en rfl
def zr4 : Plan := ⟨[(0, [(0, none)]), (1, [(4, none), (5, none)]), (2, [(4, none), (5, none), (7, none)]), (3, [(4, none), (5, none), (7, none), (8, none)]), (4, [(4, none), (5, none), (37, none)]), (5, [(2, none), (3, none)]), (6, [(5, none), (9, none)]), (7, [(9, none), (10, some 9)]), (8, [(9, none), (10, some 9)]), (9, [(9, none), (10, some 9), (51, none)]), (10, [(9, none)]), (11, [(2, none), (3, none)])],
  [],
  [(37, ([], [(4, none), (5, none)])), (51, ([(9, none), (10, some 9)], [(9, none)]))]⟩
def zr5 (k : Nat) : Calls' D := ⟨[(82, zms k), (83, zns k), (84, zoc k), (87, zoi k), (86, zpg k), (85, zpm k)], [], [], [], [(88, zqw k), (90, zr2 k)]⟩
theorem zr6 (k : Nat) : CallsOK X (zr5 k) := .cons (zmt k) (.cons (znt k) (.cons (zod k) (.cons (zoj k) (.cons (zph k) (.cons (zpn k) (.consT (zqx k) (.consT (zr3 k) (.nil cod))))))))
def zr7 (x : (List UInt8) × Bool × (List (List UInt8)) × Unit) (o : (List UInt8)) (Q : Ex → VSt D → Prop) (R : VR D → Prop) : Prop := Q .normal (mkSt ⟨[(9, .hole)], []⟩ [.str o])
def zr8 (k : Nat) : Cut D := cutS ⟨[(9, .hole), (10, .ref 500010), (51, .hole)], [(500010, .row)]⟩ [.ks, .kb, .kl 9] (fun (x : (List UInt8) × Bool × (List (List UInt8)) × Unit) => I_NormalTarget_c51 k x.1 x.2.1 x.2.2.1) zr7
def zr9 (k : Nat) : Cuts D := ⟨[], []⟩
theorem zra (k : Nat) : CutFor X zr4 k Go.Proofs.Tryz.f37.results.toList (zr8 k) (sub (bodyOf Go.Proofs.Tryz.f37) [1, 1, 1, 1, 1, 1, 1, 1, 0, 1]) :=
  joinCut_s (X := X) (sg := [.ks, .kb, .kl 9]) (cu := zr9 k) (cl := zr5 k) (tys := [[0], [0]]) (zr6 k) (cutOK_of (l := []) (by kernel_rfl) trivial) fun x Q R h => by
    simp only [I_NormalTarget_c51, optK_bind, optK_bif, optK_pure, optK_none, optK_oc, optK_guardT, optK_map] at h
    refine hold_of h ?_
    kernel_rfl
def zrb (k : Nat) : Cuts D := ⟨[], [(51, some (zr8 k))]⟩
def zrc : List Ar := [.c (.ks)]
def zrd (k : Nat) (x : TupA D zrc) : Option ((List UInt8) × Bool) := I_NormalTarget k x.1
def zre (r : (List UInt8) × Bool) : VR D := .tup [.c (.str r.1), .c (.bool r.2)]
theorem zrf (k : Nat) : Does P X 37 zrc (zrd k) zre :=
  does_of (body := bodyOf Go.Proofs.Tryz.f37) (pl := zr4) (k := k) (cu := zrb k) (tys := [[0], [0]]) (zr6 k) ctx mixed Go.Proofs.Tryz.func37 (by kernel_rfl) (by kernel_rfl) (cutOK_of (l := [(zr8 k, sub (bodyOf Go.Proofs.Tryz.f37) [1, 1, 1, 1, 1, 1, 1, 1, 0, 1])]) (by kernel_rfl) ⟨zra k, trivial⟩) fun x R h => by
    simp only [zrd, I_NormalTarget, optK_bind, optK_bif, optK_pure, optK_none, optK_oc, optK_guardT, optK_map] at h
    refine hold_of h ?_
    kernel_rfl
def zrg (k : Nat) : Entry D := entS zrc (zrd k) zre
theorem zrh (k : Nat) : EntryOK X 37 (zrg k) := (zrf k).en rfl
def zri : Plan := ⟨[(0, [(0, none)]), (1, [(0, none), (3, none), (4, none)]), (2, [(2, none)])],
  [],
  []⟩
def zrj (k : Nat) : Calls' D := ⟨[(37, zrg k)], [], [], [], []⟩
theorem zrk (k : Nat) : CallsOK X (zrj k) := .cons (zrh k) (.nil cod)
def zrl (k : Nat) : Cuts D := ⟨[], []⟩
def zrm : List Ar := [.c (.ks)]
def zrn (k : Nat) (x : TupA D zrm) : Option (Bool) := I_IsNormalTarget k x.1
def zro (r : Bool) : VR D := .p (.c (.bool r))
theorem zrp (k : Nat) : Does P X 105 zrm (zrn k) zro :=
  does_of (body := bodyOf Go.Proofs.Tryz.f105) (pl := zri) (k := k) (cu := zrl k) (tys := [[0]]) (zrk k) ctx mixed Go.Proofs.Tryz.func105 (by kernel_rfl) (by kernel_rfl) (cutOK_of (l := []) (by kernel_rfl) trivial) fun x R h => by
    simp only [zrn, I_IsNormalTarget, optK_bind, optK_bif, optK_pure, optK_none, optK_oc, optK_guardT, optK_map] at h
    refine hold_of h ?_
    kernel_rfl
def zrq (k : Nat) : Entry D := entS zrm (zrn k) zro
theorem zrr (k : Nat) : EntryOK X 105 (zrq k) := (zrp k).en rfl
def zrs : Plan := ⟨[(0, [(0, none)]), (1, [(2, none)])],
  [],
  []⟩
def zrt (k : Nat) : Calls' D := ⟨[(91, zhe k)], [], [], [], []⟩
theorem zru (k : Nat) : CallsOK X (zrt k) := .cons (zhf k) (.nil cod)
def zrv (k : Nat) : Cuts D := ⟨[], []⟩
def zrw : List Ar := [.c (.ks)]
def zrx (k : Nat) (x : TupA D zrw) : Option (Bool) := I_areKeys_1 k x.1
def zry (r : Bool) : VR D := .p (.c (.bool r))
theorem zrz (k : Nat) : Does P X 163 zrw (zrx k) zry :=
  does_of (body := bodyOf Go.Proofs.Tryz.f163) (pl := zrs) (k := k) (cu := zrv k) (tys := [[0]]) (zru k) ctx mixed Go.Proofs.Tryz.func163 (by kernel_rfl) (by kernel_rfl) (cutOK_of (l := []) (by kernel_rfl) trivial) fun x R h => by
    simp only [zrx, I_areKeys_1, optK_bind, optK_bif, optK_pure, optK_none, optK_oc, optK_guardT, optK_map] at h
    refine hold_of h ?_
    kernel_rfl
def zs0 (k : Nat) : Entry D := entS zrw (zrx k) zry
theorem zs1 (k : Nat) : EntryOK X 163 (zs0 k) := (zrz k).en rfl
def zs2 : Plan := ⟨[(0, [(0, some 9), (1, none)]), (1, [(0, some 9), (1, none), (7, none), (8, none)]), (2, [(0, some 9), (1, none), (7, none), (8, none), (9, none)]), (3, [(0, some 9), (1, none), (5, none), (7, none), (8, none)]), (4, [(0, some 9), (1, none), (5, none), (7, none), (8, none), (16, none)]), (5, [(4, none)]), (6, [(0, some 9), (1, none), (7, none), (8, none)]), (7, [(4, none)])],
  [(0, []), (1, [(0, some 9), (1, none), (7, none), (8, none)])],
  [(9, ([(0, some 9), (1, none), (7, none), (8, none)], [])), (16, ([(5, none)], [(0, some 9), (1, none), (7, none), (8, none)]))]⟩
def zs3 (k : Nat) : Calls' D := ⟨[(163, zs0 k)], [], [], [], []⟩
theorem zs4 (k : Nat) : CallsOK X (zs3 k) := .cons (zs1 k) (.nil cod)
def zs5 (x : (List (List UInt8)) × Int × Int × Unit) (o : Oc (Unit) (Int)) (Q : Ex → VSt D → Prop) (R : VR D → Prop) : Prop := ocP o (fun v0 => Q .normal (mkSt ⟨[], []⟩ [])) (fun w0 => R (.p (.c (.int .i64 w0))))
def zs6 (k : Nat) : Cut D := cutS ⟨[(0, .hole), (1, .clo 163 []), (7, .hole), (8, .hole)], []⟩ [.kl 9, .ki .i64, .ki .i64] (fun (x : (List (List UInt8)) × Int × Int × Unit) => slices_IndexFunc_string_at_I_areKeys_1_b0 k k x.1 x.2.1 x.2.2.1) zs5
def zs7 (k : Nat) : Cuts D := ⟨[], []⟩
theorem zs8 (k : Nat) : CutFor X zs2 k Go.Proofs.Tryz.f149.results.toList (zs6 k) (sub (bodyOf Go.Proofs.Tryz.f149) [1, 0, 1]) :=
  loopCut_s (X := X) (sg := [.kl 9, .ki .i64, .ki .i64]) (cu := zs7 k) (cl := zs3 k) (tys := [[0]]) (id := 0) (c := sub (bodyOf Go.Proofs.Tryz.f149) [1, 0, 1, 0, 0]) (f := fun n => fun (x : (List (List UInt8)) × Int × Int × Unit) => slices_IndexFunc_string_at_I_areKeys_1_b0 k n x.1 x.2.1 x.2.2.1) (zs4 k) (cutOK_of (l := []) (by kernel_rfl) trivial) (fun _ => rfl) (fun n x Q R h => by
    simp only [slices_IndexFunc_string_at_I_areKeys_1_b0, optK_bind, optK_bif, optK_pure, optK_none, optK_oc, optK_guardT, optK_map] at h
    refine hold_of h ?_
    kernel_rfl) (by kernel_rfl)
def zs9 (k : Nat) : Cuts D := ⟨[(0, some (zs6 k))], []⟩
def zsa : List Ar := [.c (.kl 9), .f 163 []]
def zsb (k : Nat) (x : TupA D zsa) : Option (Int) := slices_IndexFunc_string_at_I_areKeys_1 k x.1
def zsc (r : Int) : VR D := .p (.c (.int .i64 r))
theorem zsd (k : Nat) : Does P X 149 zsa (zsb k) zsc :=
  does_of (body := bodyOf Go.Proofs.Tryz.f149) (pl := zs2) (k := k) (cu := zs9 k) (tys := [[0]]) (zs4 k) ctx mixed Go.Proofs.Tryz.func149 (by kernel_rfl) (by kernel_rfl) (cutOK_of (l := [(zs6 k, sub (bodyOf Go.Proofs.Tryz.f149) [1, 0, 1])]) (by kernel_rfl) ⟨zs8 k, trivial⟩) fun x R h => by
    simp only [zsb, slices_IndexFunc_string_at_I_areKeys_1, optK_bind, optK_bif, optK_pure, optK_none, optK_oc, optK_guardT, optK_map] at h
    refine hold_of h ?_
    kernel_rfl
def zse (k : Nat) : Entry D := entS zsa (zsb k) zsc
theorem zsf (k : Nat) : EntryOK X 149 (zse k) := (zsd k).en rfl
def zsg : Plan := ⟨[(0, [(0, some 9), (1, none)]), (1, [(4, none)])],
  [],
  []⟩
def zsh (k : Nat) : Calls' D := ⟨[(149, zse k)], [], [], [], []⟩
theorem zsi (k : Nat) : CallsOK X (zsh k) := .cons (zsf k) (.nil cod)
def zsj (k : Nat) : Cuts D := ⟨[], []⟩
def zsk : List Ar := [.c (.kl 9), .f 163 []]
def zsl (k : Nat) (x : TupA D zsk) : Option (Bool) := slices_ContainsFunc_string_at_I_areKeys_1 k x.1
def zsm (r : Bool) : VR D := .p (.c (.bool r))
theorem zsn (k : Nat) : Does P X 162 zsk (zsl k) zsm :=
  does_of (body := bodyOf Go.Proofs.Tryz.f162) (pl := zsg) (k := k) (cu := zsj k) (tys := [[0]]) (zsi k) ctx mixed Go.Proofs.Tryz.func162 (by kernel_rfl) (by kernel_rfl) (cutOK_of (l := []) (by kernel_rfl) trivial) fun x R h => by
    simp only [zsl, slices_ContainsFunc_string_at_I_areKeys_1, optK_bind, optK_bif, optK_pure, optK_none, optK_oc, optK_guardT, optK_map] at h
    refine hold_of h ?_
    kernel_rfl
def zso (k : Nat) : Entry D := entS zsk (zsl k) zsm
theorem zsp (k : Nat) : EntryOK X 162 (zso k) := (zsn k).en rfl
def zsq : Plan := ⟨[(0, [(0, none)]), (1, [(0, none), (3, some 9)]), (2, [(2, none)])],
  [],
  []⟩
def zsr (k : Nat) : Calls' D := ⟨[(87, zoi k), (162, zso k)], [], [], [], []⟩
theorem zss (k : Nat) : CallsOK X (zsr k) := .cons (zoj k) (.cons (zsp k) (.nil cod))
def zst (k : Nat) : Cuts D := ⟨[], []⟩
def zsu : List Ar := [.c (.ks)]
def zsv (k : Nat) (x : TupA D zsu) : Option (Bool) := I_areKeys k x.1
def zsw (r : Bool) : VR D := .p (.c (.bool r))
theorem zsx (k : Nat) : Does P X 107 zsu (zsv k) zsw :=
  does_of (body := bodyOf Go.Proofs.Tryz.f107) (pl := zsq) (k := k) (cu := zst k) (tys := [[0]]) (zss k) ctx mixed Go.Proofs.Tryz.func107 (by kernel_rfl) (by kernel_rfl) (cutOK_of (l := []) (by kernel_rfl) trivial) fun x R h => by
    simp only [zsv, I_areKeys, optK_bind, optK_bif, optK_pure, optK_none, optK_oc, optK_guardT, optK_map] at h
    refine hold_of h ?_
    kernel_rfl
def zsy (k : Nat) : Entry D := entS zsu (zsv k) zsw
theorem zsz (k : Nat) : EntryOK X 107 (zsy k) := (zsx k).en rfl
def zt0 : Plan := ⟨[(0, [(0, some 9), (1, none)]), (1, [(0, some 9), (1, none), (7, none), (8, none)]), (2, [(0, some 9), (1, none), (7, none), (8, none), (9, none)]), (3, [(0, some 9), (1, none), (5, none), (7, none), (8, none)]), (4, [(0, some 9), (1, none), (5, none), (7, none), (8, none), (16, none)]), (5, [(4, none)]), (6, [(0, some 9), (1, none), (7, none), (8, none)]), (7, [(4, none)])],
  [(0, []), (1, [(0, some 9), (1, none), (7, none), (8, none)])],
  [(9, ([(0, some 9), (1, none), (7, none), (8, none)], [])), (16, ([(5, none)], [(0, some 9), (1, none), (7, none), (8, none)]))]⟩
def zt1 (k : Nat) : Calls' D := ⟨[], [], [], [], []⟩
theorem zt2 (k : Nat) : CallsOK X (zt1 k) := .nil cod
def zt3 (x : (List (List UInt8)) × (List UInt8) × Int × Int × Unit) (o : Oc (Unit) (Int)) (Q : Ex → VSt D → Prop) (R : VR D → Prop) : Prop := ocP o (fun v0 => Q .normal (mkSt ⟨[], []⟩ [])) (fun w0 => R (.p (.c (.int .i64 w0))))
def zt4 (k : Nat) : Cut D := cutS ⟨[(0, .hole), (1, .hole), (7, .hole), (8, .hole)], []⟩ [.kl 9, .ks, .ki .i64, .ki .i64] (fun (x : (List (List UInt8)) × (List UInt8) × Int × Int × Unit) => slices_Index_string_b0 k k x.1 x.2.1 x.2.2.1 x.2.2.2.1) zt3
def zt5 (k : Nat) : Cuts D := ⟨[], []⟩
theorem zt6 (k : Nat) : CutFor X zt0 k Go.Proofs.Tryz.f164.results.toList (zt4 k) (sub (bodyOf Go.Proofs.Tryz.f164) [1, 0, 1]) :=
  loopCut_s (X := X) (sg := [.kl 9, .ks, .ki .i64, .ki .i64]) (cu := zt5 k) (cl := zt1 k) (tys := [[0]]) (id := 0) (c := sub (bodyOf Go.Proofs.Tryz.f164) [1, 0, 1, 0, 0]) (f := fun n => fun (x : (List (List UInt8)) × (List UInt8) × Int × Int × Unit) => slices_Index_string_b0 k n x.1 x.2.1 x.2.2.1 x.2.2.2.1) (zt2 k) (cutOK_of (l := []) (by kernel_rfl) trivial) (fun _ => rfl) (fun n x Q R h => by
    simp only [slices_Index_string_b0, optK_bind, optK_bif, optK_pure, optK_none, optK_oc, optK_guardT, optK_map] at h
    refine hold_of h ?_
    kernel_rfl) (by kernel_rfl)
def zt7 (k : Nat) : Cuts D := ⟨[(0, some (zt4 k))], []⟩
def zt8 : List Ar := [.c (.kl 9), .c (.ks)]
def zt9 (k : Nat) (x : TupA D zt8) : Option (Int) := slices_Index_string k x.1 x.2.1
def zta (r : Int) : VR D := .p (.c (.int .i64 r))
theorem ztb (k : Nat) : Does P X 164 zt8 (zt9 k) zta :=
  does_of (body := bodyOf Go.Proofs.Tryz.f164) (pl := zt0) (k := k) (cu := zt7 k) (tys := [[0]]) (zt2 k) ctx mixed Go.Proofs.Tryz.func164 (by kernel_rfl) (by kernel_rfl) (cutOK_of (l := [(zt4 k, sub (bodyOf Go.Proofs.Tryz.f164) [1, 0, 1])]) (by kernel_rfl) ⟨zt6 k, trivial⟩) fun x R h => by
    simp only [zt9, slices_Index_string, optK_bind, optK_bif, optK_pure, optK_none, optK_oc, optK_guardT, optK_map] at h
    refine hold_of h ?_
    kernel_rfl
def ztc (k : Nat) : Entry D := entS zt8 (zt9 k) zta
theorem ztd (k : Nat) : EntryOK X 164 (ztc k) := (ztb k).en rfl
def zte : Plan := ⟨[(0, [(0, some 9), (1, none)]), (1, [(4, none)])],
  [],
  []⟩
def ztf (k : Nat) : Calls' D := ⟨[(164, ztc k)], [], [], [], []⟩
theorem ztg (k : Nat) : CallsOK X (ztf k) := .cons (ztd k) (.nil cod)
def zth (k : Nat) : Cuts D := ⟨[], []⟩
def zti : List Ar := [.c (.kl 9), .c (.ks)]
def ztj (k : Nat) (x : TupA D zti) : Option (Bool) := slices_Contains_string k x.1 x.2.1
def ztk (r : Bool) : VR D := .p (.c (.bool r))
theorem ztl (k : Nat) : Does P X 109 zti (ztj k) ztk :=
  does_of (body := bodyOf Go.Proofs.Tryz.f109) (pl := zte) (k := k) (cu := zth k) (tys := [[0]]) (ztg k) ctx mixed Go.Proofs.Tryz.func109 (by kernel_rfl) (by kernel_rfl) (cutOK_of (l := []) (by kernel_rfl) trivial) fun x R h => by
    simp only [ztj, slices_Contains_string, optK_bind, optK_bif, optK_pure, optK_none, optK_oc, optK_guardT, optK_map] at h
    refine hold_of h ?_
    kernel_rfl
def ztm (k : Nat) : Entry D := entS zti (ztj k) ztk
theorem ztn (k : Nat) : EntryOK X 109 (ztm k) := (ztl k).en rfl
def zto : Plan := ⟨[(0, [(1, none)]), (1, [(1, none), (47, none)]), (2, [(2, none)]), (3, [(1, none), (49, some 9), (50, none), (51, none)]), (4, [(1, none), (49, some 9), (50, none), (51, none), (52, none)]), (5, [(1, none), (3, none), (4, none), (49, some 9), (50, none), (51, none)]), (6, [(1, none), (49, some 9), (50, none), (51, none), (81, none)]), (7, [(2, none)]), (8, [(1, none), (49, some 9), (50, none), (51, none)]), (9, [(1, none), (84, some 121), (85, none), (86, none)]), (10, [(1, none), (84, some 121), (85, none), (86, none), (87, none)]), (11, [(1, none), (5, none), (6, none), (84, some 121), (85, none), (86, none)]), (12, [(1, none), (84, some 121), (85, none), (86, none), (116, none)]), (13, [(2, none)]), (14, [(1, none), (84, some 121), (85, none), (86, none)]), (15, [(2, none)])],
  [(0, [(1, none)]), (1, [(1, none), (49, some 9), (50, none), (51, none)]), (2, []), (3, [(1, none), (84, some 121), (85, none), (86, none)])],
  [(47, ([], [(1, none)])), (52, ([(1, none), (49, some 9), (50, none), (51, none)], [(1, none)])), (81, ([], [(1, none), (49, some 9), (50, none), (51, none)])), (87, ([(1, none), (84, some 121), (85, none), (86, none)], [])), (116, ([], [(1, none), (84, some 121), (85, none), (86, none)]))]⟩
def ztp (k : Nat) : Calls' D := ⟨[(105, zrq k), (106, zje k), (107, zsy k), (94, zh0 k), (91, zhe k), (108, zik k), (109, ztm k)], [], [], [], []⟩
theorem ztq (k : Nat) : CallsOK X (ztp k) := .cons (zrr k) (.cons (zjf k) (.cons (zsz k) (.cons (zh1 k) (.cons (zhf k) (.cons (zil k) (.cons (ztn k) (.nil cod)))))))
def ztr (x : (List (List UInt8)) × Int × Int × (List UInt8) × (List UInt8) × (List UInt8) × Bool × (List (List UInt8)) × (List IVersion) × Unit) (o : Oc (Unit) (Bool)) (Q : Ex → VSt D → Prop) (R : VR D → Prop) : Prop := ocP o (fun v0 => Q .normal (mkSt ⟨[(1, .ptr 1 0)], [(1, .var [.hole, .hole, .hole, .hole, .hole, .hole])]⟩ [.str x.2.2.2.1, .str x.2.2.2.2.1, .str x.2.2.2.2.2.1, .bool x.2.2.2.2.2.2.1, .sl 9 x.2.2.2.2.2.2.2.1, .sl 121 x.2.2.2.2.2.2.2.2.1])) (fun w0 => R (.p (.c (.bool w0))))
def zts (k : Nat) : Cut D := cutS ⟨[(1, .ptr 1 0), (49, .hole), (50, .hole), (51, .hole)], [(1, .var [.hole, .hole, .hole, .hole, .hole, .hole])]⟩ [.kl 9, .ki .i64, .ki .i64, .ks, .ks, .ks, .kb, .kl 9, .kl 121] (fun (x : (List (List UInt8)) × Int × Int × (List UInt8) × (List UInt8) × (List UInt8) × Bool × (List (List UInt8)) × (List IVersion) × Unit) => I_isResource_b0 k k x.1 x.2.1 x.2.2.1 x.2.2.2.1 x.2.2.2.2.1 x.2.2.2.2.2.1 x.2.2.2.2.2.2.1 x.2.2.2.2.2.2.2.1 x.2.2.2.2.2.2.2.2.1) ztr
def ztt (k : Nat) : Cuts D := ⟨[], []⟩
theorem ztu (k : Nat) : CutFor X zto k Go.Proofs.Tryz.f45.results.toList (zts k) (sub (bodyOf Go.Proofs.Tryz.f45) [1, 1, 0, 1]) :=
  loopCut_s (X := X) (sg := [.kl 9, .ki .i64, .ki .i64, .ks, .ks, .ks, .kb, .kl 9, .kl 121]) (cu := ztt k) (cl := ztp k) (tys := [[0]]) (id := 0) (c := sub (bodyOf Go.Proofs.Tryz.f45) [1, 1, 0, 1, 0, 0]) (f := fun n => fun (x : (List (List UInt8)) × Int × Int × (List UInt8) × (List UInt8) × (List UInt8) × Bool × (List (List UInt8)) × (List IVersion) × Unit) => I_isResource_b0 k n x.1 x.2.1 x.2.2.1 x.2.2.2.1 x.2.2.2.2.1 x.2.2.2.2.2.1 x.2.2.2.2.2.2.1 x.2.2.2.2.2.2.2.1 x.2.2.2.2.2.2.2.2.1) (ztq k) (cutOK_of (l := []) (by kernel_rfl) trivial) (fun _ => rfl) (fun n x Q R h => by
    simp only [I_isResource_b0, optK_bind, optK_bif, optK_pure, optK_none, optK_oc, optK_guardT, optK_map] at h
    refine hold_of h ?_
    kernel_rfl) (by kernel_rfl)
def ztv (x : (List IVersion) × Int × Int × (List UInt8) × (List UInt8) × (List UInt8) × Bool × (List (List UInt8)) × (List IVersion) × Unit) (o : Oc (Unit) (Bool)) (Q : Ex → VSt D → Prop) (R : VR D → Prop) : Prop := ocP o (fun v0 => Q .normal (mkSt ⟨[], []⟩ [])) (fun w0 => R (.p (.c (.bool w0))))
def ztw (k : Nat) : Cut D := cutS ⟨[(1, .ptr 1 0), (84, .hole), (85, .hole), (86, .hole)], [(1, .var [.hole, .hole, .hole, .hole, .hole, .hole])]⟩ [.kl 121, .ki .i64, .ki .i64, .ks, .ks, .ks, .kb, .kl 9, .kl 121] (fun (x : (List IVersion) × Int × Int × (List UInt8) × (List UInt8) × (List UInt8) × Bool × (List (List UInt8)) × (List IVersion) × Unit) => I_isResource_b2 k k x.1 x.2.1 x.2.2.1 x.2.2.2.1 x.2.2.2.2.1 x.2.2.2.2.2.1 x.2.2.2.2.2.2.1 x.2.2.2.2.2.2.2.1 x.2.2.2.2.2.2.2.2.1) ztv
def ztx (k : Nat) : Cuts D := ⟨[], []⟩
theorem zty (k : Nat) : CutFor X zto k Go.Proofs.Tryz.f45.results.toList (ztw k) (sub (bodyOf Go.Proofs.Tryz.f45) [1, 1, 1, 0, 1]) :=
  loopCut_s (X := X) (sg := [.kl 121, .ki .i64, .ki .i64, .ks, .ks, .ks, .kb, .kl 9, .kl 121]) (cu := ztx k) (cl := ztp k) (tys := [[0]]) (id := 2) (c := sub (bodyOf Go.Proofs.Tryz.f45) [1, 1, 1, 0, 1, 0, 0]) (f := fun n => fun (x : (List IVersion) × Int × Int × (List UInt8) × (List UInt8) × (List UInt8) × Bool × (List (List UInt8)) × (List IVersion) × Unit) => I_isResource_b2 k n x.1 x.2.1 x.2.2.1 x.2.2.2.1 x.2.2.2.2.1 x.2.2.2.2.2.1 x.2.2.2.2.2.2.1 x.2.2.2.2.2.2.2.1 x.2.2.2.2.2.2.2.2.1) (ztq k) (cutOK_of (l := []) (by kernel_rfl) trivial) (fun _ => rfl) (fun n x Q R h => by
    simp only [I_isResource_b2, optK_bind, optK_bif, optK_pure, optK_none, optK_oc, optK_guardT, optK_map] at h
    refine hold_of h ?_
    kernel_rfl) (by kernel_rfl)
def ztz (k : Nat) : Cuts D := ⟨[(0, some (zts k)), (2, some (ztw k))], []⟩
def zu0 : List Ar := [.a [.ks, .ks, .ks, .kb, .kl 9, .kl 121]]
def zu1 (k : Nat) (x : TupA D zu0) : Option (Bool) := I_isResource k (⟨x.1.1, x.1.2.1, x.1.2.2.1, x.1.2.2.2.1, x.1.2.2.2.2.1, x.1.2.2.2.2.2.1⟩ : IResource)
def zu2 (r : Bool) : VR D := .p (.c (.bool r))
theorem zu3 (k : Nat) : Does P X 45 zu0 (zu1 k) zu2 :=
  does_of (body := bodyOf Go.Proofs.Tryz.f45) (pl := zto) (k := k) (cu := ztz k) (tys := [[0]]) (ztq k) ctx mixed Go.Proofs.Tryz.func45 (by kernel_rfl) (by kernel_rfl) (cutOK_of (l := [(zts k, sub (bodyOf Go.Proofs.Tryz.f45) [1, 1, 0, 1]), (ztw k, sub (bodyOf Go.Proofs.Tryz.f45) [1, 1, 1, 0, 1])]) (by kernel_rfl) ⟨ztu k, zty k, trivial⟩) fun x R h => by
    simp only [zu1, I_isResource, optK_bind, optK_bif, optK_pure, optK_none, optK_oc, optK_guardT, optK_map] at h
    refine hold_of h ?_
    kernel_rfl
def zu4 (k : Nat) : Entry D := entS zu0 (zu1 k) zu2
theorem zu5 (k : Nat) : EntryOK X 45 (zu4 k) := (zu3 k).en rfl
def zu6 : Plan := ⟨[(0, [(1, none)]), (1, [(1, none), (15, none)]), (2, [(2, none)]), (3, [(1, none), (17, some 71), (18, none), (19, none)]), (4, [(1, none), (17, some 71), (18, none), (19, none), (20, none)]), (5, [(1, none), (3, none), (4, none), (17, some 71), (18, none), (19, none)]), (6, [(1, none), (17, some 71), (18, none), (19, none), (34, none)]), (7, [(2, none)]), (8, [(1, none), (17, some 71), (18, none), (19, none)]), (9, [(2, none)])],
  [(0, []), (1, [(1, none), (17, some 71), (18, none), (19, none)])],
  [(15, ([], [(1, none)])), (20, ([(1, none), (17, some 71), (18, none), (19, none)], [])), (34, ([], [(1, none), (17, some 71), (18, none), (19, none)]))]⟩
def zu7 (k : Nat) : Calls' D := ⟨[(38, zle k), (44, zmc k), (45, zu4 k)], [], [], [], []⟩
theorem zu8 (k : Nat) : CallsOK X (zu7 k) := .cons (zlf k) (.cons (zmd k) (.cons (zu5 k) (.nil cod)))
def zu9 (x : (List IResource) × Int × Int × (List UInt8) × (List IResource) × Unit) (o : Oc (Unit) (Bool)) (Q : Ex → VSt D → Prop) (R : VR D → Prop) : Prop := ocP o (fun v0 => Q .normal (mkSt ⟨[], []⟩ [])) (fun w0 => R (.p (.c (.bool w0))))
def zua (k : Nat) : Cut D := cutS ⟨[(1, .ptr 1 0), (17, .hole), (18, .hole), (19, .hole)], [(1, .var [.hole, .hole])]⟩ [.kl 71, .ki .i64, .ki .i64, .ks, .kl 71] (fun (x : (List IResource) × Int × Int × (List UInt8) × (List IResource) × Unit) => I_IsOrigin_b0 k k x.1 x.2.1 x.2.2.1 x.2.2.2.1 x.2.2.2.2.1) zu9
def zub (k : Nat) : Cuts D := ⟨[], []⟩
theorem zuc (k : Nat) : CutFor X zu6 k Go.Proofs.Tryz.f18.results.toList (zua k) (sub (bodyOf Go.Proofs.Tryz.f18) [1, 1, 0, 1]) :=
  loopCut_s (X := X) (sg := [.kl 71, .ki .i64, .ki .i64, .ks, .kl 71]) (cu := zub k) (cl := zu7 k) (tys := [[0]]) (id := 0) (c := sub (bodyOf Go.Proofs.Tryz.f18) [1, 1, 0, 1, 0, 0]) (f := fun n => fun (x : (List IResource) × Int × Int × (List UInt8) × (List IResource) × Unit) => I_IsOrigin_b0 k n x.1 x.2.1 x.2.2.1 x.2.2.2.1 x.2.2.2.2.1) (zu8 k) (cutOK_of (l := []) (by kernel_rfl) trivial) (fun _ => rfl) (fun n x Q R h => by
    simp only [I_IsOrigin_b0, optK_bind, optK_bif, optK_pure, optK_none, optK_oc, optK_guardT, optK_map] at h
    refine hold_of h ?_
    kernel_rfl) (by kernel_rfl)
def zud (k : Nat) : Cuts D := ⟨[(0, some (zua k))], []⟩
def zue : List Ar := [.a [.ks, .kl 71]]
def zuf (k : Nat) (x : TupA D zue) : Option (Bool) := I_IsOrigin k (⟨x.1.1, x.1.2.1⟩ : IOrigin)
def zug (r : Bool) : VR D := .p (.c (.bool r))
theorem zuh (k : Nat) : Does P X 18 zue (zuf k) zug :=
  does_of (body := bodyOf Go.Proofs.Tryz.f18) (pl := zu6) (k := k) (cu := zud k) (tys := [[0]]) (zu8 k) ctx mixed Go.Proofs.Tryz.func18 (by kernel_rfl) (by kernel_rfl) (cutOK_of (l := [(zua k, sub (bodyOf Go.Proofs.Tryz.f18) [1, 1, 0, 1])]) (by kernel_rfl) ⟨zuc k, trivial⟩) fun x R h => by
    simp only [zuf, I_IsOrigin, optK_bind, optK_bif, optK_pure, optK_none, optK_oc, optK_guardT, optK_map] at h
    refine hold_of h ?_
    kernel_rfl
def zui (k : Nat) : Entry D := entS zue (zuf k) zug
theorem zuj (k : Nat) : EntryOK X 18 (zui k) := (zuh k).en rfl
def zuk : Plan := ⟨[(0, [(0, some 9), (1, some 9)]), (1, [(0, some 9), (1, some 9), (10, none)]), (2, [(4, none)]), (3, [(0, some 9), (1, some 9), (5, none)]), (4, [(0, some 9), (1, some 9), (5, none), (14, none)]), (5, [(0, some 9), (1, some 9), (5, none)]), (6, [(0, some 9), (1, some 9), (5, none), (25, none)]), (7, [(4, none)]), (8, [(4, none)])],
  [(0, []), (1, [(0, some 9), (1, some 9), (5, none)])],
  [(10, ([], [(0, some 9), (1, some 9)])), (14, ([(0, some 9), (1, some 9), (5, none)], [])), (25, ([], [(0, some 9), (1, some 9), (5, none)]))]⟩
def zul (k : Nat) : Calls' D := ⟨[], [], [], [], []⟩
theorem zum (k : Nat) : CallsOK X (zul k) := .nil cod
def zun (x : (List (List UInt8)) × (List (List UInt8)) × Int × Unit) (o : Oc (Unit) (Bool)) (Q : Ex → VSt D → Prop) (R : VR D → Prop) : Prop := ocP o (fun v0 => Q .normal (mkSt ⟨[], []⟩ [])) (fun w0 => R (.p (.c (.bool w0))))
def zuo (k : Nat) : Cut D := cutS ⟨[(0, .hole), (1, .hole), (5, .hole)], []⟩ [.kl 9, .kl 9, .ki .i64] (fun (x : (List (List UInt8)) × (List (List UInt8)) × Int × Unit) => L_eqStringS_b0 k k x.1 x.2.1 x.2.2.1) zun
def zup (k : Nat) : Cuts D := ⟨[], []⟩
theorem zuq (k : Nat) : CutFor X zuk k Go.Proofs.Tryz.f165.results.toList (zuo k) (sub (bodyOf Go.Proofs.Tryz.f165) [1, 1, 0, 1]) :=
  loopCut_s (X := X) (sg := [.kl 9, .kl 9, .ki .i64]) (cu := zup k) (cl := zul k) (tys := [[0]]) (id := 0) (c := sub (bodyOf Go.Proofs.Tryz.f165) [1, 1, 0, 1, 0, 0]) (f := fun n => fun (x : (List (List UInt8)) × (List (List UInt8)) × Int × Unit) => L_eqStringS_b0 k n x.1 x.2.1 x.2.2.1) (zum k) (cutOK_of (l := []) (by kernel_rfl) trivial) (fun _ => rfl) (fun n x Q R h => by
    simp only [L_eqStringS_b0, optK_bind, optK_bif, optK_pure, optK_none, optK_oc, optK_guardT, optK_map] at h
    refine hold_of h ?_
    kernel_rfl) (by kernel_rfl)
def zur (k : Nat) : Cuts D := ⟨[(0, some (zuo k))], []⟩
def zus : List Ar := [.c (.kl 9), .c (.kl 9)]
def zut (k : Nat) (x : TupA D zus) : Option (Bool) := L_eqStringS k x.1 x.2.1
def zuu (r : Bool) : VR D := .p (.c (.bool r))
theorem zuv (k : Nat) : Does P X 165 zus (zut k) zuu :=
  does_of (body := bodyOf Go.Proofs.Tryz.f165) (pl := zuk) (k := k) (cu := zur k) (tys := [[0]]) (zum k) ctx mixed Go.Proofs.Tryz.func165 (by kernel_rfl) (by kernel_rfl) (cutOK_of (l := [(zuo k, sub (bodyOf Go.Proofs.Tryz.f165) [1, 1, 0, 1])]) (by kernel_rfl) ⟨zuq k, trivial⟩) fun x R h => by
    simp only [zut, L_eqStringS, optK_bind, optK_bif, optK_pure, optK_none, optK_oc, optK_guardT, optK_map] at h
    refine hold_of h ?_
    kernel_rfl
def zuw (k : Nat) : Entry D := entS zus (zut k) zuu
theorem zux (k : Nat) : EntryOK X 165 (zuw k) := (zuv k).en rfl
def zuy : Plan := ⟨[(0, [(2, none), (3, none)]), (1, [(2, none), (3, none), (9, none)]), (2, [(4, none)]), (3, [(2, none), (3, none), (14, none)]), (4, [(4, none)]), (5, [(19, none)]), (6, [(4, none)]), (7, [(4, none)])],
  [],
  [(9, ([], [(2, none), (3, none)])), (14, ([], [(2, none), (3, none)])), (19, ([], []))]⟩
def zuz (k : Nat) : Calls' D := ⟨[], [], [], [], []⟩
theorem zv0 (k : Nat) : CallsOK X (zuz k) := .nil cod
def zv1 (k : Nat) : Cuts D := ⟨[], []⟩
def zv2 : List Ar := [.a [.ki .i64, .ks, .kb], .a [.ki .i64, .ks, .kb]]
def zv3 (k : Nat) (x : TupA D zv2) : Option (Bool) := L_eqVersion k (⟨x.1.1, x.1.2.1, x.1.2.2.1⟩ : IVersion) (⟨x.2.1.1, x.2.1.2.1, x.2.1.2.2.1⟩ : IVersion)
def zv4 (r : Bool) : VR D := .p (.c (.bool r))
theorem zv5 (k : Nat) : Does P X 225 zv2 (zv3 k) zv4 :=
  does_of (body := bodyOf Go.Proofs.Tryz.f225) (pl := zuy) (k := k) (cu := zv1 k) (tys := [[0]]) (zv0 k) ctx mixed Go.Proofs.Tryz.func225 (by kernel_rfl) (by kernel_rfl) (cutOK_of (l := []) (by kernel_rfl) trivial) fun x R h => by
    simp only [zv3, L_eqVersion, optK_bind, optK_bif, optK_pure, optK_none, optK_oc, optK_guardT, optK_map] at h
    refine hold_of h ?_
    kernel_rfl
def zv6 (k : Nat) : Entry D := entS zv2 (zv3 k) zv4
theorem zv7 (k : Nat) : EntryOK X 225 (zv6 k) := (zv5 k).en rfl
def zv8 : Plan := ⟨[(0, [(0, some 121), (1, some 121)]), (1, [(0, some 121), (1, some 121), (10, none)]), (2, [(4, none)]), (3, [(0, some 121), (1, some 121), (5, none)]), (4, [(0, some 121), (1, some 121), (5, none), (14, none)]), (5, [(0, some 121), (1, some 121), (5, none)]), (6, [(0, some 121), (1, some 121), (5, none), (26, none)]), (7, [(4, none)]), (8, [(4, none)])],
  [(0, []), (1, [(0, some 121), (1, some 121), (5, none)])],
  [(10, ([], [(0, some 121), (1, some 121)])), (14, ([(0, some 121), (1, some 121), (5, none)], [])), (26, ([], [(0, some 121), (1, some 121), (5, none)]))]⟩
def zv9 (k : Nat) : Calls' D := ⟨[(225, zv6 k)], [], [], [], []⟩
theorem zva (k : Nat) : CallsOK X (zv9 k) := .cons (zv7 k) (.nil cod)
def zvb (x : (List IVersion) × (List IVersion) × Int × Unit) (o : Oc (Unit) (Bool)) (Q : Ex → VSt D → Prop) (R : VR D → Prop) : Prop := ocP o (fun v0 => Q .normal (mkSt ⟨[], []⟩ [])) (fun w0 => R (.p (.c (.bool w0))))
def zvc (k : Nat) : Cut D := cutS ⟨[(0, .hole), (1, .hole), (5, .hole)], []⟩ [.kl 121, .kl 121, .ki .i64] (fun (x : (List IVersion) × (List IVersion) × Int × Unit) => L_eqVersionS_b0 k k x.1 x.2.1 x.2.2.1) zvb
def zvd (k : Nat) : Cuts D := ⟨[], []⟩
theorem zve (k : Nat) : CutFor X zv8 k Go.Proofs.Tryz.f166.results.toList (zvc k) (sub (bodyOf Go.Proofs.Tryz.f166) [1, 1, 0, 1]) :=
  loopCut_s (X := X) (sg := [.kl 121, .kl 121, .ki .i64]) (cu := zvd k) (cl := zv9 k) (tys := [[0]]) (id := 0) (c := sub (bodyOf Go.Proofs.Tryz.f166) [1, 1, 0, 1, 0, 0]) (f := fun n => fun (x : (List IVersion) × (List IVersion) × Int × Unit) => L_eqVersionS_b0 k n x.1 x.2.1 x.2.2.1) (zva k) (cutOK_of (l := []) (by kernel_rfl) trivial) (fun _ => rfl) (fun n x Q R h => by
    simp only [L_eqVersionS_b0, optK_bind, optK_bif, optK_pure, optK_none, optK_oc, optK_guardT, optK_map] at h
    refine hold_of h ?_
    kernel_rfl) (by kernel_rfl)
def zvf (k : Nat) : Cuts D := ⟨[(0, some (zvc k))], []⟩
def zvg : List Ar := [.c (.kl 121), .c (.kl 121)]
def zvh (k : Nat) (x : TupA D zvg) : Option (Bool) := L_eqVersionS k x.1 x.2.1
def zvi (r : Bool) : VR D := .p (.c (.bool r))
theorem zvj (k : Nat) : Does P X 166 zvg (zvh k) zvi :=
  does_of (body := bodyOf Go.Proofs.Tryz.f166) (pl := zv8) (k := k) (cu := zvf k) (tys := [[0]]) (zva k) ctx mixed Go.Proofs.Tryz.func166 (by kernel_rfl) (by kernel_rfl) (cutOK_of (l := [(zvc k, sub (bodyOf Go.Proofs.Tryz.f166) [1, 1, 0, 1])]) (by kernel_rfl) ⟨zve k, trivial⟩) fun x R h => by
    simp only [zvh, L_eqVersionS, optK_bind, optK_bif, optK_pure, optK_none, optK_oc, optK_guardT, optK_map] at h
    refine hold_of h ?_
    kernel_rfl
def zvk (k : Nat) : Entry D := entS zvg (zvh k) zvi
theorem zvl (k : Nat) : EntryOK X 166 (zvk k) := (zvj k).en rfl
def zvm : Plan := ⟨[(0, [(2, none), (3, none)]), (1, [(2, none), (3, none), (9, none)]), (2, [(4, none)]), (3, [(2, none), (3, none), (14, none)]), (4, [(4, none)]), (5, [(2, none), (3, none), (19, none)]), (6, [(4, none)]), (7, [(2, none), (3, none), (24, none)]), (8, [(4, none)]), (9, [(2, none), (3, none), (30, none)]), (10, [(4, none)]), (11, [(36, none)]), (12, [(4, none)]), (13, [(4, none)])],
  [],
  [(9, ([], [(2, none), (3, none)])), (14, ([], [(2, none), (3, none)])), (19, ([], [(2, none), (3, none)])), (24, ([], [(2, none), (3, none)])), (30, ([], [(2, none), (3, none)])), (36, ([], []))]⟩
def zvn (k : Nat) : Calls' D := ⟨[(165, zuw k), (166, zvk k)], [], [], [], []⟩
theorem zvo (k : Nat) : CallsOK X (zvn k) := .cons (zux k) (.cons (zvl k) (.nil cod))
def zvp (k : Nat) : Cuts D := ⟨[], []⟩
def zvq : List Ar := [.a [.ks, .ks, .ks, .kb, .kl 9, .kl 121], .a [.ks, .ks, .ks, .kb, .kl 9, .kl 121]]
def zvr (k : Nat) (x : TupA D zvq) : Option (Bool) := L_eqResource k (⟨x.1.1, x.1.2.1, x.1.2.2.1, x.1.2.2.2.1, x.1.2.2.2.2.1, x.1.2.2.2.2.2.1⟩ : IResource) (⟨x.2.1.1, x.2.1.2.1, x.2.1.2.2.1, x.2.1.2.2.2.1, x.2.1.2.2.2.2.1, x.2.1.2.2.2.2.2.1⟩ : IResource)
def zvs (r : Bool) : VR D := .p (.c (.bool r))
theorem zvt (k : Nat) : Does P X 110 zvq (zvr k) zvs :=
  does_of (body := bodyOf Go.Proofs.Tryz.f110) (pl := zvm) (k := k) (cu := zvp k) (tys := [[0]]) (zvo k) ctx mixed Go.Proofs.Tryz.func110 (by kernel_rfl) (by kernel_rfl) (cutOK_of (l := []) (by kernel_rfl) trivial) fun x R h => by
    simp only [zvr, L_eqResource, optK_bind, optK_bif, optK_pure, optK_none, optK_oc, optK_guardT, optK_map] at h
    refine hold_of h ?_
    kernel_rfl
def zvu (k : Nat) : Entry D := entS zvq (zvr k) zvs
theorem zvv (k : Nat) : EntryOK X 110 (zvu k) := (zvt k).en rfl
def zvw : Plan := ⟨[(0, [(0, some 71), (1, some 71)]), (1, [(0, some 71), (1, some 71), (10, none)]), (2, [(4, none)]), (3, [(0, some 71), (1, some 71), (5, none)]), (4, [(0, some 71), (1, some 71), (5, none), (14, none)]), (5, [(0, some 71), (1, some 71), (5, none)]), (6, [(0, some 71), (1, some 71), (5, none), (26, none)]), (7, [(4, none)]), (8, [(4, none)])],
  [(0, []), (1, [(0, some 71), (1, some 71), (5, none)])],
  [(10, ([], [(0, some 71), (1, some 71)])), (14, ([(0, some 71), (1, some 71), (5, none)], [])), (26, ([], [(0, some 71), (1, some 71), (5, none)]))]⟩
def zvx (k : Nat) : Calls' D := ⟨[(110, zvu k)], [], [], [], []⟩
theorem zvy (k : Nat) : CallsOK X (zvx k) := .cons (zvv k) (.nil cod)
def zvz (x : (List IResource) × (List IResource) × Int × Unit) (o : Oc (Unit) (Bool)) (Q : Ex → VSt D → Prop) (R : VR D → Prop) : Prop := ocP o (fun v0 => Q .normal (mkSt ⟨[], []⟩ [])) (fun w0 => R (.p (.c (.bool w0))))
def zw0 (k : Nat) : Cut D := cutS ⟨[(0, .hole), (1, .hole), (5, .hole)], []⟩ [.kl 71, .kl 71, .ki .i64] (fun (x : (List IResource) × (List IResource) × Int × Unit) => L_eqResourceS_b0 k k x.1 x.2.1 x.2.2.1) zvz
def zw1 (k : Nat) : Cuts D := ⟨[], []⟩
theorem zw2 (k : Nat) : CutFor X zvw k Go.Proofs.Tryz.f46.results.toList (zw0 k) (sub (bodyOf Go.Proofs.Tryz.f46) [1, 1, 0, 1]) :=
  loopCut_s (X := X) (sg := [.kl 71, .kl 71, .ki .i64]) (cu := zw1 k) (cl := zvx k) (tys := [[0]]) (id := 0) (c := sub (bodyOf Go.Proofs.Tryz.f46) [1, 1, 0, 1, 0, 0]) (f := fun n => fun (x : (List IResource) × (List IResource) × Int × Unit) => L_eqResourceS_b0 k n x.1 x.2.1 x.2.2.1) (zvy k) (cutOK_of (l := []) (by kernel_rfl) trivial) (fun _ => rfl) (fun n x Q R h => by
    simp only [L_eqResourceS_b0, optK_bind, optK_bif, optK_pure, optK_none, optK_oc, optK_guardT, optK_map] at h
    refine hold_of h ?_
    kernel_rfl) (by kernel_rfl)
def zw3 (k : Nat) : Cuts D := ⟨[(0, some (zw0 k))], []⟩
def zw4 : List Ar := [.c (.kl 71), .c (.kl 71)]
def zw5 (k : Nat) (x : TupA D zw4) : Option (Bool) := L_eqResourceS k x.1 x.2.1
def zw6 (r : Bool) : VR D := .p (.c (.bool r))
theorem zw7 (k : Nat) : Does P X 46 zw4 (zw5 k) zw6 :=
  does_of (body := bodyOf Go.Proofs.Tryz.f46) (pl := zvw) (k := k) (cu := zw3 k) (tys := [[0]]) (zvy k) ctx mixed Go.Proofs.Tryz.func46 (by kernel_rfl) (by kernel_rfl) (cutOK_of (l := [(zw0 k, sub (bodyOf Go.Proofs.Tryz.f46) [1, 1, 0, 1])]) (by kernel_rfl) ⟨zw2 k, trivial⟩) fun x R h => by
    simp only [zw5, L_eqResourceS, optK_bind, optK_bif, optK_pure, optK_none, optK_oc, optK_guardT, optK_map] at h
    refine hold_of h ?_
    kernel_rfl
def zw8 (k : Nat) : Entry D := entS zw4 (zw5 k) zw6
theorem zw9 (k : Nat) : EntryOK X 46 (zw8 k) := (zw7 k).en rfl
def zwa : Plan := ⟨[(0, [(2, none), (3, none)]), (1, [(2, none), (3, none), (9, none)]), (2, [(4, none)]), (3, [(15, none)]), (4, [(4, none)]), (5, [(4, none)])],
  [],
  [(9, ([], [(2, none), (3, none)])), (15, ([], []))]⟩
def zwb (k : Nat) : Calls' D := ⟨[(46, zw8 k)], [], [], [], []⟩
theorem zwc (k : Nat) : CallsOK X (zwb k) := .cons (zw9 k) (.nil cod)
def zwd (k : Nat) : Cuts D := ⟨[], []⟩
def zwe : List Ar := [.a [.ks, .kl 71], .a [.ks, .kl 71]]
def zwf (k : Nat) (x : TupA D zwe) : Option (Bool) := L_eqOrigin k (⟨x.1.1, x.1.2.1⟩ : IOrigin) (⟨x.2.1.1, x.2.1.2.1⟩ : IOrigin)
def zwg (r : Bool) : VR D := .p (.c (.bool r))
theorem zwh (k : Nat) : Does P X 19 zwe (zwf k) zwg :=
  does_of (body := bodyOf Go.Proofs.Tryz.f19) (pl := zwa) (k := k) (cu := zwd k) (tys := [[0]]) (zwc k) ctx mixed Go.Proofs.Tryz.func19 (by kernel_rfl) (by kernel_rfl) (cutOK_of (l := []) (by kernel_rfl) trivial) fun x R h => by
    simp only [zwf, L_eqOrigin, optK_bind, optK_bif, optK_pure, optK_none, optK_oc, optK_guardT, optK_map] at h
    refine hold_of h ?_
    kernel_rfl
def zwi (k : Nat) : Entry D := entS zwe (zwf k) zwg
theorem zwj (k : Nat) : EntryOK X 19 (zwi k) := (zwh k).en rfl
def zwk : Plan := ⟨[(0, [(1, none)]), (1, [(1, none), (3, none)]), (2, [(1, none), (3, none)]), (3, [(1, none), (11, none)]), (4, [(2, none)]), (5, [(1, none), (4, none)]), (6, [(1, none), (4, none), (5, none)]), (7, [(1, none), (4, none), (5, none), (6, none)]), (8, [(1, none), (5, none), (21, none)]), (9, [(2, none)]), (10, [(26, none)]), (11, [(2, none)]), (12, [(2, none)])],
  [],
  [(11, ([], [(1, none)])), (21, ([], [(1, none), (5, none)])), (26, ([], []))]⟩
def zwl (k : Nat) : Calls' D := ⟨[(15, z1y k), (17, z3y k), (16, zga k), (18, zui k), (19, zwi k)], [], [], [], []⟩
theorem zwm (k : Nat) : CallsOK X (zwl k) := .cons (z1z k) (.cons (z3z k) (.cons (zgb k) (.cons (zuj k) (.cons (zwj k) (.nil cod)))))
def zwn (k : Nat) : Cuts D := ⟨[], []⟩
def L_FnExactIsOrigin_ar : List Ar := [.a [.ks, .kl 119]]
def L_FnExactIsOrigin_f (k : Nat) (x : TupA D L_FnExactIsOrigin_ar) : Option (Bool) := L_FnExactIsOrigin k (⟨x.1.1, x.1.2.1⟩ : LOrigin)
def L_FnExactIsOrigin_vr (r : Bool) : VR D := .p (.c (.bool r))
theorem L_FnExactIsOrigin_ok (k : Nat) : Does P X 4 L_FnExactIsOrigin_ar (L_FnExactIsOrigin_f k) L_FnExactIsOrigin_vr :=
  does_of (body := bodyOf Go.Proofs.Tryz.f4) (pl := zwk) (k := k) (cu := zwn k) (tys := [[0]]) (zwm k) ctx mixed Go.Proofs.Tryz.func4 (by kernel_rfl) (by kernel_rfl) (cutOK_of (l := []) (by kernel_rfl) trivial) fun x R h => by
    simp only [L_FnExactIsOrigin_f, L_FnExactIsOrigin, optK_bind, optK_bif, optK_pure, optK_none, optK_oc, optK_guardT, optK_map] at h
    refine hold_of h ?_
    kernel_rfl
def zwo (k : Nat) : Entry D := entS L_FnExactIsOrigin_ar (L_FnExactIsOrigin_f k) L_FnExactIsOrigin_vr
theorem zwp (k : Nat) : EntryOK X 4 (zwo k) := (L_FnExactIsOrigin_ok k).en rfl

end
end Go.YtjpfnppiocloeaaGreatDoor
