/- The machine computes the functions. Nothing is claimed here. -/
import Derived.Test.YtolmhhnhmbiofaaGreatDoorKf
import Derived.Test.YtolmhhnhmbiofaaGreatDoorShelf
import Derived.Shelf.Strings.SlTrimAscii
set_option linter.unusedVariables false
set_option linter.unusedSimpArgs false
set_option maxRecDepth 100000
namespace Go.YtolmhhnhmbiofaaGreatDoor
open Go Go.RowKit Go.Pv
noncomputable section

def z0 : Plan := ⟨[(0, [(0, some 5)]), (1, [(2, none)])],
  [],
  []⟩
def z1 (k : Nat) : Calls' D := ⟨[], [], [], [], []⟩
theorem z2 (k : Nat) : CallsOK X (z1 k) := .nil cod
def z3 (k : Nat) : Cuts D := ⟨[], []⟩
def z4 : List Ar := [.c (.kl 5)]
def z5 (k : Nat) (x : TupA D z4) : Option (Bool) := L_big k x.1
def z6 (r : Bool) : VR D := .p (.c (.bool r))
theorem z7 (k : Nat) : Does P X 11 z4 (z5 k) z6 :=
  does_of (body := bodyOf Go.Proofs.Tryz.f11) (pl := z0) (k := k) (cu := z3 k) (tys := [[0]]) (z2 k) ctx mixed Go.Proofs.Tryz.func11 (by kernel_rfl) (by kernel_rfl) (cutOK_of (l := []) (by kernel_rfl) trivial) fun x R h => by
    simp only [z5, L_big, optK_bind, optK_bif, optK_pure, optK_none, optK_oc, optK_guardT, optK_map] at h
    refine hold_of h ?_
    kernel_rfl
def z8 (k : Nat) : Entry D := entS z4 (z5 k) z6
theorem z9 (k : Nat) : EntryOK X 11 (z8 k) := (z7 k).en rfl
def za : Plan := ⟨[(0, [(0, some 5)]), (1, [(0, some 5), (3, none)]), (2, [(0, some 5), (3, none), (4, none)]), (3, [(0, some 5), (3, none), (4, none), (15, none)]), (4, [(0, some 5), (3, none), (4, none)]), (5, [(0, some 5), (3, none), (4, none)]), (6, [(2, none)])],
  [(0, [(0, some 5), (3, none)]), (1, [(0, some 5), (3, none), (4, none)])],
  [(15, ([(0, some 5), (3, none), (4, none)], [(0, some 5), (3, none)]))]⟩
def zb (k : Nat) : Calls' D := ⟨[], [], [], [], []⟩
theorem zc (k : Nat) : CallsOK X (zb k) := .nil cod
def zd (x : (List Int) × Int × Int × Unit) (o : Int) (Q : Ex → VSt D → Prop) (R : VR D → Prop) : Prop := Q .normal (mkSt ⟨[(0, .hole), (3, .hole)], []⟩ [.sl 5 x.1, .int .i64 o])
def ze (k : Nat) : Cut D := cutS ⟨[(0, .hole), (3, .hole), (4, .hole)], []⟩ [.kl 5, .ki .i64, .ki .i64] (fun (x : (List Int) × Int × Int × Unit) => S_l1New_b0 k k x.1 x.2.1 x.2.2.1) zd
def zf (k : Nat) : Cuts D := ⟨[], []⟩
theorem zg (k : Nat) : CutFor X za k [.cell 0 0, .cell 2 175] (ze k) (sub (bodyOf Go.Proofs.Tryz.f72) [1, 1, 0, 1]) :=
  loopCut_s (X := X) (sg := [.kl 5, .ki .i64, .ki .i64]) (cu := zf k) (cl := zb k) (tys := []) (id := 0) (c := sub (bodyOf Go.Proofs.Tryz.f72) [1, 1, 0, 1, 0, 0]) (f := fun n => fun (x : (List Int) × Int × Int × Unit) => S_l1New_b0 k n x.1 x.2.1 x.2.2.1) (zc k) (cutOK_of (l := []) (by kernel_rfl) trivial) (fun _ => rfl) (fun n x Q R h => by
    simp only [S_l1New_b0, optK_bind, optK_bif, optK_pure, optK_none, optK_oc, optK_guardT, optK_map] at h
    refine hold_of h ?_
    kernel_rfl) (by kernel_rfl)
def zh (k : Nat) : Cuts D := ⟨[(0, some (ze k))], []⟩
def zi : List Ar := [.c (.kl 5)]
def zj (k : Nat) (x : TupA D zi) : Option (Sl1Cur) := S_l1New k x.1
def zk (r : Sl1Cur) : Tup D [.kl 5, .ki .i64, .ki .i64] := (r.b, r.i, r.h, ())
theorem zl (k : Nat) : DoesB P X 72 [.kl 5, .ki .i64, .ki .i64] zi (zj k) zk :=
  doesB_of (r0 := 2) (pt := 175) (body := bodyOf Go.Proofs.Tryz.f72) (pl := za) (k := k) (cu := zh k) (tys := []) (zc k) ctx mixed Go.Proofs.Tryz.func72 (by kernel_rfl) (by kernel_rfl) (by kernel_rfl) (by kernel_rfl) (cutOK_of (l := [(ze k, sub (bodyOf Go.Proofs.Tryz.f72) [1, 1, 0, 1])]) (by kernel_rfl) ⟨zg k, trivial⟩) fun x R h => by
    simp only [zj, S_l1New, optK_bind, optK_bif, optK_pure, optK_none, optK_oc, optK_guardT, optK_map] at h
    refine hold_of h ?_
    kernel_rfl
def zm (k : Nat) : EntryB D := entB [.kl 5, .ki .i64, .ki .i64] zi (zj k) zk
theorem zn (k : Nat) : EntryBOK X 72 (zm k) := (zl k).en rfl
def zo : Plan := ⟨[(0, [(0, none)]), (1, [(0, none)]), (2, [(0, none), (3, none)]), (3, [(0, none), (3, none), (34, none)]), (4, [(0, none), (3, none)]), (5, [(0, none), (3, none)]), (6, [(0, none), (2, none)])],
  [],
  [(34, ([(0, none), (3, none)], [(0, none), (3, none)]))]⟩
def zp (k : Nat) : Calls' D := ⟨[], [], [], [], []⟩
theorem zq (k : Nat) : CallsOK X (zp k) := .nil cod
def zr (x : Int × Bool × (List Int) × Int × Int × Unit) (o : Int × Int) (Q : Ex → VSt D → Prop) (R : VR D → Prop) : Prop := Q .normal (mkSt ⟨[(0, .ptr 700000 0), (3, .hole)], [(700000, .var [.hole, .hole, .hole])]⟩ [.int .i64 o.1, .sl 5 x.2.2.1, .int .i64 o.2, .int .i64 x.2.2.2.2.1])
def zs (k : Nat) : Cut D := cutS ⟨[(0, .ptr 700000 0), (3, .hole), (34, .hole)], [(700000, .var [.hole, .hole, .hole])]⟩ [.ki .i64, .kb, .kl 5, .ki .i64, .ki .i64] (fun (x : Int × Bool × (List Int) × Int × Int × Unit) => S_l1Byte_c34 k x.1 x.2.1 x.2.2.1 x.2.2.2.1 x.2.2.2.2.1) zr
def zt (k : Nat) : Cuts D := ⟨[], []⟩
theorem zu (k : Nat) : CutFor X zo k (.cell 0 175 :: Go.Proofs.Tryz.f162.results.toList) (zs k) (sub (bodyOf Go.Proofs.Tryz.f162) [1, 1, 1, 0, 1]) :=
  joinCut_s (X := X) (sg := [.ki .i64, .kb, .kl 5, .ki .i64, .ki .i64]) (cu := zt k) (cl := zp k) (tys := [[0]]) (zq k) (cutOK_of (l := []) (by kernel_rfl) trivial) fun x Q R h => by
    simp only [S_l1Byte_c34, optK_bind, optK_bif, optK_pure, optK_none, optK_oc, optK_guardT, optK_map] at h
    refine hold_of h ?_
    kernel_rfl
def zv (k : Nat) : Cuts D := ⟨[], [(34, some (zs k))]⟩
def zw : List Ar := []
def zx (k : Nat) (c : Tup D [.kl 5, .ki .i64, .ki .i64]) (x : TupA D zw) : Option (Int × Sl1Cur) := S_l1Byte k (⟨c.1, c.2.1, c.2.2.1⟩ : Sl1Cur)
def zy (r : Int × Sl1Cur) : Tup D [.kl 5, .ki .i64, .ki .i64] := (r.2.b, r.2.i, r.2.h, ())
def zz (r : Int × Sl1Cur) : List (VP D) := [.c (.int .i64 r.1)]
theorem z10 (k : Nat) : DoesP P X 162 [.kl 5, .ki .i64, .ki .i64] zw (zx k) zz zy :=
  doesP_of (pt := 175) (body := bodyOf Go.Proofs.Tryz.f162) (pl := zo) (k := k) (cu := zv k) (tys := [[0]]) (zq k) ctx mixed Go.Proofs.Tryz.func162 (by kernel_rfl) (by kernel_rfl) (by kernel_rfl) (by kernel_rfl) (cutOK_of (l := [(zs k, sub (bodyOf Go.Proofs.Tryz.f162) [1, 1, 1, 0, 1])]) (by kernel_rfl) ⟨zu k, trivial⟩) fun c x R h => by
    simp only [zx, S_l1Byte, optK_bind, optK_bif, optK_pure, optK_none, optK_oc, optK_guardT, optK_map] at h
    refine hold_of h ?_
    kernel_rfl
def z11 (k : Nat) : EntryP D := entP [.kl 5, .ki .i64, .ki .i64] zw (zx k) zz zy
theorem z12 (k : Nat) : EntryPOK X 162 (z11 k) := (z10 k).en rfl
def z13 : Plan := ⟨[(0, [(0, none), (1, none)]), (1, [(0, none), (1, none), (9, none)]), (2, [(0, none), (4, none)]), (3, [(0, none), (1, none), (11, none)]), (4, [(0, none), (4, none)]), (5, [(0, none), (1, none), (5, none)]), (6, [(0, none), (1, none), (5, none), (6, none)]), (7, [(0, none), (1, none), (5, none), (6, none), (7, none)]), (8, [(0, none), (4, none)])],
  [],
  [(9, ([(0, none)], [(0, none), (1, none)])), (11, ([(0, none), (1, none)], [(0, none), (1, none)]))]⟩
def z14 (k : Nat) : Calls' D := ⟨[], [], [(162, z11 k)], [], []⟩
theorem z15 (k : Nat) : CallsOK X (z14 k) := .consP (z12 k) (.nil cod)
def z16 (k : Nat) : Cuts D := ⟨[], []⟩
def z17 : List Ar := [.c (.ki .i64)]
def z18 (k : Nat) (c : Tup D [.kl 5, .ki .i64, .ki .i64]) (x : TupA D z17) : Option (Int × Sl1Cur) := S_l1Below k (⟨c.1, c.2.1, c.2.2.1⟩ : Sl1Cur) x.1
def z19 (r : Int × Sl1Cur) : Tup D [.kl 5, .ki .i64, .ki .i64] := (r.2.b, r.2.i, r.2.h, ())
def z1a (r : Int × Sl1Cur) : List (VP D) := [.c (.int .i64 r.1)]
theorem z1b (k : Nat) : DoesP P X 75 [.kl 5, .ki .i64, .ki .i64] z17 (z18 k) z1a z19 :=
  doesP_of (pt := 175) (body := bodyOf Go.Proofs.Tryz.f75) (pl := z13) (k := k) (cu := z16 k) (tys := [[0]]) (z15 k) ctx mixed Go.Proofs.Tryz.func75 (by kernel_rfl) (by kernel_rfl) (by kernel_rfl) (by kernel_rfl) (cutOK_of (l := []) (by kernel_rfl) trivial) fun c x R h => by
    simp only [z18, S_l1Below, optK_bind, optK_bif, optK_pure, optK_none, optK_oc, optK_guardT, optK_map] at h
    refine hold_of h ?_
    kernel_rfl
def z1c (k : Nat) : EntryP D := entP [.kl 5, .ki .i64, .ki .i64] z17 (z18 k) z1a z19
theorem z1d (k : Nat) : EntryPOK X 75 (z1c k) := (z1b k).en rfl
def z1e : Plan := ⟨[(0, [(0, none), (1, none)]), (1, [(0, none), (4, none)])],
  [],
  []⟩
def z1f (k : Nat) : Calls' D := ⟨[], [], [(75, z1c k)], [], []⟩
theorem z1g (k : Nat) : CallsOK X (z1f k) := .consP (z1d k) (.nil cod)
def z1h (k : Nat) : Cuts D := ⟨[], []⟩
def z1i : List Ar := [.c (.ki .i64)]
def z1j (k : Nat) (c : Tup D [.kl 5, .ki .i64, .ki .i64]) (x : TupA D z1i) : Option (Bool × Sl1Cur) := S_l1Once k (⟨c.1, c.2.1, c.2.2.1⟩ : Sl1Cur) x.1
def z1k (r : Bool × Sl1Cur) : Tup D [.kl 5, .ki .i64, .ki .i64] := (r.2.b, r.2.i, r.2.h, ())
def z1l (r : Bool × Sl1Cur) : List (VP D) := [.c (.bool r.1)]
theorem z1m (k : Nat) : DoesP P X 76 [.kl 5, .ki .i64, .ki .i64] z1i (z1j k) z1l z1k :=
  doesP_of (pt := 175) (body := bodyOf Go.Proofs.Tryz.f76) (pl := z1e) (k := k) (cu := z1h k) (tys := [[0]]) (z1g k) ctx mixed Go.Proofs.Tryz.func76 (by kernel_rfl) (by kernel_rfl) (by kernel_rfl) (by kernel_rfl) (cutOK_of (l := []) (by kernel_rfl) trivial) fun c x R h => by
    simp only [z1j, S_l1Once, optK_bind, optK_bif, optK_pure, optK_none, optK_oc, optK_guardT, optK_map] at h
    refine hold_of h ?_
    kernel_rfl
def z1n (k : Nat) : EntryP D := entP [.kl 5, .ki .i64, .ki .i64] z1i (z1j k) z1l z1k
theorem z1o (k : Nat) : EntryPOK X 76 (z1n k) := (z1m k).en rfl
def z1p : Plan := ⟨[(0, [(0, none), (1, some 9)]), (1, [(0, none), (4, none)])],
  [],
  []⟩
def z1q (k : Nat) : Calls' D := ⟨[], [], [(75, z1c k)], [], []⟩
theorem z1r (k : Nat) : CallsOK X (z1q k) := .consP (z1d k) (.nil cod)
def z1s (k : Nat) : Cuts D := ⟨[], []⟩
def z1t : List Ar := [.c (.kl 9)]
def z1u (k : Nat) (c : Tup D [.kl 5, .ki .i64, .ki .i64]) (x : TupA D z1t) : Option ((List UInt8) × Sl1Cur) := S_l1Str k (⟨c.1, c.2.1, c.2.2.1⟩ : Sl1Cur) x.1
def z1v (r : (List UInt8) × Sl1Cur) : Tup D [.kl 5, .ki .i64, .ki .i64] := (r.2.b, r.2.i, r.2.h, ())
def z1w (r : (List UInt8) × Sl1Cur) : List (VP D) := [.c (.str r.1)]
theorem z1x (k : Nat) : DoesP P X 78 [.kl 5, .ki .i64, .ki .i64] z1t (z1u k) z1w z1v :=
  doesP_of (pt := 175) (body := bodyOf Go.Proofs.Tryz.f78) (pl := z1p) (k := k) (cu := z1s k) (tys := [[0]]) (z1r k) ctx mixed Go.Proofs.Tryz.func78 (by kernel_rfl) (by kernel_rfl) (by kernel_rfl) (by kernel_rfl) (cutOK_of (l := []) (by kernel_rfl) trivial) fun c x R h => by
    simp only [z1u, S_l1Str, optK_bind, optK_bif, optK_pure, optK_none, optK_oc, optK_guardT, optK_map] at h
    refine hold_of h ?_
    kernel_rfl
def z1y (k : Nat) : EntryP D := entP [.kl 5, .ki .i64, .ki .i64] z1t (z1u k) z1w z1v
theorem z1z (k : Nat) : EntryPOK X 78 (z1y k) := (z1x k).en rfl
def z20 : Plan := ⟨[(0, [(0, none)]), (1, [(0, none), (2, none)])],
  [],
  []⟩
def z21 (k : Nat) : Calls' D := ⟨[], [], [(78, z1y k)], [], []⟩
theorem z22 (k : Nat) : CallsOK X (z21 k) := .consP (z1z k) (.nil cod)
def z23 (k : Nat) : Cuts D := ⟨[], []⟩
def z24 : List Ar := []
def z25 (k : Nat) (c : Tup D [.kl 5, .ki .i64, .ki .i64]) (x : TupA D z24) : Option ((List UInt8) × Sl1Cur) := S_l11Target k (⟨c.1, c.2.1, c.2.2.1⟩ : Sl1Cur)
def z26 (r : (List UInt8) × Sl1Cur) : Tup D [.kl 5, .ki .i64, .ki .i64] := (r.2.b, r.2.i, r.2.h, ())
def z27 (r : (List UInt8) × Sl1Cur) : List (VP D) := [.c (.str r.1)]
theorem z28 (k : Nat) : DoesP P X 208 [.kl 5, .ki .i64, .ki .i64] z24 (z25 k) z27 z26 :=
  doesP_of (pt := 175) (body := bodyOf Go.Proofs.Tryz.f208) (pl := z20) (k := k) (cu := z23 k) (tys := [[0]]) (z22 k) ctx mixed Go.Proofs.Tryz.func208 (by kernel_rfl) (by kernel_rfl) (by kernel_rfl) (by kernel_rfl) (cutOK_of (l := []) (by kernel_rfl) trivial) fun c x R h => by
    simp only [z25, S_l11Target, optK_bind, optK_bif, optK_pure, optK_none, optK_oc, optK_guardT, optK_map] at h
    refine hold_of h ?_
    kernel_rfl
def z29 (k : Nat) : EntryP D := entP [.kl 5, .ki .i64, .ki .i64] z24 (z25 k) z27 z26
theorem z2a (k : Nat) : EntryPOK X 208 (z29 k) := (z28 k).en rfl
def z2b : Plan := ⟨[(0, [(0, none), (1, some 3)]), (1, [(0, none), (4, none)])],
  [],
  []⟩
def z2c (k : Nat) : Calls' D := ⟨[], [], [(75, z1c k)], [], []⟩
theorem z2d (k : Nat) : CallsOK X (z2c k) := .consP (z1d k) (.nil cod)
def z2e (k : Nat) : Cuts D := ⟨[], []⟩
def z2f : List Ar := [.c (.kl 3)]
def z2g (k : Nat) (c : Tup D [.kl 5, .ki .i64, .ki .i64]) (x : TupA D z2f) : Option (Int × Sl1Cur) := S_l1Int k (⟨c.1, c.2.1, c.2.2.1⟩ : Sl1Cur) x.1
def z2h (r : Int × Sl1Cur) : Tup D [.kl 5, .ki .i64, .ki .i64] := (r.2.b, r.2.i, r.2.h, ())
def z2i (r : Int × Sl1Cur) : List (VP D) := [.c (.int .i64 r.1)]
theorem z2j (k : Nat) : DoesP P X 131 [.kl 5, .ki .i64, .ki .i64] z2f (z2g k) z2i z2h :=
  doesP_of (pt := 175) (body := bodyOf Go.Proofs.Tryz.f131) (pl := z2b) (k := k) (cu := z2e k) (tys := [[0]]) (z2d k) ctx mixed Go.Proofs.Tryz.func131 (by kernel_rfl) (by kernel_rfl) (by kernel_rfl) (by kernel_rfl) (cutOK_of (l := []) (by kernel_rfl) trivial) fun c x R h => by
    simp only [z2g, S_l1Int, optK_bind, optK_bif, optK_pure, optK_none, optK_oc, optK_guardT, optK_map] at h
    refine hold_of h ?_
    kernel_rfl
def z2k (k : Nat) : EntryP D := entP [.kl 5, .ki .i64, .ki .i64] z2f (z2g k) z2i z2h
theorem z2l (k : Nat) : EntryPOK X 131 (z2k k) := (z2j k).en rfl
def z2m : Plan := ⟨[(0, [(0, none), (1, none)]), (1, [(0, none), (5, some 5)]), (2, [(0, none), (5, some 5), (10, none)]), (3, [(0, none), (5, some 5), (10, none), (11, none)]), (4, [(0, none), (5, some 5), (15, none)]), (5, [(0, none), (5, some 5)]), (6, [(0, none), (5, some 5), (10, none), (25, none)]), (7, [(0, none), (5, some 5)]), (8, [(0, none), (5, some 5), (10, none), (34, none)]), (9, [(0, none), (5, some 5)]), (10, [(0, none), (5, some 5), (43, none)]), (11, [(0, none), (5, some 5), (47, none)]), (12, [(0, none), (5, some 5), (6, none), (1000005, some 5)]), (13, [(0, none), (5, some 5)]), (14, [(0, none), (4, none)])],
  [(0, [(0, none), (5, some 5)])],
  [(11, ([(0, none), (5, some 5)], [(0, none), (5, some 5), (10, none)])), (15, ([(0, none), (5, some 5)], [(0, none), (5, some 5)])), (25, ([(0, none), (5, some 5)], [(0, none), (5, some 5), (10, none)])), (34, ([(0, none), (5, some 5)], [(0, none), (5, some 5), (10, none)])), (43, ([(0, none), (5, some 5)], [(0, none), (5, some 5)])), (47, ([(0, none), (5, some 5)], [(0, none), (5, some 5)]))]⟩
def z2n (k : Nat) : Calls' D := ⟨[], [], [(75, z1c k), (131, z2k k)], [], []⟩
theorem z2o (k : Nat) : CallsOK X (z2n k) := .consP (z1d k) (.consP (z2l k) (.nil cod))
def z2p (x : Bool × (List Int) × Int × Int × (List Int) × Unit) (o : (List Int) × Int × Int × (List Int)) (Q : Ex → VSt D → Prop) (R : VR D → Prop) : Prop := Q .normal (mkSt ⟨[(0, .ptr 700000 0), (5, .ref 500005)], [(700000, .var [.hole, .hole, .hole]), (500005, .row)]⟩ [.sl 5 o.1, .int .i64 o.2.1, .int .i64 o.2.2.1, .sl 5 o.2.2.2])
def z2q (k : Nat) : Cut D := cutS ⟨[(0, .ptr 700000 0), (5, .ref 500005), (15, .hole)], [(700000, .var [.hole, .hole, .hole]), (500005, .row)]⟩ [.kb, .kl 5, .ki .i64, .ki .i64, .kl 5] (fun (x : Bool × (List Int) × Int × Int × (List Int) × Unit) => S_l1Bent_c15 k x.1 x.2.1 x.2.2.1 x.2.2.2.1 x.2.2.2.2.1) z2p
def z2r (k : Nat) : Cuts D := ⟨[], []⟩
theorem z2s (k : Nat) : CutFor X z2m k (.cell 0 175 :: Go.Proofs.Tryz.f207.results.toList) (z2q k) (sub (bodyOf Go.Proofs.Tryz.f207) [1, 1, 0, 1, 0, 1, 0, 1]) :=
  joinCut_s (X := X) (sg := [.kb, .kl 5, .ki .i64, .ki .i64, .kl 5]) (cu := z2r k) (cl := z2n k) (tys := [[0]]) (z2o k) (cutOK_of (l := []) (by kernel_rfl) trivial) fun x Q R h => by
    simp only [S_l1Bent_c15, optK_bind, optK_bif, optK_pure, optK_none, optK_oc, optK_guardT, optK_map] at h
    refine hold_of h ?_
    kernel_rfl
def z2t (x : Bool × (List Int) × Int × Int × (List Int) × Unit) (o : (List Int) × Int × Int × (List Int)) (Q : Ex → VSt D → Prop) (R : VR D → Prop) : Prop := Q .normal (mkSt ⟨[(0, .ptr 700000 0), (5, .ref 500005)], [(700000, .var [.hole, .hole, .hole]), (500005, .row)]⟩ [.sl 5 o.1, .int .i64 o.2.1, .int .i64 o.2.2.1, .sl 5 o.2.2.2])
def z2u (k : Nat) : Cut D := cutS ⟨[(0, .ptr 700000 0), (5, .ref 500005), (47, .hole)], [(700000, .var [.hole, .hole, .hole]), (500005, .row)]⟩ [.kb, .kl 5, .ki .i64, .ki .i64, .kl 5] (fun (x : Bool × (List Int) × Int × Int × (List Int) × Unit) => S_l1Bent_c47 k x.1 x.2.1 x.2.2.1 x.2.2.2.1 x.2.2.2.2.1) z2t
def z2v (k : Nat) : Cuts D := ⟨[], []⟩
theorem z2w (k : Nat) : CutFor X z2m k (.cell 0 175 :: Go.Proofs.Tryz.f207.results.toList) (z2u k) (sub (bodyOf Go.Proofs.Tryz.f207) [1, 1, 0, 1, 0, 1, 1, 1, 1, 1, 1, 1, 0, 1]) :=
  joinCut_s (X := X) (sg := [.kb, .kl 5, .ki .i64, .ki .i64, .kl 5]) (cu := z2v k) (cl := z2n k) (tys := [[0]]) (z2o k) (cutOK_of (l := []) (by kernel_rfl) trivial) fun x Q R h => by
    simp only [S_l1Bent_c47, optK_bind, optK_bif, optK_pure, optK_none, optK_oc, optK_guardT, optK_map] at h
    refine hold_of h ?_
    kernel_rfl
def z2x (x : Bool × (List Int) × Int × Int × (List Int) × Unit) (o : (List Int) × Int × Int × (List Int)) (Q : Ex → VSt D → Prop) (R : VR D → Prop) : Prop := Q .normal (mkSt ⟨[(0, .ptr 700000 0), (5, .ref 500005)], [(700000, .var [.hole, .hole, .hole]), (500005, .row)]⟩ [.sl 5 o.1, .int .i64 o.2.1, .int .i64 o.2.2.1, .sl 5 o.2.2.2])
def z2y (k : Nat) : Cut D := cutS ⟨[(0, .ptr 700000 0), (5, .ref 500005), (43, .hole)], [(700000, .var [.hole, .hole, .hole]), (500005, .row)]⟩ [.kb, .kl 5, .ki .i64, .ki .i64, .kl 5] (fun (x : Bool × (List Int) × Int × Int × (List Int) × Unit) => S_l1Bent_c43 k x.1 x.2.1 x.2.2.1 x.2.2.2.1 x.2.2.2.2.1) z2x
def z2z (k : Nat) : Cuts D := ⟨[], [(47, some (z2u k))]⟩
theorem z30 (k : Nat) : CutFor X z2m k (.cell 0 175 :: Go.Proofs.Tryz.f207.results.toList) (z2y k) (sub (bodyOf Go.Proofs.Tryz.f207) [1, 1, 0, 1, 0, 1, 1, 1, 1, 1, 1, 1]) :=
  joinCut_s (X := X) (sg := [.kb, .kl 5, .ki .i64, .ki .i64, .kl 5]) (cu := z2z k) (cl := z2n k) (tys := [[0]]) (z2o k) (cutOK_of (l := [(z2u k, sub (bodyOf Go.Proofs.Tryz.f207) [1, 1, 0, 1, 0, 1, 1, 1, 1, 1, 1, 1, 0, 1])]) (by kernel_rfl) ⟨z2w k, trivial⟩) fun x Q R h => by
    simp only [S_l1Bent_c43, optK_bind, optK_bif, optK_pure, optK_none, optK_oc, optK_guardT, optK_map] at h
    refine hold_of h ?_
    kernel_rfl
def z31 (x : Int × Bool × (List Int) × Int × Int × (List Int) × Unit) (o : (List Int) × Int × Int × (List Int)) (Q : Ex → VSt D → Prop) (R : VR D → Prop) : Prop := Q .normal (mkSt ⟨[(0, .ptr 700000 0), (5, .ref 500005)], [(700000, .var [.hole, .hole, .hole]), (500005, .row)]⟩ [.sl 5 o.1, .int .i64 o.2.1, .int .i64 o.2.2.1, .sl 5 o.2.2.2])
def z32 (k : Nat) : Cut D := cutS ⟨[(0, .ptr 700000 0), (5, .ref 500005), (10, .hole), (34, .hole)], [(700000, .var [.hole, .hole, .hole]), (500005, .row)]⟩ [.ki .i64, .kb, .kl 5, .ki .i64, .ki .i64, .kl 5] (fun (x : Int × Bool × (List Int) × Int × Int × (List Int) × Unit) => S_l1Bent_c34 k x.1 x.2.1 x.2.2.1 x.2.2.2.1 x.2.2.2.2.1 x.2.2.2.2.2.1) z31
def z33 (k : Nat) : Cuts D := ⟨[], [(43, some (z2y k))]⟩
theorem z34 (k : Nat) : CutFor X z2m k (.cell 0 175 :: Go.Proofs.Tryz.f207.results.toList) (z32 k) (sub (bodyOf Go.Proofs.Tryz.f207) [1, 1, 0, 1, 0, 1, 1, 1, 1, 1]) :=
  joinCut_s (X := X) (sg := [.ki .i64, .kb, .kl 5, .ki .i64, .ki .i64, .kl 5]) (cu := z33 k) (cl := z2n k) (tys := [[0]]) (z2o k) (cutOK_of (l := [(z2y k, sub (bodyOf Go.Proofs.Tryz.f207) [1, 1, 0, 1, 0, 1, 1, 1, 1, 1, 1, 1])]) (by kernel_rfl) ⟨z30 k, trivial⟩) fun x Q R h => by
    simp only [S_l1Bent_c34, optK_bind, optK_bif, optK_pure, optK_none, optK_oc, optK_guardT, optK_map] at h
    refine hold_of h ?_
    kernel_rfl
def z35 (x : Int × Bool × (List Int) × Int × Int × (List Int) × Unit) (o : (List Int) × Int × Int × (List Int)) (Q : Ex → VSt D → Prop) (R : VR D → Prop) : Prop := Q .normal (mkSt ⟨[(0, .ptr 700000 0), (5, .ref 500005)], [(700000, .var [.hole, .hole, .hole]), (500005, .row)]⟩ [.sl 5 o.1, .int .i64 o.2.1, .int .i64 o.2.2.1, .sl 5 o.2.2.2])
def z36 (k : Nat) : Cut D := cutS ⟨[(0, .ptr 700000 0), (5, .ref 500005), (10, .hole), (25, .hole)], [(700000, .var [.hole, .hole, .hole]), (500005, .row)]⟩ [.ki .i64, .kb, .kl 5, .ki .i64, .ki .i64, .kl 5] (fun (x : Int × Bool × (List Int) × Int × Int × (List Int) × Unit) => S_l1Bent_c25 k x.1 x.2.1 x.2.2.1 x.2.2.2.1 x.2.2.2.2.1 x.2.2.2.2.2.1) z35
def z37 (k : Nat) : Cuts D := ⟨[], [(34, some (z32 k))]⟩
theorem z38 (k : Nat) : CutFor X z2m k (.cell 0 175 :: Go.Proofs.Tryz.f207.results.toList) (z36 k) (sub (bodyOf Go.Proofs.Tryz.f207) [1, 1, 0, 1, 0, 1, 1, 1]) :=
  joinCut_s (X := X) (sg := [.ki .i64, .kb, .kl 5, .ki .i64, .ki .i64, .kl 5]) (cu := z37 k) (cl := z2n k) (tys := [[0]]) (z2o k) (cutOK_of (l := [(z32 k, sub (bodyOf Go.Proofs.Tryz.f207) [1, 1, 0, 1, 0, 1, 1, 1, 1, 1])]) (by kernel_rfl) ⟨z34 k, trivial⟩) fun x Q R h => by
    simp only [S_l1Bent_c25, optK_bind, optK_bif, optK_pure, optK_none, optK_oc, optK_guardT, optK_map] at h
    refine hold_of h ?_
    kernel_rfl
def z39 (x : Int × Bool × (List Int) × Int × Int × (List Int) × Unit) (o : (List Int) × Int × Int × (List Int)) (Q : Ex → VSt D → Prop) (R : VR D → Prop) : Prop := Q .normal (mkSt ⟨[(0, .ptr 700000 0), (5, .ref 500005)], [(700000, .var [.hole, .hole, .hole]), (500005, .row)]⟩ [.sl 5 o.1, .int .i64 o.2.1, .int .i64 o.2.2.1, .sl 5 o.2.2.2])
def z3a (k : Nat) : Cut D := cutS ⟨[(0, .ptr 700000 0), (5, .ref 500005), (10, .hole), (11, .hole)], [(700000, .var [.hole, .hole, .hole]), (500005, .row)]⟩ [.ki .i64, .kb, .kl 5, .ki .i64, .ki .i64, .kl 5] (fun (x : Int × Bool × (List Int) × Int × Int × (List Int) × Unit) => S_l1Bent_c11 k x.1 x.2.1 x.2.2.1 x.2.2.2.1 x.2.2.2.2.1 x.2.2.2.2.2.1) z39
def z3b (k : Nat) : Cuts D := ⟨[], [(15, some (z2q k)), (25, some (z36 k))]⟩
theorem z3c (k : Nat) : CutFor X z2m k (.cell 0 175 :: Go.Proofs.Tryz.f207.results.toList) (z3a k) (sub (bodyOf Go.Proofs.Tryz.f207) [1, 1, 0, 1, 0, 1]) :=
  joinCut_s (X := X) (sg := [.ki .i64, .kb, .kl 5, .ki .i64, .ki .i64, .kl 5]) (cu := z3b k) (cl := z2n k) (tys := [[0]]) (z2o k) (cutOK_of (l := [(z2q k, sub (bodyOf Go.Proofs.Tryz.f207) [1, 1, 0, 1, 0, 1, 0, 1]), (z36 k, sub (bodyOf Go.Proofs.Tryz.f207) [1, 1, 0, 1, 0, 1, 1, 1])]) (by kernel_rfl) ⟨z2s k, z38 k, trivial⟩) fun x Q R h => by
    simp only [S_l1Bent_c11, optK_bind, optK_bif, optK_pure, optK_none, optK_oc, optK_guardT, optK_map] at h
    refine hold_of h ?_
    kernel_rfl
def z3d (x : Int × (List Int) × Int × Int × (List Int) × Unit) (o : (List Int) × Int × Int × (List Int)) (Q : Ex → VSt D → Prop) (R : VR D → Prop) : Prop := Q .normal (mkSt ⟨[(0, .ptr 700000 0), (5, .ref 500005)], [(700000, .var [.hole, .hole, .hole]), (500005, .row)]⟩ [.sl 5 o.1, .int .i64 o.2.1, .int .i64 o.2.2.1, .sl 5 o.2.2.2])
def z3e (k : Nat) : Cut D := cutS ⟨[(0, .ptr 700000 0), (5, .ref 500005), (10, .hole)], [(700000, .var [.hole, .hole, .hole]), (500005, .row)]⟩ [.ki .i64, .kl 5, .ki .i64, .ki .i64, .kl 5] (fun (x : Int × (List Int) × Int × Int × (List Int) × Unit) => S_l1Bent_b0 k x.1 x.2.1 x.2.2.1 x.2.2.2.1 x.2.2.2.2.1) z3d
def z3f (k : Nat) : Cuts D := ⟨[], [(11, some (z3a k))]⟩
theorem z3g (k : Nat) : CutFor X z2m k (.cell 0 175 :: Go.Proofs.Tryz.f207.results.toList) (z3e k) (sub (bodyOf Go.Proofs.Tryz.f207) [1, 1, 0, 1]) :=
  joinCut_s (X := X) (sg := [.ki .i64, .kl 5, .ki .i64, .ki .i64, .kl 5]) (cu := z3f k) (cl := z2n k) (tys := [[0]]) (z2o k) (cutOK_of (l := [(z3a k, sub (bodyOf Go.Proofs.Tryz.f207) [1, 1, 0, 1, 0, 1])]) (by kernel_rfl) ⟨z3c k, trivial⟩) fun x Q R h => by
    simp only [S_l1Bent_b0, optK_bind, optK_bif, optK_pure, optK_none, optK_oc, optK_guardT, optK_map] at h
    refine hold_of h ?_
    kernel_rfl
def z3h (k : Nat) : Cuts D := ⟨[(0, some (z3e k))], []⟩
def z3i : List Ar := [.c (.ks)]
def z3j (k : Nat) (c : Tup D [.kl 5, .ki .i64, .ki .i64]) (x : TupA D z3i) : Option ((List UInt8) × Sl1Cur) := S_l1Bent k (⟨c.1, c.2.1, c.2.2.1⟩ : Sl1Cur) x.1
def z3k (r : (List UInt8) × Sl1Cur) : Tup D [.kl 5, .ki .i64, .ki .i64] := (r.2.b, r.2.i, r.2.h, ())
def z3l (r : (List UInt8) × Sl1Cur) : List (VP D) := [.c (.str r.1)]
theorem z3m (k : Nat) : DoesP P X 207 [.kl 5, .ki .i64, .ki .i64] z3i (z3j k) z3l z3k :=
  doesP_of (pt := 175) (body := bodyOf Go.Proofs.Tryz.f207) (pl := z2m) (k := k) (cu := z3h k) (tys := [[0]]) (z2o k) ctx mixed Go.Proofs.Tryz.func207 (by kernel_rfl) (by kernel_rfl) (by kernel_rfl) (by kernel_rfl) (cutOK_of (l := [(z3e k, sub (bodyOf Go.Proofs.Tryz.f207) [1, 1, 0, 1])]) (by kernel_rfl) ⟨z3g k, trivial⟩) fun c x R h => by
    simp only [z3j, S_l1Bent, optK_bind, optK_bif, optK_pure, optK_none, optK_oc, optK_guardT, optK_map] at h
    refine hold_of h ?_
    kernel_rfl
def z3n (k : Nat) : EntryP D := entP [.kl 5, .ki .i64, .ki .i64] z3i (z3j k) z3l z3k
theorem z3o (k : Nat) : EntryPOK X 207 (z3n k) := (z3m k).en rfl
def z3p : Plan := ⟨[(0, [(0, none)]), (1, [(0, none), (6, none)]), (2, [(0, none), (2, none)]), (3, [(0, none), (3, none)]), (4, [(0, none), (3, none), (4, none)]), (5, [(0, none), (3, none), (4, none), (14, none)]), (6, [(0, none), (3, none), (4, none)]), (7, [(0, none), (3, none), (4, none)]), (8, [(0, none), (2, none)])],
  [(0, [(0, none), (3, none)]), (1, [(0, none), (3, none), (4, none)])],
  [(6, ([(0, none)], [(0, none)])), (14, ([(0, none), (3, none), (4, none)], [(0, none), (3, none)]))]⟩
def z3q (k : Nat) : Calls' D := ⟨[], [], [(76, z1n k), (208, z29 k), (207, z3n k), (75, z1c k), (78, z1y k)], [], []⟩
theorem z3r (k : Nat) : CallsOK X (z3q k) := .consP (z1o k) (.consP (z2a k) (.consP (z3o k) (.consP (z1d k) (.consP (z1z k) (.nil cod)))))
def z3s (x : (List UInt8) × Int × (List Int) × Int × Int × Unit) (o : (List UInt8) × (List Int) × Int × Int) (Q : Ex → VSt D → Prop) (R : VR D → Prop) : Prop := Q .normal (mkSt ⟨[(0, .ptr 700000 0), (3, .hole)], [(700000, .var [.hole, .hole, .hole])]⟩ [.str o.1, .sl 5 o.2.1, .int .i64 o.2.2.1, .int .i64 o.2.2.2])
def z3t (k : Nat) : Cut D := cutS ⟨[(0, .ptr 700000 0), (3, .hole), (4, .hole)], [(700000, .var [.hole, .hole, .hole])]⟩ [.ks, .ki .i64, .kl 5, .ki .i64, .ki .i64] (fun (x : (List UInt8) × Int × (List Int) × Int × Int × Unit) => S_l12Some_b0 k k x.1 x.2.1 x.2.2.1 x.2.2.2.1 x.2.2.2.2.1) z3s
def z3u (k : Nat) : Cuts D := ⟨[], []⟩
theorem z3v (k : Nat) : CutFor X z3p k (.cell 0 175 :: Go.Proofs.Tryz.f136.results.toList) (z3t k) (sub (bodyOf Go.Proofs.Tryz.f136) [1, 1, 1, 0, 1]) :=
  loopCut_s (X := X) (sg := [.ks, .ki .i64, .kl 5, .ki .i64, .ki .i64]) (cu := z3u k) (cl := z3q k) (tys := [[0]]) (id := 0) (c := sub (bodyOf Go.Proofs.Tryz.f136) [1, 1, 1, 0, 1, 0, 0]) (f := fun n => fun (x : (List UInt8) × Int × (List Int) × Int × Int × Unit) => S_l12Some_b0 k n x.1 x.2.1 x.2.2.1 x.2.2.2.1 x.2.2.2.2.1) (z3r k) (cutOK_of (l := []) (by kernel_rfl) trivial) (fun _ => rfl) (fun n x Q R h => by
    simp only [S_l12Some_b0, optK_bind, optK_bif, optK_pure, optK_none, optK_oc, optK_guardT, optK_map] at h
    refine hold_of h ?_
    kernel_rfl) (by kernel_rfl)
def z3w (k : Nat) : Cuts D := ⟨[(0, some (z3t k))], []⟩
def z3x : List Ar := []
def z3y (k : Nat) (c : Tup D [.kl 5, .ki .i64, .ki .i64]) (x : TupA D z3x) : Option ((List UInt8) × Sl1Cur) := S_l12Some k (⟨c.1, c.2.1, c.2.2.1⟩ : Sl1Cur)
def z3z (r : (List UInt8) × Sl1Cur) : Tup D [.kl 5, .ki .i64, .ki .i64] := (r.2.b, r.2.i, r.2.h, ())
def z40 (r : (List UInt8) × Sl1Cur) : List (VP D) := [.c (.str r.1)]
theorem z41 (k : Nat) : DoesP P X 136 [.kl 5, .ki .i64, .ki .i64] z3x (z3y k) z40 z3z :=
  doesP_of (pt := 175) (body := bodyOf Go.Proofs.Tryz.f136) (pl := z3p) (k := k) (cu := z3w k) (tys := [[0]]) (z3r k) ctx mixed Go.Proofs.Tryz.func136 (by kernel_rfl) (by kernel_rfl) (by kernel_rfl) (by kernel_rfl) (cutOK_of (l := [(z3t k, sub (bodyOf Go.Proofs.Tryz.f136) [1, 1, 1, 0, 1])]) (by kernel_rfl) ⟨z3v k, trivial⟩) fun c x R h => by
    simp only [z3y, S_l12Some, optK_bind, optK_bif, optK_pure, optK_none, optK_oc, optK_guardT, optK_map] at h
    refine hold_of h ?_
    kernel_rfl
def z42 (k : Nat) : EntryP D := entP [.kl 5, .ki .i64, .ki .i64] z3x (z3y k) z40 z3z
theorem z43 (k : Nat) : EntryPOK X 136 (z42 k) := (z41 k).en rfl
def z44 : Plan := ⟨[(0, [(0, some 5)]), (1, [(3, none)]), (2, [(2, none)])],
  [],
  []⟩
def z45 (k : Nat) : Calls' D := ⟨[], [], [(136, z42 k)], [(72, zm k)], []⟩
theorem z46 (k : Nat) : CallsOK X (z45 k) := .consP (z43 k) (.consB (zn k) (.nil cod))
def z47 (k : Nat) : Cuts D := ⟨[], []⟩
def z48 : List Ar := [.c (.kl 5)]
def z49 (k : Nat) (x : TupA D z48) : Option ((List UInt8)) := S_DrawNormalTarget k x.1
def z4a (r : (List UInt8)) : VR D := .p (.c (.str r))
theorem z4b (k : Nat) : Does P X 45 z48 (z49 k) z4a :=
  does_of (body := bodyOf Go.Proofs.Tryz.f45) (pl := z44) (k := k) (cu := z47 k) (tys := [[0]]) (z46 k) ctx mixed Go.Proofs.Tryz.func45 (by kernel_rfl) (by kernel_rfl) (cutOK_of (l := []) (by kernel_rfl) trivial) fun x R h => by
    simp only [z49, S_DrawNormalTarget, optK_bind, optK_bif, optK_pure, optK_none, optK_oc, optK_guardT, optK_map] at h
    refine hold_of h ?_
    kernel_rfl
def z4c (k : Nat) : Entry D := entS z48 (z49 k) z4a
theorem z4d (k : Nat) : EntryOK X 45 (z4c k) := (z4b k).en rfl
def z4e : List Ar := [.c (.ks), .c (.ks)]
def z4f (k : Nat) (x : TupA D z4e) : Option ((List UInt8) × (List UInt8) × Bool) := strings_Cut k x.1 x.2.1
def z4g (r : (List UInt8) × (List UInt8) × Bool) : VR D := .tup [.c (.str r.1), .c (.str r.2.1), .c (.bool r.2.2)]
theorem z4h (k : Nat) : Does P X 126 z4e (z4f k) z4g := does_cut ⟨Go.Proofs.Tryz.f126, Go.Proofs.Tryz.func126, by kernel_rfl, by kernel_rfl⟩ (fun s sep w hg hs => let ⟨m, hm⟩ := hg; Go.Proofs.Tryz.strings_Cut s sep m w hs hm)
def z4i (k : Nat) : Entry D := entS z4e (z4f k) z4g
theorem z4j (k : Nat) : EntryOK X 126 (z4i k) := (z4h k).en rfl
def z4k : Plan := ⟨[(0, [(0, none)]), (1, [(2, none), (3, none), (4, none)])],
  [],
  []⟩
def z4l (k : Nat) : Calls' D := ⟨[(126, z4i k)], [], [], [], []⟩
theorem z4m (k : Nat) : CallsOK X (z4l k) := .cons (z4j k) (.nil cod)
def z4n (k : Nat) : Cuts D := ⟨[], []⟩
def z4o : List Ar := [.c (.ks)]
def z4p (k : Nat) (x : TupA D z4o) : Option ((List UInt8) × (List UInt8) × Bool) := I_SplitTarget k x.1
def z4q (r : (List UInt8) × (List UInt8) × Bool) : VR D := .tup [.c (.str r.1), .c (.str r.2.1), .c (.bool r.2.2)]
theorem z4r (k : Nat) : Does P X 49 z4o (z4p k) z4q :=
  does_of (body := bodyOf Go.Proofs.Tryz.f49) (pl := z4k) (k := k) (cu := z4n k) (tys := [[0], [0], [0]]) (z4m k) ctx mixed Go.Proofs.Tryz.func49 (by kernel_rfl) (by kernel_rfl) (cutOK_of (l := []) (by kernel_rfl) trivial) fun x R h => by
    simp only [z4p, I_SplitTarget, optK_bind, optK_bif, optK_pure, optK_none, optK_oc, optK_guardT, optK_map] at h
    refine hold_of h ?_
    kernel_rfl
def z4s (k : Nat) : Entry D := entS z4o (z4p k) z4q
theorem z4t (k : Nat) : EntryOK X 49 (z4s k) := (z4r k).en rfl
def z4u : List Ar := [.c (.ks), .c (.ki .u8)]
def z4v (k : Nat) (x : TupA D z4u) : Option (Int) := strings_IndexByte k x.1 x.2.1
def z4w (r : Int) : VR D := .p (.c (.int .i64 r))
theorem z4x (k : Nat) : Does P X 210 z4u (z4v k) z4w := does_indexByte ⟨Go.Proofs.Tryz.f210, Go.Proofs.Tryz.func210, by kernel_rfl, by kernel_rfl⟩ (fun s c w hg => Go.Proofs.Tryz.strings_IndexByte s c w)
def z4y (k : Nat) : Entry D := entS z4u (z4v k) z4w
theorem z4z (k : Nat) : EntryOK X 210 (z4y k) := (z4x k).en rfl
def z50 : Plan := ⟨[(0, [(0, none)]), (1, [(0, none), (8, none)]), (2, [(0, none)]), (3, [(2, none)])],
  [],
  [(8, ([(0, none)], [(0, none)]))]⟩
def z51 (k : Nat) : Calls' D := ⟨[(210, z4y k)], [], [], [], []⟩
theorem z52 (k : Nat) : CallsOK X (z51 k) := .cons (z4z k) (.nil cod)
def z53 (x : Int × Bool × Unit) (o : Int) (Q : Ex → VSt D → Prop) (R : VR D → Prop) : Prop := Q .normal (mkSt ⟨[(0, .hole)], []⟩ [.int .u8 o])
def z54 (k : Nat) : Cut D := cutS ⟨[(0, .hole), (8, .hole)], []⟩ [.ki .u8, .kb] (fun (x : Int × Bool × Unit) => I_hexDigit_c8 k x.1 x.2.1) z53
def z55 (k : Nat) : Cuts D := ⟨[], []⟩
theorem z56 (k : Nat) : CutFor X z50 k Go.Proofs.Tryz.f209.results.toList (z54 k) (sub (bodyOf Go.Proofs.Tryz.f209) [1, 0, 1]) :=
  joinCut_s (X := X) (sg := [.ki .u8, .kb]) (cu := z55 k) (cl := z51 k) (tys := [[0]]) (z52 k) (cutOK_of (l := []) (by kernel_rfl) trivial) fun x Q R h => by
    simp only [I_hexDigit_c8, optK_bind, optK_bif, optK_pure, optK_none, optK_oc, optK_guardT, optK_map] at h
    refine hold_of h ?_
    kernel_rfl
def z57 (k : Nat) : Cuts D := ⟨[], [(8, some (z54 k))]⟩
def z58 : List Ar := [.c (.ki .u8)]
def z59 (k : Nat) (x : TupA D z58) : Option (Int) := I_hexDigit k x.1
def z5a (r : Int) : VR D := .p (.c (.int .i64 r))
theorem z5b (k : Nat) : Does P X 209 z58 (z59 k) z5a :=
  does_of (body := bodyOf Go.Proofs.Tryz.f209) (pl := z50) (k := k) (cu := z57 k) (tys := [[0]]) (z52 k) ctx mixed Go.Proofs.Tryz.func209 (by kernel_rfl) (by kernel_rfl) (cutOK_of (l := [(z54 k, sub (bodyOf Go.Proofs.Tryz.f209) [1, 0, 1])]) (by kernel_rfl) ⟨z56 k, trivial⟩) fun x R h => by
    simp only [z59, I_hexDigit, optK_bind, optK_bif, optK_pure, optK_none, optK_oc, optK_guardT, optK_map] at h
    refine hold_of h ?_
    kernel_rfl
def z5c (k : Nat) : Entry D := entS z58 (z59 k) z5a
theorem z5d (k : Nat) : EntryOK X 209 (z5c k) := (z5b k).en rfl
def z5e : Plan := ⟨[(0, [(0, none)]), (1, [(0, none), (4, some 5)]), (2, [(0, none), (4, some 5), (5, none)]), (3, [(0, none), (4, some 5), (5, none), (13, none)]), (4, [(0, none), (4, some 5), (5, none)]), (5, [(0, none), (4, some 5), (5, none), (19, none)]), (6, [(0, none), (4, some 5), (5, none)]), (7, [(0, none), (4, some 5), (5, none), (46, none)]), (8, [(2, none), (3, none)]), (9, [(0, none), (4, some 5), (5, none), (6, none), (7, none)]), (10, [(0, none), (4, some 5), (5, none), (6, none), (7, none), (8, none)]), (11, [(0, none), (4, some 5), (5, none), (6, none), (7, none), (8, none), (88, none)]), (12, [(0, none), (4, some 5), (5, none)]), (13, [(0, none), (4, some 5), (5, none)]), (14, [(0, none), (4, some 5), (5, none)]), (15, [(2, none), (3, none)])],
  [(0, [(4, some 5)]), (1, [(0, none), (4, some 5), (5, none)])],
  [(13, ([(0, none), (4, some 5), (5, none)], [(4, some 5)])), (19, ([(0, none), (4, some 5), (5, none)], [(0, none), (4, some 5), (5, none)])), (46, ([], [(0, none), (4, some 5), (5, none)])), (88, ([(0, none), (4, some 5), (5, none), (8, none)], [(0, none), (4, some 5), (5, none), (6, none), (7, none)]))]⟩
def z5f (k : Nat) : Calls' D := ⟨[(209, z5c k), (210, z4y k)], [], [], [], []⟩
theorem z5g (k : Nat) : CallsOK X (z5f k) := .cons (z5d k) (.cons (z4z k) (.nil cod))
def z5h (x : (List UInt8) × Int × Int × Int × Int × Bool × (List Int) × Unit) (o : (List Int)) (Q : Ex → VSt D → Prop) (R : VR D → Prop) : Prop := Q .normal (mkSt ⟨[(0, .hole), (4, .ref 500004), (5, .hole)], [(500004, .row)]⟩ [.str x.1, .int .i64 x.2.1, .sl 5 o])
def z5i (k : Nat) : Cut D := cutS ⟨[(0, .hole), (4, .ref 500004), (5, .hole), (6, .hole), (7, .hole), (8, .hole), (88, .hole)], [(500004, .row)]⟩ [.ks, .ki .i64, .ki .i64, .ki .i64, .ki .u8, .kb, .kl 5] (fun (x : (List UInt8) × Int × Int × Int × Int × Bool × (List Int) × Unit) => I_decodedTarget_c88 k x.1 x.2.1 x.2.2.1 x.2.2.2.1 x.2.2.2.2.1 x.2.2.2.2.2.1 x.2.2.2.2.2.2.1) z5h
def z5j (k : Nat) : Cuts D := ⟨[], []⟩
theorem z5k (k : Nat) : CutFor X z5e k Go.Proofs.Tryz.f137.results.toList (z5i k) (sub (bodyOf Go.Proofs.Tryz.f137) [1, 1, 0, 1, 0, 0, 1, 0, 0, 1, 1, 1, 1, 0, 1]) :=
  joinCut_s (X := X) (sg := [.ks, .ki .i64, .ki .i64, .ki .i64, .ki .u8, .kb, .kl 5]) (cu := z5j k) (cl := z5f k) (tys := [[0], [0]]) (z5g k) (cutOK_of (l := []) (by kernel_rfl) trivial) fun x Q R h => by
    simp only [I_decodedTarget_c88, optK_bind, optK_bif, optK_pure, optK_none, optK_oc, optK_guardT, optK_map] at h
    refine hold_of h ?_
    kernel_rfl
def z5l (x : (List UInt8) × Int × (List Int) × Unit) (o : Oc (Int × (List Int)) ((List UInt8) × Bool)) (Q : Ex → VSt D → Prop) (R : VR D → Prop) : Prop := ocP o (fun v0 => Q .normal (mkSt ⟨[(0, .hole), (4, .ref 500004), (5, .hole)], [(500004, .row)]⟩ [.str x.1, .int .i64 v0.1, .sl 5 v0.2])) (fun w0 => R (.tup [.c (.str w0.1), .c (.bool w0.2)]))
def z5m (k : Nat) : Cut D := cutS ⟨[(0, .hole), (4, .ref 500004), (5, .hole)], [(500004, .row)]⟩ [.ks, .ki .i64, .kl 5] (fun (x : (List UInt8) × Int × (List Int) × Unit) => I_decodedTarget_b1 k x.1 x.2.1 x.2.2.1) z5l
def z5n (k : Nat) : Cuts D := ⟨[], [(88, some (z5i k))]⟩
theorem z5o (k : Nat) : CutFor X z5e k Go.Proofs.Tryz.f137.results.toList (z5m k) (sub (bodyOf Go.Proofs.Tryz.f137) [1, 1, 0, 1, 0, 0, 1, 0]) :=
  joinCut_s (X := X) (sg := [.ks, .ki .i64, .kl 5]) (cu := z5n k) (cl := z5f k) (tys := [[0], [0]]) (z5g k) (cutOK_of (l := [(z5i k, sub (bodyOf Go.Proofs.Tryz.f137) [1, 1, 0, 1, 0, 0, 1, 0, 0, 1, 1, 1, 1, 0, 1])]) (by kernel_rfl) ⟨z5k k, trivial⟩) fun x Q R h => by
    simp only [I_decodedTarget_b1, optK_bind, optK_bif, optK_pure, optK_none, optK_oc, optK_guardT, optK_map] at h
    refine hold_of h ?_
    kernel_rfl
def z5p (x : (List UInt8) × Int × (List Int) × Unit) (o : Oc ((List Int)) ((List UInt8) × Bool)) (Q : Ex → VSt D → Prop) (R : VR D → Prop) : Prop := ocP o (fun v0 => Q .normal (mkSt ⟨[(4, .ref 500004)], [(500004, .row)]⟩ [.sl 5 v0])) (fun w0 => R (.tup [.c (.str w0.1), .c (.bool w0.2)]))
def z5q (k : Nat) : Cut D := cutS ⟨[(0, .hole), (4, .ref 500004), (5, .hole)], [(500004, .row)]⟩ [.ks, .ki .i64, .kl 5] (fun (x : (List UInt8) × Int × (List Int) × Unit) => I_decodedTarget_b0 k k x.1 x.2.1 x.2.2.1) z5p
def z5r (k : Nat) : Cuts D := ⟨[(1, some (z5m k))], []⟩
theorem z5s (k : Nat) : CutFor X z5e k Go.Proofs.Tryz.f137.results.toList (z5q k) (sub (bodyOf Go.Proofs.Tryz.f137) [1, 1, 0, 1]) :=
  loopCut_s (X := X) (sg := [.ks, .ki .i64, .kl 5]) (cu := z5r k) (cl := z5f k) (tys := [[0], [0]]) (id := 0) (c := sub (bodyOf Go.Proofs.Tryz.f137) [1, 1, 0, 1, 0, 0]) (f := fun n => fun (x : (List UInt8) × Int × (List Int) × Unit) => I_decodedTarget_b0 k n x.1 x.2.1 x.2.2.1) (z5g k) (cutOK_of (l := [(z5m k, sub (bodyOf Go.Proofs.Tryz.f137) [1, 1, 0, 1, 0, 0, 1, 0])]) (by kernel_rfl) ⟨z5o k, trivial⟩) (fun _ => rfl) (fun n x Q R h => by
    simp only [I_decodedTarget_b0, optK_bind, optK_bif, optK_pure, optK_none, optK_oc, optK_guardT, optK_map] at h
    refine hold_of h ?_
    kernel_rfl) (by kernel_rfl)
def z5t (k : Nat) : Cuts D := ⟨[(0, some (z5q k))], []⟩
def z5u : List Ar := [.c (.ks)]
def z5v (k : Nat) (x : TupA D z5u) : Option ((List UInt8) × Bool) := I_decodedTarget k x.1
def z5w (r : (List UInt8) × Bool) : VR D := .tup [.c (.str r.1), .c (.bool r.2)]
theorem z5x (k : Nat) : Does P X 137 z5u (z5v k) z5w :=
  does_of (body := bodyOf Go.Proofs.Tryz.f137) (pl := z5e) (k := k) (cu := z5t k) (tys := [[0], [0]]) (z5g k) ctx mixed Go.Proofs.Tryz.func137 (by kernel_rfl) (by kernel_rfl) (cutOK_of (l := [(z5q k, sub (bodyOf Go.Proofs.Tryz.f137) [1, 1, 0, 1])]) (by kernel_rfl) ⟨z5s k, trivial⟩) fun x R h => by
    simp only [z5v, I_decodedTarget, optK_bind, optK_bif, optK_pure, optK_none, optK_oc, optK_guardT, optK_map] at h
    refine hold_of h ?_
    kernel_rfl
def z5y (k : Nat) : Entry D := entS z5u (z5v k) z5w
theorem z5z (k : Nat) : EntryOK X 137 (z5y k) := (z5x k).en rfl
def z60 : Plan := ⟨[(0, [(0, none), (1, none)]), (1, [(4, none)])],
  [],
  []⟩
def z61 (k : Nat) : Calls' D := ⟨[], [], [], [], []⟩
theorem z62 (k : Nat) : CallsOK X (z61 k) := .nil cod
def z63 (k : Nat) : Cuts D := ⟨[], []⟩
def z64 : List Ar := [.c (.ks), .c (.ks)]
def z65 (k : Nat) (x : TupA D z64) : Option (Bool) := internal_stringslite_HasPrefix k x.1 x.2.1
def z66 (r : Bool) : VR D := .p (.c (.bool r))
theorem z67 (k : Nat) : Does P X 211 z64 (z65 k) z66 :=
  does_of (body := bodyOf Go.Proofs.Tryz.f211) (pl := z60) (k := k) (cu := z63 k) (tys := [[0]]) (z62 k) ctx mixed Go.Proofs.Tryz.func211 (by kernel_rfl) (by kernel_rfl) (cutOK_of (l := []) (by kernel_rfl) trivial) fun x R h => by
    simp only [z65, internal_stringslite_HasPrefix, optK_bind, optK_bif, optK_pure, optK_none, optK_oc, optK_guardT, optK_map] at h
    refine hold_of h ?_
    kernel_rfl
def z68 (k : Nat) : Entry D := entS z64 (z65 k) z66
theorem z69 (k : Nat) : EntryOK X 211 (z68 k) := (z67 k).en rfl
def z6a : Plan := ⟨[(0, [(0, none), (1, none)]), (1, [(4, none)])],
  [],
  []⟩
def z6b (k : Nat) : Calls' D := ⟨[(211, z68 k)], [], [], [], []⟩
theorem z6c (k : Nat) : CallsOK X (z6b k) := .cons (z69 k) (.nil cod)
def z6d (k : Nat) : Cuts D := ⟨[], []⟩
def z6e : List Ar := [.c (.ks), .c (.ks)]
def z6f (k : Nat) (x : TupA D z6e) : Option (Bool) := strings_HasPrefix k x.1 x.2.1
def z6g (r : Bool) : VR D := .p (.c (.bool r))
theorem z6h (k : Nat) : Does P X 138 z6e (z6f k) z6g :=
  does_of (body := bodyOf Go.Proofs.Tryz.f138) (pl := z6a) (k := k) (cu := z6d k) (tys := [[0]]) (z6c k) ctx mixed Go.Proofs.Tryz.func138 (by kernel_rfl) (by kernel_rfl) (cutOK_of (l := []) (by kernel_rfl) trivial) fun x R h => by
    simp only [z6f, strings_HasPrefix, optK_bind, optK_bif, optK_pure, optK_none, optK_oc, optK_guardT, optK_map] at h
    refine hold_of h ?_
    kernel_rfl
def z6i (k : Nat) : Entry D := entS z6e (z6f k) z6g
theorem z6j (k : Nat) : EntryOK X 138 (z6i k) := (z6h k).en rfl
def z6k : List Ar := [.c (.ks), .c (.ks)]
def z6l (k : Nat) (x : TupA D z6k) : Option ((List (List UInt8))) := strings_Split k x.1 x.2.1
def z6m (r : (List (List UInt8))) : VR D := .p (.c (.sl 9 r))
theorem z6n (k : Nat) : Does P X 141 z6k (z6l k) z6m := does_split (P := P) (D := D) (X := X) (el := 9) ⟨Go.Proofs.Tryz.f141, Go.Proofs.Tryz.func141, by kernel_rfl, by kernel_rfl⟩ (fun (s : List UInt8) => s) (fun l s => splitO l s) (fun _ => rfl) (by kernel_rfl) (fun l s => (split_id l s).symm) (fun s sep w hg h1 h2 => let ⟨m, hm⟩ := hg; Go.Proofs.Tryz.strings_Split s sep m w h1 hm h2) (fun s sep h => Go.Lib.splitB_all sep h 0 _ s rfl)
def z6o (k : Nat) : Entry D := entS z6k (z6l k) z6m
theorem z6p (k : Nat) : EntryOK X 141 (z6o k) := (z6n k).en rfl
def z6q : Plan := ⟨[(0, [(0, some 9)]), (1, [(0, some 9), (3, some 9)]), (2, [(0, some 9), (3, some 9), (7, some 9), (8, none), (9, none)]), (3, [(0, some 9), (3, some 9), (7, some 9), (8, none), (9, none), (10, none)]), (4, [(0, some 9), (3, some 9), (4, none), (5, none), (7, some 9), (8, none), (9, none)]), (5, [(0, some 9), (3, some 9), (4, none), (5, none), (7, some 9), (8, none), (9, none), (20, none)]), (6, [(0, some 9), (3, some 9), (4, none), (5, none), (7, some 9), (8, none), (9, none)]), (7, [(0, some 9), (3, some 9), (4, none), (5, none), (7, some 9), (8, none), (9, none), (26, none)]), (8, [(0, some 9), (3, some 9), (7, some 9), (8, none), (9, none)]), (9, [(0, some 9), (3, some 9), (7, some 9), (8, none), (9, none), (37, none)]), (10, [(0, some 9), (3, some 9), (7, some 9), (8, none), (9, none)]), (11, [(0, some 9), (3, some 9), (7, some 9), (8, none), (9, none)]), (12, [(2, some 9)])],
  [(0, [(3, some 9)]), (1, [(0, some 9), (3, some 9), (7, some 9), (8, none), (9, none)]), (2, [(0, some 9), (3, some 9), (7, some 9), (8, none), (9, none)])],
  [(10, ([(0, some 9), (3, some 9), (7, some 9), (8, none), (9, none)], [(3, some 9)])), (20, ([(0, some 9), (3, some 9), (4, none), (5, none), (7, some 9), (8, none), (9, none)], [(0, some 9), (3, some 9), (4, none), (5, none), (7, some 9), (8, none), (9, none)])), (26, ([(0, some 9), (3, some 9), (5, none), (7, some 9), (8, none), (9, none)], [(0, some 9), (3, some 9), (4, none), (7, some 9), (8, none), (9, none)])), (37, ([(0, some 9), (3, some 9), (7, some 9), (8, none), (9, none)], [(0, some 9), (3, some 9), (7, some 9), (8, none), (9, none)]))]⟩
def z6r (k : Nat) : Calls' D := ⟨[], [], [], [], []⟩
theorem z6s (k : Nat) : CallsOK X (z6r k) := .nil cod
def z6t (x : (List (List UInt8)) × Int × (List UInt8) × (List (List UInt8)) × Int × Int × Bool × (List (List UInt8)) × Unit) (o : (List (List UInt8))) (Q : Ex → VSt D → Prop) (R : VR D → Prop) : Prop := Q .normal (mkSt ⟨[(0, .hole), (3, .ref 500003), (4, .hole), (5, .hole), (7, .hole), (8, .hole), (9, .hole)], [(500003, .row)]⟩ [.sl 9 x.1, .int .i64 x.2.1, .str x.2.2.1, .sl 9 x.2.2.2.1, .int .i64 x.2.2.2.2.1, .int .i64 x.2.2.2.2.2.1, .sl 9 o])
def z6u (k : Nat) : Cut D := cutS ⟨[(0, .hole), (3, .ref 500003), (4, .hole), (5, .hole), (7, .hole), (8, .hole), (9, .hole), (20, .hole)], [(500003, .row)]⟩ [.kl 9, .ki .i64, .ks, .kl 9, .ki .i64, .ki .i64, .kb, .kl 9] (fun (x : (List (List UInt8)) × Int × (List UInt8) × (List (List UInt8)) × Int × Int × Bool × (List (List UInt8)) × Unit) => I_cleanComponents_c20 k x.1 x.2.1 x.2.2.1 x.2.2.2.1 x.2.2.2.2.1 x.2.2.2.2.2.1 x.2.2.2.2.2.2.1 x.2.2.2.2.2.2.2.1) z6t
def z6v (k : Nat) : Cuts D := ⟨[], []⟩
theorem z6w (k : Nat) : CutFor X z6q k Go.Proofs.Tryz.f140.results.toList (z6u k) (sub (bodyOf Go.Proofs.Tryz.f140) [1, 1, 0, 1, 0, 0, 1, 1, 0, 0, 1, 0, 1]) :=
  joinCut_s (X := X) (sg := [.kl 9, .ki .i64, .ks, .kl 9, .ki .i64, .ki .i64, .kb, .kl 9]) (cu := z6v k) (cl := z6r k) (tys := [[9]]) (z6s k) (cutOK_of (l := []) (by kernel_rfl) trivial) fun x Q R h => by
    simp only [I_cleanComponents_c20, optK_bind, optK_bif, optK_pure, optK_none, optK_oc, optK_guardT, optK_map] at h
    refine hold_of h ?_
    kernel_rfl
def z6x (x : (List (List UInt8)) × (List (List UInt8)) × Int × Int × Bool × (List (List UInt8)) × Unit) (o : (List (List UInt8))) (Q : Ex → VSt D → Prop) (R : VR D → Prop) : Prop := Q .normal (mkSt ⟨[(0, .hole), (3, .ref 500003), (7, .hole), (8, .hole), (9, .hole)], [(500003, .row)]⟩ [.sl 9 x.1, .sl 9 x.2.1, .int .i64 x.2.2.1, .int .i64 x.2.2.2.1, .sl 9 o])
def z6y (k : Nat) : Cut D := cutS ⟨[(0, .hole), (3, .ref 500003), (7, .hole), (8, .hole), (9, .hole), (37, .hole)], [(500003, .row)]⟩ [.kl 9, .kl 9, .ki .i64, .ki .i64, .kb, .kl 9] (fun (x : (List (List UInt8)) × (List (List UInt8)) × Int × Int × Bool × (List (List UInt8)) × Unit) => I_cleanComponents_c37 k x.1 x.2.1 x.2.2.1 x.2.2.2.1 x.2.2.2.2.1 x.2.2.2.2.2.1) z6x
def z6z (k : Nat) : Cuts D := ⟨[], []⟩
theorem z70 (k : Nat) : CutFor X z6q k Go.Proofs.Tryz.f140.results.toList (z6y k) (sub (bodyOf Go.Proofs.Tryz.f140) [1, 1, 0, 1, 0, 0, 1, 1, 0, 0, 1, 1, 0, 1, 1, 1]) :=
  joinCut_s (X := X) (sg := [.kl 9, .kl 9, .ki .i64, .ki .i64, .kb, .kl 9]) (cu := z6z k) (cl := z6r k) (tys := [[9]]) (z6s k) (cutOK_of (l := []) (by kernel_rfl) trivial) fun x Q R h => by
    simp only [I_cleanComponents_c37, optK_bind, optK_bif, optK_pure, optK_none, optK_oc, optK_guardT, optK_map] at h
    refine hold_of h ?_
    kernel_rfl
def z71 (x : (List (List UInt8)) × Int × (List UInt8) × (List (List UInt8)) × Int × Int × Bool × (List (List UInt8)) × Unit) (o : (List (List UInt8))) (Q : Ex → VSt D → Prop) (R : VR D → Prop) : Prop := Q .normal (mkSt ⟨[(0, .hole), (3, .ref 500003), (7, .hole), (8, .hole), (9, .hole)], [(500003, .row)]⟩ [.sl 9 x.1, .sl 9 x.2.2.2.1, .int .i64 x.2.2.2.2.1, .int .i64 x.2.2.2.2.2.1, .sl 9 o])
def z72 (k : Nat) : Cut D := cutS ⟨[(0, .hole), (3, .ref 500003), (4, .hole), (5, .hole), (7, .hole), (8, .hole), (9, .hole), (26, .hole)], [(500003, .row)]⟩ [.kl 9, .ki .i64, .ks, .kl 9, .ki .i64, .ki .i64, .kb, .kl 9] (fun (x : (List (List UInt8)) × Int × (List UInt8) × (List (List UInt8)) × Int × Int × Bool × (List (List UInt8)) × Unit) => I_cleanComponents_c26 k x.1 x.2.1 x.2.2.1 x.2.2.2.1 x.2.2.2.2.1 x.2.2.2.2.2.1 x.2.2.2.2.2.2.1 x.2.2.2.2.2.2.2.1) z71
def z73 (k : Nat) : Cuts D := ⟨[], [(37, some (z6y k))]⟩
theorem z74 (k : Nat) : CutFor X z6q k Go.Proofs.Tryz.f140.results.toList (z72 k) (sub (bodyOf Go.Proofs.Tryz.f140) [1, 1, 0, 1, 0, 0, 1, 1, 0, 0, 1, 1, 0, 1]) :=
  joinCut_s (X := X) (sg := [.kl 9, .ki .i64, .ks, .kl 9, .ki .i64, .ki .i64, .kb, .kl 9]) (cu := z73 k) (cl := z6r k) (tys := [[9]]) (z6s k) (cutOK_of (l := [(z6y k, sub (bodyOf Go.Proofs.Tryz.f140) [1, 1, 0, 1, 0, 0, 1, 1, 0, 0, 1, 1, 0, 1, 1, 1])]) (by kernel_rfl) ⟨z70 k, trivial⟩) fun x Q R h => by
    simp only [I_cleanComponents_c26, optK_bind, optK_bif, optK_pure, optK_none, optK_oc, optK_guardT, optK_map] at h
    refine hold_of h ?_
    kernel_rfl
def z75 (x : (List (List UInt8)) × Int × (List UInt8) × (List (List UInt8)) × Int × Int × (List (List UInt8)) × Unit) (o : (List (List UInt8))) (Q : Ex → VSt D → Prop) (R : VR D → Prop) : Prop := Q .normal (mkSt ⟨[(0, .hole), (3, .ref 500003), (7, .hole), (8, .hole), (9, .hole)], [(500003, .row)]⟩ [.sl 9 x.1, .sl 9 x.2.2.2.1, .int .i64 x.2.2.2.2.1, .int .i64 x.2.2.2.2.2.1, .sl 9 o])
def z76 (k : Nat) : Cut D := cutS ⟨[(0, .hole), (3, .ref 500003), (4, .hole), (5, .hole), (7, .hole), (8, .hole), (9, .hole)], [(500003, .row)]⟩ [.kl 9, .ki .i64, .ks, .kl 9, .ki .i64, .ki .i64, .kl 9] (fun (x : (List (List UInt8)) × Int × (List UInt8) × (List (List UInt8)) × Int × Int × (List (List UInt8)) × Unit) => I_cleanComponents_b2 k x.1 x.2.1 x.2.2.1 x.2.2.2.1 x.2.2.2.2.1 x.2.2.2.2.2.1 x.2.2.2.2.2.2.1) z75
def z77 (k : Nat) : Cuts D := ⟨[], [(26, some (z72 k))]⟩
theorem z78 (k : Nat) : CutFor X z6q k Go.Proofs.Tryz.f140.results.toList (z76 k) (sub (bodyOf Go.Proofs.Tryz.f140) [1, 1, 0, 1, 0, 0, 1, 1, 0, 0, 1, 1]) :=
  joinCut_s (X := X) (sg := [.kl 9, .ki .i64, .ks, .kl 9, .ki .i64, .ki .i64, .kl 9]) (cu := z77 k) (cl := z6r k) (tys := [[9]]) (z6s k) (cutOK_of (l := [(z72 k, sub (bodyOf Go.Proofs.Tryz.f140) [1, 1, 0, 1, 0, 0, 1, 1, 0, 0, 1, 1, 0, 1])]) (by kernel_rfl) ⟨z74 k, trivial⟩) fun x Q R h => by
    simp only [I_cleanComponents_b2, optK_bind, optK_bif, optK_pure, optK_none, optK_oc, optK_guardT, optK_map] at h
    refine hold_of h ?_
    kernel_rfl
def z79 (x : (List (List UInt8)) × (List (List UInt8)) × Int × Int × (List (List UInt8)) × Unit) (o : (List (List UInt8))) (Q : Ex → VSt D → Prop) (R : VR D → Prop) : Prop := Q .normal (mkSt ⟨[(0, .hole), (3, .ref 500003), (7, .hole), (8, .hole), (9, .hole)], [(500003, .row)]⟩ [.sl 9 x.1, .sl 9 x.2.1, .int .i64 x.2.2.1, .int .i64 x.2.2.2.1, .sl 9 o])
def z7a (k : Nat) : Cut D := cutS ⟨[(0, .hole), (3, .ref 500003), (7, .hole), (8, .hole), (9, .hole)], [(500003, .row)]⟩ [.kl 9, .kl 9, .ki .i64, .ki .i64, .kl 9] (fun (x : (List (List UInt8)) × (List (List UInt8)) × Int × Int × (List (List UInt8)) × Unit) => I_cleanComponents_b1 k x.1 x.2.1 x.2.2.1 x.2.2.2.1 x.2.2.2.2.1) z79
def z7b (k : Nat) : Cuts D := ⟨[(2, some (z76 k))], [(20, some (z6u k))]⟩
theorem z7c (k : Nat) : CutFor X z6q k Go.Proofs.Tryz.f140.results.toList (z7a k) (sub (bodyOf Go.Proofs.Tryz.f140) [1, 1, 0, 1, 0, 0, 1, 1, 0]) :=
  joinCut_s (X := X) (sg := [.kl 9, .kl 9, .ki .i64, .ki .i64, .kl 9]) (cu := z7b k) (cl := z6r k) (tys := [[9]]) (z6s k) (cutOK_of (l := [(z6u k, sub (bodyOf Go.Proofs.Tryz.f140) [1, 1, 0, 1, 0, 0, 1, 1, 0, 0, 1, 0, 1]), (z76 k, sub (bodyOf Go.Proofs.Tryz.f140) [1, 1, 0, 1, 0, 0, 1, 1, 0, 0, 1, 1])]) (by kernel_rfl) ⟨z6w k, z78 k, trivial⟩) fun x Q R h => by
    simp only [I_cleanComponents_b1, optK_bind, optK_bif, optK_pure, optK_none, optK_oc, optK_guardT, optK_map] at h
    refine hold_of h ?_
    kernel_rfl
def z7d (x : (List (List UInt8)) × (List (List UInt8)) × Int × Int × (List (List UInt8)) × Unit) (o : (List (List UInt8))) (Q : Ex → VSt D → Prop) (R : VR D → Prop) : Prop := Q .normal (mkSt ⟨[(3, .ref 500003)], [(500003, .row)]⟩ [.sl 9 o])
def z7e (k : Nat) : Cut D := cutS ⟨[(0, .hole), (3, .ref 500003), (7, .hole), (8, .hole), (9, .hole)], [(500003, .row)]⟩ [.kl 9, .kl 9, .ki .i64, .ki .i64, .kl 9] (fun (x : (List (List UInt8)) × (List (List UInt8)) × Int × Int × (List (List UInt8)) × Unit) => I_cleanComponents_b0 k k x.1 x.2.1 x.2.2.1 x.2.2.2.1 x.2.2.2.2.1) z7d
def z7f (k : Nat) : Cuts D := ⟨[(1, some (z7a k))], []⟩
theorem z7g (k : Nat) : CutFor X z6q k Go.Proofs.Tryz.f140.results.toList (z7e k) (sub (bodyOf Go.Proofs.Tryz.f140) [1, 1, 0, 1]) :=
  loopCut_s (X := X) (sg := [.kl 9, .kl 9, .ki .i64, .ki .i64, .kl 9]) (cu := z7f k) (cl := z6r k) (tys := [[9]]) (id := 0) (c := sub (bodyOf Go.Proofs.Tryz.f140) [1, 1, 0, 1, 0, 0]) (f := fun n => fun (x : (List (List UInt8)) × (List (List UInt8)) × Int × Int × (List (List UInt8)) × Unit) => I_cleanComponents_b0 k n x.1 x.2.1 x.2.2.1 x.2.2.2.1 x.2.2.2.2.1) (z6s k) (cutOK_of (l := [(z7a k, sub (bodyOf Go.Proofs.Tryz.f140) [1, 1, 0, 1, 0, 0, 1, 1, 0])]) (by kernel_rfl) ⟨z7c k, trivial⟩) (fun _ => rfl) (fun n x Q R h => by
    simp only [I_cleanComponents_b0, optK_bind, optK_bif, optK_pure, optK_none, optK_oc, optK_guardT, optK_map] at h
    refine hold_of h ?_
    kernel_rfl) (by kernel_rfl)
def z7h (k : Nat) : Cuts D := ⟨[(0, some (z7e k))], []⟩
def z7i : List Ar := [.c (.kl 9)]
def z7j (k : Nat) (x : TupA D z7i) : Option ((List (List UInt8))) := I_cleanComponents k x.1
def z7k (r : (List (List UInt8))) : VR D := .p (.c (.sl 9 r))
theorem z7l (k : Nat) : Does P X 140 z7i (z7j k) z7k :=
  does_of (body := bodyOf Go.Proofs.Tryz.f140) (pl := z6q) (k := k) (cu := z7h k) (tys := [[9]]) (z6s k) ctx mixed Go.Proofs.Tryz.func140 (by kernel_rfl) (by kernel_rfl) (cutOK_of (l := [(z7e k, sub (bodyOf Go.Proofs.Tryz.f140) [1, 1, 0, 1])]) (by kernel_rfl) ⟨z7g k, trivial⟩) fun x R h => by
    simp only [z7j, I_cleanComponents, optK_bind, optK_bif, optK_pure, optK_none, optK_oc, optK_guardT, optK_map] at h
    refine hold_of h ?_
    kernel_rfl
def z7m (k : Nat) : Entry D := entS z7i (z7j k) z7k
theorem z7n (k : Nat) : EntryOK X 140 (z7m k) := (z7l k).en rfl
def z7o : List Ar := [.c (.kl 9), .c (.ks)]
def z7p (k : Nat) (x : TupA D z7o) : Option ((List UInt8)) := strings_Join k x.1 x.2.1
def z7q (r : (List UInt8)) : VR D := .p (.c (.str r))
theorem z7r (k : Nat) : Does P X 139 z7o (z7p k) z7q := does_join (P := P) (D := D) (X := X) (el := 9) ⟨Go.Proofs.Tryz.f139, Go.Proofs.Tryz.func139, by kernel_rfl, by kernel_rfl⟩ (fun (s : List UInt8) => s) (fun (l : List (List UInt8)) s => joinO l s) (fun _ => rfl) (by kernel_rfl) (fun (l : List (List UInt8)) s => congrArg (fun t => joinO t s) (List.map_id' l).symm) (fun a c sep w => Go.Proofs.Tryz.strings_Join_none a c sep w) (fun bk o c xs sep w hg h1 h2 h3 h4 h5 => Go.Proofs.Tryz.strings_Join bk o c xs sep w h1 h2 h3 h4 h5)
def z7s (k : Nat) : Entry D := entS z7o (z7p k) z7q
theorem z7t (k : Nat) : EntryOK X 139 (z7s k) := (z7r k).en rfl
def z7u : Plan := ⟨[(0, [(0, none)]), (1, [(2, none)])],
  [],
  []⟩
def z7v (k : Nat) : Calls' D := ⟨[], [], [], [], []⟩
theorem z7w (k : Nat) : CallsOK X (z7v k) := .nil cod
def z7x (k : Nat) : Cuts D := ⟨[], []⟩
def z7y : List Ar := [.c (.ks)]
def z7z (k : Nat) (x : TupA D z7y) : Option (Bool) := I_NormalTarget_1 k x.1
def z80 (r : Bool) : VR D := .p (.c (.bool r))
theorem z81 (k : Nat) : Does P X 143 z7y (z7z k) z80 :=
  does_of (body := bodyOf Go.Proofs.Tryz.f143) (pl := z7u) (k := k) (cu := z7x k) (tys := [[0]]) (z7w k) ctx mixed Go.Proofs.Tryz.func143 (by kernel_rfl) (by kernel_rfl) (cutOK_of (l := []) (by kernel_rfl) trivial) fun x R h => by
    simp only [z7z, I_NormalTarget_1, optK_bind, optK_bif, optK_pure, optK_none, optK_oc, optK_guardT, optK_map] at h
    refine hold_of h ?_
    kernel_rfl
def z82 (k : Nat) : Entry D := entS z7y (z7z k) z80
theorem z83 (k : Nat) : EntryOK X 143 (z82 k) := (z81 k).en rfl
def z84 : Plan := ⟨[(0, [(0, some 9), (1, none)]), (1, [(0, some 9), (1, none), (7, none), (8, none)]), (2, [(0, some 9), (1, none), (7, none), (8, none), (9, none)]), (3, [(0, some 9), (1, none), (5, none), (7, none), (8, none)]), (4, [(0, some 9), (1, none), (5, none), (7, none), (8, none), (16, none)]), (5, [(4, none)]), (6, [(0, some 9), (1, none), (7, none), (8, none)]), (7, [(4, none)])],
  [(0, []), (1, [(0, some 9), (1, none), (7, none), (8, none)])],
  [(9, ([(0, some 9), (1, none), (7, none), (8, none)], [])), (16, ([(5, none)], [(0, some 9), (1, none), (7, none), (8, none)]))]⟩
def z85 (k : Nat) : Calls' D := ⟨[(143, z82 k)], [], [], [], []⟩
theorem z86 (k : Nat) : CallsOK X (z85 k) := .cons (z83 k) (.nil cod)
def z87 (x : (List (List UInt8)) × Int × Int × Unit) (o : Oc (Unit) (Int)) (Q : Ex → VSt D → Prop) (R : VR D → Prop) : Prop := ocP o (fun v0 => Q .normal (mkSt ⟨[], []⟩ [])) (fun w0 => R (.p (.c (.int .i64 w0))))
def z88 (k : Nat) : Cut D := cutS ⟨[(0, .hole), (1, .clo 143 []), (7, .hole), (8, .hole)], []⟩ [.kl 9, .ki .i64, .ki .i64] (fun (x : (List (List UInt8)) × Int × Int × Unit) => slices_IndexFunc_string_at_I_NormalTarget_1_b0 k k x.1 x.2.1 x.2.2.1) z87
def z89 (k : Nat) : Cuts D := ⟨[], []⟩
theorem z8a (k : Nat) : CutFor X z84 k Go.Proofs.Tryz.f216.results.toList (z88 k) (sub (bodyOf Go.Proofs.Tryz.f216) [1, 0, 1]) :=
  loopCut_s (X := X) (sg := [.kl 9, .ki .i64, .ki .i64]) (cu := z89 k) (cl := z85 k) (tys := [[0]]) (id := 0) (c := sub (bodyOf Go.Proofs.Tryz.f216) [1, 0, 1, 0, 0]) (f := fun n => fun (x : (List (List UInt8)) × Int × Int × Unit) => slices_IndexFunc_string_at_I_NormalTarget_1_b0 k n x.1 x.2.1 x.2.2.1) (z86 k) (cutOK_of (l := []) (by kernel_rfl) trivial) (fun _ => rfl) (fun n x Q R h => by
    simp only [slices_IndexFunc_string_at_I_NormalTarget_1_b0, optK_bind, optK_bif, optK_pure, optK_none, optK_oc, optK_guardT, optK_map] at h
    refine hold_of h ?_
    kernel_rfl) (by kernel_rfl)
def z8b (k : Nat) : Cuts D := ⟨[(0, some (z88 k))], []⟩
def z8c : List Ar := [.c (.kl 9), .f 143 []]
def z8d (k : Nat) (x : TupA D z8c) : Option (Int) := slices_IndexFunc_string_at_I_NormalTarget_1 k x.1
def z8e (r : Int) : VR D := .p (.c (.int .i64 r))
theorem z8f (k : Nat) : Does P X 216 z8c (z8d k) z8e :=
  does_of (body := bodyOf Go.Proofs.Tryz.f216) (pl := z84) (k := k) (cu := z8b k) (tys := [[0]]) (z86 k) ctx mixed Go.Proofs.Tryz.func216 (by kernel_rfl) (by kernel_rfl) (cutOK_of (l := [(z88 k, sub (bodyOf Go.Proofs.Tryz.f216) [1, 0, 1])]) (by kernel_rfl) ⟨z8a k, trivial⟩) fun x R h => by
    simp only [z8d, slices_IndexFunc_string_at_I_NormalTarget_1, optK_bind, optK_bif, optK_pure, optK_none, optK_oc, optK_guardT, optK_map] at h
    refine hold_of h ?_
    kernel_rfl
def z8g (k : Nat) : Entry D := entS z8c (z8d k) z8e
theorem z8h (k : Nat) : EntryOK X 216 (z8g k) := (z8f k).en rfl
def z8i : Plan := ⟨[(0, [(0, some 9), (1, none)]), (1, [(0, some 9), (1, none), (5, none)]), (2, [(0, some 9), (1, none), (5, none), (12, none)]), (3, [(4, some 9)]), (4, [(0, some 9), (1, none), (5, none), (6, none)]), (5, [(0, some 9), (1, none), (5, none), (6, none), (19, none)]), (6, [(0, some 9), (1, none), (5, none), (6, none)]), (7, [(0, some 9), (1, none), (5, none), (6, none), (7, none)]), (8, [(0, some 9), (1, none), (5, none), (6, none), (7, none), (29, none)]), (9, [(0, some 9), (1, none), (5, none), (6, none)]), (10, [(0, some 9), (1, none), (5, none), (6, none)]), (11, [(0, some 9), (5, none)]), (12, [(4, some 9)])],
  [(0, [(0, some 9), (5, none)]), (1, [(0, some 9), (1, none), (5, none), (6, none)])],
  [(12, ([(0, some 9)], [(0, some 9), (1, none), (5, none)])), (19, ([(0, some 9), (1, none), (5, none), (6, none)], [(0, some 9), (5, none)])), (29, ([(0, some 9), (1, none), (5, none), (6, none), (7, none)], [(0, some 9), (1, none), (5, none), (6, none)]))]⟩
def z8j (k : Nat) : Calls' D := ⟨[(216, z8g k), (143, z82 k)], [], [], [], []⟩
theorem z8k (k : Nat) : CallsOK X (z8j k) := .cons (z8h k) (.cons (z83 k) (.nil cod))
def z8l (x : Int × Int × (List UInt8) × Bool × (List (List UInt8)) × Unit) (o : Int × (List (List UInt8))) (Q : Ex → VSt D → Prop) (R : VR D → Prop) : Prop := Q .normal (mkSt ⟨[(0, .ref 500000), (1, .clo 143 []), (5, .hole), (6, .hole)], [(500000, .row)]⟩ [.int .i64 o.1, .int .i64 x.2.1, .sl 9 o.2])
def z8m (k : Nat) : Cut D := cutS ⟨[(0, .ref 500000), (1, .clo 143 []), (5, .hole), (6, .hole), (7, .hole), (29, .hole)], [(500000, .row)]⟩ [.ki .i64, .ki .i64, .ks, .kb, .kl 9] (fun (x : Int × Int × (List UInt8) × Bool × (List (List UInt8)) × Unit) => slices_DeleteFunc_string_at_I_NormalTarget_1_c29 k x.1 x.2.1 x.2.2.1 x.2.2.2.1 x.2.2.2.2.1) z8l
def z8n (k : Nat) : Cuts D := ⟨[], []⟩
theorem z8o (k : Nat) : CutFor X z8i k Go.Proofs.Tryz.f142.results.toList (z8m k) (sub (bodyOf Go.Proofs.Tryz.f142) [1, 1, 1, 0, 1, 0, 0, 1, 0, 0, 1, 1]) :=
  joinCut_s (X := X) (sg := [.ki .i64, .ki .i64, .ks, .kb, .kl 9]) (cu := z8n k) (cl := z8j k) (tys := [[9]]) (z8k k) (cutOK_of (l := []) (by kernel_rfl) trivial) fun x Q R h => by
    simp only [slices_DeleteFunc_string_at_I_NormalTarget_1_c29, optK_bind, optK_bif, optK_pure, optK_none, optK_oc, optK_guardT, optK_map] at h
    refine hold_of h ?_
    kernel_rfl
def z8p (x : Int × Int × (List (List UInt8)) × Unit) (o : Int × (List (List UInt8))) (Q : Ex → VSt D → Prop) (R : VR D → Prop) : Prop := Q .normal (mkSt ⟨[(0, .ref 500000), (1, .clo 143 []), (5, .hole), (6, .hole)], [(500000, .row)]⟩ [.int .i64 o.1, .int .i64 x.2.1, .sl 9 o.2])
def z8q (k : Nat) : Cut D := cutS ⟨[(0, .ref 500000), (1, .clo 143 []), (5, .hole), (6, .hole)], [(500000, .row)]⟩ [.ki .i64, .ki .i64, .kl 9] (fun (x : Int × Int × (List (List UInt8)) × Unit) => slices_DeleteFunc_string_at_I_NormalTarget_1_b1 k x.1 x.2.1 x.2.2.1) z8p
def z8r (k : Nat) : Cuts D := ⟨[], [(29, some (z8m k))]⟩
theorem z8s (k : Nat) : CutFor X z8i k Go.Proofs.Tryz.f142.results.toList (z8q k) (sub (bodyOf Go.Proofs.Tryz.f142) [1, 1, 1, 0, 1, 0, 0, 1, 0]) :=
  joinCut_s (X := X) (sg := [.ki .i64, .ki .i64, .kl 9]) (cu := z8r k) (cl := z8j k) (tys := [[9]]) (z8k k) (cutOK_of (l := [(z8m k, sub (bodyOf Go.Proofs.Tryz.f142) [1, 1, 1, 0, 1, 0, 0, 1, 0, 0, 1, 1])]) (by kernel_rfl) ⟨z8o k, trivial⟩) fun x Q R h => by
    simp only [slices_DeleteFunc_string_at_I_NormalTarget_1_b1, optK_bind, optK_bif, optK_pure, optK_none, optK_oc, optK_guardT, optK_map] at h
    refine hold_of h ?_
    kernel_rfl
def z8t (x : Int × Int × (List (List UInt8)) × Unit) (o : Int × (List (List UInt8))) (Q : Ex → VSt D → Prop) (R : VR D → Prop) : Prop := Q .normal (mkSt ⟨[(0, .ref 500000), (5, .hole)], [(500000, .row)]⟩ [.int .i64 o.1, .sl 9 o.2])
def z8u (k : Nat) : Cut D := cutS ⟨[(0, .ref 500000), (1, .clo 143 []), (5, .hole), (6, .hole)], [(500000, .row)]⟩ [.ki .i64, .ki .i64, .kl 9] (fun (x : Int × Int × (List (List UInt8)) × Unit) => slices_DeleteFunc_string_at_I_NormalTarget_1_b0 k k x.1 x.2.1 x.2.2.1) z8t
def z8v (k : Nat) : Cuts D := ⟨[(1, some (z8q k))], []⟩
theorem z8w (k : Nat) : CutFor X z8i k Go.Proofs.Tryz.f142.results.toList (z8u k) (sub (bodyOf Go.Proofs.Tryz.f142) [1, 1, 1, 0, 1]) :=
  loopCut_s (X := X) (sg := [.ki .i64, .ki .i64, .kl 9]) (cu := z8v k) (cl := z8j k) (tys := [[9]]) (id := 0) (c := sub (bodyOf Go.Proofs.Tryz.f142) [1, 1, 1, 0, 1, 0, 0]) (f := fun n => fun (x : Int × Int × (List (List UInt8)) × Unit) => slices_DeleteFunc_string_at_I_NormalTarget_1_b0 k n x.1 x.2.1 x.2.2.1) (z8k k) (cutOK_of (l := [(z8q k, sub (bodyOf Go.Proofs.Tryz.f142) [1, 1, 1, 0, 1, 0, 0, 1, 0])]) (by kernel_rfl) ⟨z8s k, trivial⟩) (fun _ => rfl) (fun n x Q R h => by
    simp only [slices_DeleteFunc_string_at_I_NormalTarget_1_b0, optK_bind, optK_bif, optK_pure, optK_none, optK_oc, optK_guardT, optK_map] at h
    refine hold_of h ?_
    kernel_rfl) (by kernel_rfl)
def z8x (k : Nat) : Cuts D := ⟨[(0, some (z8u k))], []⟩
def z8y : List Ar := [.f 143 []]
def z8z (k : Nat) (l : List (D 9)) (x : TupA D z8y) : Option ((List (List UInt8))) := slices_DeleteFunc_string_at_I_NormalTarget_1 k l
def z90 (r : (List (List UInt8))) : VR D := .p (.c (.sl 9 r))
theorem z91 (k : Nat) : DoesT P X 142 9 z8y (z8z k) z90 (fun _ => none) :=
  doesT_of (body := bodyOf Go.Proofs.Tryz.f142) (pl := z8i) (k := k) (cu := z8x k) (tys := [[9]]) (z8k k) ctx mixed Go.Proofs.Tryz.func142 (by kernel_rfl) (by kernel_rfl) (cutOK_of (l := [(z8u k, sub (bodyOf Go.Proofs.Tryz.f142) [1, 1, 1, 0, 1])]) (by kernel_rfl) ⟨z8w k, trivial⟩) fun l x R h => by
    simp only [z8z, slices_DeleteFunc_string_at_I_NormalTarget_1, optK_bind, optK_bif, optK_pure, optK_none, optK_oc, optK_guardT, optK_map] at h
    refine hold_of h ?_
    kernel_rfl
def z92 (k : Nat) : EntryT D := entT 9 z8y (z8z k) z90 (fun _ => none)
theorem z93 (k : Nat) : EntryTOK X 142 (z92 k) := (z91 k).en rfl
def z94 (k : Nat) (l : List (D 9)) (x : TupA D []) : Option (List (D 9)) := slices_Sort_string k l
def z95 (r : List (D 9)) : VR D := .tup []
def z96 (r : List (D 9)) : Option (List (D 9)) := some r
theorem z97 (k : Nat) : DoesT P X 144 9 [] (z94 k) z95 z96 := does_sort (P := P) (D := D) (X := X) (el := 9) ⟨Go.Proofs.Tryz.f144, Go.Proofs.Tryz.func144, by kernel_rfl, by kernel_rfl⟩ (fun (s : List UInt8) => s) (fun (l : List (List UInt8)) => sortO l) (fun _ => rfl) (by kernel_rfl) sort_hf (fun p cap w => Go.Proofs.Tryz.slices_Sort_string_none p cap w) (fun blk off cap ss w h1 h2 h3 => Go.Proofs.Tryz.slices_Sort_string blk off cap ss w h1 h2 h3)
def z98 (k : Nat) : EntryT D := entT 9 [] (z94 k) z95 z96
theorem z99 (k : Nat) : EntryTOK X 144 (z98 k) := (z97 k).en rfl
def z9a : Plan := ⟨[(0, [(0, none)]), (1, [(4, none), (5, none)]), (2, [(4, none), (5, none), (7, none)]), (3, [(4, none), (5, none), (7, none), (8, none)]), (4, [(4, none), (5, none), (37, none)]), (5, [(2, none), (3, none)]), (6, [(5, none), (9, none)]), (7, [(9, none), (10, some 9)]), (8, [(9, none), (10, some 9)]), (9, [(9, none), (10, some 9), (51, none)]), (10, [(9, none)]), (11, [(2, none), (3, none)])],
  [],
  [(37, ([], [(4, none), (5, none)])), (51, ([(9, none), (10, some 9)], [(9, none)]))]⟩
def z9b (k : Nat) : Calls' D := ⟨[(49, z4s k), (137, z5y k), (138, z6i k), (141, z6o k), (140, z7m k), (139, z7s k)], [], [], [], [(142, z92 k), (144, z98 k)]⟩
theorem z9c (k : Nat) : CallsOK X (z9b k) := .cons (z4t k) (.cons (z5z k) (.cons (z6j k) (.cons (z6p k) (.cons (z7n k) (.cons (z7t k) (.consT (z93 k) (.consT (z99 k) (.nil cod))))))))
def z9d (x : (List UInt8) × Bool × (List (List UInt8)) × Unit) (o : (List UInt8)) (Q : Ex → VSt D → Prop) (R : VR D → Prop) : Prop := Q .normal (mkSt ⟨[(9, .hole)], []⟩ [.str o])
def z9e (k : Nat) : Cut D := cutS ⟨[(9, .hole), (10, .ref 500010), (51, .hole)], [(500010, .row)]⟩ [.ks, .kb, .kl 9] (fun (x : (List UInt8) × Bool × (List (List UInt8)) × Unit) => I_NormalTarget_c51 k x.1 x.2.1 x.2.2.1) z9d
def z9f (k : Nat) : Cuts D := ⟨[], []⟩
theorem z9g (k : Nat) : CutFor X z9a k Go.Proofs.Tryz.f46.results.toList (z9e k) (sub (bodyOf Go.Proofs.Tryz.f46) [1, 1, 1, 1, 1, 1, 1, 1, 0, 1]) :=
  joinCut_s (X := X) (sg := [.ks, .kb, .kl 9]) (cu := z9f k) (cl := z9b k) (tys := [[0], [0]]) (z9c k) (cutOK_of (l := []) (by kernel_rfl) trivial) fun x Q R h => by
    simp only [I_NormalTarget_c51, optK_bind, optK_bif, optK_pure, optK_none, optK_oc, optK_guardT, optK_map] at h
    refine hold_of h ?_
    kernel_rfl
def z9h (k : Nat) : Cuts D := ⟨[], [(51, some (z9e k))]⟩
def z9i : List Ar := [.c (.ks)]
def z9j (k : Nat) (x : TupA D z9i) : Option ((List UInt8) × Bool) := I_NormalTarget k x.1
def z9k (r : (List UInt8) × Bool) : VR D := .tup [.c (.str r.1), .c (.bool r.2)]
theorem z9l (k : Nat) : Does P X 46 z9i (z9j k) z9k :=
  does_of (body := bodyOf Go.Proofs.Tryz.f46) (pl := z9a) (k := k) (cu := z9h k) (tys := [[0], [0]]) (z9c k) ctx mixed Go.Proofs.Tryz.func46 (by kernel_rfl) (by kernel_rfl) (cutOK_of (l := [(z9e k, sub (bodyOf Go.Proofs.Tryz.f46) [1, 1, 1, 1, 1, 1, 1, 1, 0, 1])]) (by kernel_rfl) ⟨z9g k, trivial⟩) fun x R h => by
    simp only [z9j, I_NormalTarget, optK_bind, optK_bif, optK_pure, optK_none, optK_oc, optK_guardT, optK_map] at h
    refine hold_of h ?_
    kernel_rfl
def z9m (k : Nat) : Entry D := entS z9i (z9j k) z9k
theorem z9n (k : Nat) : EntryOK X 46 (z9m k) := (z9l k).en rfl
def z9o : Plan := ⟨[(0, [(0, none)]), (1, [(0, none), (5, none)]), (2, [(0, none), (5, none), (9, none)]), (3, [(0, none), (5, none)]), (4, [(0, none), (5, none), (15, none)]), (5, [(2, none), (3, none), (4, none)]), (6, [(2, none), (3, none), (4, none)])],
  [(0, [(0, none)]), (1, [(0, none), (5, none)])],
  [(9, ([(0, none), (5, none)], [(0, none)])), (15, ([(0, none), (5, none)], [(0, none), (5, none)]))]⟩
def z9p (k : Nat) : Calls' D := ⟨[], [], [], [], []⟩
theorem z9q (k : Nat) : CallsOK X (z9p k) := .nil cod
def z9r (x : (List UInt8) × Int × Unit) (o : Oc (Unit) ((List UInt8) × (List UInt8) × Bool)) (Q : Ex → VSt D → Prop) (R : VR D → Prop) : Prop := ocP o (fun v0 => Q .normal (mkSt ⟨[(0, .hole)], []⟩ [.str x.1])) (fun w0 => R (.tup [.c (.str w0.1), .c (.str w0.2.1), .c (.bool w0.2.2)]))
def z9s (k : Nat) : Cut D := cutS ⟨[(0, .hole), (5, .hole)], []⟩ [.ks, .ki .i64] (fun (x : (List UInt8) × Int × Unit) => S_SplitTarget_b0 k k x.1 x.2.1) z9r
def z9t (k : Nat) : Cuts D := ⟨[], []⟩
theorem z9u (k : Nat) : CutFor X z9o k Go.Proofs.Tryz.f145.results.toList (z9s k) (sub (bodyOf Go.Proofs.Tryz.f145) [1, 0, 1]) :=
  loopCut_s (X := X) (sg := [.ks, .ki .i64]) (cu := z9t k) (cl := z9p k) (tys := [[0], [0], [0]]) (id := 0) (c := sub (bodyOf Go.Proofs.Tryz.f145) [1, 0, 1, 0, 0]) (f := fun n => fun (x : (List UInt8) × Int × Unit) => S_SplitTarget_b0 k n x.1 x.2.1) (z9q k) (cutOK_of (l := []) (by kernel_rfl) trivial) (fun _ => rfl) (fun n x Q R h => by
    simp only [S_SplitTarget_b0, optK_bind, optK_bif, optK_pure, optK_none, optK_oc, optK_guardT, optK_map] at h
    refine hold_of h ?_
    kernel_rfl) (by kernel_rfl)
def z9v (k : Nat) : Cuts D := ⟨[(0, some (z9s k))], []⟩
def z9w : List Ar := [.c (.ks)]
def z9x (k : Nat) (x : TupA D z9w) : Option ((List UInt8) × (List UInt8) × Bool) := S_SplitTarget k x.1
def z9y (r : (List UInt8) × (List UInt8) × Bool) : VR D := .tup [.c (.str r.1), .c (.str r.2.1), .c (.bool r.2.2)]
theorem z9z (k : Nat) : Does P X 145 z9w (z9x k) z9y :=
  does_of (body := bodyOf Go.Proofs.Tryz.f145) (pl := z9o) (k := k) (cu := z9v k) (tys := [[0], [0], [0]]) (z9q k) ctx mixed Go.Proofs.Tryz.func145 (by kernel_rfl) (by kernel_rfl) (cutOK_of (l := [(z9s k, sub (bodyOf Go.Proofs.Tryz.f145) [1, 0, 1])]) (by kernel_rfl) ⟨z9u k, trivial⟩) fun x R h => by
    simp only [z9x, S_SplitTarget, optK_bind, optK_bif, optK_pure, optK_none, optK_oc, optK_guardT, optK_map] at h
    refine hold_of h ?_
    kernel_rfl
def za0 (k : Nat) : Entry D := entS z9w (z9x k) z9y
theorem za1 (k : Nat) : EntryOK X 145 (za0 k) := (z9z k).en rfl
def za2 : Plan := ⟨[(0, [(0, none), (1, none), (2, none)]), (1, [(6, none)])],
  [],
  []⟩
def za3 (k : Nat) : Calls' D := ⟨[], [], [], [], []⟩
theorem za4 (k : Nat) : CallsOK X (za3 k) := .nil cod
def za5 (k : Nat) : Cuts D := ⟨[], []⟩
def za6 : List Ar := [.c (.ki .i64), .c (.ki .i64), .c (.ki .i64)]
def za7 (k : Nat) (x : TupA D za6) : Option (Bool) := S_l1In k x.1 x.2.1 x.2.2.1
def za8 (r : Bool) : VR D := .p (.c (.bool r))
theorem za9 (k : Nat) : Does P X 98 za6 (za7 k) za8 :=
  does_of (body := bodyOf Go.Proofs.Tryz.f98) (pl := za2) (k := k) (cu := za5 k) (tys := [[0]]) (za4 k) ctx mixed Go.Proofs.Tryz.func98 (by kernel_rfl) (by kernel_rfl) (cutOK_of (l := []) (by kernel_rfl) trivial) fun x R h => by
    simp only [za7, S_l1In, optK_bind, optK_bif, optK_pure, optK_none, optK_oc, optK_guardT, optK_map] at h
    refine hold_of h ?_
    kernel_rfl
def zaa (k : Nat) : Entry D := entS za6 (za7 k) za8
theorem zab (k : Nat) : EntryOK X 98 (zaa k) := (za9 k).en rfl
def zac : Plan := ⟨[(0, [(0, none)]), (1, [(0, none), (3, none)]), (2, [(2, none)]), (3, [(0, none), (10, none)]), (4, [(2, none)]), (5, [(0, none), (18, none)]), (6, [(2, none)]), (7, [(2, none)])],
  [(0, [])],
  [(3, ([(0, none)], [(0, none)])), (10, ([(0, none)], [(0, none)])), (18, ([(0, none)], []))]⟩
def zad (k : Nat) : Calls' D := ⟨[(98, zaa k)], [], [], [], []⟩
theorem zae (k : Nat) : CallsOK X (zad k) := .cons (zab k) (.nil cod)
def zaf (k : Nat) : Cuts D := ⟨[], []⟩
def zag : List Ar := [.c (.ki .u8)]
def zah (k : Nat) (x : TupA D zag) : Option (Int) := S_l12Hex k x.1
def zai (r : Int) : VR D := .p (.c (.int .i64 r))
theorem zaj (k : Nat) : Does P X 219 zag (zah k) zai :=
  does_of (body := bodyOf Go.Proofs.Tryz.f219) (pl := zac) (k := k) (cu := zaf k) (tys := [[0]]) (zae k) ctx mixed Go.Proofs.Tryz.func219 (by kernel_rfl) (by kernel_rfl) (cutOK_of (l := []) (by kernel_rfl) trivial) fun x R h => by
    simp only [zah, S_l12Hex, optK_bind, optK_bif, optK_pure, optK_none, optK_oc, optK_guardT, optK_map] at h
    refine hold_of h ?_
    kernel_rfl
def zak (k : Nat) : Entry D := entS zag (zah k) zai
theorem zal (k : Nat) : EntryOK X 219 (zak k) := (zaj k).en rfl
def zam : Plan := ⟨[(0, [(0, none)]), (1, [(2, none)])],
  [],
  []⟩
def zan (k : Nat) : Calls' D := ⟨[(98, zaa k)], [], [], [], []⟩
theorem zao (k : Nat) : CallsOK X (zan k) := .cons (zab k) (.nil cod)
def zap (k : Nat) : Cuts D := ⟨[], []⟩
def zaq : List Ar := [.c (.ki .u8)]
def zar (k : Nat) (x : TupA D zaq) : Option (Bool) := S_l4Letter k x.1
def zas (r : Bool) : VR D := .p (.c (.bool r))
theorem zat (k : Nat) : Does P X 220 zaq (zar k) zas :=
  does_of (body := bodyOf Go.Proofs.Tryz.f220) (pl := zam) (k := k) (cu := zap k) (tys := [[0]]) (zao k) ctx mixed Go.Proofs.Tryz.func220 (by kernel_rfl) (by kernel_rfl) (cutOK_of (l := []) (by kernel_rfl) trivial) fun x R h => by
    simp only [zar, S_l4Letter, optK_bind, optK_bif, optK_pure, optK_none, optK_oc, optK_guardT, optK_map] at h
    refine hold_of h ?_
    kernel_rfl
def zau (k : Nat) : Entry D := entS zaq (zar k) zas
theorem zav (k : Nat) : EntryOK X 220 (zau k) := (zat k).en rfl
def zaw : Plan := ⟨[(0, [(0, none)]), (1, [(0, none), (4, some 5)]), (2, [(0, none), (4, some 5), (5, none)]), (3, [(0, none), (4, some 5), (5, none), (11, none)]), (4, [(0, none), (4, some 5), (5, none)]), (5, [(0, none), (4, some 5), (5, none), (17, none)]), (6, [(0, none), (4, some 5), (5, none)]), (7, [(0, none), (4, some 5), (5, none), (44, none)]), (8, [(2, none), (3, none)]), (9, [(0, none), (4, some 5), (5, none), (6, none)]), (10, [(0, none), (4, some 5), (5, none), (6, none), (75, none)]), (11, [(0, none), (4, some 5), (5, none)]), (12, [(0, none), (4, some 5), (5, none)]), (13, [(0, none), (4, some 5), (5, none)]), (14, [(2, none), (3, none)])],
  [(0, [(4, some 5)]), (1, [(0, none), (4, some 5), (5, none)])],
  [(11, ([(0, none), (4, some 5), (5, none)], [(4, some 5)])), (17, ([(0, none), (4, some 5), (5, none)], [(0, none), (4, some 5), (5, none)])), (44, ([], [(0, none), (4, some 5), (5, none)])), (75, ([(0, none), (4, some 5), (5, none), (6, none)], [(0, none), (4, some 5), (5, none), (6, none)]))]⟩
def zax (k : Nat) : Calls' D := ⟨[(219, zak k), (220, zau k)], [], [], [], []⟩
theorem zay (k : Nat) : CallsOK X (zax k) := .cons (zal k) (.cons (zav k) (.nil cod))
def zaz (x : (List UInt8) × Int × Int × Bool × (List Int) × Unit) (o : (List Int)) (Q : Ex → VSt D → Prop) (R : VR D → Prop) : Prop := Q .normal (mkSt ⟨[(0, .hole), (4, .ref 500004), (5, .hole)], [(500004, .row)]⟩ [.str x.1, .int .i64 x.2.1, .sl 5 o])
def zb0 (k : Nat) : Cut D := cutS ⟨[(0, .hole), (4, .ref 500004), (5, .hole), (6, .hole), (75, .hole)], [(500004, .row)]⟩ [.ks, .ki .i64, .ki .u8, .kb, .kl 5] (fun (x : (List UInt8) × Int × Int × Bool × (List Int) × Unit) => S_l12Plain_c75 k x.1 x.2.1 x.2.2.1 x.2.2.2.1 x.2.2.2.2.1) zaz
def zb1 (k : Nat) : Cuts D := ⟨[], []⟩
theorem zb2 (k : Nat) : CutFor X zaw k Go.Proofs.Tryz.f146.results.toList (zb0 k) (sub (bodyOf Go.Proofs.Tryz.f146) [1, 1, 0, 1, 0, 0, 1, 0, 0, 1, 1, 1, 0, 1]) :=
  joinCut_s (X := X) (sg := [.ks, .ki .i64, .ki .u8, .kb, .kl 5]) (cu := zb1 k) (cl := zax k) (tys := [[0], [0]]) (zay k) (cutOK_of (l := []) (by kernel_rfl) trivial) fun x Q R h => by
    simp only [S_l12Plain_c75, optK_bind, optK_bif, optK_pure, optK_none, optK_oc, optK_guardT, optK_map] at h
    refine hold_of h ?_
    kernel_rfl
def zb3 (x : (List UInt8) × Int × (List Int) × Unit) (o : Oc (Int × (List Int)) ((List UInt8) × Bool)) (Q : Ex → VSt D → Prop) (R : VR D → Prop) : Prop := ocP o (fun v0 => Q .normal (mkSt ⟨[(0, .hole), (4, .ref 500004), (5, .hole)], [(500004, .row)]⟩ [.str x.1, .int .i64 v0.1, .sl 5 v0.2])) (fun w0 => R (.tup [.c (.str w0.1), .c (.bool w0.2)]))
def zb4 (k : Nat) : Cut D := cutS ⟨[(0, .hole), (4, .ref 500004), (5, .hole)], [(500004, .row)]⟩ [.ks, .ki .i64, .kl 5] (fun (x : (List UInt8) × Int × (List Int) × Unit) => S_l12Plain_b1 k x.1 x.2.1 x.2.2.1) zb3
def zb5 (k : Nat) : Cuts D := ⟨[], [(75, some (zb0 k))]⟩
theorem zb6 (k : Nat) : CutFor X zaw k Go.Proofs.Tryz.f146.results.toList (zb4 k) (sub (bodyOf Go.Proofs.Tryz.f146) [1, 1, 0, 1, 0, 0, 1, 0]) :=
  joinCut_s (X := X) (sg := [.ks, .ki .i64, .kl 5]) (cu := zb5 k) (cl := zax k) (tys := [[0], [0]]) (zay k) (cutOK_of (l := [(zb0 k, sub (bodyOf Go.Proofs.Tryz.f146) [1, 1, 0, 1, 0, 0, 1, 0, 0, 1, 1, 1, 0, 1])]) (by kernel_rfl) ⟨zb2 k, trivial⟩) fun x Q R h => by
    simp only [S_l12Plain_b1, optK_bind, optK_bif, optK_pure, optK_none, optK_oc, optK_guardT, optK_map] at h
    refine hold_of h ?_
    kernel_rfl
def zb7 (x : (List UInt8) × Int × (List Int) × Unit) (o : Oc ((List Int)) ((List UInt8) × Bool)) (Q : Ex → VSt D → Prop) (R : VR D → Prop) : Prop := ocP o (fun v0 => Q .normal (mkSt ⟨[(4, .ref 500004)], [(500004, .row)]⟩ [.sl 5 v0])) (fun w0 => R (.tup [.c (.str w0.1), .c (.bool w0.2)]))
def zb8 (k : Nat) : Cut D := cutS ⟨[(0, .hole), (4, .ref 500004), (5, .hole)], [(500004, .row)]⟩ [.ks, .ki .i64, .kl 5] (fun (x : (List UInt8) × Int × (List Int) × Unit) => S_l12Plain_b0 k k x.1 x.2.1 x.2.2.1) zb7
def zb9 (k : Nat) : Cuts D := ⟨[(1, some (zb4 k))], []⟩
theorem zba (k : Nat) : CutFor X zaw k Go.Proofs.Tryz.f146.results.toList (zb8 k) (sub (bodyOf Go.Proofs.Tryz.f146) [1, 1, 0, 1]) :=
  loopCut_s (X := X) (sg := [.ks, .ki .i64, .kl 5]) (cu := zb9 k) (cl := zax k) (tys := [[0], [0]]) (id := 0) (c := sub (bodyOf Go.Proofs.Tryz.f146) [1, 1, 0, 1, 0, 0]) (f := fun n => fun (x : (List UInt8) × Int × (List Int) × Unit) => S_l12Plain_b0 k n x.1 x.2.1 x.2.2.1) (zay k) (cutOK_of (l := [(zb4 k, sub (bodyOf Go.Proofs.Tryz.f146) [1, 1, 0, 1, 0, 0, 1, 0])]) (by kernel_rfl) ⟨zb6 k, trivial⟩) (fun _ => rfl) (fun n x Q R h => by
    simp only [S_l12Plain_b0, optK_bind, optK_bif, optK_pure, optK_none, optK_oc, optK_guardT, optK_map] at h
    refine hold_of h ?_
    kernel_rfl) (by kernel_rfl)
def zbb (k : Nat) : Cuts D := ⟨[(0, some (zb8 k))], []⟩
def zbc : List Ar := [.c (.ks)]
def zbd (k : Nat) (x : TupA D zbc) : Option ((List UInt8) × Bool) := S_l12Plain k x.1
def zbe (r : (List UInt8) × Bool) : VR D := .tup [.c (.str r.1), .c (.bool r.2)]
theorem zbf (k : Nat) : Does P X 146 zbc (zbd k) zbe :=
  does_of (body := bodyOf Go.Proofs.Tryz.f146) (pl := zaw) (k := k) (cu := zbb k) (tys := [[0], [0]]) (zay k) ctx mixed Go.Proofs.Tryz.func146 (by kernel_rfl) (by kernel_rfl) (cutOK_of (l := [(zb8 k, sub (bodyOf Go.Proofs.Tryz.f146) [1, 1, 0, 1])]) (by kernel_rfl) ⟨zba k, trivial⟩) fun x R h => by
    simp only [zbd, S_l12Plain, optK_bind, optK_bif, optK_pure, optK_none, optK_oc, optK_guardT, optK_map] at h
    refine hold_of h ?_
    kernel_rfl
def zbg (k : Nat) : Entry D := entS zbc (zbd k) zbe
theorem zbh (k : Nat) : EntryOK X 146 (zbg k) := (zbf k).en rfl
def zbi : Plan := ⟨[(0, [(0, none), (1, none)]), (1, [(0, none), (1, none), (5, some 9)]), (2, [(0, none), (1, none), (5, some 9), (6, none)]), (3, [(0, none), (1, none), (5, some 9), (6, none), (7, none)]), (4, [(0, none), (1, none), (5, some 9), (6, none), (7, none), (12, none)]), (5, [(0, none), (1, none), (5, some 9), (6, none), (7, none)]), (6, [(0, none), (1, none), (5, some 9), (6, none), (7, none), (19, none)]), (7, [(0, none), (1, none), (5, some 9), (7, none)]), (8, [(0, none), (1, none), (5, some 9), (6, none), (7, none)]), (9, [(4, some 9)])],
  [(0, [(0, none), (5, some 9), (6, none)]), (1, [(0, none), (1, none), (5, some 9), (6, none), (7, none)])],
  [(12, ([(0, none), (1, none), (5, some 9), (6, none), (7, none)], [(0, none), (5, some 9), (6, none)])), (19, ([(0, none), (1, none), (5, some 9), (6, none), (7, none)], [(0, none), (1, none), (5, some 9), (6, none), (7, none)]))]⟩
def zbj (k : Nat) : Calls' D := ⟨[], [], [], [], []⟩
theorem zbk (k : Nat) : CallsOK X (zbj k) := .nil cod
def zbl (x : (List UInt8) × Int × Int × Int × Bool × (List (List UInt8)) × Unit) (o : Int × (List (List UInt8))) (Q : Ex → VSt D → Prop) (R : VR D → Prop) : Prop := Q .normal (mkSt ⟨[(0, .hole), (1, .hole), (5, .ref 500005), (6, .hole), (7, .hole)], [(500005, .row)]⟩ [.str x.1, .int .u8 x.2.1, .int .i64 o.1, .int .i64 x.2.2.2.1, .sl 9 o.2])
def zbm (k : Nat) : Cut D := cutS ⟨[(0, .hole), (1, .hole), (5, .ref 500005), (6, .hole), (7, .hole), (19, .hole)], [(500005, .row)]⟩ [.ks, .ki .u8, .ki .i64, .ki .i64, .kb, .kl 9] (fun (x : (List UInt8) × Int × Int × Int × Bool × (List (List UInt8)) × Unit) => S_l12Split_c19 k x.1 x.2.1 x.2.2.1 x.2.2.2.1 x.2.2.2.2.1 x.2.2.2.2.2.1) zbl
def zbn (k : Nat) : Cuts D := ⟨[], []⟩
theorem zbo (k : Nat) : CutFor X zbi k Go.Proofs.Tryz.f221.results.toList (zbm k) (sub (bodyOf Go.Proofs.Tryz.f221) [1, 1, 1, 0, 1, 0, 0, 1, 0, 0, 1]) :=
  joinCut_s (X := X) (sg := [.ks, .ki .u8, .ki .i64, .ki .i64, .kb, .kl 9]) (cu := zbn k) (cl := zbj k) (tys := [[9]]) (zbk k) (cutOK_of (l := []) (by kernel_rfl) trivial) fun x Q R h => by
    simp only [S_l12Split_c19, optK_bind, optK_bif, optK_pure, optK_none, optK_oc, optK_guardT, optK_map] at h
    refine hold_of h ?_
    kernel_rfl
def zbp (x : (List UInt8) × Int × Int × Int × (List (List UInt8)) × Unit) (o : Int × (List (List UInt8))) (Q : Ex → VSt D → Prop) (R : VR D → Prop) : Prop := Q .normal (mkSt ⟨[(0, .hole), (1, .hole), (5, .ref 500005), (6, .hole), (7, .hole)], [(500005, .row)]⟩ [.str x.1, .int .u8 x.2.1, .int .i64 o.1, .int .i64 x.2.2.2.1, .sl 9 o.2])
def zbq (k : Nat) : Cut D := cutS ⟨[(0, .hole), (1, .hole), (5, .ref 500005), (6, .hole), (7, .hole)], [(500005, .row)]⟩ [.ks, .ki .u8, .ki .i64, .ki .i64, .kl 9] (fun (x : (List UInt8) × Int × Int × Int × (List (List UInt8)) × Unit) => S_l12Split_b1 k x.1 x.2.1 x.2.2.1 x.2.2.2.1 x.2.2.2.2.1) zbp
def zbr (k : Nat) : Cuts D := ⟨[], [(19, some (zbm k))]⟩
theorem zbs (k : Nat) : CutFor X zbi k Go.Proofs.Tryz.f221.results.toList (zbq k) (sub (bodyOf Go.Proofs.Tryz.f221) [1, 1, 1, 0, 1, 0, 0, 1, 0]) :=
  joinCut_s (X := X) (sg := [.ks, .ki .u8, .ki .i64, .ki .i64, .kl 9]) (cu := zbr k) (cl := zbj k) (tys := [[9]]) (zbk k) (cutOK_of (l := [(zbm k, sub (bodyOf Go.Proofs.Tryz.f221) [1, 1, 1, 0, 1, 0, 0, 1, 0, 0, 1])]) (by kernel_rfl) ⟨zbo k, trivial⟩) fun x Q R h => by
    simp only [S_l12Split_b1, optK_bind, optK_bif, optK_pure, optK_none, optK_oc, optK_guardT, optK_map] at h
    refine hold_of h ?_
    kernel_rfl
def zbt (x : (List UInt8) × Int × Int × Int × (List (List UInt8)) × Unit) (o : Int × (List (List UInt8))) (Q : Ex → VSt D → Prop) (R : VR D → Prop) : Prop := Q .normal (mkSt ⟨[(0, .hole), (5, .ref 500005), (6, .hole)], [(500005, .row)]⟩ [.str x.1, .int .i64 o.1, .sl 9 o.2])
def zbu (k : Nat) : Cut D := cutS ⟨[(0, .hole), (1, .hole), (5, .ref 500005), (6, .hole), (7, .hole)], [(500005, .row)]⟩ [.ks, .ki .u8, .ki .i64, .ki .i64, .kl 9] (fun (x : (List UInt8) × Int × Int × Int × (List (List UInt8)) × Unit) => S_l12Split_b0 k k x.1 x.2.1 x.2.2.1 x.2.2.2.1 x.2.2.2.2.1) zbt
def zbv (k : Nat) : Cuts D := ⟨[(1, some (zbq k))], []⟩
theorem zbw (k : Nat) : CutFor X zbi k Go.Proofs.Tryz.f221.results.toList (zbu k) (sub (bodyOf Go.Proofs.Tryz.f221) [1, 1, 1, 0, 1]) :=
  loopCut_s (X := X) (sg := [.ks, .ki .u8, .ki .i64, .ki .i64, .kl 9]) (cu := zbv k) (cl := zbj k) (tys := [[9]]) (id := 0) (c := sub (bodyOf Go.Proofs.Tryz.f221) [1, 1, 1, 0, 1, 0, 0]) (f := fun n => fun (x : (List UInt8) × Int × Int × Int × (List (List UInt8)) × Unit) => S_l12Split_b0 k n x.1 x.2.1 x.2.2.1 x.2.2.2.1 x.2.2.2.2.1) (zbk k) (cutOK_of (l := [(zbq k, sub (bodyOf Go.Proofs.Tryz.f221) [1, 1, 1, 0, 1, 0, 0, 1, 0])]) (by kernel_rfl) ⟨zbs k, trivial⟩) (fun _ => rfl) (fun n x Q R h => by
    simp only [S_l12Split_b0, optK_bind, optK_bif, optK_pure, optK_none, optK_oc, optK_guardT, optK_map] at h
    refine hold_of h ?_
    kernel_rfl) (by kernel_rfl)
def zbx (k : Nat) : Cuts D := ⟨[(0, some (zbu k))], []⟩
def zby : List Ar := [.c (.ks), .c (.ki .u8)]
def zbz (k : Nat) (x : TupA D zby) : Option ((List (List UInt8))) := S_l12Split k x.1 x.2.1
def zc0 (r : (List (List UInt8))) : VR D := .p (.c (.sl 9 r))
theorem zc1 (k : Nat) : Does P X 221 zby (zbz k) zc0 :=
  does_of (body := bodyOf Go.Proofs.Tryz.f221) (pl := zbi) (k := k) (cu := zbx k) (tys := [[9]]) (zbk k) ctx mixed Go.Proofs.Tryz.func221 (by kernel_rfl) (by kernel_rfl) (cutOK_of (l := [(zbu k, sub (bodyOf Go.Proofs.Tryz.f221) [1, 1, 1, 0, 1])]) (by kernel_rfl) ⟨zbw k, trivial⟩) fun x R h => by
    simp only [zbz, S_l12Split, optK_bind, optK_bif, optK_pure, optK_none, optK_oc, optK_guardT, optK_map] at h
    refine hold_of h ?_
    kernel_rfl
def zc2 (k : Nat) : Entry D := entS zby (zbz k) zc0
theorem zc3 (k : Nat) : EntryOK X 221 (zc2 k) := (zc1 k).en rfl
def zc4 : Plan := ⟨[(0, [(0, none)]), (1, [(3, some 9)]), (2, [(3, some 9), (4, some 9)]), (3, [(3, some 9), (4, some 9), (5, none)]), (4, [(3, some 9), (4, some 9), (5, none), (16, none)]), (5, [(3, some 9), (4, some 9), (5, none)]), (6, [(3, some 9), (4, some 9), (5, none), (6, none)]), (7, [(3, some 9), (4, some 9), (5, none), (6, none), (24, none)]), (8, [(3, some 9), (4, some 9), (5, none), (6, none)]), (9, [(3, some 9), (4, some 9), (5, none), (6, none), (40, none)]), (10, [(3, some 9), (4, some 9), (5, none)]), (11, [(3, some 9), (4, some 9), (5, none), (6, none)]), (12, [(3, some 9), (4, some 9), (5, none), (60, none)]), (13, [(3, some 9), (4, some 9), (5, none)]), (14, [(4, some 9), (7, none)]), (15, [(4, some 9), (7, none), (8, none)]), (16, [(4, some 9), (7, none), (8, none), (67, none)]), (17, [(4, some 9), (7, none), (8, none)]), (18, [(4, some 9), (7, none), (8, none)]), (19, [(2, none)])],
  [(0, [(4, some 9)]), (1, [(3, some 9), (4, some 9), (5, none)]), (2, [(3, some 9), (4, some 9), (5, none), (6, none)]), (3, [(7, none)]), (4, [(4, some 9), (7, none), (8, none)])],
  [(16, ([(3, some 9), (4, some 9), (5, none)], [(4, some 9)])), (24, ([(3, some 9), (4, some 9), (5, none), (6, none)], [(3, some 9), (4, some 9), (5, none), (6, none)])), (40, ([(3, some 9), (4, some 9), (5, none)], [(3, some 9), (4, some 9), (5, none), (6, none)])), (60, ([(3, some 9), (4, some 9), (5, none)], [(3, some 9), (4, some 9), (5, none)])), (67, ([(4, some 9), (7, none), (8, none)], [(7, none)]))]⟩
def zc5 (k : Nat) : Calls' D := ⟨[(221, zc2 k)], [], [], [], []⟩
theorem zc6 (k : Nat) : CallsOK X (zc5 k) := .cons (zc3 k) (.nil cod)
def zc7 (x : Int × Bool × Bool × (List (List UInt8)) × (List (List UInt8)) × Unit) (o : Bool × (List (List UInt8))) (Q : Ex → VSt D → Prop) (R : VR D → Prop) : Prop := Q .normal (mkSt ⟨[(3, .ref 500003), (4, .ref 500004), (5, .hole), (6, .hole)], [(500003, .row), (500004, .row)]⟩ [.int .i64 x.1, .bool o.1, .sl 9 x.2.2.2.1, .sl 9 o.2])
def zc8 (k : Nat) : Cut D := cutS ⟨[(3, .ref 500003), (4, .ref 500004), (5, .hole), (6, .hole), (40, .hole)], [(500003, .row), (500004, .row)]⟩ [.ki .i64, .kb, .kb, .kl 9, .kl 9] (fun (x : Int × Bool × Bool × (List (List UInt8)) × (List (List UInt8)) × Unit) => S_l12Path_c40 k x.1 x.2.1 x.2.2.1 x.2.2.2.1 x.2.2.2.2.1) zc7
def zc9 (k : Nat) : Cuts D := ⟨[], []⟩
theorem zca (k : Nat) : CutFor X zc4 k Go.Proofs.Tryz.f147.results.toList (zc8 k) (sub (bodyOf Go.Proofs.Tryz.f147) [1, 1, 1, 0, 1, 0, 0, 1, 0, 0, 1, 0, 0, 1, 1, 1]) :=
  joinCut_s (X := X) (sg := [.ki .i64, .kb, .kb, .kl 9, .kl 9]) (cu := zc9 k) (cl := zc5 k) (tys := [[0]]) (zc6 k) (cutOK_of (l := []) (by kernel_rfl) trivial) fun x Q R h => by
    simp only [S_l12Path_c40, optK_bind, optK_bif, optK_pure, optK_none, optK_oc, optK_guardT, optK_map] at h
    refine hold_of h ?_
    kernel_rfl
def zcb (x : Int × Bool × Bool × (List (List UInt8)) × (List (List UInt8)) × Unit) (o : Bool × (List (List UInt8))) (Q : Ex → VSt D → Prop) (R : VR D → Prop) : Prop := Q .normal (mkSt ⟨[(3, .ref 500003), (4, .ref 500004), (5, .hole), (6, .hole)], [(500003, .row), (500004, .row)]⟩ [.int .i64 x.1, .bool o.1, .sl 9 x.2.2.2.1, .sl 9 o.2])
def zcc (k : Nat) : Cut D := cutS ⟨[(3, .ref 500003), (4, .ref 500004), (5, .hole), (6, .hole), (24, .hole)], [(500003, .row), (500004, .row)]⟩ [.ki .i64, .kb, .kb, .kl 9, .kl 9] (fun (x : Int × Bool × Bool × (List (List UInt8)) × (List (List UInt8)) × Unit) => S_l12Path_c24 k x.1 x.2.1 x.2.2.1 x.2.2.2.1 x.2.2.2.2.1) zcb
def zcd (k : Nat) : Cuts D := ⟨[], [(40, some (zc8 k))]⟩
theorem zce (k : Nat) : CutFor X zc4 k Go.Proofs.Tryz.f147.results.toList (zcc k) (sub (bodyOf Go.Proofs.Tryz.f147) [1, 1, 1, 0, 1, 0, 0, 1, 0, 0, 1, 0, 0, 1]) :=
  joinCut_s (X := X) (sg := [.ki .i64, .kb, .kb, .kl 9, .kl 9]) (cu := zcd k) (cl := zc5 k) (tys := [[0]]) (zc6 k) (cutOK_of (l := [(zc8 k, sub (bodyOf Go.Proofs.Tryz.f147) [1, 1, 1, 0, 1, 0, 0, 1, 0, 0, 1, 0, 0, 1, 1, 1])]) (by kernel_rfl) ⟨zca k, trivial⟩) fun x Q R h => by
    simp only [S_l12Path_c24, optK_bind, optK_bif, optK_pure, optK_none, optK_oc, optK_guardT, optK_map] at h
    refine hold_of h ?_
    kernel_rfl
def zcf (x : Int × Bool × (List (List UInt8)) × (List (List UInt8)) × Unit) (o : Bool × (List (List UInt8))) (Q : Ex → VSt D → Prop) (R : VR D → Prop) : Prop := Q .normal (mkSt ⟨[(3, .ref 500003), (4, .ref 500004), (5, .hole), (6, .hole)], [(500003, .row), (500004, .row)]⟩ [.int .i64 x.1, .bool o.1, .sl 9 x.2.2.1, .sl 9 o.2])
def zcg (k : Nat) : Cut D := cutS ⟨[(3, .ref 500003), (4, .ref 500004), (5, .hole), (6, .hole)], [(500003, .row), (500004, .row)]⟩ [.ki .i64, .kb, .kl 9, .kl 9] (fun (x : Int × Bool × (List (List UInt8)) × (List (List UInt8)) × Unit) => S_l12Path_b2 k x.1 x.2.1 x.2.2.1 x.2.2.2.1) zcf
def zch (k : Nat) : Cuts D := ⟨[], [(24, some (zcc k))]⟩
theorem zci (k : Nat) : CutFor X zc4 k Go.Proofs.Tryz.f147.results.toList (zcg k) (sub (bodyOf Go.Proofs.Tryz.f147) [1, 1, 1, 0, 1, 0, 0, 1, 0, 0, 1, 0]) :=
  joinCut_s (X := X) (sg := [.ki .i64, .kb, .kl 9, .kl 9]) (cu := zch k) (cl := zc5 k) (tys := [[0]]) (zc6 k) (cutOK_of (l := [(zcc k, sub (bodyOf Go.Proofs.Tryz.f147) [1, 1, 1, 0, 1, 0, 0, 1, 0, 0, 1, 0, 0, 1])]) (by kernel_rfl) ⟨zce k, trivial⟩) fun x Q R h => by
    simp only [S_l12Path_b2, optK_bind, optK_bif, optK_pure, optK_none, optK_oc, optK_guardT, optK_map] at h
    refine hold_of h ?_
    kernel_rfl
def zcj (x : Int × Bool × (List (List UInt8)) × (List (List UInt8)) × Unit) (o : (List (List UInt8))) (Q : Ex → VSt D → Prop) (R : VR D → Prop) : Prop := Q .normal (mkSt ⟨[(3, .ref 500003), (4, .ref 500004), (5, .hole)], [(500003, .row), (500004, .row)]⟩ [.int .i64 x.1, .sl 9 x.2.2.1, .sl 9 o])
def zck (k : Nat) : Cut D := cutS ⟨[(3, .ref 500003), (4, .ref 500004), (5, .hole), (60, .hole)], [(500003, .row), (500004, .row)]⟩ [.ki .i64, .kb, .kl 9, .kl 9] (fun (x : Int × Bool × (List (List UInt8)) × (List (List UInt8)) × Unit) => S_l12Path_c60 k x.1 x.2.1 x.2.2.1 x.2.2.2.1) zcj
def zcl (k : Nat) : Cuts D := ⟨[], []⟩
theorem zcm (k : Nat) : CutFor X zc4 k Go.Proofs.Tryz.f147.results.toList (zck k) (sub (bodyOf Go.Proofs.Tryz.f147) [1, 1, 1, 0, 1, 0, 0, 1, 0, 0, 1, 1, 1]) :=
  joinCut_s (X := X) (sg := [.ki .i64, .kb, .kl 9, .kl 9]) (cu := zcl k) (cl := zc5 k) (tys := [[0]]) (zc6 k) (cutOK_of (l := []) (by kernel_rfl) trivial) fun x Q R h => by
    simp only [S_l12Path_c60, optK_bind, optK_bif, optK_pure, optK_none, optK_oc, optK_guardT, optK_map] at h
    refine hold_of h ?_
    kernel_rfl
def zcn (x : Int × (List (List UInt8)) × (List (List UInt8)) × Unit) (o : (List (List UInt8))) (Q : Ex → VSt D → Prop) (R : VR D → Prop) : Prop := Q .normal (mkSt ⟨[(3, .ref 500003), (4, .ref 500004), (5, .hole)], [(500003, .row), (500004, .row)]⟩ [.int .i64 x.1, .sl 9 x.2.1, .sl 9 o])
def zco (k : Nat) : Cut D := cutS ⟨[(3, .ref 500003), (4, .ref 500004), (5, .hole)], [(500003, .row), (500004, .row)]⟩ [.ki .i64, .kl 9, .kl 9] (fun (x : Int × (List (List UInt8)) × (List (List UInt8)) × Unit) => S_l12Path_b1 k x.1 x.2.1 x.2.2.1) zcn
def zcp (k : Nat) : Cuts D := ⟨[(2, some (zcg k))], [(60, some (zck k))]⟩
theorem zcq (k : Nat) : CutFor X zc4 k Go.Proofs.Tryz.f147.results.toList (zco k) (sub (bodyOf Go.Proofs.Tryz.f147) [1, 1, 1, 0, 1, 0, 0, 1, 0]) :=
  joinCut_s (X := X) (sg := [.ki .i64, .kl 9, .kl 9]) (cu := zcp k) (cl := zc5 k) (tys := [[0]]) (zc6 k) (cutOK_of (l := [(zcg k, sub (bodyOf Go.Proofs.Tryz.f147) [1, 1, 1, 0, 1, 0, 0, 1, 0, 0, 1, 0]), (zck k, sub (bodyOf Go.Proofs.Tryz.f147) [1, 1, 1, 0, 1, 0, 0, 1, 0, 0, 1, 1, 1])]) (by kernel_rfl) ⟨zci k, zcm k, trivial⟩) fun x Q R h => by
    simp only [S_l12Path_b1, optK_bind, optK_bif, optK_pure, optK_none, optK_oc, optK_guardT, optK_map] at h
    refine hold_of h ?_
    kernel_rfl
def zcr (x : Int × (List (List UInt8)) × (List (List UInt8)) × Unit) (o : (List (List UInt8))) (Q : Ex → VSt D → Prop) (R : VR D → Prop) : Prop := Q .normal (mkSt ⟨[(4, .ref 500004)], [(500004, .row)]⟩ [.sl 9 o])
def zcs (k : Nat) : Cut D := cutS ⟨[(3, .ref 500003), (4, .ref 500004), (5, .hole)], [(500003, .row), (500004, .row)]⟩ [.ki .i64, .kl 9, .kl 9] (fun (x : Int × (List (List UInt8)) × (List (List UInt8)) × Unit) => S_l12Path_b0 k k x.1 x.2.1 x.2.2.1) zcr
def zct (k : Nat) : Cuts D := ⟨[(1, some (zco k))], []⟩
theorem zcu (k : Nat) : CutFor X zc4 k Go.Proofs.Tryz.f147.results.toList (zcs k) (sub (bodyOf Go.Proofs.Tryz.f147) [1, 1, 1, 0, 1]) :=
  loopCut_s (X := X) (sg := [.ki .i64, .kl 9, .kl 9]) (cu := zct k) (cl := zc5 k) (tys := [[0]]) (id := 0) (c := sub (bodyOf Go.Proofs.Tryz.f147) [1, 1, 1, 0, 1, 0, 0]) (f := fun n => fun (x : Int × (List (List UInt8)) × (List (List UInt8)) × Unit) => S_l12Path_b0 k n x.1 x.2.1 x.2.2.1) (zc6 k) (cutOK_of (l := [(zco k, sub (bodyOf Go.Proofs.Tryz.f147) [1, 1, 1, 0, 1, 0, 0, 1, 0])]) (by kernel_rfl) ⟨zcq k, trivial⟩) (fun _ => rfl) (fun n x Q R h => by
    simp only [S_l12Path_b0, optK_bind, optK_bif, optK_pure, optK_none, optK_oc, optK_guardT, optK_map] at h
    refine hold_of h ?_
    kernel_rfl) (by kernel_rfl)
def zcv (x : (List UInt8) × Int × (List (List UInt8)) × Unit) (o : (List UInt8)) (Q : Ex → VSt D → Prop) (R : VR D → Prop) : Prop := Q .normal (mkSt ⟨[(7, .hole)], []⟩ [.str o])
def zcw (k : Nat) : Cut D := cutS ⟨[(4, .ref 500004), (7, .hole), (8, .hole)], [(500004, .row)]⟩ [.ks, .ki .i64, .kl 9] (fun (x : (List UInt8) × Int × (List (List UInt8)) × Unit) => S_l12Path_b3 k k x.1 x.2.1 x.2.2.1) zcv
def zcx (k : Nat) : Cuts D := ⟨[], []⟩
theorem zcy (k : Nat) : CutFor X zc4 k Go.Proofs.Tryz.f147.results.toList (zcw k) (sub (bodyOf Go.Proofs.Tryz.f147) [1, 1, 1, 1, 1, 0, 1]) :=
  loopCut_s (X := X) (sg := [.ks, .ki .i64, .kl 9]) (cu := zcx k) (cl := zc5 k) (tys := [[0]]) (id := 3) (c := sub (bodyOf Go.Proofs.Tryz.f147) [1, 1, 1, 1, 1, 0, 1, 0, 0]) (f := fun n => fun (x : (List UInt8) × Int × (List (List UInt8)) × Unit) => S_l12Path_b3 k n x.1 x.2.1 x.2.2.1) (zc6 k) (cutOK_of (l := []) (by kernel_rfl) trivial) (fun _ => rfl) (fun n x Q R h => by
    simp only [S_l12Path_b3, optK_bind, optK_bif, optK_pure, optK_none, optK_oc, optK_guardT, optK_map] at h
    refine hold_of h ?_
    kernel_rfl) (by kernel_rfl)
def zcz (k : Nat) : Cuts D := ⟨[(0, some (zcs k)), (3, some (zcw k))], []⟩
def zd0 : List Ar := [.c (.ks)]
def zd1 (k : Nat) (x : TupA D zd0) : Option ((List UInt8)) := S_l12Path k x.1
def zd2 (r : (List UInt8)) : VR D := .p (.c (.str r))
theorem zd3 (k : Nat) : Does P X 147 zd0 (zd1 k) zd2 :=
  does_of (body := bodyOf Go.Proofs.Tryz.f147) (pl := zc4) (k := k) (cu := zcz k) (tys := [[0]]) (zc6 k) ctx mixed Go.Proofs.Tryz.func147 (by kernel_rfl) (by kernel_rfl) (cutOK_of (l := [(zcs k, sub (bodyOf Go.Proofs.Tryz.f147) [1, 1, 1, 0, 1]), (zcw k, sub (bodyOf Go.Proofs.Tryz.f147) [1, 1, 1, 1, 1, 0, 1])]) (by kernel_rfl) ⟨zcu k, zcy k, trivial⟩) fun x R h => by
    simp only [zd1, S_l12Path, optK_bind, optK_bif, optK_pure, optK_none, optK_oc, optK_guardT, optK_map] at h
    refine hold_of h ?_
    kernel_rfl
def zd4 (k : Nat) : Entry D := entS zd0 (zd1 k) zd2
theorem zd5 (k : Nat) : EntryOK X 147 (zd4 k) := (zd3 k).en rfl
def zd6 : Plan := ⟨[(0, [(0, none)]), (1, [(3, some 9)]), (2, [(3, some 9), (4, some 9)]), (3, [(3, some 9), (4, some 9), (5, none)]), (4, [(3, some 9), (4, some 9), (5, none), (15, none)]), (5, [(3, some 9), (4, some 9), (5, none)]), (6, [(3, some 9), (4, some 9), (5, none), (6, none)]), (7, [(3, some 9), (4, some 9), (5, none), (6, none), (33, none)]), (8, [(3, some 9), (4, some 9), (5, none), (6, none)]), (9, [(3, some 9), (4, some 9), (5, none), (6, none), (40, none)]), (10, [(3, some 9), (4, some 9), (5, none)]), (11, [(4, some 9), (7, none)]), (12, [(4, some 9), (7, none), (8, none)]), (13, [(4, some 9), (7, none), (8, none), (59, none)]), (14, [(4, some 9), (7, none), (8, none)]), (15, [(4, some 9), (7, none), (8, none), (63, none)]), (16, [(4, some 9), (7, none), (8, none)]), (17, [(4, some 9), (7, none), (8, none)]), (18, [(2, none)])],
  [(0, [(4, some 9)]), (1, [(3, some 9), (4, some 9), (5, none)]), (2, [(3, some 9), (4, some 9), (5, none), (6, none)]), (3, [(3, some 9), (4, some 9), (5, none), (6, none)]), (4, [(7, none)]), (5, [(4, some 9), (7, none), (8, none)])],
  [(15, ([(3, some 9), (4, some 9), (5, none)], [(4, some 9)])), (33, ([(3, some 9), (4, some 9), (5, none), (6, none)], [(3, some 9), (4, some 9), (5, none), (6, none)])), (40, ([(3, some 9), (4, some 9), (5, none), (6, none), (1000004, some 9)], [(3, some 9), (4, some 9), (5, none)])), (59, ([(4, some 9), (7, none), (8, none)], [(7, none)])), (63, ([(4, some 9), (7, none), (8, none)], [(4, some 9), (7, none), (8, none)]))]⟩
def zd7 (k : Nat) : Calls' D := ⟨[(221, zc2 k)], [], [], [], []⟩
theorem zd8 (k : Nat) : CallsOK X (zd7 k) := .cons (zc3 k) (.nil cod)
def zd9 (x : Int × Int × (List (List UInt8)) × (List (List UInt8)) × Unit) (o : Int) (Q : Ex → VSt D → Prop) (R : VR D → Prop) : Prop := Q .normal (mkSt ⟨[(3, .ref 500003), (4, .ref 500004), (5, .hole), (6, .hole)], [(500003, .row), (500004, .row)]⟩ [.int .i64 x.1, .int .i64 o, .sl 9 x.2.2.1, .sl 9 x.2.2.2.1])
def zda (k : Nat) : Cut D := cutS ⟨[(3, .ref 500003), (4, .ref 500004), (5, .hole), (6, .hole)], [(500003, .row), (500004, .row)]⟩ [.ki .i64, .ki .i64, .kl 9, .kl 9] (fun (x : Int × Int × (List (List UInt8)) × (List (List UInt8)) × Unit) => S_l12Query_b2 k k x.1 x.2.1 x.2.2.1 x.2.2.2.1) zd9
def zdb (k : Nat) : Cuts D := ⟨[], []⟩
theorem zdc (k : Nat) : CutFor X zd6 k Go.Proofs.Tryz.f148.results.toList (zda k) (sub (bodyOf Go.Proofs.Tryz.f148) [1, 1, 1, 0, 1, 0, 0, 1, 0, 0, 1, 0]) :=
  loopCut_s (X := X) (sg := [.ki .i64, .ki .i64, .kl 9, .kl 9]) (cu := zdb k) (cl := zd7 k) (tys := [[0]]) (id := 2) (c := sub (bodyOf Go.Proofs.Tryz.f148) [1, 1, 1, 0, 1, 0, 0, 1, 0, 0, 1, 0, 0, 0]) (f := fun n => fun (x : Int × Int × (List (List UInt8)) × (List (List UInt8)) × Unit) => S_l12Query_b2 k n x.1 x.2.1 x.2.2.1 x.2.2.2.1) (zd8 k) (cutOK_of (l := []) (by kernel_rfl) trivial) (fun _ => rfl) (fun n x Q R h => by
    simp only [S_l12Query_b2, optK_bind, optK_bif, optK_pure, optK_none, optK_oc, optK_guardT, optK_map] at h
    refine hold_of h ?_
    kernel_rfl) (by kernel_rfl)
def zdd (x : Int × Int × Bool × (List (List UInt8)) × (List (List UInt8)) × Unit) (o : (List (List UInt8))) (Q : Ex → VSt D → Prop) (R : VR D → Prop) : Prop := Q .normal (mkSt ⟨[(3, .ref 500003), (4, .ref 500004), (5, .hole)], [(500003, .row), (500004, .row)]⟩ [.int .i64 x.1, .sl 9 x.2.2.2.1, .sl 9 o])
def zde (k : Nat) : Cut D := cutS ⟨[(3, .ref 500003), (4, .ref 500004), (5, .hole), (6, .hole), (40, .hole)], [(500003, .row), (500004, .row)]⟩ [.ki .i64, .ki .i64, .kb, .kl 9, .kl 9] (fun (x : Int × Int × Bool × (List (List UInt8)) × (List (List UInt8)) × Unit) => S_l12Query_c40 k x.1 x.2.1 x.2.2.1 x.2.2.2.1 x.2.2.2.2.1) zdd
def zdf (k : Nat) : Cuts D := ⟨[], []⟩
theorem zdg (k : Nat) : CutFor X zd6 k Go.Proofs.Tryz.f148.results.toList (zde k) (sub (bodyOf Go.Proofs.Tryz.f148) [1, 1, 1, 0, 1, 0, 0, 1, 0, 0, 1, 1, 1]) :=
  joinCut_s (X := X) (sg := [.ki .i64, .ki .i64, .kb, .kl 9, .kl 9]) (cu := zdf k) (cl := zd7 k) (tys := [[0]]) (zd8 k) (cutOK_of (l := []) (by kernel_rfl) trivial) fun x Q R h => by
    simp only [S_l12Query_c40, optK_bind, optK_bif, optK_pure, optK_none, optK_oc, optK_guardT, optK_map] at h
    refine hold_of h ?_
    kernel_rfl
def zdh (x : Int × (List (List UInt8)) × (List (List UInt8)) × Unit) (o : (List (List UInt8))) (Q : Ex → VSt D → Prop) (R : VR D → Prop) : Prop := Q .normal (mkSt ⟨[(3, .ref 500003), (4, .ref 500004), (5, .hole)], [(500003, .row), (500004, .row)]⟩ [.int .i64 x.1, .sl 9 x.2.1, .sl 9 o])
def zdi (k : Nat) : Cut D := cutS ⟨[(3, .ref 500003), (4, .ref 500004), (5, .hole)], [(500003, .row), (500004, .row)]⟩ [.ki .i64, .kl 9, .kl 9] (fun (x : Int × (List (List UInt8)) × (List (List UInt8)) × Unit) => S_l12Query_b1 k x.1 x.2.1 x.2.2.1) zdh
def zdj (k : Nat) : Cuts D := ⟨[(2, some (zda k))], [(40, some (zde k))]⟩
theorem zdk (k : Nat) : CutFor X zd6 k Go.Proofs.Tryz.f148.results.toList (zdi k) (sub (bodyOf Go.Proofs.Tryz.f148) [1, 1, 1, 0, 1, 0, 0, 1, 0]) :=
  joinCut_s (X := X) (sg := [.ki .i64, .kl 9, .kl 9]) (cu := zdj k) (cl := zd7 k) (tys := [[0]]) (zd8 k) (cutOK_of (l := [(zda k, sub (bodyOf Go.Proofs.Tryz.f148) [1, 1, 1, 0, 1, 0, 0, 1, 0, 0, 1, 0]), (zde k, sub (bodyOf Go.Proofs.Tryz.f148) [1, 1, 1, 0, 1, 0, 0, 1, 0, 0, 1, 1, 1])]) (by kernel_rfl) ⟨zdc k, zdg k, trivial⟩) fun x Q R h => by
    simp only [S_l12Query_b1, optK_bind, optK_bif, optK_pure, optK_none, optK_oc, optK_guardT, optK_map] at h
    refine hold_of h ?_
    kernel_rfl
def zdl (x : Int × (List (List UInt8)) × (List (List UInt8)) × Unit) (o : (List (List UInt8))) (Q : Ex → VSt D → Prop) (R : VR D → Prop) : Prop := Q .normal (mkSt ⟨[(4, .ref 500004)], [(500004, .row)]⟩ [.sl 9 o])
def zdm (k : Nat) : Cut D := cutS ⟨[(3, .ref 500003), (4, .ref 500004), (5, .hole)], [(500003, .row), (500004, .row)]⟩ [.ki .i64, .kl 9, .kl 9] (fun (x : Int × (List (List UInt8)) × (List (List UInt8)) × Unit) => S_l12Query_b0 k k x.1 x.2.1 x.2.2.1) zdl
def zdn (k : Nat) : Cuts D := ⟨[(1, some (zdi k))], []⟩
theorem zdo (k : Nat) : CutFor X zd6 k Go.Proofs.Tryz.f148.results.toList (zdm k) (sub (bodyOf Go.Proofs.Tryz.f148) [1, 1, 1, 0, 1]) :=
  loopCut_s (X := X) (sg := [.ki .i64, .kl 9, .kl 9]) (cu := zdn k) (cl := zd7 k) (tys := [[0]]) (id := 0) (c := sub (bodyOf Go.Proofs.Tryz.f148) [1, 1, 1, 0, 1, 0, 0]) (f := fun n => fun (x : Int × (List (List UInt8)) × (List (List UInt8)) × Unit) => S_l12Query_b0 k n x.1 x.2.1 x.2.2.1) (zd8 k) (cutOK_of (l := [(zdi k, sub (bodyOf Go.Proofs.Tryz.f148) [1, 1, 1, 0, 1, 0, 0, 1, 0])]) (by kernel_rfl) ⟨zdk k, trivial⟩) (fun _ => rfl) (fun n x Q R h => by
    simp only [S_l12Query_b0, optK_bind, optK_bif, optK_pure, optK_none, optK_oc, optK_guardT, optK_map] at h
    refine hold_of h ?_
    kernel_rfl) (by kernel_rfl)
def zdp (x : (List UInt8) × Int × Bool × (List (List UInt8)) × Unit) (o : (List UInt8)) (Q : Ex → VSt D → Prop) (R : VR D → Prop) : Prop := Q .normal (mkSt ⟨[(4, .ref 500004), (7, .hole), (8, .hole)], [(500004, .row)]⟩ [.str o, .int .i64 x.2.1, .sl 9 x.2.2.2.1])
def zdq (k : Nat) : Cut D := cutS ⟨[(4, .ref 500004), (7, .hole), (8, .hole), (63, .hole)], [(500004, .row)]⟩ [.ks, .ki .i64, .kb, .kl 9] (fun (x : (List UInt8) × Int × Bool × (List (List UInt8)) × Unit) => S_l12Query_c63 k x.1 x.2.1 x.2.2.1 x.2.2.2.1) zdp
def zdr (k : Nat) : Cuts D := ⟨[], []⟩
theorem zds (k : Nat) : CutFor X zd6 k Go.Proofs.Tryz.f148.results.toList (zdq k) (sub (bodyOf Go.Proofs.Tryz.f148) [1, 1, 1, 1, 1, 0, 1, 0, 0, 1, 0, 0, 0, 1]) :=
  joinCut_s (X := X) (sg := [.ks, .ki .i64, .kb, .kl 9]) (cu := zdr k) (cl := zd7 k) (tys := [[0]]) (zd8 k) (cutOK_of (l := []) (by kernel_rfl) trivial) fun x Q R h => by
    simp only [S_l12Query_c63, optK_bind, optK_bif, optK_pure, optK_none, optK_oc, optK_guardT, optK_map] at h
    refine hold_of h ?_
    kernel_rfl
def zdt (x : (List UInt8) × Int × (List (List UInt8)) × Unit) (o : (List UInt8)) (Q : Ex → VSt D → Prop) (R : VR D → Prop) : Prop := Q .normal (mkSt ⟨[(4, .ref 500004), (7, .hole), (8, .hole)], [(500004, .row)]⟩ [.str o, .int .i64 x.2.1, .sl 9 x.2.2.1])
def zdu (k : Nat) : Cut D := cutS ⟨[(4, .ref 500004), (7, .hole), (8, .hole)], [(500004, .row)]⟩ [.ks, .ki .i64, .kl 9] (fun (x : (List UInt8) × Int × (List (List UInt8)) × Unit) => S_l12Query_b5 k x.1 x.2.1 x.2.2.1) zdt
def zdv (k : Nat) : Cuts D := ⟨[], [(63, some (zdq k))]⟩
theorem zdw (k : Nat) : CutFor X zd6 k Go.Proofs.Tryz.f148.results.toList (zdu k) (sub (bodyOf Go.Proofs.Tryz.f148) [1, 1, 1, 1, 1, 0, 1, 0, 0, 1, 0]) :=
  joinCut_s (X := X) (sg := [.ks, .ki .i64, .kl 9]) (cu := zdv k) (cl := zd7 k) (tys := [[0]]) (zd8 k) (cutOK_of (l := [(zdq k, sub (bodyOf Go.Proofs.Tryz.f148) [1, 1, 1, 1, 1, 0, 1, 0, 0, 1, 0, 0, 0, 1])]) (by kernel_rfl) ⟨zds k, trivial⟩) fun x Q R h => by
    simp only [S_l12Query_b5, optK_bind, optK_bif, optK_pure, optK_none, optK_oc, optK_guardT, optK_map] at h
    refine hold_of h ?_
    kernel_rfl
def zdx (x : (List UInt8) × Int × (List (List UInt8)) × Unit) (o : (List UInt8)) (Q : Ex → VSt D → Prop) (R : VR D → Prop) : Prop := Q .normal (mkSt ⟨[(7, .hole)], []⟩ [.str o])
def zdy (k : Nat) : Cut D := cutS ⟨[(4, .ref 500004), (7, .hole), (8, .hole)], [(500004, .row)]⟩ [.ks, .ki .i64, .kl 9] (fun (x : (List UInt8) × Int × (List (List UInt8)) × Unit) => S_l12Query_b4 k k x.1 x.2.1 x.2.2.1) zdx
def zdz (k : Nat) : Cuts D := ⟨[(5, some (zdu k))], []⟩
theorem ze0 (k : Nat) : CutFor X zd6 k Go.Proofs.Tryz.f148.results.toList (zdy k) (sub (bodyOf Go.Proofs.Tryz.f148) [1, 1, 1, 1, 1, 0, 1]) :=
  loopCut_s (X := X) (sg := [.ks, .ki .i64, .kl 9]) (cu := zdz k) (cl := zd7 k) (tys := [[0]]) (id := 4) (c := sub (bodyOf Go.Proofs.Tryz.f148) [1, 1, 1, 1, 1, 0, 1, 0, 0]) (f := fun n => fun (x : (List UInt8) × Int × (List (List UInt8)) × Unit) => S_l12Query_b4 k n x.1 x.2.1 x.2.2.1) (zd8 k) (cutOK_of (l := [(zdu k, sub (bodyOf Go.Proofs.Tryz.f148) [1, 1, 1, 1, 1, 0, 1, 0, 0, 1, 0])]) (by kernel_rfl) ⟨zdw k, trivial⟩) (fun _ => rfl) (fun n x Q R h => by
    simp only [S_l12Query_b4, optK_bind, optK_bif, optK_pure, optK_none, optK_oc, optK_guardT, optK_map] at h
    refine hold_of h ?_
    kernel_rfl) (by kernel_rfl)
def ze1 (k : Nat) : Cuts D := ⟨[(0, some (zdm k)), (4, some (zdy k))], []⟩
def ze2 : List Ar := [.c (.ks)]
def ze3 (k : Nat) (x : TupA D ze2) : Option ((List UInt8)) := S_l12Query k x.1
def ze4 (r : (List UInt8)) : VR D := .p (.c (.str r))
theorem ze5 (k : Nat) : Does P X 148 ze2 (ze3 k) ze4 :=
  does_of (body := bodyOf Go.Proofs.Tryz.f148) (pl := zd6) (k := k) (cu := ze1 k) (tys := [[0]]) (zd8 k) ctx mixed Go.Proofs.Tryz.func148 (by kernel_rfl) (by kernel_rfl) (cutOK_of (l := [(zdm k, sub (bodyOf Go.Proofs.Tryz.f148) [1, 1, 1, 0, 1]), (zdy k, sub (bodyOf Go.Proofs.Tryz.f148) [1, 1, 1, 1, 1, 0, 1])]) (by kernel_rfl) ⟨zdo k, ze0 k, trivial⟩) fun x R h => by
    simp only [ze3, S_l12Query, optK_bind, optK_bif, optK_pure, optK_none, optK_oc, optK_guardT, optK_map] at h
    refine hold_of h ?_
    kernel_rfl
def ze6 (k : Nat) : Entry D := entS ze2 (ze3 k) ze4
theorem ze7 (k : Nat) : EntryOK X 148 (ze6 k) := (ze5 k).en rfl
def ze8 : Plan := ⟨[(0, [(0, none)]), (1, [(4, none), (5, none)]), (2, [(5, none), (7, none), (8, none)]), (3, [(7, none), (8, none), (9, none), (10, none)]), (4, [(7, none), (9, none), (44, none)]), (5, [(2, none), (3, none)]), (6, [(9, none), (11, none)]), (7, [(11, none), (12, none)]), (8, [(11, none), (12, none), (50, none)]), (9, [(11, none)]), (10, [(2, none), (3, none)])],
  [],
  [(44, ([], [(7, none), (9, none)])), (50, ([(11, none), (12, none)], [(11, none)]))]⟩
def ze9 (k : Nat) : Calls' D := ⟨[(145, za0 k), (146, zbg k), (147, zd4 k), (148, ze6 k)], [], [], [], []⟩
theorem zea (k : Nat) : CallsOK X (ze9 k) := .cons (za1 k) (.cons (zbh k) (.cons (zd5 k) (.cons (ze7 k) (.nil cod))))
def zeb (x : (List UInt8) × (List UInt8) × Bool × Unit) (o : (List UInt8)) (Q : Ex → VSt D → Prop) (R : VR D → Prop) : Prop := Q .normal (mkSt ⟨[(11, .hole)], []⟩ [.str o])
def zec (k : Nat) : Cut D := cutS ⟨[(11, .hole), (12, .hole), (50, .hole)], []⟩ [.ks, .ks, .kb] (fun (x : (List UInt8) × (List UInt8) × Bool × Unit) => S_NormalTarget_c50 k x.1 x.2.1 x.2.2.1) zeb
def zed (k : Nat) : Cuts D := ⟨[], []⟩
theorem zee (k : Nat) : CutFor X ze8 k Go.Proofs.Tryz.f47.results.toList (zec k) (sub (bodyOf Go.Proofs.Tryz.f47) [1, 1, 1, 1, 1, 1, 0, 1, 1]) :=
  joinCut_s (X := X) (sg := [.ks, .ks, .kb]) (cu := zed k) (cl := ze9 k) (tys := [[0], [0]]) (zea k) (cutOK_of (l := []) (by kernel_rfl) trivial) fun x Q R h => by
    simp only [S_NormalTarget_c50, optK_bind, optK_bif, optK_pure, optK_none, optK_oc, optK_guardT, optK_map] at h
    refine hold_of h ?_
    kernel_rfl
def zef (k : Nat) : Cuts D := ⟨[], [(50, some (zec k))]⟩
def zeg : List Ar := [.c (.ks)]
def zeh (k : Nat) (x : TupA D zeg) : Option ((List UInt8) × Bool) := S_NormalTarget k x.1
def zei (r : (List UInt8) × Bool) : VR D := .tup [.c (.str r.1), .c (.bool r.2)]
theorem zej (k : Nat) : Does P X 47 zeg (zeh k) zei :=
  does_of (body := bodyOf Go.Proofs.Tryz.f47) (pl := ze8) (k := k) (cu := zef k) (tys := [[0], [0]]) (zea k) ctx mixed Go.Proofs.Tryz.func47 (by kernel_rfl) (by kernel_rfl) (cutOK_of (l := [(zec k, sub (bodyOf Go.Proofs.Tryz.f47) [1, 1, 1, 1, 1, 1, 0, 1, 1])]) (by kernel_rfl) ⟨zee k, trivial⟩) fun x R h => by
    simp only [zeh, S_NormalTarget, optK_bind, optK_bif, optK_pure, optK_none, optK_oc, optK_guardT, optK_map] at h
    refine hold_of h ?_
    kernel_rfl
def zek (k : Nat) : Entry D := entS zeg (zeh k) zei
theorem zel (k : Nat) : EntryOK X 47 (zek k) := (zej k).en rfl
def zem : Plan := ⟨[(0, [(0, none)]), (1, [(0, none), (3, none), (4, none)]), (2, [(2, none)])],
  [],
  []⟩
def zen (k : Nat) : Calls' D := ⟨[(46, z9m k)], [], [], [], []⟩
theorem zeo (k : Nat) : CallsOK X (zen k) := .cons (z9n k) (.nil cod)
def zep (k : Nat) : Cuts D := ⟨[], []⟩
def zeq : List Ar := [.c (.ks)]
def zer (k : Nat) (x : TupA D zeq) : Option (Bool) := I_IsNormalTarget k x.1
def zes (r : Bool) : VR D := .p (.c (.bool r))
theorem zet (k : Nat) : Does P X 48 zeq (zer k) zes :=
  does_of (body := bodyOf Go.Proofs.Tryz.f48) (pl := zem) (k := k) (cu := zep k) (tys := [[0]]) (zeo k) ctx mixed Go.Proofs.Tryz.func48 (by kernel_rfl) (by kernel_rfl) (cutOK_of (l := []) (by kernel_rfl) trivial) fun x R h => by
    simp only [zer, I_IsNormalTarget, optK_bind, optK_bif, optK_pure, optK_none, optK_oc, optK_guardT, optK_map] at h
    refine hold_of h ?_
    kernel_rfl
def zeu (k : Nat) : Entry D := entS zeq (zer k) zes
theorem zev (k : Nat) : EntryOK X 48 (zeu k) := (zet k).en rfl
def zew : Plan := ⟨[(0, [(0, none)]), (1, [(0, none), (3, some 34)]), (2, [(0, none), (3, some 34), (4, none)]), (3, [(0, none), (3, some 34), (4, none), (9, none)]), (4, [(0, none), (3, some 34), (4, none)]), (5, [(0, none), (3, some 34), (4, none)]), (6, [(0, none), (2, some 34)])],
  [(0, [(0, none), (3, some 34)]), (1, [(0, none), (3, some 34), (4, none)])],
  [(9, ([(0, none), (3, some 34), (4, none)], [(0, none), (3, some 34)]))]⟩
def zex (k : Nat) : Calls' D := ⟨[], [], [(75, z1c k), (78, z1y k)], [], []⟩
theorem zey (k : Nat) : CallsOK X (zex k) := .consP (z1d k) (.consP (z1z k) (.nil cod))
def zez (x : Int × (List Int) × Int × Int × (List IField) × Unit) (o : (List Int) × Int × Int × (List IField)) (Q : Ex → VSt D → Prop) (R : VR D → Prop) : Prop := Q .normal (mkSt ⟨[(0, .ptr 700000 0), (3, .ref 500003)], [(700000, .var [.hole, .hole, .hole]), (500003, .row)]⟩ [.sl 5 o.1, .int .i64 o.2.1, .int .i64 o.2.2.1, .sl 34 o.2.2.2])
def zf0 (k : Nat) : Cut D := cutS ⟨[(0, .ptr 700000 0), (3, .ref 500003), (4, .hole)], [(700000, .var [.hole, .hole, .hole]), (500003, .row)]⟩ [.ki .i64, .kl 5, .ki .i64, .ki .i64, .kl 34] (fun (x : Int × (List Int) × Int × Int × (List IField) × Unit) => S_l5Draw_b0 k k x.1 x.2.1 x.2.2.1 x.2.2.2.1 x.2.2.2.2.1) zez
def zf1 (k : Nat) : Cuts D := ⟨[], []⟩
theorem zf2 (k : Nat) : CutFor X zew k (.cell 0 175 :: Go.Proofs.Tryz.f222.results.toList) (zf0 k) (sub (bodyOf Go.Proofs.Tryz.f222) [1, 1, 0, 1]) :=
  loopCut_s (X := X) (sg := [.ki .i64, .kl 5, .ki .i64, .ki .i64, .kl 34]) (cu := zf1 k) (cl := zex k) (tys := [[34]]) (id := 0) (c := sub (bodyOf Go.Proofs.Tryz.f222) [1, 1, 0, 1, 0, 0]) (f := fun n => fun (x : Int × (List Int) × Int × Int × (List IField) × Unit) => S_l5Draw_b0 k n x.1 x.2.1 x.2.2.1 x.2.2.2.1 x.2.2.2.2.1) (zey k) (cutOK_of (l := []) (by kernel_rfl) trivial) (fun _ => rfl) (fun n x Q R h => by
    simp only [S_l5Draw_b0, optK_bind, optK_bif, optK_pure, optK_none, optK_oc, optK_guardT, optK_map] at h
    refine hold_of h ?_
    kernel_rfl) (by kernel_rfl)
def zf3 (k : Nat) : Cuts D := ⟨[(0, some (zf0 k))], []⟩
def zf4 : List Ar := []
def zf5 (k : Nat) (c : Tup D [.kl 5, .ki .i64, .ki .i64]) (x : TupA D zf4) : Option ((List IField) × Sl1Cur) := S_l5Draw k (⟨c.1, c.2.1, c.2.2.1⟩ : Sl1Cur)
def zf6 (r : (List IField) × Sl1Cur) : Tup D [.kl 5, .ki .i64, .ki .i64] := (r.2.b, r.2.i, r.2.h, ())
def zf7 (r : (List IField) × Sl1Cur) : List (VP D) := [.c (.sl 34 r.1)]
theorem zf8 (k : Nat) : DoesP P X 222 [.kl 5, .ki .i64, .ki .i64] zf4 (zf5 k) zf7 zf6 :=
  doesP_of (pt := 175) (body := bodyOf Go.Proofs.Tryz.f222) (pl := zew) (k := k) (cu := zf3 k) (tys := [[34]]) (zey k) ctx mixed Go.Proofs.Tryz.func222 (by kernel_rfl) (by kernel_rfl) (by kernel_rfl) (by kernel_rfl) (cutOK_of (l := [(zf0 k, sub (bodyOf Go.Proofs.Tryz.f222) [1, 1, 0, 1])]) (by kernel_rfl) ⟨zf2 k, trivial⟩) fun c x R h => by
    simp only [zf5, S_l5Draw, optK_bind, optK_bif, optK_pure, optK_none, optK_oc, optK_guardT, optK_map] at h
    refine hold_of h ?_
    kernel_rfl
def zf9 (k : Nat) : EntryP D := entP [.kl 5, .ki .i64, .ki .i64] zf4 (zf5 k) zf7 zf6
theorem zfa (k : Nat) : EntryPOK X 222 (zf9 k) := (zf8 k).en rfl
def zfb : Plan := ⟨[(0, [(0, none), (2, none)]), (1, [(0, none), (2, none), (3, none)]), (2, [(0, none), (2, none), (3, none), (16, none)]), (3, [(0, none), (2, none), (3, none)]), (4, [(0, none), (2, none)])],
  [],
  [(16, ([(0, none), (2, none), (3, none)], [(0, none), (2, none), (3, none)]))]⟩
def zfc (k : Nat) : Calls' D := ⟨[], [], [(78, z1y k), (208, z29 k), (222, zf9 k), (76, z1n k)], [], []⟩
theorem zfd (k : Nat) : CallsOK X (zfc k) := .consP (z1z k) (.consP (z2a k) (.consP (zfa k) (.consP (z1o k) (.nil cod))))
def zfe (x : Bool × (List Int) × Int × Int × (List UInt8) × (List UInt8) × (List UInt8) × (List UInt8) × (List UInt8) × (List UInt8) × (List IField) × Unit) (o : (List Int) × Int × Int × (List UInt8)) (Q : Ex → VSt D → Prop) (R : VR D → Prop) : Prop := Q .normal (mkSt ⟨[(0, .ptr 700000 0), (2, .ptr 2 0), (3, .ptr 3 0)], [(700000, .var [.hole, .hole, .hole]), (2, .var [.hole, .hole, .hole, .nil]), (3, .var [.hole, .hole, .hole, .ref 100000303]), (100000303, .row)]⟩ [.sl 5 o.1, .int .i64 o.2.1, .int .i64 o.2.2.1, .str x.2.2.2.2.1, .str x.2.2.2.2.2.1, .str x.2.2.2.2.2.2.1, .str x.2.2.2.2.2.2.2.1, .str x.2.2.2.2.2.2.2.2.1, .str o.2.2.2, .sl 34 x.2.2.2.2.2.2.2.2.2.2.1])
def zff (k : Nat) : Cut D := cutS ⟨[(0, .ptr 700000 0), (2, .ptr 2 0), (3, .ptr 3 0), (16, .hole)], [(700000, .var [.hole, .hole, .hole]), (2, .var [.hole, .hole, .hole, .nil]), (3, .var [.hole, .hole, .hole, .ref 100000303]), (100000303, .row)]⟩ [.kb, .kl 5, .ki .i64, .ki .i64, .ks, .ks, .ks, .ks, .ks, .ks, .kl 34] (fun (x : Bool × (List Int) × Int × Int × (List UInt8) × (List UInt8) × (List UInt8) × (List UInt8) × (List UInt8) × (List UInt8) × (List IField) × Unit) => S_l11Request_c16 k x.1 x.2.1 x.2.2.1 x.2.2.2.1 x.2.2.2.2.1 x.2.2.2.2.2.1 x.2.2.2.2.2.2.1 x.2.2.2.2.2.2.2.1 x.2.2.2.2.2.2.2.2.1 x.2.2.2.2.2.2.2.2.2.1 x.2.2.2.2.2.2.2.2.2.2.1) zfe
def zfg (k : Nat) : Cuts D := ⟨[], []⟩
theorem zfh (k : Nat) : CutFor X zfb k (.cell 0 175 :: Go.Proofs.Tryz.f149.results.toList) (zff k) (sub (bodyOf Go.Proofs.Tryz.f149) [1, 1, 0, 1]) :=
  joinCut_s (X := X) (sg := [.kb, .kl 5, .ki .i64, .ki .i64, .ks, .ks, .ks, .ks, .ks, .ks, .kl 34]) (cu := zfg k) (cl := zfc k) (tys := [[0, 0, 0, 34]]) (zfd k) (cutOK_of (l := []) (by kernel_rfl) trivial) fun x Q R h => by
    simp only [S_l11Request_c16, optK_bind, optK_bif, optK_pure, optK_none, optK_oc, optK_guardT, optK_map] at h
    refine hold_of h ?_
    kernel_rfl
def zfi (k : Nat) : Cuts D := ⟨[], [(16, some (zff k))]⟩
def zfj : List Ar := []
def zfk (k : Nat) (c : Tup D [.kl 5, .ki .i64, .ki .i64]) (x : TupA D zfj) : Option (IRequest × Sl1Cur) := S_l11Request k (⟨c.1, c.2.1, c.2.2.1⟩ : Sl1Cur)
def zfl (r : IRequest × Sl1Cur) : Tup D [.kl 5, .ki .i64, .ki .i64] := (r.2.b, r.2.i, r.2.h, ())
def zfm (r : IRequest × Sl1Cur) : List (VP D) := [.agg [.str r.1.Method, .str r.1.Host, .str r.1.Target, .sl 34 r.1.Fields]]
theorem zfn (k : Nat) : DoesP P X 149 [.kl 5, .ki .i64, .ki .i64] zfj (zfk k) zfm zfl :=
  doesP_of (pt := 175) (body := bodyOf Go.Proofs.Tryz.f149) (pl := zfb) (k := k) (cu := zfi k) (tys := [[0, 0, 0, 34]]) (zfd k) ctx mixed Go.Proofs.Tryz.func149 (by kernel_rfl) (by kernel_rfl) (by kernel_rfl) (by kernel_rfl) (cutOK_of (l := [(zff k, sub (bodyOf Go.Proofs.Tryz.f149) [1, 1, 0, 1])]) (by kernel_rfl) ⟨zfh k, trivial⟩) fun c x R h => by
    simp only [zfk, S_l11Request, optK_bind, optK_bif, optK_pure, optK_none, optK_oc, optK_guardT, optK_map] at h
    refine hold_of h ?_
    kernel_rfl
def zfo (k : Nat) : EntryP D := entP [.kl 5, .ki .i64, .ki .i64] zfj (zfk k) zfm zfl
theorem zfp (k : Nat) : EntryPOK X 149 (zfo k) := (zfn k).en rfl
def zfq : Plan := ⟨[(0, [(0, some 5), (2, none)]), (1, [(2, none), (3, none)]), (2, [(2, none), (3, none), (4, none)]), (3, [(2, none), (3, none), (4, none), (10, none)]), (4, [(2, none), (4, none)]), (5, [(2, none)])],
  [],
  [(10, ([(2, none), (3, none), (4, none)], [(2, none), (4, none)]))]⟩
def zfr (k : Nat) : Calls' D := ⟨[], [], [(149, zfo k), (76, z1n k), (136, z42 k)], [(72, zm k)], []⟩
theorem zfs (k : Nat) : CallsOK X (zfr k) := .consP (zfp k) (.consP (z1o k) (.consP (z43 k) (.consB (zn k) (.nil cod))))
def zft (x : Bool × (List UInt8) × (List UInt8) × (List UInt8) × (List Int) × Int × Int × (List UInt8) × (List UInt8) × (List UInt8) × (List IField) × Unit) (o : (List UInt8)) (Q : Ex → VSt D → Prop) (R : VR D → Prop) : Prop := Q .normal (mkSt ⟨[(2, .ptr 2 0), (4, .ptr 4 0)], [(2, .var [.hole, .hole, .hole, .nil]), (4, .var [.hole, .hole, .hole, .ref 100000403]), (100000403, .row)]⟩ [.str x.2.1, .str x.2.2.1, .str x.2.2.2.1, .str x.2.2.2.2.2.2.2.1, .str x.2.2.2.2.2.2.2.2.1, .str o, .sl 34 x.2.2.2.2.2.2.2.2.2.2.1])
def zfu (k : Nat) : Cut D := cutS ⟨[(2, .ptr 2 0), (3, .ptr 6 0), (4, .ptr 4 0), (10, .hole)], [(2, .var [.hole, .hole, .hole, .nil]), (6, .var [.hole, .hole, .hole]), (4, .var [.hole, .hole, .hole, .ref 100000403]), (100000403, .row)]⟩ [.kb, .ks, .ks, .ks, .kl 5, .ki .i64, .ki .i64, .ks, .ks, .ks, .kl 34] (fun (x : Bool × (List UInt8) × (List UInt8) × (List UInt8) × (List Int) × Int × Int × (List UInt8) × (List UInt8) × (List UInt8) × (List IField) × Unit) => S_DrawKeyOf_c10 k x.1 x.2.1 x.2.2.1 x.2.2.2.1 x.2.2.2.2.1 x.2.2.2.2.2.1 x.2.2.2.2.2.2.1 x.2.2.2.2.2.2.2.1 x.2.2.2.2.2.2.2.2.1 x.2.2.2.2.2.2.2.2.2.1 x.2.2.2.2.2.2.2.2.2.2.1) zft
def zfv (k : Nat) : Cuts D := ⟨[], []⟩
theorem zfw (k : Nat) : CutFor X zfq k Go.Proofs.Tryz.f50.results.toList (zfu k) (sub (bodyOf Go.Proofs.Tryz.f50) [1, 1, 1, 0, 1]) :=
  joinCut_s (X := X) (sg := [.kb, .ks, .ks, .ks, .kl 5, .ki .i64, .ki .i64, .ks, .ks, .ks, .kl 34]) (cu := zfv k) (cl := zfr k) (tys := [[0, 0, 0, 34]]) (zfs k) (cutOK_of (l := []) (by kernel_rfl) trivial) fun x Q R h => by
    simp only [S_DrawKeyOf_c10, optK_bind, optK_bif, optK_pure, optK_none, optK_oc, optK_guardT, optK_map] at h
    refine hold_of h ?_
    kernel_rfl
def zfx (k : Nat) : Cuts D := ⟨[], [(10, some (zfu k))]⟩
def zfy : List Ar := [.c (.kl 5)]
def zfz (k : Nat) (x : TupA D zfy) : Option (IRequest) := S_DrawKeyOf k x.1
def zg0 (r : IRequest) : VR D := .p (.agg [.str r.Method, .str r.Host, .str r.Target, .sl 34 r.Fields])
theorem zg1 (k : Nat) : Does P X 50 zfy (zfz k) zg0 :=
  does_of (body := bodyOf Go.Proofs.Tryz.f50) (pl := zfq) (k := k) (cu := zfx k) (tys := [[0, 0, 0, 34]]) (zfs k) ctx mixed Go.Proofs.Tryz.func50 (by kernel_rfl) (by kernel_rfl) (cutOK_of (l := [(zfu k, sub (bodyOf Go.Proofs.Tryz.f50) [1, 1, 1, 0, 1])]) (by kernel_rfl) ⟨zfw k, trivial⟩) fun x R h => by
    simp only [zfz, S_DrawKeyOf, optK_bind, optK_bif, optK_pure, optK_none, optK_oc, optK_guardT, optK_map] at h
    refine hold_of h ?_
    kernel_rfl
def zg2 (k : Nat) : Entry D := entS zfy (zfz k) zg0
theorem zg3 (k : Nat) : EntryOK X 50 (zg2 k) := (zg1 k).en rfl
def zg4 : Plan := ⟨[(0, [(0, none)]), (1, [(2, none)])],
  [],
  []⟩
def zg5 (k : Nat) : Calls' D := ⟨[(210, z4y k)], [], [], [], []⟩
theorem zg6 (k : Nat) : CallsOK X (zg5 k) := .cons (z4z k) (.nil cod)
def zg7 (k : Nat) : Cuts D := ⟨[], []⟩
def zg8 : List Ar := [.c (.ki .u8)]
def zg9 (k : Nat) (x : TupA D zg8) : Option (Bool) := I_isTokenByte k x.1
def zga (r : Bool) : VR D := .p (.c (.bool r))
theorem zgb (k : Nat) : Does P X 261 zg8 (zg9 k) zga :=
  does_of (body := bodyOf Go.Proofs.Tryz.f261) (pl := zg4) (k := k) (cu := zg7 k) (tys := [[0]]) (zg6 k) ctx mixed Go.Proofs.Tryz.func261 (by kernel_rfl) (by kernel_rfl) (cutOK_of (l := []) (by kernel_rfl) trivial) fun x R h => by
    simp only [zg9, I_isTokenByte, optK_bind, optK_bif, optK_pure, optK_none, optK_oc, optK_guardT, optK_map] at h
    refine hold_of h ?_
    kernel_rfl
def zgc (k : Nat) : Entry D := entS zg8 (zg9 k) zga
theorem zgd (k : Nat) : EntryOK X 261 (zgc k) := (zgb k).en rfl
def zge : Plan := ⟨[(0, [(0, none), (1, none), (2, none)]), (1, [(6, none)])],
  [],
  []⟩
def zgf (k : Nat) : Calls' D := ⟨[], [], [], [], []⟩
theorem zgg (k : Nat) : CallsOK X (zgf k) := .nil cod
def zgh (k : Nat) : Cuts D := ⟨[], []⟩
def zgi : List Ar := [.c (.ki .i64), .c (.ki .i64), .c (.ki .i64)]
def zgj (k : Nat) (x : TupA D zgi) : Option (Bool) := I_inRange k x.1 x.2.1 x.2.2.1
def zgk (r : Bool) : VR D := .p (.c (.bool r))
theorem zgl (k : Nat) : Does P X 111 zgi (zgj k) zgk :=
  does_of (body := bodyOf Go.Proofs.Tryz.f111) (pl := zge) (k := k) (cu := zgh k) (tys := [[0]]) (zgg k) ctx mixed Go.Proofs.Tryz.func111 (by kernel_rfl) (by kernel_rfl) (cutOK_of (l := []) (by kernel_rfl) trivial) fun x R h => by
    simp only [zgj, I_inRange, optK_bind, optK_bif, optK_pure, optK_none, optK_oc, optK_guardT, optK_map] at h
    refine hold_of h ?_
    kernel_rfl
def zgm (k : Nat) : Entry D := entS zgi (zgj k) zgk
theorem zgn (k : Nat) : EntryOK X 111 (zgm k) := (zgl k).en rfl
def zgo : Plan := ⟨[(0, [(0, none)]), (1, [(0, none), (5, none), (6, none)]), (2, [(0, none), (5, none), (6, none), (7, none)]), (3, [(0, none), (3, none), (5, none), (6, none)]), (4, [(0, none), (5, none), (6, none), (13, none)]), (5, [(2, none)]), (6, [(0, none), (5, none), (6, none)]), (7, [(2, none)])],
  [(0, [(0, none)]), (1, [(0, none), (5, none), (6, none)])],
  [(7, ([(0, none), (5, none), (6, none)], [(0, none)])), (13, ([], [(0, none), (5, none), (6, none)]))]⟩
def zgp (k : Nat) : Calls' D := ⟨[(261, zgc k), (111, zgm k)], [], [], [], []⟩
theorem zgq (k : Nat) : CallsOK X (zgp k) := .cons (zgd k) (.cons (zgn k) (.nil cod))
def zgr (x : (List UInt8) × Int × Int × Unit) (o : Oc (Unit) (Bool)) (Q : Ex → VSt D → Prop) (R : VR D → Prop) : Prop := ocP o (fun v0 => Q .normal (mkSt ⟨[(0, .hole)], []⟩ [.str x.1])) (fun w0 => R (.p (.c (.bool w0))))
def zgs (k : Nat) : Cut D := cutS ⟨[(0, .hole), (5, .hole), (6, .hole)], []⟩ [.ks, .ki .i64, .ki .i64] (fun (x : (List UInt8) × Int × Int × Unit) => I_IsToken_b0 k k x.1 x.2.1 x.2.2.1) zgr
def zgt (k : Nat) : Cuts D := ⟨[], []⟩
theorem zgu (k : Nat) : CutFor X zgo k Go.Proofs.Tryz.f184.results.toList (zgs k) (sub (bodyOf Go.Proofs.Tryz.f184) [1, 0, 1]) :=
  loopCut_s (X := X) (sg := [.ks, .ki .i64, .ki .i64]) (cu := zgt k) (cl := zgp k) (tys := [[0]]) (id := 0) (c := sub (bodyOf Go.Proofs.Tryz.f184) [1, 0, 1, 0, 0]) (f := fun n => fun (x : (List UInt8) × Int × Int × Unit) => I_IsToken_b0 k n x.1 x.2.1 x.2.2.1) (zgq k) (cutOK_of (l := []) (by kernel_rfl) trivial) (fun _ => rfl) (fun n x Q R h => by
    simp only [I_IsToken_b0, optK_bind, optK_bif, optK_pure, optK_none, optK_oc, optK_guardT, optK_map] at h
    refine hold_of h ?_
    kernel_rfl) (by kernel_rfl)
def zgv (k : Nat) : Cuts D := ⟨[(0, some (zgs k))], []⟩
def zgw : List Ar := [.c (.ks)]
def zgx (k : Nat) (x : TupA D zgw) : Option (Bool) := I_IsToken k x.1
def zgy (r : Bool) : VR D := .p (.c (.bool r))
theorem zgz (k : Nat) : Does P X 184 zgw (zgx k) zgy :=
  does_of (body := bodyOf Go.Proofs.Tryz.f184) (pl := zgo) (k := k) (cu := zgv k) (tys := [[0]]) (zgq k) ctx mixed Go.Proofs.Tryz.func184 (by kernel_rfl) (by kernel_rfl) (cutOK_of (l := [(zgs k, sub (bodyOf Go.Proofs.Tryz.f184) [1, 0, 1])]) (by kernel_rfl) ⟨zgu k, trivial⟩) fun x R h => by
    simp only [zgx, I_IsToken, optK_bind, optK_bif, optK_pure, optK_none, optK_oc, optK_guardT, optK_map] at h
    refine hold_of h ?_
    kernel_rfl
def zh0 (k : Nat) : Entry D := entS zgw (zgx k) zgy
theorem zh1 (k : Nat) : EntryOK X 184 (zh0 k) := (zgz k).en rfl
def zh2 : List Ar := [.c (.ks)]
def zh3 (k : Nat) (x : TupA D zh2) : Option ((List UInt8)) := strings_ToUpper k x.1
def zh4 (r : (List UInt8)) : VR D := .p (.c (.str r))
theorem zh5 (k : Nat) : Does P X 185 zh2 (zh3 k) zh4 := does_toUpper ⟨Go.Proofs.Tryz.f185, Go.Proofs.Tryz.func185, by kernel_rfl, by kernel_rfl⟩ (fun s w hg h1 h2 => Go.Proofs.Tryz.strings_ToUpper_ascii s w h1 h2)
def zh6 (k : Nat) : Entry D := entS zh2 (zh3 k) zh4
theorem zh7 (k : Nat) : EntryOK X 185 (zh6 k) := (zh5 k).en rfl
def zh8 : Plan := ⟨[(0, [(0, none)]), (1, [(0, none), (6, none), (7, none)]), (2, [(0, none), (6, none), (7, none), (8, none)]), (3, [(0, none), (3, none), (6, none), (7, none)]), (4, [(0, none), (4, none), (6, none), (7, none)]), (5, [(0, none), (6, none), (7, none), (35, none)]), (6, [(2, none)]), (7, [(0, none), (6, none), (7, none)]), (8, [(2, none)])],
  [(0, [(0, none)]), (1, [(0, none), (6, none), (7, none)])],
  [(8, ([(0, none), (6, none), (7, none)], [(0, none)])), (35, ([], [(0, none), (6, none), (7, none)]))]⟩
def zh9 (k : Nat) : Calls' D := ⟨[(111, zgm k)], [], [], [], []⟩
theorem zha (k : Nat) : CallsOK X (zh9 k) := .cons (zgn k) (.nil cod)
def zhb (x : (List UInt8) × Int × Int × Unit) (o : Oc (Unit) (Bool)) (Q : Ex → VSt D → Prop) (R : VR D → Prop) : Prop := ocP o (fun v0 => Q .normal (mkSt ⟨[(0, .hole)], []⟩ [.str x.1])) (fun w0 => R (.p (.c (.bool w0))))
def zhc (k : Nat) : Cut D := cutS ⟨[(0, .hole), (6, .hole), (7, .hole)], []⟩ [.ks, .ki .i64, .ki .i64] (fun (x : (List UInt8) × Int × Int × Unit) => I_isHost_b0 k k x.1 x.2.1 x.2.2.1) zhb
def zhd (k : Nat) : Cuts D := ⟨[], []⟩
theorem zhe (k : Nat) : CutFor X zh8 k Go.Proofs.Tryz.f186.results.toList (zhc k) (sub (bodyOf Go.Proofs.Tryz.f186) [1, 0, 1]) :=
  loopCut_s (X := X) (sg := [.ks, .ki .i64, .ki .i64]) (cu := zhd k) (cl := zh9 k) (tys := [[0]]) (id := 0) (c := sub (bodyOf Go.Proofs.Tryz.f186) [1, 0, 1, 0, 0]) (f := fun n => fun (x : (List UInt8) × Int × Int × Unit) => I_isHost_b0 k n x.1 x.2.1 x.2.2.1) (zha k) (cutOK_of (l := []) (by kernel_rfl) trivial) (fun _ => rfl) (fun n x Q R h => by
    simp only [I_isHost_b0, optK_bind, optK_bif, optK_pure, optK_none, optK_oc, optK_guardT, optK_map] at h
    refine hold_of h ?_
    kernel_rfl) (by kernel_rfl)
def zhf (k : Nat) : Cuts D := ⟨[(0, some (zhc k))], []⟩
def zhg : List Ar := [.c (.ks)]
def zhh (k : Nat) (x : TupA D zhg) : Option (Bool) := I_isHost k x.1
def zhi (r : Bool) : VR D := .p (.c (.bool r))
theorem zhj (k : Nat) : Does P X 186 zhg (zhh k) zhi :=
  does_of (body := bodyOf Go.Proofs.Tryz.f186) (pl := zh8) (k := k) (cu := zhf k) (tys := [[0]]) (zha k) ctx mixed Go.Proofs.Tryz.func186 (by kernel_rfl) (by kernel_rfl) (cutOK_of (l := [(zhc k, sub (bodyOf Go.Proofs.Tryz.f186) [1, 0, 1])]) (by kernel_rfl) ⟨zhe k, trivial⟩) fun x R h => by
    simp only [zhh, I_isHost, optK_bind, optK_bif, optK_pure, optK_none, optK_oc, optK_guardT, optK_map] at h
    refine hold_of h ?_
    kernel_rfl
def zhk (k : Nat) : Entry D := entS zhg (zhh k) zhi
theorem zhl (k : Nat) : EntryOK X 186 (zhk k) := (zhj k).en rfl
def zhm : Plan := ⟨[(0, [(0, none)]), (1, [(3, some 5)]), (2, [(3, some 5), (8, some 5), (9, none), (10, none)]), (3, [(3, some 5), (8, some 5), (9, none), (10, none), (11, none)]), (4, [(3, some 5), (4, none), (5, none), (8, some 5), (9, none), (10, none)]), (5, [(3, some 5), (4, none), (5, none), (8, some 5), (9, none), (10, none), (20, none)]), (6, [(3, some 5), (8, some 5), (9, none), (10, none)]), (7, [(3, some 5), (8, some 5), (9, none), (10, none)]), (8, [(2, none)])],
  [(0, [(3, some 5)]), (1, [(3, some 5), (8, some 5), (9, none), (10, none)])],
  [(11, ([(3, some 5), (8, some 5), (9, none), (10, none)], [(3, some 5)])), (20, ([(3, some 5), (4, none), (5, none), (8, some 5), (9, none), (10, none)], [(3, some 5), (8, some 5), (9, none), (10, none)]))]⟩
def zhn (k : Nat) : Calls' D := ⟨[], [], [], [], []⟩
theorem zho (k : Nat) : CallsOK X (zhn k) := .nil cod
def zhp (x : Int × Int × Int × Int × Bool × (List Int) × Unit) (o : (List Int)) (Q : Ex → VSt D → Prop) (R : VR D → Prop) : Prop := Q .normal (mkSt ⟨[(3, .ref 500008), (8, .ref 500008), (9, .hole), (10, .hole)], [(500008, .row)]⟩ [.int .i64 x.2.2.1, .int .i64 x.2.2.2.1, .sl 5 o])
def zhq (k : Nat) : Cut D := cutS ⟨[(3, .ref 500008), (4, .hole), (5, .hole), (8, .ref 500008), (9, .hole), (10, .hole), (20, .hole)], [(500008, .row)]⟩ [.ki .i64, .ki .u8, .ki .i64, .ki .i64, .kb, .kl 5] (fun (x : Int × Int × Int × Int × Bool × (List Int) × Unit) => I_LowerText_c20 k x.1 x.2.1 x.2.2.1 x.2.2.2.1 x.2.2.2.2.1 x.2.2.2.2.2.1) zhp
def zhr (k : Nat) : Cuts D := ⟨[], []⟩
theorem zhs (k : Nat) : CutFor X zhm k Go.Proofs.Tryz.f201.results.toList (zhq k) (sub (bodyOf Go.Proofs.Tryz.f201) [1, 1, 0, 1, 0, 0, 1, 1, 0, 0, 1, 1]) :=
  joinCut_s (X := X) (sg := [.ki .i64, .ki .u8, .ki .i64, .ki .i64, .kb, .kl 5]) (cu := zhr k) (cl := zhn k) (tys := [[0]]) (zho k) (cutOK_of (l := []) (by kernel_rfl) trivial) fun x Q R h => by
    simp only [I_LowerText_c20, optK_bind, optK_bif, optK_pure, optK_none, optK_oc, optK_guardT, optK_map] at h
    refine hold_of h ?_
    kernel_rfl
def zht (x : Int × Int × (List Int) × Unit) (o : (List Int)) (Q : Ex → VSt D → Prop) (R : VR D → Prop) : Prop := Q .normal (mkSt ⟨[(3, .ref 500008), (8, .ref 500008), (9, .hole), (10, .hole)], [(500008, .row)]⟩ [.int .i64 x.1, .int .i64 x.2.1, .sl 5 o])
def zhu (k : Nat) : Cut D := cutS ⟨[(3, .ref 500008), (8, .ref 500008), (9, .hole), (10, .hole)], [(500008, .row)]⟩ [.ki .i64, .ki .i64, .kl 5] (fun (x : Int × Int × (List Int) × Unit) => I_LowerText_b1 k x.1 x.2.1 x.2.2.1) zht
def zhv (k : Nat) : Cuts D := ⟨[], [(20, some (zhq k))]⟩
theorem zhw (k : Nat) : CutFor X zhm k Go.Proofs.Tryz.f201.results.toList (zhu k) (sub (bodyOf Go.Proofs.Tryz.f201) [1, 1, 0, 1, 0, 0, 1, 1, 0]) :=
  joinCut_s (X := X) (sg := [.ki .i64, .ki .i64, .kl 5]) (cu := zhv k) (cl := zhn k) (tys := [[0]]) (zho k) (cutOK_of (l := [(zhq k, sub (bodyOf Go.Proofs.Tryz.f201) [1, 1, 0, 1, 0, 0, 1, 1, 0, 0, 1, 1])]) (by kernel_rfl) ⟨zhs k, trivial⟩) fun x Q R h => by
    simp only [I_LowerText_b1, optK_bind, optK_bif, optK_pure, optK_none, optK_oc, optK_guardT, optK_map] at h
    refine hold_of h ?_
    kernel_rfl
def zhx (x : Int × Int × (List Int) × Unit) (o : (List Int)) (Q : Ex → VSt D → Prop) (R : VR D → Prop) : Prop := Q .normal (mkSt ⟨[(3, .ref 500003)], [(500003, .row)]⟩ [.sl 5 o])
def zhy (k : Nat) : Cut D := cutS ⟨[(3, .ref 500008), (8, .ref 500008), (9, .hole), (10, .hole)], [(500008, .row)]⟩ [.ki .i64, .ki .i64, .kl 5] (fun (x : Int × Int × (List Int) × Unit) => I_LowerText_b0 k k x.1 x.2.1 x.2.2.1) zhx
def zhz (k : Nat) : Cuts D := ⟨[(1, some (zhu k))], []⟩
theorem zi0 (k : Nat) : CutFor X zhm k Go.Proofs.Tryz.f201.results.toList (zhy k) (sub (bodyOf Go.Proofs.Tryz.f201) [1, 1, 0, 1]) :=
  loopCut_s (X := X) (sg := [.ki .i64, .ki .i64, .kl 5]) (cu := zhz k) (cl := zhn k) (tys := [[0]]) (id := 0) (c := sub (bodyOf Go.Proofs.Tryz.f201) [1, 1, 0, 1, 0, 0]) (f := fun n => fun (x : Int × Int × (List Int) × Unit) => I_LowerText_b0 k n x.1 x.2.1 x.2.2.1) (zho k) (cutOK_of (l := [(zhu k, sub (bodyOf Go.Proofs.Tryz.f201) [1, 1, 0, 1, 0, 0, 1, 1, 0])]) (by kernel_rfl) ⟨zhw k, trivial⟩) (fun _ => rfl) (fun n x Q R h => by
    simp only [I_LowerText_b0, optK_bind, optK_bif, optK_pure, optK_none, optK_oc, optK_guardT, optK_map] at h
    refine hold_of h ?_
    kernel_rfl) (by kernel_rfl)
def zi1 (k : Nat) : Cuts D := ⟨[(0, some (zhy k))], []⟩
def zi2 : List Ar := [.c (.ks)]
def zi3 (k : Nat) (x : TupA D zi2) : Option ((List UInt8)) := I_LowerText k x.1
def zi4 (r : (List UInt8)) : VR D := .p (.c (.str r))
theorem zi5 (k : Nat) : Does P X 201 zi2 (zi3 k) zi4 :=
  does_of (body := bodyOf Go.Proofs.Tryz.f201) (pl := zhm) (k := k) (cu := zi1 k) (tys := [[0]]) (zho k) ctx mixed Go.Proofs.Tryz.func201 (by kernel_rfl) (by kernel_rfl) (cutOK_of (l := [(zhy k, sub (bodyOf Go.Proofs.Tryz.f201) [1, 1, 0, 1])]) (by kernel_rfl) ⟨zi0 k, trivial⟩) fun x R h => by
    simp only [zi3, I_LowerText, optK_bind, optK_bif, optK_pure, optK_none, optK_oc, optK_guardT, optK_map] at h
    refine hold_of h ?_
    kernel_rfl
def zi6 (k : Nat) : Entry D := entS zi2 (zi3 k) zi4
theorem zi7 (k : Nat) : EntryOK X 201 (zi6 k) := (zi5 k).en rfl
def zi8 : List Ar := [.c (.ks), .c (.ks)]
def zi9 (k : Nat) (x : TupA D zi8) : Option ((List UInt8)) := strings_Trim k x.1 x.2.1
def zia (r : (List UInt8)) : VR D := .p (.c (.str r))
theorem zib (k : Nat) : Does P X 166 zi8 (zi9 k) zia := does_trim ⟨Go.Proofs.Tryz.f166, Go.Proofs.Tryz.func166, by kernel_rfl, by kernel_rfl⟩ (fun s cs w hg h1 h2 h3 => Go.Proofs.Any.strings_Trim_laid Go.Proofs.Tryz.lays160 (by kernel_rfl) s cs w h1 h2 h3)
def zic (k : Nat) : Entry D := entS zi8 (zi9 k) zia
theorem zid (k : Nat) : EntryOK X 166 (zic k) := (zib k).en rfl
def zie : Plan := ⟨[(0, [(0, none)]), (1, [(2, none)])],
  [],
  []⟩
def zif (k : Nat) : Calls' D := ⟨[(166, zic k)], [], [], [], []⟩
theorem zig (k : Nat) : CallsOK X (zif k) := .cons (zid k) (.nil cod)
def zih (k : Nat) : Cuts D := ⟨[], []⟩
def zii : List Ar := [.c (.ks)]
def zij (k : Nat) (x : TupA D zii) : Option ((List UInt8)) := I_TrimText k x.1
def zik (r : (List UInt8)) : VR D := .p (.c (.str r))
theorem zil (k : Nat) : Does P X 163 zii (zij k) zik :=
  does_of (body := bodyOf Go.Proofs.Tryz.f163) (pl := zie) (k := k) (cu := zih k) (tys := [[0]]) (zig k) ctx mixed Go.Proofs.Tryz.func163 (by kernel_rfl) (by kernel_rfl) (cutOK_of (l := []) (by kernel_rfl) trivial) fun x R h => by
    simp only [zij, I_TrimText, optK_bind, optK_bif, optK_pure, optK_none, optK_oc, optK_guardT, optK_map] at h
    refine hold_of h ?_
    kernel_rfl
def zim (k : Nat) : Entry D := entS zii (zij k) zik
theorem zin (k : Nat) : EntryOK X 163 (zim k) := (zil k).en rfl
def zio : Plan := ⟨[(0, [(0, none)]), (1, [(0, none), (5, none), (6, none)]), (2, [(0, none), (5, none), (6, none), (7, none)]), (3, [(0, none), (3, none), (5, none), (6, none)]), (4, [(0, none), (5, none), (6, none), (20, none)]), (5, [(2, none)]), (6, [(0, none), (5, none), (6, none)]), (7, [(2, none)])],
  [(0, [(0, none)]), (1, [(0, none), (5, none), (6, none)])],
  [(7, ([(0, none), (5, none), (6, none)], [(0, none)])), (20, ([], [(0, none), (5, none), (6, none)]))]⟩
def zip (k : Nat) : Calls' D := ⟨[(111, zgm k), (163, zim k)], [], [], [], []⟩
theorem ziq (k : Nat) : CallsOK X (zip k) := .cons (zgn k) (.cons (zin k) (.nil cod))
def zir (x : (List UInt8) × Int × Int × Unit) (o : Oc (Unit) (Bool)) (Q : Ex → VSt D → Prop) (R : VR D → Prop) : Prop := ocP o (fun v0 => Q .normal (mkSt ⟨[(0, .hole)], []⟩ [.str x.1])) (fun w0 => R (.p (.c (.bool w0))))
def zis (k : Nat) : Cut D := cutS ⟨[(0, .hole), (5, .hole), (6, .hole)], []⟩ [.ks, .ki .i64, .ki .i64] (fun (x : (List UInt8) × Int × Int × Unit) => I_isFieldValue_b0 k k x.1 x.2.1 x.2.2.1) zir
def zit (k : Nat) : Cuts D := ⟨[], []⟩
theorem ziu (k : Nat) : CutFor X zio k Go.Proofs.Tryz.f204.results.toList (zis k) (sub (bodyOf Go.Proofs.Tryz.f204) [1, 0, 1]) :=
  loopCut_s (X := X) (sg := [.ks, .ki .i64, .ki .i64]) (cu := zit k) (cl := zip k) (tys := [[0]]) (id := 0) (c := sub (bodyOf Go.Proofs.Tryz.f204) [1, 0, 1, 0, 0]) (f := fun n => fun (x : (List UInt8) × Int × Int × Unit) => I_isFieldValue_b0 k n x.1 x.2.1 x.2.2.1) (ziq k) (cutOK_of (l := []) (by kernel_rfl) trivial) (fun _ => rfl) (fun n x Q R h => by
    simp only [I_isFieldValue_b0, optK_bind, optK_bif, optK_pure, optK_none, optK_oc, optK_guardT, optK_map] at h
    refine hold_of h ?_
    kernel_rfl) (by kernel_rfl)
def ziv (k : Nat) : Cuts D := ⟨[(0, some (zis k))], []⟩
def ziw : List Ar := [.c (.ks)]
def zix (k : Nat) (x : TupA D ziw) : Option (Bool) := I_isFieldValue k x.1
def ziy (r : Bool) : VR D := .p (.c (.bool r))
theorem ziz (k : Nat) : Does P X 204 ziw (zix k) ziy :=
  does_of (body := bodyOf Go.Proofs.Tryz.f204) (pl := zio) (k := k) (cu := ziv k) (tys := [[0]]) (ziq k) ctx mixed Go.Proofs.Tryz.func204 (by kernel_rfl) (by kernel_rfl) (cutOK_of (l := [(zis k, sub (bodyOf Go.Proofs.Tryz.f204) [1, 0, 1])]) (by kernel_rfl) ⟨ziu k, trivial⟩) fun x R h => by
    simp only [zix, I_isFieldValue, optK_bind, optK_bif, optK_pure, optK_none, optK_oc, optK_guardT, optK_map] at h
    refine hold_of h ?_
    kernel_rfl
def zj0 (k : Nat) : Entry D := entS ziw (zix k) ziy
theorem zj1 (k : Nat) : EntryOK X 204 (zj0 k) := (ziz k).en rfl
def zj2 : Plan := ⟨[(0, [(0, some 34)]), (1, [(0, some 34), (5, some 34), (6, none), (7, none)]), (2, [(0, some 34), (5, some 34), (6, none), (7, none), (8, none)]), (3, [(0, some 34), (4, none), (5, some 34), (6, none), (7, none)]), (4, [(0, some 34), (5, some 34), (6, none), (7, none), (28, none)]), (5, [(2, none)]), (6, [(0, some 34), (5, some 34), (6, none), (7, none)]), (7, [(2, none)])],
  [(0, [(0, some 34)]), (1, [(0, some 34), (5, some 34), (6, none), (7, none)])],
  [(8, ([(0, some 34), (5, some 34), (6, none), (7, none)], [(0, some 34)])), (28, ([], [(0, some 34), (5, some 34), (6, none), (7, none)]))]⟩
def zj3 (k : Nat) : Calls' D := ⟨[(184, zh0 k), (201, zi6 k), (204, zj0 k)], [], [], [], []⟩
theorem zj4 (k : Nat) : CallsOK X (zj3 k) := .cons (zh1 k) (.cons (zi7 k) (.cons (zj1 k) (.nil cod)))
def zj5 (x : (List IField) × (List IField) × Int × Int × Unit) (o : Oc (Unit) (Bool)) (Q : Ex → VSt D → Prop) (R : VR D → Prop) : Prop := ocP o (fun v0 => Q .normal (mkSt ⟨[(0, .hole)], []⟩ [.sl 34 x.1])) (fun w0 => R (.p (.c (.bool w0))))
def zj6 (k : Nat) : Cut D := cutS ⟨[(0, .hole), (5, .hole), (6, .hole), (7, .hole)], []⟩ [.kl 34, .kl 34, .ki .i64, .ki .i64] (fun (x : (List IField) × (List IField) × Int × Int × Unit) => I_AreFields_b0 k k x.1 x.2.1 x.2.2.1 x.2.2.2.1) zj5
def zj7 (k : Nat) : Cuts D := ⟨[], []⟩
theorem zj8 (k : Nat) : CutFor X zj2 k Go.Proofs.Tryz.f187.results.toList (zj6 k) (sub (bodyOf Go.Proofs.Tryz.f187) [1, 0, 1]) :=
  loopCut_s (X := X) (sg := [.kl 34, .kl 34, .ki .i64, .ki .i64]) (cu := zj7 k) (cl := zj3 k) (tys := [[0]]) (id := 0) (c := sub (bodyOf Go.Proofs.Tryz.f187) [1, 0, 1, 0, 0]) (f := fun n => fun (x : (List IField) × (List IField) × Int × Int × Unit) => I_AreFields_b0 k n x.1 x.2.1 x.2.2.1 x.2.2.2.1) (zj4 k) (cutOK_of (l := []) (by kernel_rfl) trivial) (fun _ => rfl) (fun n x Q R h => by
    simp only [I_AreFields_b0, optK_bind, optK_bif, optK_pure, optK_none, optK_oc, optK_guardT, optK_map] at h
    refine hold_of h ?_
    kernel_rfl) (by kernel_rfl)
def zj9 (k : Nat) : Cuts D := ⟨[(0, some (zj6 k))], []⟩
def zja : List Ar := [.c (.kl 34)]
def zjb (k : Nat) (x : TupA D zja) : Option (Bool) := I_AreFields k x.1
def zjc (r : Bool) : VR D := .p (.c (.bool r))
theorem zjd (k : Nat) : Does P X 187 zja (zjb k) zjc :=
  does_of (body := bodyOf Go.Proofs.Tryz.f187) (pl := zj2) (k := k) (cu := zj9 k) (tys := [[0]]) (zj4 k) ctx mixed Go.Proofs.Tryz.func187 (by kernel_rfl) (by kernel_rfl) (cutOK_of (l := [(zj6 k, sub (bodyOf Go.Proofs.Tryz.f187) [1, 0, 1])]) (by kernel_rfl) ⟨zj8 k, trivial⟩) fun x R h => by
    simp only [zjb, I_AreFields, optK_bind, optK_bif, optK_pure, optK_none, optK_oc, optK_guardT, optK_map] at h
    refine hold_of h ?_
    kernel_rfl
def zje (k : Nat) : Entry D := entS zja (zjb k) zjc
theorem zjf (k : Nat) : EntryOK X 187 (zje k) := (zjd k).en rfl
def zjg : Plan := ⟨[(0, [(1, none), (2, none)]), (1, [(3, none)])],
  [],
  []⟩
def zjh (k : Nat) : Calls' D := ⟨[], [], [], [], []⟩
theorem zji (k : Nat) : CallsOK X (zjh k) := .nil cod
def zjj (k : Nat) : Cuts D := ⟨[], []⟩
def zjk : List Ar := [.a [.ks, .ks], .x [.ks]]
def zjl (k : Nat) (x : TupA D zjk) : Option (Bool) := I_hasField_1 k (⟨x.1.1, x.1.2.1⟩ : IField) x.2.1.1
def zjm (r : Bool) : VR D := .p (.c (.bool r))
theorem zjn (k : Nat) : Does P X 173 zjk (zjl k) zjm :=
  does_of (body := bodyOf Go.Proofs.Tryz.f173) (pl := zjg) (k := k) (cu := zjj k) (tys := [[0]]) (zji k) ctx mixed Go.Proofs.Tryz.func173 (by kernel_rfl) (by kernel_rfl) (cutOK_of (l := []) (by kernel_rfl) trivial) fun x R h => by
    simp only [zjl, I_hasField_1, optK_bind, optK_bif, optK_pure, optK_none, optK_oc, optK_guardT, optK_map] at h
    refine hold_of h ?_
    kernel_rfl
def zjo (k : Nat) : Entry D := entS zjk (zjl k) zjm
theorem zjp (k : Nat) : EntryOK X 173 (zjo k) := (zjn k).en rfl
def zjq : Plan := ⟨[(0, [(0, some 34), (1, none)]), (1, [(0, some 34), (1, none), (7, none), (8, none)]), (2, [(0, some 34), (1, none), (7, none), (8, none), (9, none)]), (3, [(0, some 34), (1, none), (5, none), (7, none), (8, none)]), (4, [(0, some 34), (1, none), (5, none), (7, none), (8, none), (16, none)]), (5, [(4, none)]), (6, [(0, some 34), (1, none), (7, none), (8, none)]), (7, [(4, none)])],
  [(0, []), (1, [(0, some 34), (1, none), (7, none), (8, none)])],
  [(9, ([(0, some 34), (1, none), (7, none), (8, none)], [])), (16, ([(5, none)], [(0, some 34), (1, none), (7, none), (8, none)]))]⟩
def zjr (k : Nat) : Calls' D := ⟨[(173, zjo k)], [], [], [], []⟩
theorem zjs (k : Nat) : CallsOK X (zjr k) := .cons (zjp k) (.nil cod)
def zjt (x : (List IField) × (List UInt8) × Int × Int × Unit) (o : Oc (Unit) (Int)) (Q : Ex → VSt D → Prop) (R : VR D → Prop) : Prop := ocP o (fun v0 => Q .normal (mkSt ⟨[], []⟩ [])) (fun w0 => R (.p (.c (.int .i64 w0))))
def zju (k : Nat) : Cut D := cutS ⟨[(0, .hole), (1, .clo 173 [.rptr 1]), (7, .hole), (8, .hole)], []⟩ [.kl 34, .ks, .ki .i64, .ki .i64] (fun (x : (List IField) × (List UInt8) × Int × Int × Unit) => slices_IndexFunc_IField_at_I_hasField_1_b0 k k x.1 x.2.1 x.2.2.1 x.2.2.2.1) zjt
def zjv (k : Nat) : Cuts D := ⟨[], []⟩
theorem zjw (k : Nat) : CutFor X zjq k Go.Proofs.Tryz.f242.results.toList (zju k) (sub (bodyOf Go.Proofs.Tryz.f242) [1, 0, 1]) :=
  loopCut_s (X := X) (sg := [.kl 34, .ks, .ki .i64, .ki .i64]) (cu := zjv k) (cl := zjr k) (tys := [[0]]) (id := 0) (c := sub (bodyOf Go.Proofs.Tryz.f242) [1, 0, 1, 0, 0]) (f := fun n => fun (x : (List IField) × (List UInt8) × Int × Int × Unit) => slices_IndexFunc_IField_at_I_hasField_1_b0 k n x.1 x.2.1 x.2.2.1 x.2.2.2.1) (zjs k) (cutOK_of (l := []) (by kernel_rfl) trivial) (fun _ => rfl) (fun n x Q R h => by
    simp only [slices_IndexFunc_IField_at_I_hasField_1_b0, optK_bind, optK_bif, optK_pure, optK_none, optK_oc, optK_guardT, optK_map] at h
    refine hold_of h ?_
    kernel_rfl) (by kernel_rfl)
def zjx (k : Nat) : Cuts D := ⟨[(0, some (zju k))], []⟩
def zjy : List Ar := [.c (.kl 34), .f 173 [[.ks]]]
def zjz (k : Nat) (x : TupA D zjy) : Option (Int) := slices_IndexFunc_IField_at_I_hasField_1 k x.1 x.2.1.1.1
def zk0 (r : Int) : VR D := .p (.c (.int .i64 r))
theorem zk1 (k : Nat) : Does P X 242 zjy (zjz k) zk0 :=
  does_of (body := bodyOf Go.Proofs.Tryz.f242) (pl := zjq) (k := k) (cu := zjx k) (tys := [[0]]) (zjs k) ctx mixed Go.Proofs.Tryz.func242 (by kernel_rfl) (by kernel_rfl) (cutOK_of (l := [(zju k, sub (bodyOf Go.Proofs.Tryz.f242) [1, 0, 1])]) (by kernel_rfl) ⟨zjw k, trivial⟩) fun x R h => by
    simp only [zjz, slices_IndexFunc_IField_at_I_hasField_1, optK_bind, optK_bif, optK_pure, optK_none, optK_oc, optK_guardT, optK_map] at h
    refine hold_of h ?_
    kernel_rfl
def zk2 (k : Nat) : Entry D := entS zjy (zjz k) zk0
theorem zk3 (k : Nat) : EntryOK X 242 (zk2 k) := (zk1 k).en rfl
def zk4 : Plan := ⟨[(0, [(0, some 34), (1, none)]), (1, [(4, none)])],
  [],
  []⟩
def zk5 (k : Nat) : Calls' D := ⟨[(242, zk2 k)], [], [], [], []⟩
theorem zk6 (k : Nat) : CallsOK X (zk5 k) := .cons (zk3 k) (.nil cod)
def zk7 (k : Nat) : Cuts D := ⟨[], []⟩
def zk8 : List Ar := [.c (.kl 34), .f 173 [[.ks]]]
def zk9 (k : Nat) (x : TupA D zk8) : Option (Bool) := slices_ContainsFunc_IField_at_I_hasField_1 k x.1 x.2.1.1.1
def zka (r : Bool) : VR D := .p (.c (.bool r))
theorem zkb (k : Nat) : Does P X 172 zk8 (zk9 k) zka :=
  does_of (body := bodyOf Go.Proofs.Tryz.f172) (pl := zk4) (k := k) (cu := zk7 k) (tys := [[0]]) (zk6 k) ctx mixed Go.Proofs.Tryz.func172 (by kernel_rfl) (by kernel_rfl) (cutOK_of (l := []) (by kernel_rfl) trivial) fun x R h => by
    simp only [zk9, slices_ContainsFunc_IField_at_I_hasField_1, optK_bind, optK_bif, optK_pure, optK_none, optK_oc, optK_guardT, optK_map] at h
    refine hold_of h ?_
    kernel_rfl
def zkc (k : Nat) : Entry D := entS zk8 (zk9 k) zka
theorem zkd (k : Nat) : EntryOK X 172 (zkc k) := (zkb k).en rfl
def zke : Plan := ⟨[(0, [(0, some 34), (3, none)]), (1, [(4, none)])],
  [],
  []⟩
def zkf (k : Nat) : Calls' D := ⟨[(172, zkc k)], [], [], [], []⟩
theorem zkg (k : Nat) : CallsOK X (zkf k) := .cons (zkd k) (.nil cod)
def zkh (k : Nat) : Cuts D := ⟨[], []⟩
def zki : List Ar := [.c (.kl 34), .c (.ks)]
def zkj (k : Nat) (x : TupA D zki) : Option (Bool) := I_hasField k x.1 x.2.1
def zkk (r : Bool) : VR D := .p (.c (.bool r))
theorem zkl (k : Nat) : Does P X 94 zki (zkj k) zkk :=
  does_of (body := bodyOf Go.Proofs.Tryz.f94) (pl := zke) (k := k) (cu := zkh k) (tys := [[0]]) (zkg k) ctx mixed Go.Proofs.Tryz.func94 (by kernel_rfl) (by kernel_rfl) (cutOK_of (l := []) (by kernel_rfl) trivial) fun x R h => by
    simp only [zkj, I_hasField, optK_bind, optK_bif, optK_pure, optK_none, optK_oc, optK_guardT, optK_map] at h
    refine hold_of h ?_
    kernel_rfl
def zkm (k : Nat) : Entry D := entS zki (zkj k) zkk
theorem zkn (k : Nat) : EntryOK X 94 (zkm k) := (zkl k).en rfl
def zko : Plan := ⟨[(0, [(1, none)]), (1, [(1, none), (34, none)]), (2, [(2, none)]), (3, [(1, none), (37, none), (38, none)]), (4, [(1, none), (37, none), (38, none), (39, none)]), (5, [(1, none), (3, none), (37, none), (38, none)]), (6, [(1, none), (37, none), (38, none), (47, none)]), (7, [(2, none)]), (8, [(1, none), (37, none), (38, none)]), (9, [(2, none)])],
  [(0, [(1, none)]), (1, [(1, none), (37, none), (38, none)])],
  [(34, ([], [(1, none)])), (39, ([(1, none), (37, none), (38, none)], [(1, none)])), (47, ([], [(1, none), (37, none), (38, none)]))]⟩
def zkp (k : Nat) : Calls' D := ⟨[(184, zh0 k), (185, zh6 k), (186, zhk k), (111, zgm k), (187, zje k), (94, zkm k)], [], [], [], []⟩
theorem zkq (k : Nat) : CallsOK X (zkp k) := .cons (zh1 k) (.cons (zh7 k) (.cons (zhl k) (.cons (zgn k) (.cons (zjf k) (.cons (zkn k) (.nil cod))))))
def zkr (x : Int × Int × (List UInt8) × (List UInt8) × (List UInt8) × (List IField) × Unit) (o : Oc (Unit) (Bool)) (Q : Ex → VSt D → Prop) (R : VR D → Prop) : Prop := ocP o (fun v0 => Q .normal (mkSt ⟨[(1, .ptr 1 0)], [(1, .var [.hole, .hole, .hole, .hole])]⟩ [.str x.2.2.1, .str x.2.2.2.1, .str x.2.2.2.2.1, .sl 34 x.2.2.2.2.2.1])) (fun w0 => R (.p (.c (.bool w0))))
def zks (k : Nat) : Cut D := cutS ⟨[(1, .ptr 1 0), (37, .hole), (38, .hole)], [(1, .var [.hole, .hole, .hole, .hole])]⟩ [.ki .i64, .ki .i64, .ks, .ks, .ks, .kl 34] (fun (x : Int × Int × (List UInt8) × (List UInt8) × (List UInt8) × (List IField) × Unit) => I_IsRequest_b0 k k x.1 x.2.1 x.2.2.1 x.2.2.2.1 x.2.2.2.2.1 x.2.2.2.2.2.1) zkr
def zkt (k : Nat) : Cuts D := ⟨[], []⟩
theorem zku (k : Nat) : CutFor X zko k Go.Proofs.Tryz.f110.results.toList (zks k) (sub (bodyOf Go.Proofs.Tryz.f110) [1, 1, 0, 1]) :=
  loopCut_s (X := X) (sg := [.ki .i64, .ki .i64, .ks, .ks, .ks, .kl 34]) (cu := zkt k) (cl := zkp k) (tys := [[0]]) (id := 0) (c := sub (bodyOf Go.Proofs.Tryz.f110) [1, 1, 0, 1, 0, 0]) (f := fun n => fun (x : Int × Int × (List UInt8) × (List UInt8) × (List UInt8) × (List IField) × Unit) => I_IsRequest_b0 k n x.1 x.2.1 x.2.2.1 x.2.2.2.1 x.2.2.2.2.1 x.2.2.2.2.2.1) (zkq k) (cutOK_of (l := []) (by kernel_rfl) trivial) (fun _ => rfl) (fun n x Q R h => by
    simp only [I_IsRequest_b0, optK_bind, optK_bif, optK_pure, optK_none, optK_oc, optK_guardT, optK_map] at h
    refine hold_of h ?_
    kernel_rfl) (by kernel_rfl)
def zkv (k : Nat) : Cuts D := ⟨[(0, some (zks k))], []⟩
def zkw : List Ar := [.a [.ks, .ks, .ks, .kl 34]]
def zkx (k : Nat) (x : TupA D zkw) : Option (Bool) := I_IsRequest k (⟨x.1.1, x.1.2.1, x.1.2.2.1, x.1.2.2.2.1⟩ : IRequest)
def zky (r : Bool) : VR D := .p (.c (.bool r))
theorem zkz (k : Nat) : Does P X 110 zkw (zkx k) zky :=
  does_of (body := bodyOf Go.Proofs.Tryz.f110) (pl := zko) (k := k) (cu := zkv k) (tys := [[0]]) (zkq k) ctx mixed Go.Proofs.Tryz.func110 (by kernel_rfl) (by kernel_rfl) (cutOK_of (l := [(zks k, sub (bodyOf Go.Proofs.Tryz.f110) [1, 1, 0, 1])]) (by kernel_rfl) ⟨zku k, trivial⟩) fun x R h => by
    simp only [zkx, I_IsRequest, optK_bind, optK_bif, optK_pure, optK_none, optK_oc, optK_guardT, optK_map] at h
    refine hold_of h ?_
    kernel_rfl
def zl0 (k : Nat) : Entry D := entS zkw (zkx k) zky
theorem zl1 (k : Nat) : EntryOK X 110 (zl0 k) := (zkz k).en rfl
def zl2 : Plan := ⟨[(0, [(1, none)]), (1, [(1, none), (4, none), (5, none)]), (2, [(1, none), (4, none), (18, none)]), (3, [(2, none), (3, none)]), (4, [(2, none), (3, none)])],
  [],
  [(18, ([], [(1, none), (4, none)]))]⟩
def zl3 (k : Nat) : Calls' D := ⟨[(46, z9m k), (110, zl0 k)], [], [], [], []⟩
theorem zl4 (k : Nat) : CallsOK X (zl3 k) := .cons (z9n k) (.cons (zl1 k) (.nil cod))
def zl5 (k : Nat) : Cuts D := ⟨[], []⟩
def zl6 : List Ar := [.a [.ks, .ks, .ks, .kl 34]]
def zl7 (k : Nat) (x : TupA D zl6) : Option ((List UInt8) × Bool) := I_KeyOf k (⟨x.1.1, x.1.2.1, x.1.2.2.1, x.1.2.2.2.1⟩ : IRequest)
def zl8 (r : (List UInt8) × Bool) : VR D := .tup [.c (.str r.1), .c (.bool r.2)]
theorem zl9 (k : Nat) : Does P X 51 zl6 (zl7 k) zl8 :=
  does_of (body := bodyOf Go.Proofs.Tryz.f51) (pl := zl2) (k := k) (cu := zl5 k) (tys := [[0], [0]]) (zl4 k) ctx mixed Go.Proofs.Tryz.func51 (by kernel_rfl) (by kernel_rfl) (cutOK_of (l := []) (by kernel_rfl) trivial) fun x R h => by
    simp only [zl7, I_KeyOf, optK_bind, optK_bif, optK_pure, optK_none, optK_oc, optK_guardT, optK_map] at h
    refine hold_of h ?_
    kernel_rfl
def zla (k : Nat) : Entry D := entS zl6 (zl7 k) zl8
theorem zlb (k : Nat) : EntryOK X 51 (zla k) := (zl9 k).en rfl
def zlc : Plan := ⟨[(0, [(0, some 5)]), (1, [(0, some 5), (23, none)]), (2, [(2, none)]), (3, [(0, some 5), (3, none)]), (4, [(0, some 5), (3, none), (4, none), (5, none)]), (5, [(0, some 5), (3, none), (4, none), (5, none), (7, none)]), (6, [(0, some 5), (3, none), (4, none), (5, none), (38, none)]), (7, [(2, none)]), (8, [(0, some 5), (3, none), (4, none), (5, none), (8, none), (9, none)]), (9, [(0, some 5), (3, none), (4, none), (5, none), (63, none)]), (10, [(2, none)]), (11, [(0, some 5), (4, none), (5, none), (10, none), (11, none), (12, none)]), (12, [(0, some 5), (4, none), (5, none), (10, none), (11, none), (12, none), (13, none)]), (13, [(0, some 5), (4, none), (5, none), (10, none), (11, none), (12, none), (13, none), (79, none)]), (14, [(0, some 5), (4, none), (5, none), (10, none), (11, none), (12, none), (13, none)]), (15, [(0, some 5), (4, none), (5, none), (10, none), (11, none), (13, none), (88, none)]), (16, [(0, some 5), (4, none), (5, none), (14, none), (15, none)]), (17, [(0, some 5), (112, none)]), (18, [(2, none)]), (19, [(16, none)]), (20, [(16, none), (17, none), (18, none)]), (21, [(16, none), (17, none), (18, none), (19, none)]), (22, [(17, none), (18, none), (19, none)]), (23, [(17, none), (18, none), (20, none), (21, none)]), (24, [(2, none)])],
  [(0, [(0, some 5), (4, none), (5, none), (10, none), (11, none), (12, none), (13, none)]), (1, [(0, some 5), (4, none), (5, none), (10, none), (11, none), (12, none), (13, none)])],
  [(23, ([], [(0, some 5)])), (38, ([], [(0, some 5), (3, none), (4, none), (5, none)])), (63, ([], [(0, some 5), (3, none), (4, none), (5, none)])), (79, ([(0, some 5), (4, none), (5, none), (10, none), (11, none), (12, none), (13, none)], [(0, some 5), (4, none), (5, none), (10, none), (11, none), (12, none), (13, none)])), (88, ([(0, some 5), (4, none), (5, none), (10, none), (11, none), (13, none)], [(0, some 5)])), (112, ([], [(0, some 5)]))]⟩
def zld (k : Nat) : Calls' D := ⟨[(11, z8 k), (45, z4c k), (46, z9m k), (47, zek k), (48, zeu k), (49, z4s k), (50, zg2 k), (51, zla k)], [], [], [], []⟩
theorem zle (k : Nat) : CallsOK X (zld k) := .cons (z9 k) (.cons (z4d k) (.cons (z9n k) (.cons (zel k) (.cons (zev k) (.cons (z4t k) (.cons (zg3 k) (.cons (zlb k) (.nil cod))))))))
def zlf (x : (List Int) × (List UInt8) × Bool × (List UInt8) × (List UInt8) × Bool × Int × Unit) (o : Int) (Q : Ex → VSt D → Prop) (R : VR D → Prop) : Prop := Q .normal (mkSt ⟨[(0, .hole), (4, .hole), (5, .hole), (10, .hole), (11, .hole), (12, .hole), (13, .hole)], []⟩ [.sl 5 x.1, .str x.2.1, .bool x.2.2.1, .str x.2.2.2.1, .str x.2.2.2.2.1, .bool x.2.2.2.2.2.1, .int .i64 o])
def zlg (k : Nat) : Cut D := cutS ⟨[(0, .hole), (4, .hole), (5, .hole), (10, .hole), (11, .hole), (12, .hole), (13, .hole)], []⟩ [.kl 5, .ks, .kb, .ks, .ks, .kb, .ki .i64] (fun (x : (List Int) × (List UInt8) × Bool × (List UInt8) × (List UInt8) × Bool × Int × Unit) => L_FnKeys_b0 k k x.1 x.2.1 x.2.2.1 x.2.2.2.1 x.2.2.2.2.1 x.2.2.2.2.2.1 x.2.2.2.2.2.2.1) zlf
def zlh (k : Nat) : Cuts D := ⟨[], []⟩
theorem zli (k : Nat) : CutFor X zlc k Go.Proofs.Tryz.f8.results.toList (zlg k) (sub (bodyOf Go.Proofs.Tryz.f8) [1, 1, 1, 1, 1, 1, 1, 1, 1, 0]) :=
  loopCut_s (X := X) (sg := [.kl 5, .ks, .kb, .ks, .ks, .kb, .ki .i64]) (cu := zlh k) (cl := zld k) (tys := [[0]]) (id := 0) (c := sub (bodyOf Go.Proofs.Tryz.f8) [1, 1, 1, 1, 1, 1, 1, 1, 1, 0, 0, 0]) (f := fun n => fun (x : (List Int) × (List UInt8) × Bool × (List UInt8) × (List UInt8) × Bool × Int × Unit) => L_FnKeys_b0 k n x.1 x.2.1 x.2.2.1 x.2.2.2.1 x.2.2.2.2.1 x.2.2.2.2.2.1 x.2.2.2.2.2.2.1) (zle k) (cutOK_of (l := []) (by kernel_rfl) trivial) (fun _ => rfl) (fun n x Q R h => by
    simp only [L_FnKeys_b0, optK_bind, optK_bif, optK_pure, optK_none, optK_oc, optK_guardT, optK_map] at h
    refine hold_of h ?_
    kernel_rfl) (by kernel_rfl)
def zlj (x : (List Int) × (List UInt8) × Bool × (List UInt8) × (List UInt8) × Int × Bool × Unit) (o : Oc (Unit) (Bool)) (Q : Ex → VSt D → Prop) (R : VR D → Prop) : Prop := ocP o (fun v0 => Q .normal (mkSt ⟨[(0, .hole)], []⟩ [.sl 5 x.1])) (fun w0 => R (.p (.c (.bool w0))))
def zlk (k : Nat) : Cut D := cutS ⟨[(0, .hole), (4, .hole), (5, .hole), (10, .hole), (11, .hole), (13, .hole), (88, .hole)], []⟩ [.kl 5, .ks, .kb, .ks, .ks, .ki .i64, .kb] (fun (x : (List Int) × (List UInt8) × Bool × (List UInt8) × (List UInt8) × Int × Bool × Unit) => L_FnKeys_c88 k x.1 x.2.1 x.2.2.1 x.2.2.2.1 x.2.2.2.2.1 x.2.2.2.2.2.1 x.2.2.2.2.2.2.1) zlj
def zll (k : Nat) : Cuts D := ⟨[], []⟩
theorem zlm (k : Nat) : CutFor X zlc k Go.Proofs.Tryz.f8.results.toList (zlk k) (sub (bodyOf Go.Proofs.Tryz.f8) [1, 1, 1, 1, 1, 1, 1, 1, 1, 1, 0, 1]) :=
  joinCut_s (X := X) (sg := [.kl 5, .ks, .kb, .ks, .ks, .ki .i64, .kb]) (cu := zll k) (cl := zld k) (tys := [[0]]) (zle k) (cutOK_of (l := []) (by kernel_rfl) trivial) fun x Q R h => by
    simp only [L_FnKeys_c88, optK_bind, optK_bif, optK_pure, optK_none, optK_oc, optK_guardT, optK_map] at h
    refine hold_of h ?_
    kernel_rfl
def zln (k : Nat) : Cuts D := ⟨[(0, some (zlg k))], [(88, some (zlk k))]⟩
def L_FnKeys_ar : List Ar := [.c (.kl 5)]
def L_FnKeys_f (k : Nat) (x : TupA D L_FnKeys_ar) : Option (Bool) := L_FnKeys k x.1
def L_FnKeys_vr (r : Bool) : VR D := .p (.c (.bool r))
theorem L_FnKeys_ok (k : Nat) : Does P X 8 L_FnKeys_ar (L_FnKeys_f k) L_FnKeys_vr :=
  does_of (body := bodyOf Go.Proofs.Tryz.f8) (pl := zlc) (k := k) (cu := zln k) (tys := [[0]]) (zle k) ctx mixed Go.Proofs.Tryz.func8 (by kernel_rfl) (by kernel_rfl) (cutOK_of (l := [(zlg k, sub (bodyOf Go.Proofs.Tryz.f8) [1, 1, 1, 1, 1, 1, 1, 1, 1, 0]), (zlk k, sub (bodyOf Go.Proofs.Tryz.f8) [1, 1, 1, 1, 1, 1, 1, 1, 1, 1, 0, 1])]) (by kernel_rfl) ⟨zli k, zlm k, trivial⟩) fun x R h => by
    simp only [L_FnKeys_f, L_FnKeys, optK_bind, optK_bif, optK_pure, optK_none, optK_oc, optK_guardT, optK_map] at h
    refine hold_of h ?_
    kernel_rfl
def zlo (k : Nat) : Entry D := entS L_FnKeys_ar (L_FnKeys_f k) L_FnKeys_vr
theorem zlp (k : Nat) : EntryOK X 8 (zlo k) := (L_FnKeys_ok k).en rfl

end
end Go.YtolmhhnhmbiofaaGreatDoor
