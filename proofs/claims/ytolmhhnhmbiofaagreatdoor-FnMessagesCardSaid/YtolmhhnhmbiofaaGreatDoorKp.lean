/- The machine computes the functions. Nothing is claimed here. -/
import Derived.Test.YtolmhhnhmbiofaaGreatDoorKf
import Derived.Test.YtolmhhnhmbiofaaGreatDoorShelf
import Derived.Shelf.Strings.SlTrimAscii
set_option linter.unusedVariables false
set_option linter.unusedSimpArgs false
set_option maxRecDepth 100000
namespace Go.YtolmhhnhmbiofaaGreatDoor
open Go Go.RowKit Go.Pv
noncomputable section

def z0 : Plan := ⟨[(0, [(0, some 5)]), (1, [(2, none)])],
  [],
  []⟩
def z1 (k : Nat) : Calls' D := ⟨[], [], [], [], []⟩
theorem z2 (k : Nat) : CallsOK X (z1 k) := .nil cod
def z3 (k : Nat) : Cuts D := ⟨[], []⟩
def z4 : List Ar := [.c (.kl 5)]
def z5 (k : Nat) (x : TupA D z4) : Option (Bool) := L_big k x.1
def z6 (r : Bool) : VR D := .p (.c (.bool r))
theorem z7 (k : Nat) : Does P X 11 z4 (z5 k) z6 :=
  does_of (body := bodyOf Go.Proofs.Tryz.f11) (pl := z0) (k := k) (cu := z3 k) (tys := [[0]]) (z2 k) ctx mixed Go.Proofs.Tryz.func11 (by kernel_rfl) (by kernel_rfl) (cutOK_of (l := []) (by kernel_rfl) trivial) fun x R h => by
    simp only [z5, L_big, optK_bind, optK_bif, optK_pure, optK_none, optK_oc, optK_guardT, optK_map] at h
    refine hold_of h ?_
    kernel_rfl
def z8 (k : Nat) : Entry D := entS z4 (z5 k) z6
theorem z9 (k : Nat) : EntryOK X 11 (z8 k) := (z7 k).en rfl
def za : Plan := ⟨[(0, [(0, some 5)]), (1, [(0, some 5), (3, none)]), (2, [(0, some 5), (3, none), (4, none)]), (3, [(0, some 5), (3, none), (4, none), (15, none)]), (4, [(0, some 5), (3, none), (4, none)]), (5, [(0, some 5), (3, none), (4, none)]), (6, [(2, none)])],
  [(0, [(0, some 5), (3, none)]), (1, [(0, some 5), (3, none), (4, none)])],
  [(15, ([(0, some 5), (3, none), (4, none)], [(0, some 5), (3, none)]))]⟩
def zb (k : Nat) : Calls' D := ⟨[], [], [], [], []⟩
theorem zc (k : Nat) : CallsOK X (zb k) := .nil cod
def zd (x : (List Int) × Int × Int × Unit) (o : Int) (Q : Ex → VSt D → Prop) (R : VR D → Prop) : Prop := Q .normal (mkSt ⟨[(0, .hole), (3, .hole)], []⟩ [.sl 5 x.1, .int .i64 o])
def ze (k : Nat) : Cut D := cutS ⟨[(0, .hole), (3, .hole), (4, .hole)], []⟩ [.kl 5, .ki .i64, .ki .i64] (fun (x : (List Int) × Int × Int × Unit) => S_l1New_b0 k k x.1 x.2.1 x.2.2.1) zd
def zf (k : Nat) : Cuts D := ⟨[], []⟩
theorem zg (k : Nat) : CutFor X za k [.cell 0 0, .cell 2 175] (ze k) (sub (bodyOf Go.Proofs.Tryz.f72) [1, 1, 0, 1]) :=
  loopCut_s (X := X) (sg := [.kl 5, .ki .i64, .ki .i64]) (cu := zf k) (cl := zb k) (tys := []) (id := 0) (c := sub (bodyOf Go.Proofs.Tryz.f72) [1, 1, 0, 1, 0, 0]) (f := fun n => fun (x : (List Int) × Int × Int × Unit) => S_l1New_b0 k n x.1 x.2.1 x.2.2.1) (zc k) (cutOK_of (l := []) (by kernel_rfl) trivial) (fun _ => rfl) (fun n x Q R h => by
    simp only [S_l1New_b0, optK_bind, optK_bif, optK_pure, optK_none, optK_oc, optK_guardT, optK_map] at h
    refine hold_of h ?_
    kernel_rfl) (by kernel_rfl)
def zh (k : Nat) : Cuts D := ⟨[(0, some (ze k))], []⟩
def zi : List Ar := [.c (.kl 5)]
def zj (k : Nat) (x : TupA D zi) : Option (Sl1Cur) := S_l1New k x.1
def zk (r : Sl1Cur) : Tup D [.kl 5, .ki .i64, .ki .i64] := (r.b, r.i, r.h, ())
theorem zl (k : Nat) : DoesB P X 72 [.kl 5, .ki .i64, .ki .i64] zi (zj k) zk :=
  doesB_of (r0 := 2) (pt := 175) (body := bodyOf Go.Proofs.Tryz.f72) (pl := za) (k := k) (cu := zh k) (tys := []) (zc k) ctx mixed Go.Proofs.Tryz.func72 (by kernel_rfl) (by kernel_rfl) (by kernel_rfl) (by kernel_rfl) (cutOK_of (l := [(ze k, sub (bodyOf Go.Proofs.Tryz.f72) [1, 1, 0, 1])]) (by kernel_rfl) ⟨zg k, trivial⟩) fun x R h => by
    simp only [zj, S_l1New, optK_bind, optK_bif, optK_pure, optK_none, optK_oc, optK_guardT, optK_map] at h
    refine hold_of h ?_
    kernel_rfl
def zm (k : Nat) : EntryB D := entB [.kl 5, .ki .i64, .ki .i64] zi (zj k) zk
theorem zn (k : Nat) : EntryBOK X 72 (zm k) := (zl k).en rfl
def zo : Plan := ⟨[(0, [(0, none)]), (1, [(0, none)]), (2, [(0, none), (3, none)]), (3, [(0, none), (3, none), (34, none)]), (4, [(0, none), (3, none)]), (5, [(0, none), (3, none)]), (6, [(0, none), (2, none)])],
  [],
  [(34, ([(0, none), (3, none)], [(0, none), (3, none)]))]⟩
def zp (k : Nat) : Calls' D := ⟨[], [], [], [], []⟩
theorem zq (k : Nat) : CallsOK X (zp k) := .nil cod
def zr (x : Int × Bool × (List Int) × Int × Int × Unit) (o : Int × Int) (Q : Ex → VSt D → Prop) (R : VR D → Prop) : Prop := Q .normal (mkSt ⟨[(0, .ptr 700000 0), (3, .hole)], [(700000, .var [.hole, .hole, .hole])]⟩ [.int .i64 o.1, .sl 5 x.2.2.1, .int .i64 o.2, .int .i64 x.2.2.2.2.1])
def zs (k : Nat) : Cut D := cutS ⟨[(0, .ptr 700000 0), (3, .hole), (34, .hole)], [(700000, .var [.hole, .hole, .hole])]⟩ [.ki .i64, .kb, .kl 5, .ki .i64, .ki .i64] (fun (x : Int × Bool × (List Int) × Int × Int × Unit) => S_l1Byte_c34 k x.1 x.2.1 x.2.2.1 x.2.2.2.1 x.2.2.2.2.1) zr
def zt (k : Nat) : Cuts D := ⟨[], []⟩
theorem zu (k : Nat) : CutFor X zo k (.cell 0 175 :: Go.Proofs.Tryz.f162.results.toList) (zs k) (sub (bodyOf Go.Proofs.Tryz.f162) [1, 1, 1, 0, 1]) :=
  joinCut_s (X := X) (sg := [.ki .i64, .kb, .kl 5, .ki .i64, .ki .i64]) (cu := zt k) (cl := zp k) (tys := [[0]]) (zq k) (cutOK_of (l := []) (by kernel_rfl) trivial) fun x Q R h => by
    simp only [S_l1Byte_c34, optK_bind, optK_bif, optK_pure, optK_none, optK_oc, optK_guardT, optK_map] at h
    refine hold_of h ?_
    kernel_rfl
def zv (k : Nat) : Cuts D := ⟨[], [(34, some (zs k))]⟩
def zw : List Ar := []
def zx (k : Nat) (c : Tup D [.kl 5, .ki .i64, .ki .i64]) (x : TupA D zw) : Option (Int × Sl1Cur) := S_l1Byte k (⟨c.1, c.2.1, c.2.2.1⟩ : Sl1Cur)
def zy (r : Int × Sl1Cur) : Tup D [.kl 5, .ki .i64, .ki .i64] := (r.2.b, r.2.i, r.2.h, ())
def zz (r : Int × Sl1Cur) : List (VP D) := [.c (.int .i64 r.1)]
theorem z10 (k : Nat) : DoesP P X 162 [.kl 5, .ki .i64, .ki .i64] zw (zx k) zz zy :=
  doesP_of (pt := 175) (body := bodyOf Go.Proofs.Tryz.f162) (pl := zo) (k := k) (cu := zv k) (tys := [[0]]) (zq k) ctx mixed Go.Proofs.Tryz.func162 (by kernel_rfl) (by kernel_rfl) (by kernel_rfl) (by kernel_rfl) (cutOK_of (l := [(zs k, sub (bodyOf Go.Proofs.Tryz.f162) [1, 1, 1, 0, 1])]) (by kernel_rfl) ⟨zu k, trivial⟩) fun c x R h => by
    simp only [zx, S_l1Byte, optK_bind, optK_bif, optK_pure, optK_none, optK_oc, optK_guardT, optK_map] at h
    refine hold_of h ?_
    kernel_rfl
def z11 (k : Nat) : EntryP D := entP [.kl 5, .ki .i64, .ki .i64] zw (zx k) zz zy
theorem z12 (k : Nat) : EntryPOK X 162 (z11 k) := (z10 k).en rfl
def z13 : Plan := ⟨[(0, [(0, none), (1, none)]), (1, [(0, none), (1, none), (9, none)]), (2, [(0, none), (4, none)]), (3, [(0, none), (1, none), (11, none)]), (4, [(0, none), (4, none)]), (5, [(0, none), (1, none), (5, none)]), (6, [(0, none), (1, none), (5, none), (6, none)]), (7, [(0, none), (1, none), (5, none), (6, none), (7, none)]), (8, [(0, none), (4, none)])],
  [],
  [(9, ([(0, none)], [(0, none), (1, none)])), (11, ([(0, none), (1, none)], [(0, none), (1, none)]))]⟩
def z14 (k : Nat) : Calls' D := ⟨[], [], [(162, z11 k)], [], []⟩
theorem z15 (k : Nat) : CallsOK X (z14 k) := .consP (z12 k) (.nil cod)
def z16 (k : Nat) : Cuts D := ⟨[], []⟩
def z17 : List Ar := [.c (.ki .i64)]
def z18 (k : Nat) (c : Tup D [.kl 5, .ki .i64, .ki .i64]) (x : TupA D z17) : Option (Int × Sl1Cur) := S_l1Below k (⟨c.1, c.2.1, c.2.2.1⟩ : Sl1Cur) x.1
def z19 (r : Int × Sl1Cur) : Tup D [.kl 5, .ki .i64, .ki .i64] := (r.2.b, r.2.i, r.2.h, ())
def z1a (r : Int × Sl1Cur) : List (VP D) := [.c (.int .i64 r.1)]
theorem z1b (k : Nat) : DoesP P X 75 [.kl 5, .ki .i64, .ki .i64] z17 (z18 k) z1a z19 :=
  doesP_of (pt := 175) (body := bodyOf Go.Proofs.Tryz.f75) (pl := z13) (k := k) (cu := z16 k) (tys := [[0]]) (z15 k) ctx mixed Go.Proofs.Tryz.func75 (by kernel_rfl) (by kernel_rfl) (by kernel_rfl) (by kernel_rfl) (cutOK_of (l := []) (by kernel_rfl) trivial) fun c x R h => by
    simp only [z18, S_l1Below, optK_bind, optK_bif, optK_pure, optK_none, optK_oc, optK_guardT, optK_map] at h
    refine hold_of h ?_
    kernel_rfl
def z1c (k : Nat) : EntryP D := entP [.kl 5, .ki .i64, .ki .i64] z17 (z18 k) z1a z19
theorem z1d (k : Nat) : EntryPOK X 75 (z1c k) := (z1b k).en rfl
def z1e : Plan := ⟨[(0, [(0, none), (1, some 9)]), (1, [(0, none), (4, none)])],
  [],
  []⟩
def z1f (k : Nat) : Calls' D := ⟨[], [], [(75, z1c k)], [], []⟩
theorem z1g (k : Nat) : CallsOK X (z1f k) := .consP (z1d k) (.nil cod)
def z1h (k : Nat) : Cuts D := ⟨[], []⟩
def z1i : List Ar := [.c (.kl 9)]
def z1j (k : Nat) (c : Tup D [.kl 5, .ki .i64, .ki .i64]) (x : TupA D z1i) : Option ((List UInt8) × Sl1Cur) := S_l1Str k (⟨c.1, c.2.1, c.2.2.1⟩ : Sl1Cur) x.1
def z1k (r : (List UInt8) × Sl1Cur) : Tup D [.kl 5, .ki .i64, .ki .i64] := (r.2.b, r.2.i, r.2.h, ())
def z1l (r : (List UInt8) × Sl1Cur) : List (VP D) := [.c (.str r.1)]
theorem z1m (k : Nat) : DoesP P X 78 [.kl 5, .ki .i64, .ki .i64] z1i (z1j k) z1l z1k :=
  doesP_of (pt := 175) (body := bodyOf Go.Proofs.Tryz.f78) (pl := z1e) (k := k) (cu := z1h k) (tys := [[0]]) (z1g k) ctx mixed Go.Proofs.Tryz.func78 (by kernel_rfl) (by kernel_rfl) (by kernel_rfl) (by kernel_rfl) (cutOK_of (l := []) (by kernel_rfl) trivial) fun c x R h => by
    simp only [z1j, S_l1Str, optK_bind, optK_bif, optK_pure, optK_none, optK_oc, optK_guardT, optK_map] at h
    refine hold_of h ?_
    kernel_rfl
def z1n (k : Nat) : EntryP D := entP [.kl 5, .ki .i64, .ki .i64] z1i (z1j k) z1l z1k
theorem z1o (k : Nat) : EntryPOK X 78 (z1n k) := (z1m k).en rfl
def z1p : Plan := ⟨[(0, [(0, none)]), (1, [(0, none), (2, none)])],
  [],
  []⟩
def z1q (k : Nat) : Calls' D := ⟨[], [], [(78, z1n k)], [], []⟩
theorem z1r (k : Nat) : CallsOK X (z1q k) := .consP (z1o k) (.nil cod)
def z1s (k : Nat) : Cuts D := ⟨[], []⟩
def z1t : List Ar := []
def z1u (k : Nat) (c : Tup D [.kl 5, .ki .i64, .ki .i64]) (x : TupA D z1t) : Option ((List UInt8) × Sl1Cur) := S_l11Target k (⟨c.1, c.2.1, c.2.2.1⟩ : Sl1Cur)
def z1v (r : (List UInt8) × Sl1Cur) : Tup D [.kl 5, .ki .i64, .ki .i64] := (r.2.b, r.2.i, r.2.h, ())
def z1w (r : (List UInt8) × Sl1Cur) : List (VP D) := [.c (.str r.1)]
theorem z1x (k : Nat) : DoesP P X 208 [.kl 5, .ki .i64, .ki .i64] z1t (z1u k) z1w z1v :=
  doesP_of (pt := 175) (body := bodyOf Go.Proofs.Tryz.f208) (pl := z1p) (k := k) (cu := z1s k) (tys := [[0]]) (z1r k) ctx mixed Go.Proofs.Tryz.func208 (by kernel_rfl) (by kernel_rfl) (by kernel_rfl) (by kernel_rfl) (cutOK_of (l := []) (by kernel_rfl) trivial) fun c x R h => by
    simp only [z1u, S_l11Target, optK_bind, optK_bif, optK_pure, optK_none, optK_oc, optK_guardT, optK_map] at h
    refine hold_of h ?_
    kernel_rfl
def z1y (k : Nat) : EntryP D := entP [.kl 5, .ki .i64, .ki .i64] z1t (z1u k) z1w z1v
theorem z1z (k : Nat) : EntryPOK X 208 (z1y k) := (z1x k).en rfl
def z20 : Plan := ⟨[(0, [(0, none)]), (1, [(0, none), (3, some 34)]), (2, [(0, none), (3, some 34), (4, none)]), (3, [(0, none), (3, some 34), (4, none), (9, none)]), (4, [(0, none), (3, some 34), (4, none)]), (5, [(0, none), (3, some 34), (4, none)]), (6, [(0, none), (2, some 34)])],
  [(0, [(0, none), (3, some 34)]), (1, [(0, none), (3, some 34), (4, none)])],
  [(9, ([(0, none), (3, some 34), (4, none)], [(0, none), (3, some 34)]))]⟩
def z21 (k : Nat) : Calls' D := ⟨[], [], [(75, z1c k), (78, z1n k)], [], []⟩
theorem z22 (k : Nat) : CallsOK X (z21 k) := .consP (z1d k) (.consP (z1o k) (.nil cod))
def z23 (x : Int × (List Int) × Int × Int × (List IField) × Unit) (o : (List Int) × Int × Int × (List IField)) (Q : Ex → VSt D → Prop) (R : VR D → Prop) : Prop := Q .normal (mkSt ⟨[(0, .ptr 700000 0), (3, .ref 500003)], [(700000, .var [.hole, .hole, .hole]), (500003, .row)]⟩ [.sl 5 o.1, .int .i64 o.2.1, .int .i64 o.2.2.1, .sl 34 o.2.2.2])
def z24 (k : Nat) : Cut D := cutS ⟨[(0, .ptr 700000 0), (3, .ref 500003), (4, .hole)], [(700000, .var [.hole, .hole, .hole]), (500003, .row)]⟩ [.ki .i64, .kl 5, .ki .i64, .ki .i64, .kl 34] (fun (x : Int × (List Int) × Int × Int × (List IField) × Unit) => S_l5Draw_b0 k k x.1 x.2.1 x.2.2.1 x.2.2.2.1 x.2.2.2.2.1) z23
def z25 (k : Nat) : Cuts D := ⟨[], []⟩
theorem z26 (k : Nat) : CutFor X z20 k (.cell 0 175 :: Go.Proofs.Tryz.f222.results.toList) (z24 k) (sub (bodyOf Go.Proofs.Tryz.f222) [1, 1, 0, 1]) :=
  loopCut_s (X := X) (sg := [.ki .i64, .kl 5, .ki .i64, .ki .i64, .kl 34]) (cu := z25 k) (cl := z21 k) (tys := [[34]]) (id := 0) (c := sub (bodyOf Go.Proofs.Tryz.f222) [1, 1, 0, 1, 0, 0]) (f := fun n => fun (x : Int × (List Int) × Int × Int × (List IField) × Unit) => S_l5Draw_b0 k n x.1 x.2.1 x.2.2.1 x.2.2.2.1 x.2.2.2.2.1) (z22 k) (cutOK_of (l := []) (by kernel_rfl) trivial) (fun _ => rfl) (fun n x Q R h => by
    simp only [S_l5Draw_b0, optK_bind, optK_bif, optK_pure, optK_none, optK_oc, optK_guardT, optK_map] at h
    refine hold_of h ?_
    kernel_rfl) (by kernel_rfl)
def z27 (k : Nat) : Cuts D := ⟨[(0, some (z24 k))], []⟩
def z28 : List Ar := []
def z29 (k : Nat) (c : Tup D [.kl 5, .ki .i64, .ki .i64]) (x : TupA D z28) : Option ((List IField) × Sl1Cur) := S_l5Draw k (⟨c.1, c.2.1, c.2.2.1⟩ : Sl1Cur)
def z2a (r : (List IField) × Sl1Cur) : Tup D [.kl 5, .ki .i64, .ki .i64] := (r.2.b, r.2.i, r.2.h, ())
def z2b (r : (List IField) × Sl1Cur) : List (VP D) := [.c (.sl 34 r.1)]
theorem z2c (k : Nat) : DoesP P X 222 [.kl 5, .ki .i64, .ki .i64] z28 (z29 k) z2b z2a :=
  doesP_of (pt := 175) (body := bodyOf Go.Proofs.Tryz.f222) (pl := z20) (k := k) (cu := z27 k) (tys := [[34]]) (z22 k) ctx mixed Go.Proofs.Tryz.func222 (by kernel_rfl) (by kernel_rfl) (by kernel_rfl) (by kernel_rfl) (cutOK_of (l := [(z24 k, sub (bodyOf Go.Proofs.Tryz.f222) [1, 1, 0, 1])]) (by kernel_rfl) ⟨z26 k, trivial⟩) fun c x R h => by
    simp only [z29, S_l5Draw, optK_bind, optK_bif, optK_pure, optK_none, optK_oc, optK_guardT, optK_map] at h
    refine hold_of h ?_
    kernel_rfl
def z2d (k : Nat) : EntryP D := entP [.kl 5, .ki .i64, .ki .i64] z28 (z29 k) z2b z2a
theorem z2e (k : Nat) : EntryPOK X 222 (z2d k) := (z2c k).en rfl
def z2f : Plan := ⟨[(0, [(0, none), (1, none)]), (1, [(0, none), (4, none)])],
  [],
  []⟩
def z2g (k : Nat) : Calls' D := ⟨[], [], [(75, z1c k)], [], []⟩
theorem z2h (k : Nat) : CallsOK X (z2g k) := .consP (z1d k) (.nil cod)
def z2i (k : Nat) : Cuts D := ⟨[], []⟩
def z2j : List Ar := [.c (.ki .i64)]
def z2k (k : Nat) (c : Tup D [.kl 5, .ki .i64, .ki .i64]) (x : TupA D z2j) : Option (Bool × Sl1Cur) := S_l1Once k (⟨c.1, c.2.1, c.2.2.1⟩ : Sl1Cur) x.1
def z2l (r : Bool × Sl1Cur) : Tup D [.kl 5, .ki .i64, .ki .i64] := (r.2.b, r.2.i, r.2.h, ())
def z2m (r : Bool × Sl1Cur) : List (VP D) := [.c (.bool r.1)]
theorem z2n (k : Nat) : DoesP P X 76 [.kl 5, .ki .i64, .ki .i64] z2j (z2k k) z2m z2l :=
  doesP_of (pt := 175) (body := bodyOf Go.Proofs.Tryz.f76) (pl := z2f) (k := k) (cu := z2i k) (tys := [[0]]) (z2h k) ctx mixed Go.Proofs.Tryz.func76 (by kernel_rfl) (by kernel_rfl) (by kernel_rfl) (by kernel_rfl) (cutOK_of (l := []) (by kernel_rfl) trivial) fun c x R h => by
    simp only [z2k, S_l1Once, optK_bind, optK_bif, optK_pure, optK_none, optK_oc, optK_guardT, optK_map] at h
    refine hold_of h ?_
    kernel_rfl
def z2o (k : Nat) : EntryP D := entP [.kl 5, .ki .i64, .ki .i64] z2j (z2k k) z2m z2l
theorem z2p (k : Nat) : EntryPOK X 76 (z2o k) := (z2n k).en rfl
def z2q : Plan := ⟨[(0, [(0, none), (2, none)]), (1, [(0, none), (2, none), (3, none)]), (2, [(0, none), (2, none), (3, none), (16, none)]), (3, [(0, none), (2, none), (3, none)]), (4, [(0, none), (2, none)])],
  [],
  [(16, ([(0, none), (2, none), (3, none)], [(0, none), (2, none), (3, none)]))]⟩
def z2r (k : Nat) : Calls' D := ⟨[], [], [(78, z1n k), (208, z1y k), (222, z2d k), (76, z2o k)], [], []⟩
theorem z2s (k : Nat) : CallsOK X (z2r k) := .consP (z1o k) (.consP (z1z k) (.consP (z2e k) (.consP (z2p k) (.nil cod))))
def z2t (x : Bool × (List Int) × Int × Int × (List UInt8) × (List UInt8) × (List UInt8) × (List UInt8) × (List UInt8) × (List UInt8) × (List IField) × Unit) (o : (List Int) × Int × Int × (List UInt8)) (Q : Ex → VSt D → Prop) (R : VR D → Prop) : Prop := Q .normal (mkSt ⟨[(0, .ptr 700000 0), (2, .ptr 2 0), (3, .ptr 3 0)], [(700000, .var [.hole, .hole, .hole]), (2, .var [.hole, .hole, .hole, .nil]), (3, .var [.hole, .hole, .hole, .ref 100000303]), (100000303, .row)]⟩ [.sl 5 o.1, .int .i64 o.2.1, .int .i64 o.2.2.1, .str x.2.2.2.2.1, .str x.2.2.2.2.2.1, .str x.2.2.2.2.2.2.1, .str x.2.2.2.2.2.2.2.1, .str x.2.2.2.2.2.2.2.2.1, .str o.2.2.2, .sl 34 x.2.2.2.2.2.2.2.2.2.2.1])
def z2u (k : Nat) : Cut D := cutS ⟨[(0, .ptr 700000 0), (2, .ptr 2 0), (3, .ptr 3 0), (16, .hole)], [(700000, .var [.hole, .hole, .hole]), (2, .var [.hole, .hole, .hole, .nil]), (3, .var [.hole, .hole, .hole, .ref 100000303]), (100000303, .row)]⟩ [.kb, .kl 5, .ki .i64, .ki .i64, .ks, .ks, .ks, .ks, .ks, .ks, .kl 34] (fun (x : Bool × (List Int) × Int × Int × (List UInt8) × (List UInt8) × (List UInt8) × (List UInt8) × (List UInt8) × (List UInt8) × (List IField) × Unit) => S_l11Request_c16 k x.1 x.2.1 x.2.2.1 x.2.2.2.1 x.2.2.2.2.1 x.2.2.2.2.2.1 x.2.2.2.2.2.2.1 x.2.2.2.2.2.2.2.1 x.2.2.2.2.2.2.2.2.1 x.2.2.2.2.2.2.2.2.2.1 x.2.2.2.2.2.2.2.2.2.2.1) z2t
def z2v (k : Nat) : Cuts D := ⟨[], []⟩
theorem z2w (k : Nat) : CutFor X z2q k (.cell 0 175 :: Go.Proofs.Tryz.f149.results.toList) (z2u k) (sub (bodyOf Go.Proofs.Tryz.f149) [1, 1, 0, 1]) :=
  joinCut_s (X := X) (sg := [.kb, .kl 5, .ki .i64, .ki .i64, .ks, .ks, .ks, .ks, .ks, .ks, .kl 34]) (cu := z2v k) (cl := z2r k) (tys := [[0, 0, 0, 34]]) (z2s k) (cutOK_of (l := []) (by kernel_rfl) trivial) fun x Q R h => by
    simp only [S_l11Request_c16, optK_bind, optK_bif, optK_pure, optK_none, optK_oc, optK_guardT, optK_map] at h
    refine hold_of h ?_
    kernel_rfl
def z2x (k : Nat) : Cuts D := ⟨[], [(16, some (z2u k))]⟩
def z2y : List Ar := []
def z2z (k : Nat) (c : Tup D [.kl 5, .ki .i64, .ki .i64]) (x : TupA D z2y) : Option (IRequest × Sl1Cur) := S_l11Request k (⟨c.1, c.2.1, c.2.2.1⟩ : Sl1Cur)
def z30 (r : IRequest × Sl1Cur) : Tup D [.kl 5, .ki .i64, .ki .i64] := (r.2.b, r.2.i, r.2.h, ())
def z31 (r : IRequest × Sl1Cur) : List (VP D) := [.agg [.str r.1.Method, .str r.1.Host, .str r.1.Target, .sl 34 r.1.Fields]]
theorem z32 (k : Nat) : DoesP P X 149 [.kl 5, .ki .i64, .ki .i64] z2y (z2z k) z31 z30 :=
  doesP_of (pt := 175) (body := bodyOf Go.Proofs.Tryz.f149) (pl := z2q) (k := k) (cu := z2x k) (tys := [[0, 0, 0, 34]]) (z2s k) ctx mixed Go.Proofs.Tryz.func149 (by kernel_rfl) (by kernel_rfl) (by kernel_rfl) (by kernel_rfl) (cutOK_of (l := [(z2u k, sub (bodyOf Go.Proofs.Tryz.f149) [1, 1, 0, 1])]) (by kernel_rfl) ⟨z2w k, trivial⟩) fun c x R h => by
    simp only [z2z, S_l11Request, optK_bind, optK_bif, optK_pure, optK_none, optK_oc, optK_guardT, optK_map] at h
    refine hold_of h ?_
    kernel_rfl
def z33 (k : Nat) : EntryP D := entP [.kl 5, .ki .i64, .ki .i64] z2y (z2z k) z31 z30
theorem z34 (k : Nat) : EntryPOK X 149 (z33 k) := (z32 k).en rfl
def z35 : Plan := ⟨[(0, [(0, some 5), (2, none)]), (1, [(2, none), (3, none)]), (2, [(2, none)])],
  [],
  []⟩
def z36 (k : Nat) : Calls' D := ⟨[], [], [(149, z33 k)], [(72, zm k)], []⟩
theorem z37 (k : Nat) : CallsOK X (z36 k) := .consP (z34 k) (.consB (zn k) (.nil cod))
def z38 (k : Nat) : Cuts D := ⟨[], []⟩
def z39 : List Ar := [.c (.kl 5)]
def z3a (k : Nat) (x : TupA D z39) : Option (IRequest) := S_DrawFormatRequest k x.1
def z3b (r : IRequest) : VR D := .p (.agg [.str r.Method, .str r.Host, .str r.Target, .sl 34 r.Fields])
theorem z3c (k : Nat) : Does P X 52 z39 (z3a k) z3b :=
  does_of (body := bodyOf Go.Proofs.Tryz.f52) (pl := z35) (k := k) (cu := z38 k) (tys := [[0, 0, 0, 34]]) (z37 k) ctx mixed Go.Proofs.Tryz.func52 (by kernel_rfl) (by kernel_rfl) (cutOK_of (l := []) (by kernel_rfl) trivial) fun x R h => by
    simp only [z3a, S_DrawFormatRequest, optK_bind, optK_bif, optK_pure, optK_none, optK_oc, optK_guardT, optK_map] at h
    refine hold_of h ?_
    kernel_rfl
def z3d (k : Nat) : Entry D := entS z39 (z3a k) z3b
theorem z3e (k : Nat) : EntryOK X 52 (z3d k) := (z3c k).en rfl
def z3f : List Ar := [.c (.ks), .c (.ki .u8)]
def z3g (k : Nat) (x : TupA D z3f) : Option (Int) := strings_IndexByte k x.1 x.2.1
def z3h (r : Int) : VR D := .p (.c (.int .i64 r))
theorem z3i (k : Nat) : Does P X 210 z3f (z3g k) z3h := does_indexByte ⟨Go.Proofs.Tryz.f210, Go.Proofs.Tryz.func210, by kernel_rfl, by kernel_rfl⟩ (fun s c w hg => Go.Proofs.Tryz.strings_IndexByte s c w)
def z3j (k : Nat) : Entry D := entS z3f (z3g k) z3h
theorem z3k (k : Nat) : EntryOK X 210 (z3j k) := (z3i k).en rfl
def z3l : Plan := ⟨[(0, [(0, none)]), (1, [(2, none)])],
  [],
  []⟩
def z3m (k : Nat) : Calls' D := ⟨[(210, z3j k)], [], [], [], []⟩
theorem z3n (k : Nat) : CallsOK X (z3m k) := .cons (z3k k) (.nil cod)
def z3o (k : Nat) : Cuts D := ⟨[], []⟩
def z3p : List Ar := [.c (.ki .u8)]
def z3q (k : Nat) (x : TupA D z3p) : Option (Bool) := I_isTokenByte k x.1
def z3r (r : Bool) : VR D := .p (.c (.bool r))
theorem z3s (k : Nat) : Does P X 261 z3p (z3q k) z3r :=
  does_of (body := bodyOf Go.Proofs.Tryz.f261) (pl := z3l) (k := k) (cu := z3o k) (tys := [[0]]) (z3n k) ctx mixed Go.Proofs.Tryz.func261 (by kernel_rfl) (by kernel_rfl) (cutOK_of (l := []) (by kernel_rfl) trivial) fun x R h => by
    simp only [z3q, I_isTokenByte, optK_bind, optK_bif, optK_pure, optK_none, optK_oc, optK_guardT, optK_map] at h
    refine hold_of h ?_
    kernel_rfl
def z3t (k : Nat) : Entry D := entS z3p (z3q k) z3r
theorem z3u (k : Nat) : EntryOK X 261 (z3t k) := (z3s k).en rfl
def z3v : Plan := ⟨[(0, [(0, none), (1, none), (2, none)]), (1, [(6, none)])],
  [],
  []⟩
def z3w (k : Nat) : Calls' D := ⟨[], [], [], [], []⟩
theorem z3x (k : Nat) : CallsOK X (z3w k) := .nil cod
def z3y (k : Nat) : Cuts D := ⟨[], []⟩
def z3z : List Ar := [.c (.ki .i64), .c (.ki .i64), .c (.ki .i64)]
def z40 (k : Nat) (x : TupA D z3z) : Option (Bool) := I_inRange k x.1 x.2.1 x.2.2.1
def z41 (r : Bool) : VR D := .p (.c (.bool r))
theorem z42 (k : Nat) : Does P X 111 z3z (z40 k) z41 :=
  does_of (body := bodyOf Go.Proofs.Tryz.f111) (pl := z3v) (k := k) (cu := z3y k) (tys := [[0]]) (z3x k) ctx mixed Go.Proofs.Tryz.func111 (by kernel_rfl) (by kernel_rfl) (cutOK_of (l := []) (by kernel_rfl) trivial) fun x R h => by
    simp only [z40, I_inRange, optK_bind, optK_bif, optK_pure, optK_none, optK_oc, optK_guardT, optK_map] at h
    refine hold_of h ?_
    kernel_rfl
def z43 (k : Nat) : Entry D := entS z3z (z40 k) z41
theorem z44 (k : Nat) : EntryOK X 111 (z43 k) := (z42 k).en rfl
def z45 : Plan := ⟨[(0, [(0, none)]), (1, [(0, none), (5, none), (6, none)]), (2, [(0, none), (5, none), (6, none), (7, none)]), (3, [(0, none), (3, none), (5, none), (6, none)]), (4, [(0, none), (5, none), (6, none), (13, none)]), (5, [(2, none)]), (6, [(0, none), (5, none), (6, none)]), (7, [(2, none)])],
  [(0, [(0, none)]), (1, [(0, none), (5, none), (6, none)])],
  [(7, ([(0, none), (5, none), (6, none)], [(0, none)])), (13, ([], [(0, none), (5, none), (6, none)]))]⟩
def z46 (k : Nat) : Calls' D := ⟨[(261, z3t k), (111, z43 k)], [], [], [], []⟩
theorem z47 (k : Nat) : CallsOK X (z46 k) := .cons (z3u k) (.cons (z44 k) (.nil cod))
def z48 (x : (List UInt8) × Int × Int × Unit) (o : Oc (Unit) (Bool)) (Q : Ex → VSt D → Prop) (R : VR D → Prop) : Prop := ocP o (fun v0 => Q .normal (mkSt ⟨[(0, .hole)], []⟩ [.str x.1])) (fun w0 => R (.p (.c (.bool w0))))
def z49 (k : Nat) : Cut D := cutS ⟨[(0, .hole), (5, .hole), (6, .hole)], []⟩ [.ks, .ki .i64, .ki .i64] (fun (x : (List UInt8) × Int × Int × Unit) => I_IsToken_b0 k k x.1 x.2.1 x.2.2.1) z48
def z4a (k : Nat) : Cuts D := ⟨[], []⟩
theorem z4b (k : Nat) : CutFor X z45 k Go.Proofs.Tryz.f184.results.toList (z49 k) (sub (bodyOf Go.Proofs.Tryz.f184) [1, 0, 1]) :=
  loopCut_s (X := X) (sg := [.ks, .ki .i64, .ki .i64]) (cu := z4a k) (cl := z46 k) (tys := [[0]]) (id := 0) (c := sub (bodyOf Go.Proofs.Tryz.f184) [1, 0, 1, 0, 0]) (f := fun n => fun (x : (List UInt8) × Int × Int × Unit) => I_IsToken_b0 k n x.1 x.2.1 x.2.2.1) (z47 k) (cutOK_of (l := []) (by kernel_rfl) trivial) (fun _ => rfl) (fun n x Q R h => by
    simp only [I_IsToken_b0, optK_bind, optK_bif, optK_pure, optK_none, optK_oc, optK_guardT, optK_map] at h
    refine hold_of h ?_
    kernel_rfl) (by kernel_rfl)
def z4c (k : Nat) : Cuts D := ⟨[(0, some (z49 k))], []⟩
def z4d : List Ar := [.c (.ks)]
def z4e (k : Nat) (x : TupA D z4d) : Option (Bool) := I_IsToken k x.1
def z4f (r : Bool) : VR D := .p (.c (.bool r))
theorem z4g (k : Nat) : Does P X 184 z4d (z4e k) z4f :=
  does_of (body := bodyOf Go.Proofs.Tryz.f184) (pl := z45) (k := k) (cu := z4c k) (tys := [[0]]) (z47 k) ctx mixed Go.Proofs.Tryz.func184 (by kernel_rfl) (by kernel_rfl) (cutOK_of (l := [(z49 k, sub (bodyOf Go.Proofs.Tryz.f184) [1, 0, 1])]) (by kernel_rfl) ⟨z4b k, trivial⟩) fun x R h => by
    simp only [z4e, I_IsToken, optK_bind, optK_bif, optK_pure, optK_none, optK_oc, optK_guardT, optK_map] at h
    refine hold_of h ?_
    kernel_rfl
def z4h (k : Nat) : Entry D := entS z4d (z4e k) z4f
theorem z4i (k : Nat) : EntryOK X 184 (z4h k) := (z4g k).en rfl
def z4j : List Ar := [.c (.ks)]
def z4k (k : Nat) (x : TupA D z4j) : Option ((List UInt8)) := strings_ToUpper k x.1
def z4l (r : (List UInt8)) : VR D := .p (.c (.str r))
theorem z4m (k : Nat) : Does P X 185 z4j (z4k k) z4l := does_toUpper ⟨Go.Proofs.Tryz.f185, Go.Proofs.Tryz.func185, by kernel_rfl, by kernel_rfl⟩ (fun s w hg h1 h2 => Go.Proofs.Tryz.strings_ToUpper_ascii s w h1 h2)
def z4n (k : Nat) : Entry D := entS z4j (z4k k) z4l
theorem z4o (k : Nat) : EntryOK X 185 (z4n k) := (z4m k).en rfl
def z4p : Plan := ⟨[(0, [(0, none)]), (1, [(0, none), (6, none), (7, none)]), (2, [(0, none), (6, none), (7, none), (8, none)]), (3, [(0, none), (3, none), (6, none), (7, none)]), (4, [(0, none), (4, none), (6, none), (7, none)]), (5, [(0, none), (6, none), (7, none), (35, none)]), (6, [(2, none)]), (7, [(0, none), (6, none), (7, none)]), (8, [(2, none)])],
  [(0, [(0, none)]), (1, [(0, none), (6, none), (7, none)])],
  [(8, ([(0, none), (6, none), (7, none)], [(0, none)])), (35, ([], [(0, none), (6, none), (7, none)]))]⟩
def z4q (k : Nat) : Calls' D := ⟨[(111, z43 k)], [], [], [], []⟩
theorem z4r (k : Nat) : CallsOK X (z4q k) := .cons (z44 k) (.nil cod)
def z4s (x : (List UInt8) × Int × Int × Unit) (o : Oc (Unit) (Bool)) (Q : Ex → VSt D → Prop) (R : VR D → Prop) : Prop := ocP o (fun v0 => Q .normal (mkSt ⟨[(0, .hole)], []⟩ [.str x.1])) (fun w0 => R (.p (.c (.bool w0))))
def z4t (k : Nat) : Cut D := cutS ⟨[(0, .hole), (6, .hole), (7, .hole)], []⟩ [.ks, .ki .i64, .ki .i64] (fun (x : (List UInt8) × Int × Int × Unit) => I_isHost_b0 k k x.1 x.2.1 x.2.2.1) z4s
def z4u (k : Nat) : Cuts D := ⟨[], []⟩
theorem z4v (k : Nat) : CutFor X z4p k Go.Proofs.Tryz.f186.results.toList (z4t k) (sub (bodyOf Go.Proofs.Tryz.f186) [1, 0, 1]) :=
  loopCut_s (X := X) (sg := [.ks, .ki .i64, .ki .i64]) (cu := z4u k) (cl := z4q k) (tys := [[0]]) (id := 0) (c := sub (bodyOf Go.Proofs.Tryz.f186) [1, 0, 1, 0, 0]) (f := fun n => fun (x : (List UInt8) × Int × Int × Unit) => I_isHost_b0 k n x.1 x.2.1 x.2.2.1) (z4r k) (cutOK_of (l := []) (by kernel_rfl) trivial) (fun _ => rfl) (fun n x Q R h => by
    simp only [I_isHost_b0, optK_bind, optK_bif, optK_pure, optK_none, optK_oc, optK_guardT, optK_map] at h
    refine hold_of h ?_
    kernel_rfl) (by kernel_rfl)
def z4w (k : Nat) : Cuts D := ⟨[(0, some (z4t k))], []⟩
def z4x : List Ar := [.c (.ks)]
def z4y (k : Nat) (x : TupA D z4x) : Option (Bool) := I_isHost k x.1
def z4z (r : Bool) : VR D := .p (.c (.bool r))
theorem z50 (k : Nat) : Does P X 186 z4x (z4y k) z4z :=
  does_of (body := bodyOf Go.Proofs.Tryz.f186) (pl := z4p) (k := k) (cu := z4w k) (tys := [[0]]) (z4r k) ctx mixed Go.Proofs.Tryz.func186 (by kernel_rfl) (by kernel_rfl) (cutOK_of (l := [(z4t k, sub (bodyOf Go.Proofs.Tryz.f186) [1, 0, 1])]) (by kernel_rfl) ⟨z4v k, trivial⟩) fun x R h => by
    simp only [z4y, I_isHost, optK_bind, optK_bif, optK_pure, optK_none, optK_oc, optK_guardT, optK_map] at h
    refine hold_of h ?_
    kernel_rfl
def z51 (k : Nat) : Entry D := entS z4x (z4y k) z4z
theorem z52 (k : Nat) : EntryOK X 186 (z51 k) := (z50 k).en rfl
def z53 : Plan := ⟨[(0, [(0, none)]), (1, [(3, some 5)]), (2, [(3, some 5), (8, some 5), (9, none), (10, none)]), (3, [(3, some 5), (8, some 5), (9, none), (10, none), (11, none)]), (4, [(3, some 5), (4, none), (5, none), (8, some 5), (9, none), (10, none)]), (5, [(3, some 5), (4, none), (5, none), (8, some 5), (9, none), (10, none), (20, none)]), (6, [(3, some 5), (8, some 5), (9, none), (10, none)]), (7, [(3, some 5), (8, some 5), (9, none), (10, none)]), (8, [(2, none)])],
  [(0, [(3, some 5)]), (1, [(3, some 5), (8, some 5), (9, none), (10, none)])],
  [(11, ([(3, some 5), (8, some 5), (9, none), (10, none)], [(3, some 5)])), (20, ([(3, some 5), (4, none), (5, none), (8, some 5), (9, none), (10, none)], [(3, some 5), (8, some 5), (9, none), (10, none)]))]⟩
def z54 (k : Nat) : Calls' D := ⟨[], [], [], [], []⟩
theorem z55 (k : Nat) : CallsOK X (z54 k) := .nil cod
def z56 (x : Int × Int × Int × Int × Bool × (List Int) × Unit) (o : (List Int)) (Q : Ex → VSt D → Prop) (R : VR D → Prop) : Prop := Q .normal (mkSt ⟨[(3, .ref 500008), (8, .ref 500008), (9, .hole), (10, .hole)], [(500008, .row)]⟩ [.int .i64 x.2.2.1, .int .i64 x.2.2.2.1, .sl 5 o])
def z57 (k : Nat) : Cut D := cutS ⟨[(3, .ref 500008), (4, .hole), (5, .hole), (8, .ref 500008), (9, .hole), (10, .hole), (20, .hole)], [(500008, .row)]⟩ [.ki .i64, .ki .u8, .ki .i64, .ki .i64, .kb, .kl 5] (fun (x : Int × Int × Int × Int × Bool × (List Int) × Unit) => I_LowerText_c20 k x.1 x.2.1 x.2.2.1 x.2.2.2.1 x.2.2.2.2.1 x.2.2.2.2.2.1) z56
def z58 (k : Nat) : Cuts D := ⟨[], []⟩
theorem z59 (k : Nat) : CutFor X z53 k Go.Proofs.Tryz.f201.results.toList (z57 k) (sub (bodyOf Go.Proofs.Tryz.f201) [1, 1, 0, 1, 0, 0, 1, 1, 0, 0, 1, 1]) :=
  joinCut_s (X := X) (sg := [.ki .i64, .ki .u8, .ki .i64, .ki .i64, .kb, .kl 5]) (cu := z58 k) (cl := z54 k) (tys := [[0]]) (z55 k) (cutOK_of (l := []) (by kernel_rfl) trivial) fun x Q R h => by
    simp only [I_LowerText_c20, optK_bind, optK_bif, optK_pure, optK_none, optK_oc, optK_guardT, optK_map] at h
    refine hold_of h ?_
    kernel_rfl
def z5a (x : Int × Int × (List Int) × Unit) (o : (List Int)) (Q : Ex → VSt D → Prop) (R : VR D → Prop) : Prop := Q .normal (mkSt ⟨[(3, .ref 500008), (8, .ref 500008), (9, .hole), (10, .hole)], [(500008, .row)]⟩ [.int .i64 x.1, .int .i64 x.2.1, .sl 5 o])
def z5b (k : Nat) : Cut D := cutS ⟨[(3, .ref 500008), (8, .ref 500008), (9, .hole), (10, .hole)], [(500008, .row)]⟩ [.ki .i64, .ki .i64, .kl 5] (fun (x : Int × Int × (List Int) × Unit) => I_LowerText_b1 k x.1 x.2.1 x.2.2.1) z5a
def z5c (k : Nat) : Cuts D := ⟨[], [(20, some (z57 k))]⟩
theorem z5d (k : Nat) : CutFor X z53 k Go.Proofs.Tryz.f201.results.toList (z5b k) (sub (bodyOf Go.Proofs.Tryz.f201) [1, 1, 0, 1, 0, 0, 1, 1, 0]) :=
  joinCut_s (X := X) (sg := [.ki .i64, .ki .i64, .kl 5]) (cu := z5c k) (cl := z54 k) (tys := [[0]]) (z55 k) (cutOK_of (l := [(z57 k, sub (bodyOf Go.Proofs.Tryz.f201) [1, 1, 0, 1, 0, 0, 1, 1, 0, 0, 1, 1])]) (by kernel_rfl) ⟨z59 k, trivial⟩) fun x Q R h => by
    simp only [I_LowerText_b1, optK_bind, optK_bif, optK_pure, optK_none, optK_oc, optK_guardT, optK_map] at h
    refine hold_of h ?_
    kernel_rfl
def z5e (x : Int × Int × (List Int) × Unit) (o : (List Int)) (Q : Ex → VSt D → Prop) (R : VR D → Prop) : Prop := Q .normal (mkSt ⟨[(3, .ref 500003)], [(500003, .row)]⟩ [.sl 5 o])
def z5f (k : Nat) : Cut D := cutS ⟨[(3, .ref 500008), (8, .ref 500008), (9, .hole), (10, .hole)], [(500008, .row)]⟩ [.ki .i64, .ki .i64, .kl 5] (fun (x : Int × Int × (List Int) × Unit) => I_LowerText_b0 k k x.1 x.2.1 x.2.2.1) z5e
def z5g (k : Nat) : Cuts D := ⟨[(1, some (z5b k))], []⟩
theorem z5h (k : Nat) : CutFor X z53 k Go.Proofs.Tryz.f201.results.toList (z5f k) (sub (bodyOf Go.Proofs.Tryz.f201) [1, 1, 0, 1]) :=
  loopCut_s (X := X) (sg := [.ki .i64, .ki .i64, .kl 5]) (cu := z5g k) (cl := z54 k) (tys := [[0]]) (id := 0) (c := sub (bodyOf Go.Proofs.Tryz.f201) [1, 1, 0, 1, 0, 0]) (f := fun n => fun (x : Int × Int × (List Int) × Unit) => I_LowerText_b0 k n x.1 x.2.1 x.2.2.1) (z55 k) (cutOK_of (l := [(z5b k, sub (bodyOf Go.Proofs.Tryz.f201) [1, 1, 0, 1, 0, 0, 1, 1, 0])]) (by kernel_rfl) ⟨z5d k, trivial⟩) (fun _ => rfl) (fun n x Q R h => by
    simp only [I_LowerText_b0, optK_bind, optK_bif, optK_pure, optK_none, optK_oc, optK_guardT, optK_map] at h
    refine hold_of h ?_
    kernel_rfl) (by kernel_rfl)
def z5i (k : Nat) : Cuts D := ⟨[(0, some (z5f k))], []⟩
def z5j : List Ar := [.c (.ks)]
def z5k (k : Nat) (x : TupA D z5j) : Option ((List UInt8)) := I_LowerText k x.1
def z5l (r : (List UInt8)) : VR D := .p (.c (.str r))
theorem z5m (k : Nat) : Does P X 201 z5j (z5k k) z5l :=
  does_of (body := bodyOf Go.Proofs.Tryz.f201) (pl := z53) (k := k) (cu := z5i k) (tys := [[0]]) (z55 k) ctx mixed Go.Proofs.Tryz.func201 (by kernel_rfl) (by kernel_rfl) (cutOK_of (l := [(z5f k, sub (bodyOf Go.Proofs.Tryz.f201) [1, 1, 0, 1])]) (by kernel_rfl) ⟨z5h k, trivial⟩) fun x R h => by
    simp only [z5k, I_LowerText, optK_bind, optK_bif, optK_pure, optK_none, optK_oc, optK_guardT, optK_map] at h
    refine hold_of h ?_
    kernel_rfl
def z5n (k : Nat) : Entry D := entS z5j (z5k k) z5l
theorem z5o (k : Nat) : EntryOK X 201 (z5n k) := (z5m k).en rfl
def z5p : List Ar := [.c (.ks), .c (.ks)]
def z5q (k : Nat) (x : TupA D z5p) : Option ((List UInt8)) := strings_Trim k x.1 x.2.1
def z5r (r : (List UInt8)) : VR D := .p (.c (.str r))
theorem z5s (k : Nat) : Does P X 166 z5p (z5q k) z5r := does_trim ⟨Go.Proofs.Tryz.f166, Go.Proofs.Tryz.func166, by kernel_rfl, by kernel_rfl⟩ (fun s cs w hg h1 h2 h3 => Go.Proofs.Any.strings_Trim_laid Go.Proofs.Tryz.lays160 (by kernel_rfl) s cs w h1 h2 h3)
def z5t (k : Nat) : Entry D := entS z5p (z5q k) z5r
theorem z5u (k : Nat) : EntryOK X 166 (z5t k) := (z5s k).en rfl
def z5v : Plan := ⟨[(0, [(0, none)]), (1, [(2, none)])],
  [],
  []⟩
def z5w (k : Nat) : Calls' D := ⟨[(166, z5t k)], [], [], [], []⟩
theorem z5x (k : Nat) : CallsOK X (z5w k) := .cons (z5u k) (.nil cod)
def z5y (k : Nat) : Cuts D := ⟨[], []⟩
def z5z : List Ar := [.c (.ks)]
def z60 (k : Nat) (x : TupA D z5z) : Option ((List UInt8)) := I_TrimText k x.1
def z61 (r : (List UInt8)) : VR D := .p (.c (.str r))
theorem z62 (k : Nat) : Does P X 163 z5z (z60 k) z61 :=
  does_of (body := bodyOf Go.Proofs.Tryz.f163) (pl := z5v) (k := k) (cu := z5y k) (tys := [[0]]) (z5x k) ctx mixed Go.Proofs.Tryz.func163 (by kernel_rfl) (by kernel_rfl) (cutOK_of (l := []) (by kernel_rfl) trivial) fun x R h => by
    simp only [z60, I_TrimText, optK_bind, optK_bif, optK_pure, optK_none, optK_oc, optK_guardT, optK_map] at h
    refine hold_of h ?_
    kernel_rfl
def z63 (k : Nat) : Entry D := entS z5z (z60 k) z61
theorem z64 (k : Nat) : EntryOK X 163 (z63 k) := (z62 k).en rfl
def z65 : Plan := ⟨[(0, [(0, none)]), (1, [(0, none), (5, none), (6, none)]), (2, [(0, none), (5, none), (6, none), (7, none)]), (3, [(0, none), (3, none), (5, none), (6, none)]), (4, [(0, none), (5, none), (6, none), (20, none)]), (5, [(2, none)]), (6, [(0, none), (5, none), (6, none)]), (7, [(2, none)])],
  [(0, [(0, none)]), (1, [(0, none), (5, none), (6, none)])],
  [(7, ([(0, none), (5, none), (6, none)], [(0, none)])), (20, ([], [(0, none), (5, none), (6, none)]))]⟩
def z66 (k : Nat) : Calls' D := ⟨[(111, z43 k), (163, z63 k)], [], [], [], []⟩
theorem z67 (k : Nat) : CallsOK X (z66 k) := .cons (z44 k) (.cons (z64 k) (.nil cod))
def z68 (x : (List UInt8) × Int × Int × Unit) (o : Oc (Unit) (Bool)) (Q : Ex → VSt D → Prop) (R : VR D → Prop) : Prop := ocP o (fun v0 => Q .normal (mkSt ⟨[(0, .hole)], []⟩ [.str x.1])) (fun w0 => R (.p (.c (.bool w0))))
def z69 (k : Nat) : Cut D := cutS ⟨[(0, .hole), (5, .hole), (6, .hole)], []⟩ [.ks, .ki .i64, .ki .i64] (fun (x : (List UInt8) × Int × Int × Unit) => I_isFieldValue_b0 k k x.1 x.2.1 x.2.2.1) z68
def z6a (k : Nat) : Cuts D := ⟨[], []⟩
theorem z6b (k : Nat) : CutFor X z65 k Go.Proofs.Tryz.f204.results.toList (z69 k) (sub (bodyOf Go.Proofs.Tryz.f204) [1, 0, 1]) :=
  loopCut_s (X := X) (sg := [.ks, .ki .i64, .ki .i64]) (cu := z6a k) (cl := z66 k) (tys := [[0]]) (id := 0) (c := sub (bodyOf Go.Proofs.Tryz.f204) [1, 0, 1, 0, 0]) (f := fun n => fun (x : (List UInt8) × Int × Int × Unit) => I_isFieldValue_b0 k n x.1 x.2.1 x.2.2.1) (z67 k) (cutOK_of (l := []) (by kernel_rfl) trivial) (fun _ => rfl) (fun n x Q R h => by
    simp only [I_isFieldValue_b0, optK_bind, optK_bif, optK_pure, optK_none, optK_oc, optK_guardT, optK_map] at h
    refine hold_of h ?_
    kernel_rfl) (by kernel_rfl)
def z6c (k : Nat) : Cuts D := ⟨[(0, some (z69 k))], []⟩
def z6d : List Ar := [.c (.ks)]
def z6e (k : Nat) (x : TupA D z6d) : Option (Bool) := I_isFieldValue k x.1
def z6f (r : Bool) : VR D := .p (.c (.bool r))
theorem z6g (k : Nat) : Does P X 204 z6d (z6e k) z6f :=
  does_of (body := bodyOf Go.Proofs.Tryz.f204) (pl := z65) (k := k) (cu := z6c k) (tys := [[0]]) (z67 k) ctx mixed Go.Proofs.Tryz.func204 (by kernel_rfl) (by kernel_rfl) (cutOK_of (l := [(z69 k, sub (bodyOf Go.Proofs.Tryz.f204) [1, 0, 1])]) (by kernel_rfl) ⟨z6b k, trivial⟩) fun x R h => by
    simp only [z6e, I_isFieldValue, optK_bind, optK_bif, optK_pure, optK_none, optK_oc, optK_guardT, optK_map] at h
    refine hold_of h ?_
    kernel_rfl
def z6h (k : Nat) : Entry D := entS z6d (z6e k) z6f
theorem z6i (k : Nat) : EntryOK X 204 (z6h k) := (z6g k).en rfl
def z6j : Plan := ⟨[(0, [(0, some 34)]), (1, [(0, some 34), (5, some 34), (6, none), (7, none)]), (2, [(0, some 34), (5, some 34), (6, none), (7, none), (8, none)]), (3, [(0, some 34), (4, none), (5, some 34), (6, none), (7, none)]), (4, [(0, some 34), (5, some 34), (6, none), (7, none), (28, none)]), (5, [(2, none)]), (6, [(0, some 34), (5, some 34), (6, none), (7, none)]), (7, [(2, none)])],
  [(0, [(0, some 34)]), (1, [(0, some 34), (5, some 34), (6, none), (7, none)])],
  [(8, ([(0, some 34), (5, some 34), (6, none), (7, none)], [(0, some 34)])), (28, ([], [(0, some 34), (5, some 34), (6, none), (7, none)]))]⟩
def z6k (k : Nat) : Calls' D := ⟨[(184, z4h k), (201, z5n k), (204, z6h k)], [], [], [], []⟩
theorem z6l (k : Nat) : CallsOK X (z6k k) := .cons (z4i k) (.cons (z5o k) (.cons (z6i k) (.nil cod)))
def z6m (x : (List IField) × (List IField) × Int × Int × Unit) (o : Oc (Unit) (Bool)) (Q : Ex → VSt D → Prop) (R : VR D → Prop) : Prop := ocP o (fun v0 => Q .normal (mkSt ⟨[(0, .hole)], []⟩ [.sl 34 x.1])) (fun w0 => R (.p (.c (.bool w0))))
def z6n (k : Nat) : Cut D := cutS ⟨[(0, .hole), (5, .hole), (6, .hole), (7, .hole)], []⟩ [.kl 34, .kl 34, .ki .i64, .ki .i64] (fun (x : (List IField) × (List IField) × Int × Int × Unit) => I_AreFields_b0 k k x.1 x.2.1 x.2.2.1 x.2.2.2.1) z6m
def z6o (k : Nat) : Cuts D := ⟨[], []⟩
theorem z6p (k : Nat) : CutFor X z6j k Go.Proofs.Tryz.f187.results.toList (z6n k) (sub (bodyOf Go.Proofs.Tryz.f187) [1, 0, 1]) :=
  loopCut_s (X := X) (sg := [.kl 34, .kl 34, .ki .i64, .ki .i64]) (cu := z6o k) (cl := z6k k) (tys := [[0]]) (id := 0) (c := sub (bodyOf Go.Proofs.Tryz.f187) [1, 0, 1, 0, 0]) (f := fun n => fun (x : (List IField) × (List IField) × Int × Int × Unit) => I_AreFields_b0 k n x.1 x.2.1 x.2.2.1 x.2.2.2.1) (z6l k) (cutOK_of (l := []) (by kernel_rfl) trivial) (fun _ => rfl) (fun n x Q R h => by
    simp only [I_AreFields_b0, optK_bind, optK_bif, optK_pure, optK_none, optK_oc, optK_guardT, optK_map] at h
    refine hold_of h ?_
    kernel_rfl) (by kernel_rfl)
def z6q (k : Nat) : Cuts D := ⟨[(0, some (z6n k))], []⟩
def z6r : List Ar := [.c (.kl 34)]
def z6s (k : Nat) (x : TupA D z6r) : Option (Bool) := I_AreFields k x.1
def z6t (r : Bool) : VR D := .p (.c (.bool r))
theorem z6u (k : Nat) : Does P X 187 z6r (z6s k) z6t :=
  does_of (body := bodyOf Go.Proofs.Tryz.f187) (pl := z6j) (k := k) (cu := z6q k) (tys := [[0]]) (z6l k) ctx mixed Go.Proofs.Tryz.func187 (by kernel_rfl) (by kernel_rfl) (cutOK_of (l := [(z6n k, sub (bodyOf Go.Proofs.Tryz.f187) [1, 0, 1])]) (by kernel_rfl) ⟨z6p k, trivial⟩) fun x R h => by
    simp only [z6s, I_AreFields, optK_bind, optK_bif, optK_pure, optK_none, optK_oc, optK_guardT, optK_map] at h
    refine hold_of h ?_
    kernel_rfl
def z6v (k : Nat) : Entry D := entS z6r (z6s k) z6t
theorem z6w (k : Nat) : EntryOK X 187 (z6v k) := (z6u k).en rfl
def z6x : Plan := ⟨[(0, [(1, none), (2, none)]), (1, [(3, none)])],
  [],
  []⟩
def z6y (k : Nat) : Calls' D := ⟨[], [], [], [], []⟩
theorem z6z (k : Nat) : CallsOK X (z6y k) := .nil cod
def z70 (k : Nat) : Cuts D := ⟨[], []⟩
def z71 : List Ar := [.a [.ks, .ks], .x [.ks]]
def z72 (k : Nat) (x : TupA D z71) : Option (Bool) := I_hasField_1 k (⟨x.1.1, x.1.2.1⟩ : IField) x.2.1.1
def z73 (r : Bool) : VR D := .p (.c (.bool r))
theorem z74 (k : Nat) : Does P X 173 z71 (z72 k) z73 :=
  does_of (body := bodyOf Go.Proofs.Tryz.f173) (pl := z6x) (k := k) (cu := z70 k) (tys := [[0]]) (z6z k) ctx mixed Go.Proofs.Tryz.func173 (by kernel_rfl) (by kernel_rfl) (cutOK_of (l := []) (by kernel_rfl) trivial) fun x R h => by
    simp only [z72, I_hasField_1, optK_bind, optK_bif, optK_pure, optK_none, optK_oc, optK_guardT, optK_map] at h
    refine hold_of h ?_
    kernel_rfl
def z75 (k : Nat) : Entry D := entS z71 (z72 k) z73
theorem z76 (k : Nat) : EntryOK X 173 (z75 k) := (z74 k).en rfl
def z77 : Plan := ⟨[(0, [(0, some 34), (1, none)]), (1, [(0, some 34), (1, none), (7, none), (8, none)]), (2, [(0, some 34), (1, none), (7, none), (8, none), (9, none)]), (3, [(0, some 34), (1, none), (5, none), (7, none), (8, none)]), (4, [(0, some 34), (1, none), (5, none), (7, none), (8, none), (16, none)]), (5, [(4, none)]), (6, [(0, some 34), (1, none), (7, none), (8, none)]), (7, [(4, none)])],
  [(0, []), (1, [(0, some 34), (1, none), (7, none), (8, none)])],
  [(9, ([(0, some 34), (1, none), (7, none), (8, none)], [])), (16, ([(5, none)], [(0, some 34), (1, none), (7, none), (8, none)]))]⟩
def z78 (k : Nat) : Calls' D := ⟨[(173, z75 k)], [], [], [], []⟩
theorem z79 (k : Nat) : CallsOK X (z78 k) := .cons (z76 k) (.nil cod)
def z7a (x : (List IField) × (List UInt8) × Int × Int × Unit) (o : Oc (Unit) (Int)) (Q : Ex → VSt D → Prop) (R : VR D → Prop) : Prop := ocP o (fun v0 => Q .normal (mkSt ⟨[], []⟩ [])) (fun w0 => R (.p (.c (.int .i64 w0))))
def z7b (k : Nat) : Cut D := cutS ⟨[(0, .hole), (1, .clo 173 [.rptr 1]), (7, .hole), (8, .hole)], []⟩ [.kl 34, .ks, .ki .i64, .ki .i64] (fun (x : (List IField) × (List UInt8) × Int × Int × Unit) => slices_IndexFunc_IField_at_I_hasField_1_b0 k k x.1 x.2.1 x.2.2.1 x.2.2.2.1) z7a
def z7c (k : Nat) : Cuts D := ⟨[], []⟩
theorem z7d (k : Nat) : CutFor X z77 k Go.Proofs.Tryz.f242.results.toList (z7b k) (sub (bodyOf Go.Proofs.Tryz.f242) [1, 0, 1]) :=
  loopCut_s (X := X) (sg := [.kl 34, .ks, .ki .i64, .ki .i64]) (cu := z7c k) (cl := z78 k) (tys := [[0]]) (id := 0) (c := sub (bodyOf Go.Proofs.Tryz.f242) [1, 0, 1, 0, 0]) (f := fun n => fun (x : (List IField) × (List UInt8) × Int × Int × Unit) => slices_IndexFunc_IField_at_I_hasField_1_b0 k n x.1 x.2.1 x.2.2.1 x.2.2.2.1) (z79 k) (cutOK_of (l := []) (by kernel_rfl) trivial) (fun _ => rfl) (fun n x Q R h => by
    simp only [slices_IndexFunc_IField_at_I_hasField_1_b0, optK_bind, optK_bif, optK_pure, optK_none, optK_oc, optK_guardT, optK_map] at h
    refine hold_of h ?_
    kernel_rfl) (by kernel_rfl)
def z7e (k : Nat) : Cuts D := ⟨[(0, some (z7b k))], []⟩
def z7f : List Ar := [.c (.kl 34), .f 173 [[.ks]]]
def z7g (k : Nat) (x : TupA D z7f) : Option (Int) := slices_IndexFunc_IField_at_I_hasField_1 k x.1 x.2.1.1.1
def z7h (r : Int) : VR D := .p (.c (.int .i64 r))
theorem z7i (k : Nat) : Does P X 242 z7f (z7g k) z7h :=
  does_of (body := bodyOf Go.Proofs.Tryz.f242) (pl := z77) (k := k) (cu := z7e k) (tys := [[0]]) (z79 k) ctx mixed Go.Proofs.Tryz.func242 (by kernel_rfl) (by kernel_rfl) (cutOK_of (l := [(z7b k, sub (bodyOf Go.Proofs.Tryz.f242) [1, 0, 1])]) (by kernel_rfl) ⟨z7d k, trivial⟩) fun x R h => by
    simp only [z7g, slices_IndexFunc_IField_at_I_hasField_1, optK_bind, optK_bif, optK_pure, optK_none, optK_oc, optK_guardT, optK_map] at h
    refine hold_of h ?_
    kernel_rfl
def z7j (k : Nat) : Entry D := entS z7f (z7g k) z7h
theorem z7k (k : Nat) : EntryOK X 242 (z7j k) := (z7i k).en rfl
def z7l : Plan := ⟨[(0, [(0, some 34), (1, none)]), (1, [(4, none)])],
  [],
  []⟩
def z7m (k : Nat) : Calls' D := ⟨[(242, z7j k)], [], [], [], []⟩
theorem z7n (k : Nat) : CallsOK X (z7m k) := .cons (z7k k) (.nil cod)
def z7o (k : Nat) : Cuts D := ⟨[], []⟩
def z7p : List Ar := [.c (.kl 34), .f 173 [[.ks]]]
def z7q (k : Nat) (x : TupA D z7p) : Option (Bool) := slices_ContainsFunc_IField_at_I_hasField_1 k x.1 x.2.1.1.1
def z7r (r : Bool) : VR D := .p (.c (.bool r))
theorem z7s (k : Nat) : Does P X 172 z7p (z7q k) z7r :=
  does_of (body := bodyOf Go.Proofs.Tryz.f172) (pl := z7l) (k := k) (cu := z7o k) (tys := [[0]]) (z7n k) ctx mixed Go.Proofs.Tryz.func172 (by kernel_rfl) (by kernel_rfl) (cutOK_of (l := []) (by kernel_rfl) trivial) fun x R h => by
    simp only [z7q, slices_ContainsFunc_IField_at_I_hasField_1, optK_bind, optK_bif, optK_pure, optK_none, optK_oc, optK_guardT, optK_map] at h
    refine hold_of h ?_
    kernel_rfl
def z7t (k : Nat) : Entry D := entS z7p (z7q k) z7r
theorem z7u (k : Nat) : EntryOK X 172 (z7t k) := (z7s k).en rfl
def z7v : Plan := ⟨[(0, [(0, some 34), (3, none)]), (1, [(4, none)])],
  [],
  []⟩
def z7w (k : Nat) : Calls' D := ⟨[(172, z7t k)], [], [], [], []⟩
theorem z7x (k : Nat) : CallsOK X (z7w k) := .cons (z7u k) (.nil cod)
def z7y (k : Nat) : Cuts D := ⟨[], []⟩
def z7z : List Ar := [.c (.kl 34), .c (.ks)]
def z80 (k : Nat) (x : TupA D z7z) : Option (Bool) := I_hasField k x.1 x.2.1
def z81 (r : Bool) : VR D := .p (.c (.bool r))
theorem z82 (k : Nat) : Does P X 94 z7z (z80 k) z81 :=
  does_of (body := bodyOf Go.Proofs.Tryz.f94) (pl := z7v) (k := k) (cu := z7y k) (tys := [[0]]) (z7x k) ctx mixed Go.Proofs.Tryz.func94 (by kernel_rfl) (by kernel_rfl) (cutOK_of (l := []) (by kernel_rfl) trivial) fun x R h => by
    simp only [z80, I_hasField, optK_bind, optK_bif, optK_pure, optK_none, optK_oc, optK_guardT, optK_map] at h
    refine hold_of h ?_
    kernel_rfl
def z83 (k : Nat) : Entry D := entS z7z (z80 k) z81
theorem z84 (k : Nat) : EntryOK X 94 (z83 k) := (z82 k).en rfl
def z85 : Plan := ⟨[(0, [(1, none)]), (1, [(1, none), (34, none)]), (2, [(2, none)]), (3, [(1, none), (37, none), (38, none)]), (4, [(1, none), (37, none), (38, none), (39, none)]), (5, [(1, none), (3, none), (37, none), (38, none)]), (6, [(1, none), (37, none), (38, none), (47, none)]), (7, [(2, none)]), (8, [(1, none), (37, none), (38, none)]), (9, [(2, none)])],
  [(0, [(1, none)]), (1, [(1, none), (37, none), (38, none)])],
  [(34, ([], [(1, none)])), (39, ([(1, none), (37, none), (38, none)], [(1, none)])), (47, ([], [(1, none), (37, none), (38, none)]))]⟩
def z86 (k : Nat) : Calls' D := ⟨[(184, z4h k), (185, z4n k), (186, z51 k), (111, z43 k), (187, z6v k), (94, z83 k)], [], [], [], []⟩
theorem z87 (k : Nat) : CallsOK X (z86 k) := .cons (z4i k) (.cons (z4o k) (.cons (z52 k) (.cons (z44 k) (.cons (z6w k) (.cons (z84 k) (.nil cod))))))
def z88 (x : Int × Int × (List UInt8) × (List UInt8) × (List UInt8) × (List IField) × Unit) (o : Oc (Unit) (Bool)) (Q : Ex → VSt D → Prop) (R : VR D → Prop) : Prop := ocP o (fun v0 => Q .normal (mkSt ⟨[(1, .ptr 1 0)], [(1, .var [.hole, .hole, .hole, .hole])]⟩ [.str x.2.2.1, .str x.2.2.2.1, .str x.2.2.2.2.1, .sl 34 x.2.2.2.2.2.1])) (fun w0 => R (.p (.c (.bool w0))))
def z89 (k : Nat) : Cut D := cutS ⟨[(1, .ptr 1 0), (37, .hole), (38, .hole)], [(1, .var [.hole, .hole, .hole, .hole])]⟩ [.ki .i64, .ki .i64, .ks, .ks, .ks, .kl 34] (fun (x : Int × Int × (List UInt8) × (List UInt8) × (List UInt8) × (List IField) × Unit) => I_IsRequest_b0 k k x.1 x.2.1 x.2.2.1 x.2.2.2.1 x.2.2.2.2.1 x.2.2.2.2.2.1) z88
def z8a (k : Nat) : Cuts D := ⟨[], []⟩
theorem z8b (k : Nat) : CutFor X z85 k Go.Proofs.Tryz.f110.results.toList (z89 k) (sub (bodyOf Go.Proofs.Tryz.f110) [1, 1, 0, 1]) :=
  loopCut_s (X := X) (sg := [.ki .i64, .ki .i64, .ks, .ks, .ks, .kl 34]) (cu := z8a k) (cl := z86 k) (tys := [[0]]) (id := 0) (c := sub (bodyOf Go.Proofs.Tryz.f110) [1, 1, 0, 1, 0, 0]) (f := fun n => fun (x : Int × Int × (List UInt8) × (List UInt8) × (List UInt8) × (List IField) × Unit) => I_IsRequest_b0 k n x.1 x.2.1 x.2.2.1 x.2.2.2.1 x.2.2.2.2.1 x.2.2.2.2.2.1) (z87 k) (cutOK_of (l := []) (by kernel_rfl) trivial) (fun _ => rfl) (fun n x Q R h => by
    simp only [I_IsRequest_b0, optK_bind, optK_bif, optK_pure, optK_none, optK_oc, optK_guardT, optK_map] at h
    refine hold_of h ?_
    kernel_rfl) (by kernel_rfl)
def z8c (k : Nat) : Cuts D := ⟨[(0, some (z89 k))], []⟩
def z8d : List Ar := [.a [.ks, .ks, .ks, .kl 34]]
def z8e (k : Nat) (x : TupA D z8d) : Option (Bool) := I_IsRequest k (⟨x.1.1, x.1.2.1, x.1.2.2.1, x.1.2.2.2.1⟩ : IRequest)
def z8f (r : Bool) : VR D := .p (.c (.bool r))
theorem z8g (k : Nat) : Does P X 110 z8d (z8e k) z8f :=
  does_of (body := bodyOf Go.Proofs.Tryz.f110) (pl := z85) (k := k) (cu := z8c k) (tys := [[0]]) (z87 k) ctx mixed Go.Proofs.Tryz.func110 (by kernel_rfl) (by kernel_rfl) (cutOK_of (l := [(z89 k, sub (bodyOf Go.Proofs.Tryz.f110) [1, 1, 0, 1])]) (by kernel_rfl) ⟨z8b k, trivial⟩) fun x R h => by
    simp only [z8e, I_IsRequest, optK_bind, optK_bif, optK_pure, optK_none, optK_oc, optK_guardT, optK_map] at h
    refine hold_of h ?_
    kernel_rfl
def z8h (k : Nat) : Entry D := entS z8d (z8e k) z8f
theorem z8i (k : Nat) : EntryOK X 110 (z8h k) := (z8g k).en rfl
def z8j : Plan := ⟨[(0, [(0, some 34)]), (1, [(0, some 34), (3, none)]), (2, [(3, none), (6, some 34), (7, none), (8, none)]), (3, [(3, none), (6, some 34), (7, none), (8, none), (9, none)]), (4, [(3, none), (5, none), (6, some 34), (7, none), (8, none)]), (5, [(3, none), (6, some 34), (7, none), (8, none)]), (6, [(3, none), (6, some 34), (7, none), (8, none)]), (7, [(2, none)])],
  [(0, [(3, none)]), (1, [(3, none), (6, some 34), (7, none), (8, none)])],
  [(9, ([(3, none), (6, some 34), (7, none), (8, none)], [(3, none)]))]⟩
def z8k (k : Nat) : Calls' D := ⟨[], [], [], [], []⟩
theorem z8l (k : Nat) : CallsOK X (z8k k) := .nil cod
def z8m (x : (List UInt8) × (List IField) × Int × Int × Unit) (o : (List UInt8)) (Q : Ex → VSt D → Prop) (R : VR D → Prop) : Prop := Q .normal (mkSt ⟨[(3, .hole)], []⟩ [.str o])
def z8n (k : Nat) : Cut D := cutS ⟨[(3, .hole), (6, .hole), (7, .hole), (8, .hole)], []⟩ [.ks, .kl 34, .ki .i64, .ki .i64] (fun (x : (List UInt8) × (List IField) × Int × Int × Unit) => I_FormatFields_b0 k k x.1 x.2.1 x.2.2.1 x.2.2.2.1) z8m
def z8o (k : Nat) : Cuts D := ⟨[], []⟩
theorem z8p (k : Nat) : CutFor X z8j k Go.Proofs.Tryz.f151.results.toList (z8n k) (sub (bodyOf Go.Proofs.Tryz.f151) [1, 1, 0, 1]) :=
  loopCut_s (X := X) (sg := [.ks, .kl 34, .ki .i64, .ki .i64]) (cu := z8o k) (cl := z8k k) (tys := [[0]]) (id := 0) (c := sub (bodyOf Go.Proofs.Tryz.f151) [1, 1, 0, 1, 0, 0]) (f := fun n => fun (x : (List UInt8) × (List IField) × Int × Int × Unit) => I_FormatFields_b0 k n x.1 x.2.1 x.2.2.1 x.2.2.2.1) (z8l k) (cutOK_of (l := []) (by kernel_rfl) trivial) (fun _ => rfl) (fun n x Q R h => by
    simp only [I_FormatFields_b0, optK_bind, optK_bif, optK_pure, optK_none, optK_oc, optK_guardT, optK_map] at h
    refine hold_of h ?_
    kernel_rfl) (by kernel_rfl)
def z8q (k : Nat) : Cuts D := ⟨[(0, some (z8n k))], []⟩
def z8r : List Ar := [.c (.kl 34)]
def z8s (k : Nat) (x : TupA D z8r) : Option ((List UInt8)) := I_FormatFields k x.1
def z8t (r : (List UInt8)) : VR D := .p (.c (.str r))
theorem z8u (k : Nat) : Does P X 151 z8r (z8s k) z8t :=
  does_of (body := bodyOf Go.Proofs.Tryz.f151) (pl := z8j) (k := k) (cu := z8q k) (tys := [[0]]) (z8l k) ctx mixed Go.Proofs.Tryz.func151 (by kernel_rfl) (by kernel_rfl) (cutOK_of (l := [(z8n k, sub (bodyOf Go.Proofs.Tryz.f151) [1, 1, 0, 1])]) (by kernel_rfl) ⟨z8p k, trivial⟩) fun x R h => by
    simp only [z8s, I_FormatFields, optK_bind, optK_bif, optK_pure, optK_none, optK_oc, optK_guardT, optK_map] at h
    refine hold_of h ?_
    kernel_rfl
def z8v (k : Nat) : Entry D := entS z8r (z8s k) z8t
theorem z8w (k : Nat) : EntryOK X 151 (z8v k) := (z8u k).en rfl
def z8x : Plan := ⟨[(0, [(1, none)]), (1, [(1, none), (5, none)]), (2, [(2, none)]), (3, [(2, none)])],
  [],
  [(5, ([], [(1, none)]))]⟩
def z8y (k : Nat) : Calls' D := ⟨[(110, z8h k), (151, z8v k)], [], [], [], []⟩
theorem z8z (k : Nat) : CallsOK X (z8y k) := .cons (z8i k) (.cons (z8w k) (.nil cod))
def z90 (k : Nat) : Cuts D := ⟨[], []⟩
def z91 : List Ar := [.a [.ks, .ks, .ks, .kl 34]]
def z92 (k : Nat) (x : TupA D z91) : Option ((List UInt8)) := I_FormatRequest k (⟨x.1.1, x.1.2.1, x.1.2.2.1, x.1.2.2.2.1⟩ : IRequest)
def z93 (r : (List UInt8)) : VR D := .p (.c (.str r))
theorem z94 (k : Nat) : Does P X 54 z91 (z92 k) z93 :=
  does_of (body := bodyOf Go.Proofs.Tryz.f54) (pl := z8x) (k := k) (cu := z90 k) (tys := [[0]]) (z8z k) ctx mixed Go.Proofs.Tryz.func54 (by kernel_rfl) (by kernel_rfl) (cutOK_of (l := []) (by kernel_rfl) trivial) fun x R h => by
    simp only [z92, I_FormatRequest, optK_bind, optK_bif, optK_pure, optK_none, optK_oc, optK_guardT, optK_map] at h
    refine hold_of h ?_
    kernel_rfl
def z95 (k : Nat) : Entry D := entS z91 (z92 k) z93
theorem z96 (k : Nat) : EntryOK X 54 (z95 k) := (z94 k).en rfl
def z97 : List Ar := [.c (.ks), .c (.ks)]
def z98 (k : Nat) (x : TupA D z97) : Option ((List UInt8) × (List UInt8) × Bool) := strings_Cut k x.1 x.2.1
def z99 (r : (List UInt8) × (List UInt8) × Bool) : VR D := .tup [.c (.str r.1), .c (.str r.2.1), .c (.bool r.2.2)]
theorem z9a (k : Nat) : Does P X 126 z97 (z98 k) z99 := does_cut ⟨Go.Proofs.Tryz.f126, Go.Proofs.Tryz.func126, by kernel_rfl, by kernel_rfl⟩ (fun s sep w hg hs => let ⟨m, hm⟩ := hg.1; Go.Proofs.Tryz.strings_Cut s sep m w hs hm)
def z9b (k : Nat) : Entry D := entS z97 (z98 k) z99
theorem z9c (k : Nat) : EntryOK X 126 (z9b k) := (z9a k).en rfl
def z9d : Plan := ⟨[(0, [(0, none), (1, none)]), (1, [(4, none)])],
  [],
  []⟩
def z9e (k : Nat) : Calls' D := ⟨[], [], [], [], []⟩
theorem z9f (k : Nat) : CallsOK X (z9e k) := .nil cod
def z9g (k : Nat) : Cuts D := ⟨[], []⟩
def z9h : List Ar := [.c (.ks), .c (.ks)]
def z9i (k : Nat) (x : TupA D z9h) : Option (Bool) := internal_stringslite_HasSuffix k x.1 x.2.1
def z9j (r : Bool) : VR D := .p (.c (.bool r))
theorem z9k (k : Nat) : Does P X 295 z9h (z9i k) z9j :=
  does_of (body := bodyOf Go.Proofs.Tryz.f295) (pl := z9d) (k := k) (cu := z9g k) (tys := [[0]]) (z9f k) ctx mixed Go.Proofs.Tryz.func295 (by kernel_rfl) (by kernel_rfl) (cutOK_of (l := []) (by kernel_rfl) trivial) fun x R h => by
    simp only [z9i, internal_stringslite_HasSuffix, optK_bind, optK_bif, optK_pure, optK_none, optK_oc, optK_guardT, optK_map] at h
    refine hold_of h ?_
    kernel_rfl
def z9l (k : Nat) : Entry D := entS z9h (z9i k) z9j
theorem z9m (k : Nat) : EntryOK X 295 (z9l k) := (z9k k).en rfl
def z9n : Plan := ⟨[(0, [(0, none), (1, none)]), (1, [(0, none), (1, none), (9, none)]), (2, [(4, none), (5, none)]), (3, [(4, none), (5, none)])],
  [],
  [(9, ([(0, none)], [(0, none), (1, none)]))]⟩
def z9o (k : Nat) : Calls' D := ⟨[(295, z9l k)], [], [], [], []⟩
theorem z9p (k : Nat) : CallsOK X (z9o k) := .cons (z9m k) (.nil cod)
def z9q (k : Nat) : Cuts D := ⟨[], []⟩
def z9r : List Ar := [.c (.ks), .c (.ks)]
def z9s (k : Nat) (x : TupA D z9r) : Option ((List UInt8) × Bool) := internal_stringslite_CutSuffix k x.1 x.2.1
def z9t (r : (List UInt8) × Bool) : VR D := .tup [.c (.str r.1), .c (.bool r.2)]
theorem z9u (k : Nat) : Does P X 223 z9r (z9s k) z9t :=
  does_of (body := bodyOf Go.Proofs.Tryz.f223) (pl := z9n) (k := k) (cu := z9q k) (tys := [[0], [0]]) (z9p k) ctx mixed Go.Proofs.Tryz.func223 (by kernel_rfl) (by kernel_rfl) (cutOK_of (l := []) (by kernel_rfl) trivial) fun x R h => by
    simp only [z9s, internal_stringslite_CutSuffix, optK_bind, optK_bif, optK_pure, optK_none, optK_oc, optK_guardT, optK_map] at h
    refine hold_of h ?_
    kernel_rfl
def z9v (k : Nat) : Entry D := entS z9r (z9s k) z9t
theorem z9w (k : Nat) : EntryOK X 223 (z9v k) := (z9u k).en rfl
def z9x : Plan := ⟨[(0, [(0, none), (1, none)]), (1, [(4, none), (5, none)])],
  [],
  []⟩
def z9y (k : Nat) : Calls' D := ⟨[(223, z9v k)], [], [], [], []⟩
theorem z9z (k : Nat) : CallsOK X (z9y k) := .cons (z9w k) (.nil cod)
def za0 (k : Nat) : Cuts D := ⟨[], []⟩
def za1 : List Ar := [.c (.ks), .c (.ks)]
def za2 (k : Nat) (x : TupA D za1) : Option ((List UInt8) × Bool) := strings_CutSuffix k x.1 x.2.1
def za3 (r : (List UInt8) × Bool) : VR D := .tup [.c (.str r.1), .c (.bool r.2)]
theorem za4 (k : Nat) : Does P X 150 za1 (za2 k) za3 :=
  does_of (body := bodyOf Go.Proofs.Tryz.f150) (pl := z9x) (k := k) (cu := za0 k) (tys := [[0], [0]]) (z9z k) ctx mixed Go.Proofs.Tryz.func150 (by kernel_rfl) (by kernel_rfl) (cutOK_of (l := []) (by kernel_rfl) trivial) fun x R h => by
    simp only [za2, strings_CutSuffix, optK_bind, optK_bif, optK_pure, optK_none, optK_oc, optK_guardT, optK_map] at h
    refine hold_of h ?_
    kernel_rfl
def za5 (k : Nat) : Entry D := entS za1 (za2 k) za3
theorem za6 (k : Nat) : EntryOK X 150 (za5 k) := (za4 k).en rfl
def za7 : Plan := ⟨[(0, [(0, none)]), (1, [(0, none), (4, some 34)]), (2, [(0, none), (4, some 34), (13, none)]), (3, [(4, some 34), (5, none), (6, none), (7, none)]), (4, [(4, some 34), (6, none), (7, none), (8, none), (9, none), (10, none)]), (5, [(4, some 34), (6, none), (8, none), (9, none), (31, none)]), (6, [(2, some 34), (3, none)]), (7, [(4, some 34), (6, none)]), (8, [(0, none), (4, some 34)]), (9, [(4, some 34), (43, none)]), (10, [(2, some 34), (3, none)]), (11, [(2, some 34), (3, none)])],
  [(0, [(4, some 34)]), (1, [(0, none), (4, some 34)])],
  [(13, ([(0, none), (4, some 34)], [(4, some 34)])), (31, ([], [(4, some 34), (6, none), (8, none), (9, none)])), (43, ([], [(4, some 34)]))]⟩
def za8 (k : Nat) : Calls' D := ⟨[(126, z9b k), (201, z5n k), (163, z63 k), (187, z6v k)], [], [], [], []⟩
theorem za9 (k : Nat) : CallsOK X (za8 k) := .cons (z9c k) (.cons (z5o k) (.cons (z64 k) (.cons (z6w k) (.nil cod))))
def zaa (x : (List UInt8) × (List IField) × Unit) (o : Oc ((List IField)) ((List IField) × Bool)) (Q : Ex → VSt D → Prop) (R : VR D → Prop) : Prop := ocP o (fun v0 => Q .normal (mkSt ⟨[(4, .ref 500004)], [(500004, .row)]⟩ [.sl 34 v0])) (fun w0 => R (.tup [.c (.sl 34 w0.1), .c (.bool w0.2)]))
def zab (k : Nat) : Cut D := cutS ⟨[(0, .hole), (4, .ref 500004)], [(500004, .row)]⟩ [.ks, .kl 34] (fun (x : (List UInt8) × (List IField) × Unit) => I_ParseFields_b0 k k x.1 x.2.1) zaa
def zac (k : Nat) : Cuts D := ⟨[], []⟩
theorem zad (k : Nat) : CutFor X za7 k Go.Proofs.Tryz.f129.results.toList (zab k) (sub (bodyOf Go.Proofs.Tryz.f129) [1, 1, 0]) :=
  loopCut_s (X := X) (sg := [.ks, .kl 34]) (cu := zac k) (cl := za8 k) (tys := [[34], [0]]) (id := 0) (c := sub (bodyOf Go.Proofs.Tryz.f129) [1, 1, 0, 0, 0]) (f := fun n => fun (x : (List UInt8) × (List IField) × Unit) => I_ParseFields_b0 k n x.1 x.2.1) (za9 k) (cutOK_of (l := []) (by kernel_rfl) trivial) (fun _ => rfl) (fun n x Q R h => by
    simp only [I_ParseFields_b0, optK_bind, optK_bif, optK_pure, optK_none, optK_oc, optK_guardT, optK_map] at h
    refine hold_of h ?_
    kernel_rfl) (by kernel_rfl)
def zae (k : Nat) : Cuts D := ⟨[(0, some (zab k))], []⟩
def zaf : List Ar := [.c (.ks)]
def zag (k : Nat) (x : TupA D zaf) : Option ((List IField) × Bool) := I_ParseFields k x.1
def zah (r : (List IField) × Bool) : VR D := .tup [.c (.sl 34 r.1), .c (.bool r.2)]
theorem zai (k : Nat) : Does P X 129 zaf (zag k) zah :=
  does_of (body := bodyOf Go.Proofs.Tryz.f129) (pl := za7) (k := k) (cu := zae k) (tys := [[34], [0]]) (za9 k) ctx mixed Go.Proofs.Tryz.func129 (by kernel_rfl) (by kernel_rfl) (cutOK_of (l := [(zab k, sub (bodyOf Go.Proofs.Tryz.f129) [1, 1, 0])]) (by kernel_rfl) ⟨zad k, trivial⟩) fun x R h => by
    simp only [zag, I_ParseFields, optK_bind, optK_bif, optK_pure, optK_none, optK_oc, optK_guardT, optK_map] at h
    refine hold_of h ?_
    kernel_rfl
def zaj (k : Nat) : Entry D := entS zaf (zag k) zah
theorem zak (k : Nat) : EntryOK X 129 (zaj k) := (zai k).en rfl
def zal : Plan := ⟨[(0, [(0, none), (2, none)]), (1, [(2, none), (4, none), (5, none), (6, none)]), (2, [(2, none), (5, none), (6, none), (7, none), (8, none), (9, none)]), (3, [(2, none), (5, none), (6, none), (7, none), (8, none), (9, none), (10, none)]), (4, [(2, none), (5, none), (6, none), (7, none), (8, none), (9, none), (10, none), (11, none)]), (5, [(2, none), (6, none), (7, none), (8, none), (9, none), (10, none), (11, none), (12, some 34), (13, none)]), (6, [(2, none), (7, none), (8, none), (12, some 34), (71, none)]), (7, [(2, none), (3, none)]), (8, [(2, none), (14, none)]), (9, [(2, none), (14, none), (88, none)]), (10, [(2, none), (3, none)]), (11, [(2, none), (3, none)])],
  [],
  [(71, ([(2, none)], [(2, none), (7, none), (8, none), (12, some 34)])), (88, ([(2, none)], [(2, none), (14, none)]))]⟩
def zam (k : Nat) : Calls' D := ⟨[(126, z9b k), (150, za5 k), (129, zaj k), (110, z8h k)], [], [], [], []⟩
theorem zan (k : Nat) : CallsOK X (zam k) := .cons (z9c k) (.cons (za6 k) (.cons (zak k) (.cons (z8i k) (.nil cod))))
def zao (k : Nat) : Cuts D := ⟨[], []⟩
def zap : List Ar := [.c (.ks)]
def zaq (k : Nat) (x : TupA D zap) : Option (IRequest × Bool) := I_ParseRequest k x.1
def zar (r : IRequest × Bool) : VR D := .tup [.agg [.str r.1.Method, .str r.1.Host, .str r.1.Target, .sl 34 r.1.Fields], .c (.bool r.2)]
theorem zas (k : Nat) : Does P X 53 zap (zaq k) zar :=
  does_of (body := bodyOf Go.Proofs.Tryz.f53) (pl := zal) (k := k) (cu := zao k) (tys := [[0, 0, 0, 34], [0]]) (zan k) ctx mixed Go.Proofs.Tryz.func53 (by kernel_rfl) (by kernel_rfl) (cutOK_of (l := []) (by kernel_rfl) trivial) fun x R h => by
    simp only [zaq, I_ParseRequest, optK_bind, optK_bif, optK_pure, optK_none, optK_oc, optK_guardT, optK_map] at h
    refine hold_of h ?_
    kernel_rfl
def zat (k : Nat) : Entry D := entS zap (zaq k) zar
theorem zau (k : Nat) : EntryOK X 53 (zat k) := (zas k).en rfl
def zav : Plan := ⟨[(0, [(0, none), (1, some 3)]), (1, [(0, none), (4, none)])],
  [],
  []⟩
def zaw (k : Nat) : Calls' D := ⟨[], [], [(75, z1c k)], [], []⟩
theorem zax (k : Nat) : CallsOK X (zaw k) := .consP (z1d k) (.nil cod)
def zay (k : Nat) : Cuts D := ⟨[], []⟩
def zaz : List Ar := [.c (.kl 3)]
def zb0 (k : Nat) (c : Tup D [.kl 5, .ki .i64, .ki .i64]) (x : TupA D zaz) : Option (Int × Sl1Cur) := S_l1Int k (⟨c.1, c.2.1, c.2.2.1⟩ : Sl1Cur) x.1
def zb1 (r : Int × Sl1Cur) : Tup D [.kl 5, .ki .i64, .ki .i64] := (r.2.b, r.2.i, r.2.h, ())
def zb2 (r : Int × Sl1Cur) : List (VP D) := [.c (.int .i64 r.1)]
theorem zb3 (k : Nat) : DoesP P X 131 [.kl 5, .ki .i64, .ki .i64] zaz (zb0 k) zb2 zb1 :=
  doesP_of (pt := 175) (body := bodyOf Go.Proofs.Tryz.f131) (pl := zav) (k := k) (cu := zay k) (tys := [[0]]) (zax k) ctx mixed Go.Proofs.Tryz.func131 (by kernel_rfl) (by kernel_rfl) (by kernel_rfl) (by kernel_rfl) (cutOK_of (l := []) (by kernel_rfl) trivial) fun c x R h => by
    simp only [zb0, S_l1Int, optK_bind, optK_bif, optK_pure, optK_none, optK_oc, optK_guardT, optK_map] at h
    refine hold_of h ?_
    kernel_rfl
def zb4 (k : Nat) : EntryP D := entP [.kl 5, .ki .i64, .ki .i64] zaz (zb0 k) zb2 zb1
theorem zb5 (k : Nat) : EntryPOK X 131 (zb4 k) := (zb3 k).en rfl
def zb6 : Plan := ⟨[(0, [(0, none), (2, none)]), (1, [(0, none), (2, none), (3, none)]), (2, [(0, none), (2, none), (3, none), (14, none)]), (3, [(0, none), (2, none), (3, none)]), (4, [(0, none), (2, none)])],
  [],
  [(14, ([(0, none), (2, none), (3, none)], [(0, none), (2, none), (3, none)]))]⟩
def zb7 (k : Nat) : Calls' D := ⟨[], [], [(131, zb4 k), (222, z2d k), (78, z1n k), (76, z2o k)], [], []⟩
theorem zb8 (k : Nat) : CallsOK X (zb7 k) := .consP (zb5 k) (.consP (z2e k) (.consP (z1o k) (.consP (z2p k) (.nil cod))))
def zb9 (x : Bool × (List Int) × Int × Int × Int × (List UInt8) × Int × (List UInt8) × (List IField) × Unit) (o : (List IField)) (Q : Ex → VSt D → Prop) (R : VR D → Prop) : Prop := Q .normal (mkSt ⟨[(0, .ptr 700000 0), (2, .ptr 2 0), (3, .ptr 3 0)], [(700000, .var [.hole, .hole, .hole]), (2, .var [.hole, .nil, .hole]), (3, .var [.hole, .ref 100000301, .hole]), (100000301, .row)]⟩ [.sl 5 x.2.1, .int .i64 x.2.2.1, .int .i64 x.2.2.2.1, .int .i64 x.2.2.2.2.1, .str x.2.2.2.2.2.1, .int .i64 x.2.2.2.2.2.2.1, .str x.2.2.2.2.2.2.2.1, .sl 34 o])
def zba (k : Nat) : Cut D := cutS ⟨[(0, .ptr 700000 0), (2, .ptr 2 0), (3, .ptr 3 0), (14, .hole)], [(700000, .var [.hole, .hole, .hole]), (2, .var [.hole, .nil, .hole]), (3, .var [.hole, .ref 100000301, .hole]), (100000301, .row)]⟩ [.kb, .kl 5, .ki .i64, .ki .i64, .ki .i64, .ks, .ki .i64, .ks, .kl 34] (fun (x : Bool × (List Int) × Int × Int × Int × (List UInt8) × Int × (List UInt8) × (List IField) × Unit) => S_l11Response_c14 k x.1 x.2.1 x.2.2.1 x.2.2.2.1 x.2.2.2.2.1 x.2.2.2.2.2.1 x.2.2.2.2.2.2.1 x.2.2.2.2.2.2.2.1 x.2.2.2.2.2.2.2.2.1) zb9
def zbb (k : Nat) : Cuts D := ⟨[], []⟩
theorem zbc (k : Nat) : CutFor X zb6 k (.cell 0 175 :: Go.Proofs.Tryz.f152.results.toList) (zba k) (sub (bodyOf Go.Proofs.Tryz.f152) [1, 1, 0, 1]) :=
  joinCut_s (X := X) (sg := [.kb, .kl 5, .ki .i64, .ki .i64, .ki .i64, .ks, .ki .i64, .ks, .kl 34]) (cu := zbb k) (cl := zb7 k) (tys := [[0, 34, 0]]) (zb8 k) (cutOK_of (l := []) (by kernel_rfl) trivial) fun x Q R h => by
    simp only [S_l11Response_c14, optK_bind, optK_bif, optK_pure, optK_none, optK_oc, optK_guardT, optK_map] at h
    refine hold_of h ?_
    kernel_rfl
def zbd (k : Nat) : Cuts D := ⟨[], [(14, some (zba k))]⟩
def zbe : List Ar := []
def zbf (k : Nat) (c : Tup D [.kl 5, .ki .i64, .ki .i64]) (x : TupA D zbe) : Option (IResponse × Sl1Cur) := S_l11Response k (⟨c.1, c.2.1, c.2.2.1⟩ : Sl1Cur)
def zbg (r : IResponse × Sl1Cur) : Tup D [.kl 5, .ki .i64, .ki .i64] := (r.2.b, r.2.i, r.2.h, ())
def zbh (r : IResponse × Sl1Cur) : List (VP D) := [.agg [.int .i64 r.1.Code, .sl 34 r.1.Fields, .str r.1.Body]]
theorem zbi (k : Nat) : DoesP P X 152 [.kl 5, .ki .i64, .ki .i64] zbe (zbf k) zbh zbg :=
  doesP_of (pt := 175) (body := bodyOf Go.Proofs.Tryz.f152) (pl := zb6) (k := k) (cu := zbd k) (tys := [[0, 34, 0]]) (zb8 k) ctx mixed Go.Proofs.Tryz.func152 (by kernel_rfl) (by kernel_rfl) (by kernel_rfl) (by kernel_rfl) (cutOK_of (l := [(zba k, sub (bodyOf Go.Proofs.Tryz.f152) [1, 1, 0, 1])]) (by kernel_rfl) ⟨zbc k, trivial⟩) fun c x R h => by
    simp only [zbf, S_l11Response, optK_bind, optK_bif, optK_pure, optK_none, optK_oc, optK_guardT, optK_map] at h
    refine hold_of h ?_
    kernel_rfl
def zbj (k : Nat) : EntryP D := entP [.kl 5, .ki .i64, .ki .i64] zbe (zbf k) zbh zbg
theorem zbk (k : Nat) : EntryPOK X 152 (zbj k) := (zbi k).en rfl
def zbl : Plan := ⟨[(0, [(0, some 5), (2, none)]), (1, [(2, none), (3, none)]), (2, [(2, none)])],
  [],
  []⟩
def zbm (k : Nat) : Calls' D := ⟨[], [], [(152, zbj k)], [(72, zm k)], []⟩
theorem zbn (k : Nat) : CallsOK X (zbm k) := .consP (zbk k) (.consB (zn k) (.nil cod))
def zbo (k : Nat) : Cuts D := ⟨[], []⟩
def zbp : List Ar := [.c (.kl 5)]
def zbq (k : Nat) (x : TupA D zbp) : Option (IResponse) := S_DrawFormatResponse k x.1
def zbr (r : IResponse) : VR D := .p (.agg [.int .i64 r.Code, .sl 34 r.Fields, .str r.Body])
theorem zbs (k : Nat) : Does P X 55 zbp (zbq k) zbr :=
  does_of (body := bodyOf Go.Proofs.Tryz.f55) (pl := zbl) (k := k) (cu := zbo k) (tys := [[0, 34, 0]]) (zbn k) ctx mixed Go.Proofs.Tryz.func55 (by kernel_rfl) (by kernel_rfl) (cutOK_of (l := []) (by kernel_rfl) trivial) fun x R h => by
    simp only [zbq, S_DrawFormatResponse, optK_bind, optK_bif, optK_pure, optK_none, optK_oc, optK_guardT, optK_map] at h
    refine hold_of h ?_
    kernel_rfl
def zbt (k : Nat) : Entry D := entS zbp (zbq k) zbr
theorem zbu (k : Nat) : EntryOK X 55 (zbt k) := (zbs k).en rfl
def zbv : Plan := ⟨[(0, [(1, none)]), (1, [(2, none)])],
  [],
  []⟩
def zbw (k : Nat) : Calls' D := ⟨[(111, z43 k), (187, z6v k), (94, z83 k)], [], [], [], []⟩
theorem zbx (k : Nat) : CallsOK X (zbw k) := .cons (z44 k) (.cons (z6w k) (.cons (z84 k) (.nil cod)))
def zby (k : Nat) : Cuts D := ⟨[], []⟩
def zbz : List Ar := [.a [.ki .i64, .kl 34, .ks]]
def zc0 (k : Nat) (x : TupA D zbz) : Option (Bool) := I_IsResponse k (⟨x.1.1, x.1.2.1, x.1.2.2.1⟩ : IResponse)
def zc1 (r : Bool) : VR D := .p (.c (.bool r))
theorem zc2 (k : Nat) : Does P X 130 zbz (zc0 k) zc1 :=
  does_of (body := bodyOf Go.Proofs.Tryz.f130) (pl := zbv) (k := k) (cu := zby k) (tys := [[0]]) (zbx k) ctx mixed Go.Proofs.Tryz.func130 (by kernel_rfl) (by kernel_rfl) (cutOK_of (l := []) (by kernel_rfl) trivial) fun x R h => by
    simp only [zc0, I_IsResponse, optK_bind, optK_bif, optK_pure, optK_none, optK_oc, optK_guardT, optK_map] at h
    refine hold_of h ?_
    kernel_rfl
def zc3 (k : Nat) : Entry D := entS zbz (zc0 k) zc1
theorem zc4 (k : Nat) : EntryOK X 130 (zc3 k) := (zc2 k).en rfl
def zc5 : List Ar := [.c (.ki .i64)]
def zc6 (k : Nat) (x : TupA D zc5) : Option ((List UInt8)) := strconv_Itoa k x.1
def zc7 (r : (List UInt8)) : VR D := .p (.c (.str r))
theorem zc8 (k : Nat) : Does P X 91 zc5 (zc6 k) zc7 := does_itoa ⟨Go.Proofs.Tryz.f91, Go.Proofs.Tryz.func91, by kernel_rfl, by kernel_rfl⟩ (fun n w hg h0 h1 => Go.Proofs.Tryz.strconv_Itoa n h0 h1 w hg.2.1)
def zc9 (k : Nat) : Entry D := entS zc5 (zc6 k) zc7
theorem zca (k : Nat) : EntryOK X 91 (zc9 k) := (zc8 k).en rfl
def zcb : Plan := ⟨[(0, [(0, none)]), (1, [(2, none)])],
  [],
  []⟩
def zcc (k : Nat) : Calls' D := ⟨[(91, zc9 k)], [], [], [], []⟩
theorem zcd (k : Nat) : CallsOK X (zcc k) := .cons (zca k) (.nil cod)
def zce (k : Nat) : Cuts D := ⟨[], []⟩
def zcf : List Ar := [.c (.ki .i64)]
def zcg (k : Nat) (x : TupA D zcf) : Option ((List UInt8)) := I_FormatInt k x.1
def zch (r : (List UInt8)) : VR D := .p (.c (.str r))
theorem zci (k : Nat) : Does P X 19 zcf (zcg k) zch :=
  does_of (body := bodyOf Go.Proofs.Tryz.f19) (pl := zcb) (k := k) (cu := zce k) (tys := [[0]]) (zcd k) ctx mixed Go.Proofs.Tryz.func19 (by kernel_rfl) (by kernel_rfl) (cutOK_of (l := []) (by kernel_rfl) trivial) fun x R h => by
    simp only [zcg, I_FormatInt, optK_bind, optK_bif, optK_pure, optK_none, optK_oc, optK_guardT, optK_map] at h
    refine hold_of h ?_
    kernel_rfl
def zcj (k : Nat) : Entry D := entS zcf (zcg k) zch
theorem zck (k : Nat) : EntryOK X 19 (zcj k) := (zci k).en rfl
def zcl : Plan := ⟨[(0, [(1, none)]), (1, [(1, none), (5, none)]), (2, [(2, none)]), (3, [(2, none)])],
  [],
  [(5, ([], [(1, none)]))]⟩
def zcm (k : Nat) : Calls' D := ⟨[(130, zc3 k), (19, zcj k), (151, z8v k)], [], [], [], []⟩
theorem zcn (k : Nat) : CallsOK X (zcm k) := .cons (zc4 k) (.cons (zck k) (.cons (z8w k) (.nil cod)))
def zco (k : Nat) : Cuts D := ⟨[], []⟩
def zcp : List Ar := [.a [.ki .i64, .kl 34, .ks]]
def zcq (k : Nat) (x : TupA D zcp) : Option ((List UInt8)) := I_FormatResponse k (⟨x.1.1, x.1.2.1, x.1.2.2.1⟩ : IResponse)
def zcr (r : (List UInt8)) : VR D := .p (.c (.str r))
theorem zcs (k : Nat) : Does P X 56 zcp (zcq k) zcr :=
  does_of (body := bodyOf Go.Proofs.Tryz.f56) (pl := zcl) (k := k) (cu := zco k) (tys := [[0]]) (zcn k) ctx mixed Go.Proofs.Tryz.func56 (by kernel_rfl) (by kernel_rfl) (cutOK_of (l := []) (by kernel_rfl) trivial) fun x R h => by
    simp only [zcq, I_FormatResponse, optK_bind, optK_bif, optK_pure, optK_none, optK_oc, optK_guardT, optK_map] at h
    refine hold_of h ?_
    kernel_rfl
def zct (k : Nat) : Entry D := entS zcp (zcq k) zcr
theorem zcu (k : Nat) : EntryOK X 56 (zct k) := (zcs k).en rfl
def zcv : Plan := ⟨[(0, [(0, none), (1, none)]), (1, [(4, none)])],
  [],
  []⟩
def zcw (k : Nat) : Calls' D := ⟨[], [], [], [], []⟩
theorem zcx (k : Nat) : CallsOK X (zcw k) := .nil cod
def zcy (k : Nat) : Cuts D := ⟨[], []⟩
def zcz : List Ar := [.c (.ks), .c (.ks)]
def zd0 (k : Nat) (x : TupA D zcz) : Option (Bool) := internal_stringslite_HasPrefix k x.1 x.2.1
def zd1 (r : Bool) : VR D := .p (.c (.bool r))
theorem zd2 (k : Nat) : Does P X 211 zcz (zd0 k) zd1 :=
  does_of (body := bodyOf Go.Proofs.Tryz.f211) (pl := zcv) (k := k) (cu := zcy k) (tys := [[0]]) (zcx k) ctx mixed Go.Proofs.Tryz.func211 (by kernel_rfl) (by kernel_rfl) (cutOK_of (l := []) (by kernel_rfl) trivial) fun x R h => by
    simp only [zd0, internal_stringslite_HasPrefix, optK_bind, optK_bif, optK_pure, optK_none, optK_oc, optK_guardT, optK_map] at h
    refine hold_of h ?_
    kernel_rfl
def zd3 (k : Nat) : Entry D := entS zcz (zd0 k) zd1
theorem zd4 (k : Nat) : EntryOK X 211 (zd3 k) := (zd2 k).en rfl
def zd5 : Plan := ⟨[(0, [(0, none), (1, none)]), (1, [(0, none), (1, none), (9, none)]), (2, [(4, none), (5, none)]), (3, [(4, none), (5, none)])],
  [],
  [(9, ([(0, none)], [(0, none), (1, none)]))]⟩
def zd6 (k : Nat) : Calls' D := ⟨[(211, zd3 k)], [], [], [], []⟩
theorem zd7 (k : Nat) : CallsOK X (zd6 k) := .cons (zd4 k) (.nil cod)
def zd8 (k : Nat) : Cuts D := ⟨[], []⟩
def zd9 : List Ar := [.c (.ks), .c (.ks)]
def zda (k : Nat) (x : TupA D zd9) : Option ((List UInt8) × Bool) := internal_stringslite_CutPrefix k x.1 x.2.1
def zdb (r : (List UInt8) × Bool) : VR D := .tup [.c (.str r.1), .c (.bool r.2)]
theorem zdc (k : Nat) : Does P X 199 zd9 (zda k) zdb :=
  does_of (body := bodyOf Go.Proofs.Tryz.f199) (pl := zd5) (k := k) (cu := zd8 k) (tys := [[0], [0]]) (zd7 k) ctx mixed Go.Proofs.Tryz.func199 (by kernel_rfl) (by kernel_rfl) (cutOK_of (l := []) (by kernel_rfl) trivial) fun x R h => by
    simp only [zda, internal_stringslite_CutPrefix, optK_bind, optK_bif, optK_pure, optK_none, optK_oc, optK_guardT, optK_map] at h
    refine hold_of h ?_
    kernel_rfl
def zdd (k : Nat) : Entry D := entS zd9 (zda k) zdb
theorem zde (k : Nat) : EntryOK X 199 (zdd k) := (zdc k).en rfl
def zdf : Plan := ⟨[(0, [(0, none), (1, none)]), (1, [(4, none), (5, none)])],
  [],
  []⟩
def zdg (k : Nat) : Calls' D := ⟨[(199, zdd k)], [], [], [], []⟩
theorem zdh (k : Nat) : CallsOK X (zdg k) := .cons (zde k) (.nil cod)
def zdi (k : Nat) : Cuts D := ⟨[], []⟩
def zdj : List Ar := [.c (.ks), .c (.ks)]
def zdk (k : Nat) (x : TupA D zdj) : Option ((List UInt8) × Bool) := strings_CutPrefix k x.1 x.2.1
def zdl (r : (List UInt8) × Bool) : VR D := .tup [.c (.str r.1), .c (.bool r.2)]
theorem zdm (k : Nat) : Does P X 127 zdj (zdk k) zdl :=
  does_of (body := bodyOf Go.Proofs.Tryz.f127) (pl := zdf) (k := k) (cu := zdi k) (tys := [[0], [0]]) (zdh k) ctx mixed Go.Proofs.Tryz.func127 (by kernel_rfl) (by kernel_rfl) (cutOK_of (l := []) (by kernel_rfl) trivial) fun x R h => by
    simp only [zdk, strings_CutPrefix, optK_bind, optK_bif, optK_pure, optK_none, optK_oc, optK_guardT, optK_map] at h
    refine hold_of h ?_
    kernel_rfl
def zdn (k : Nat) : Entry D := entS zdj (zdk k) zdl
theorem zdo (k : Nat) : EntryOK X 127 (zdn k) := (zdm k).en rfl
def zdp : List Ar := [.c (.ks)]
def zdq (k : Nat) (x : TupA D zdp) : Option (Int × Bool) := strconv_Atoi k x.1
def zdr (r : Int × Bool) : VR D := .tup [.c (.int .i64 r.1), .c (.err r.2)]
theorem zds (k : Nat) : Does P X 200 zdp (zdq k) zdr := does_atoi ⟨Go.Proofs.Tryz.f200, Go.Proofs.Tryz.func200, by kernel_rfl, by kernel_rfl⟩ (fun s v w hg h1 h2 => Go.Proofs.Tryz.strconv_Atoi_ok s h1 v h2 w) (fun s w hg h1 h2 => let ⟨tp, p, hv⟩ := hg.2.2.1; (Go.Proofs.Tryz.strconv_Atoi_range_var s h1 h2 tp p w hv).mono fun e w1 ⟨N, h, _, _, hb⟩ => ⟨_, h, hb⟩) (fun s w hg h1 h2 h3 => let ⟨tp, p, hv⟩ := hg.2.2.2; (Go.Proofs.Any.strconv_Atoi_syntax_var Go.Proofs.Tryz.laysC172 s h1 (atoi_bad h2 h3) tp p w hv).mono fun e w1 ⟨N, h, _, _, hb⟩ => ⟨_, h, hb⟩)
def zdt (k : Nat) : Entry D := entS zdp (zdq k) zdr
theorem zdu (k : Nat) : EntryOK X 200 (zdt k) := (zds k).en rfl
def zdv : Plan := ⟨[(0, [(0, none)]), (1, [(0, none), (8, none)]), (2, [(2, none), (3, none)]), (3, [(0, none), (4, none), (5, none)]), (4, [(4, none), (26, none)]), (5, [(2, none), (3, none)]), (6, [(2, none), (3, none)])],
  [],
  [(8, ([], [(0, none)])), (26, ([], [(4, none)]))]⟩
def zdw (k : Nat) : Calls' D := ⟨[(200, zdt k), (111, z43 k), (19, zcj k)], [], [], [], []⟩
theorem zdx (k : Nat) : CallsOK X (zdw k) := .cons (zdu k) (.cons (z44 k) (.cons (zck k) (.nil cod)))
def zdy (k : Nat) : Cuts D := ⟨[], []⟩
def zdz : List Ar := [.c (.ks)]
def ze0 (k : Nat) (x : TupA D zdz) : Option (Int × Bool) := I_ParseInt k x.1
def ze1 (r : Int × Bool) : VR D := .tup [.c (.int .i64 r.1), .c (.bool r.2)]
theorem ze2 (k : Nat) : Does P X 128 zdz (ze0 k) ze1 :=
  does_of (body := bodyOf Go.Proofs.Tryz.f128) (pl := zdv) (k := k) (cu := zdy k) (tys := [[0], [0]]) (zdx k) ctx mixed Go.Proofs.Tryz.func128 (by kernel_rfl) (by kernel_rfl) (cutOK_of (l := []) (by kernel_rfl) trivial) fun x R h => by
    simp only [ze0, I_ParseInt, optK_bind, optK_bif, optK_pure, optK_none, optK_oc, optK_guardT, optK_map] at h
    refine hold_of h ?_
    kernel_rfl
def ze3 (k : Nat) : Entry D := entS zdz (ze0 k) ze1
theorem ze4 (k : Nat) : EntryOK X 128 (ze3 k) := (ze2 k).en rfl
def ze5 : Plan := ⟨[(0, [(0, none), (2, none)]), (1, [(2, none), (4, none), (5, none), (6, none)]), (2, [(2, none), (5, none), (6, none), (7, none), (8, none), (9, none)]), (3, [(2, none), (5, none), (6, none), (8, none), (9, none), (10, none), (11, none)]), (4, [(2, none), (5, none), (6, none), (8, none), (9, none), (11, none), (12, none), (13, none)]), (5, [(2, none), (5, none), (6, none), (9, none), (11, none), (12, none), (13, none), (14, some 34), (15, none)]), (6, [(2, none), (5, none), (6, none), (9, none), (11, none), (12, none), (13, none), (14, some 34), (15, none), (16, none)]), (7, [(2, none), (5, none), (12, none), (14, some 34), (16, none), (89, none)]), (8, [(2, none), (3, none)]), (9, [(2, none), (17, none)]), (10, [(2, none), (17, none), (100, none)]), (11, [(2, none), (3, none)]), (12, [(2, none), (3, none)])],
  [],
  [(89, ([(2, none)], [(2, none), (5, none), (12, none), (14, some 34), (16, none)])), (100, ([(2, none)], [(2, none), (17, none)]))]⟩
def ze6 (k : Nat) : Calls' D := ⟨[(126, z9b k), (127, zdn k), (128, ze3 k), (129, zaj k), (19, zcj k), (130, zc3 k)], [], [], [], []⟩
theorem ze7 (k : Nat) : CallsOK X (ze6 k) := .cons (z9c k) (.cons (zdo k) (.cons (ze4 k) (.cons (zak k) (.cons (zck k) (.cons (zc4 k) (.nil cod))))))
def ze8 (k : Nat) : Cuts D := ⟨[], []⟩
def ze9 : List Ar := [.c (.ks)]
def zea (k : Nat) (x : TupA D ze9) : Option (IResponse × Bool) := I_ParseResponse k x.1
def zeb (r : IResponse × Bool) : VR D := .tup [.agg [.int .i64 r.1.Code, .sl 34 r.1.Fields, .str r.1.Body], .c (.bool r.2)]
theorem zec (k : Nat) : Does P X 37 ze9 (zea k) zeb :=
  does_of (body := bodyOf Go.Proofs.Tryz.f37) (pl := ze5) (k := k) (cu := ze8 k) (tys := [[0, 34, 0], [0]]) (ze7 k) ctx mixed Go.Proofs.Tryz.func37 (by kernel_rfl) (by kernel_rfl) (cutOK_of (l := []) (by kernel_rfl) trivial) fun x R h => by
    simp only [zea, I_ParseResponse, optK_bind, optK_bif, optK_pure, optK_none, optK_oc, optK_guardT, optK_map] at h
    refine hold_of h ?_
    kernel_rfl
def zed (k : Nat) : Entry D := entS ze9 (zea k) zeb
theorem zee (k : Nat) : EntryOK X 37 (zed k) := (zec k).en rfl
def zef : Plan := ⟨[(0, [(0, none), (1, none), (2, none)]), (1, [(6, none)])],
  [],
  []⟩
def zeg (k : Nat) : Calls' D := ⟨[], [], [], [], []⟩
theorem zeh (k : Nat) : CallsOK X (zeg k) := .nil cod
def zei (k : Nat) : Cuts D := ⟨[], []⟩
def zej : List Ar := [.c (.ki .i64), .c (.ki .i64), .c (.ki .i64)]
def zek (k : Nat) (x : TupA D zej) : Option (Bool) := S_l1In k x.1 x.2.1 x.2.2.1
def zel (r : Bool) : VR D := .p (.c (.bool r))
theorem zem (k : Nat) : Does P X 98 zej (zek k) zel :=
  does_of (body := bodyOf Go.Proofs.Tryz.f98) (pl := zef) (k := k) (cu := zei k) (tys := [[0]]) (zeh k) ctx mixed Go.Proofs.Tryz.func98 (by kernel_rfl) (by kernel_rfl) (cutOK_of (l := []) (by kernel_rfl) trivial) fun x R h => by
    simp only [zek, S_l1In, optK_bind, optK_bif, optK_pure, optK_none, optK_oc, optK_guardT, optK_map] at h
    refine hold_of h ?_
    kernel_rfl
def zen (k : Nat) : Entry D := entS zej (zek k) zel
theorem zeo (k : Nat) : EntryOK X 98 (zen k) := (zem k).en rfl
def zep : Plan := ⟨[(0, [(0, some 9)]), (1, [(0, some 9), (3, none)]), (2, [(0, some 9), (3, none), (4, none)]), (3, [(0, some 9), (3, none), (4, none), (8, none)]), (4, [(0, some 9), (3, none), (4, none)]), (5, [(0, some 9), (3, none), (4, none), (12, none)]), (6, [(0, some 9), (3, none), (4, none)]), (7, [(0, some 9), (3, none), (4, none)]), (8, [(2, none)])],
  [(0, [(3, none)]), (1, [(0, some 9), (3, none), (4, none)])],
  [(8, ([(0, some 9), (3, none), (4, none)], [(3, none)])), (12, ([(0, some 9), (3, none), (4, none)], [(0, some 9), (3, none), (4, none)]))]⟩
def zeq (k : Nat) : Calls' D := ⟨[], [], [], [], []⟩
theorem zer (k : Nat) : CallsOK X (zeq k) := .nil cod
def zes (x : (List (List UInt8)) × (List UInt8) × Int × Bool × Unit) (o : (List UInt8)) (Q : Ex → VSt D → Prop) (R : VR D → Prop) : Prop := Q .normal (mkSt ⟨[(0, .hole), (3, .hole), (4, .hole)], []⟩ [.sl 9 x.1, .str o, .int .i64 x.2.2.1])
def zet (k : Nat) : Cut D := cutS ⟨[(0, .hole), (3, .hole), (4, .hole), (12, .hole)], []⟩ [.kl 9, .ks, .ki .i64, .kb] (fun (x : (List (List UInt8)) × (List UInt8) × Int × Bool × Unit) => S_JoinList_c12 k x.1 x.2.1 x.2.2.1 x.2.2.2.1) zes
def zeu (k : Nat) : Cuts D := ⟨[], []⟩
theorem zev (k : Nat) : CutFor X zep k Go.Proofs.Tryz.f107.results.toList (zet k) (sub (bodyOf Go.Proofs.Tryz.f107) [1, 1, 0, 1, 0, 0, 1, 0, 0, 0, 1]) :=
  joinCut_s (X := X) (sg := [.kl 9, .ks, .ki .i64, .kb]) (cu := zeu k) (cl := zeq k) (tys := [[0]]) (zer k) (cutOK_of (l := []) (by kernel_rfl) trivial) fun x Q R h => by
    simp only [S_JoinList_c12, optK_bind, optK_bif, optK_pure, optK_none, optK_oc, optK_guardT, optK_map] at h
    refine hold_of h ?_
    kernel_rfl
def zew (x : (List (List UInt8)) × (List UInt8) × Int × Unit) (o : (List UInt8)) (Q : Ex → VSt D → Prop) (R : VR D → Prop) : Prop := Q .normal (mkSt ⟨[(0, .hole), (3, .hole), (4, .hole)], []⟩ [.sl 9 x.1, .str o, .int .i64 x.2.2.1])
def zex (k : Nat) : Cut D := cutS ⟨[(0, .hole), (3, .hole), (4, .hole)], []⟩ [.kl 9, .ks, .ki .i64] (fun (x : (List (List UInt8)) × (List UInt8) × Int × Unit) => S_JoinList_b1 k x.1 x.2.1 x.2.2.1) zew
def zey (k : Nat) : Cuts D := ⟨[], [(12, some (zet k))]⟩
theorem zez (k : Nat) : CutFor X zep k Go.Proofs.Tryz.f107.results.toList (zex k) (sub (bodyOf Go.Proofs.Tryz.f107) [1, 1, 0, 1, 0, 0, 1, 0]) :=
  joinCut_s (X := X) (sg := [.kl 9, .ks, .ki .i64]) (cu := zey k) (cl := zeq k) (tys := [[0]]) (zer k) (cutOK_of (l := [(zet k, sub (bodyOf Go.Proofs.Tryz.f107) [1, 1, 0, 1, 0, 0, 1, 0, 0, 0, 1])]) (by kernel_rfl) ⟨zev k, trivial⟩) fun x Q R h => by
    simp only [S_JoinList_b1, optK_bind, optK_bif, optK_pure, optK_none, optK_oc, optK_guardT, optK_map] at h
    refine hold_of h ?_
    kernel_rfl
def zf0 (x : (List (List UInt8)) × (List UInt8) × Int × Unit) (o : (List UInt8)) (Q : Ex → VSt D → Prop) (R : VR D → Prop) : Prop := Q .normal (mkSt ⟨[(3, .hole)], []⟩ [.str o])
def zf1 (k : Nat) : Cut D := cutS ⟨[(0, .hole), (3, .hole), (4, .hole)], []⟩ [.kl 9, .ks, .ki .i64] (fun (x : (List (List UInt8)) × (List UInt8) × Int × Unit) => S_JoinList_b0 k k x.1 x.2.1 x.2.2.1) zf0
def zf2 (k : Nat) : Cuts D := ⟨[(1, some (zex k))], []⟩
theorem zf3 (k : Nat) : CutFor X zep k Go.Proofs.Tryz.f107.results.toList (zf1 k) (sub (bodyOf Go.Proofs.Tryz.f107) [1, 1, 0, 1]) :=
  loopCut_s (X := X) (sg := [.kl 9, .ks, .ki .i64]) (cu := zf2 k) (cl := zeq k) (tys := [[0]]) (id := 0) (c := sub (bodyOf Go.Proofs.Tryz.f107) [1, 1, 0, 1, 0, 0]) (f := fun n => fun (x : (List (List UInt8)) × (List UInt8) × Int × Unit) => S_JoinList_b0 k n x.1 x.2.1 x.2.2.1) (zer k) (cutOK_of (l := [(zex k, sub (bodyOf Go.Proofs.Tryz.f107) [1, 1, 0, 1, 0, 0, 1, 0])]) (by kernel_rfl) ⟨zez k, trivial⟩) (fun _ => rfl) (fun n x Q R h => by
    simp only [S_JoinList_b0, optK_bind, optK_bif, optK_pure, optK_none, optK_oc, optK_guardT, optK_map] at h
    refine hold_of h ?_
    kernel_rfl) (by kernel_rfl)
def zf4 (k : Nat) : Cuts D := ⟨[(0, some (zf1 k))], []⟩
def zf5 : List Ar := [.c (.kl 9)]
def zf6 (k : Nat) (x : TupA D zf5) : Option ((List UInt8)) := S_JoinList k x.1
def zf7 (r : (List UInt8)) : VR D := .p (.c (.str r))
theorem zf8 (k : Nat) : Does P X 107 zf5 (zf6 k) zf7 :=
  does_of (body := bodyOf Go.Proofs.Tryz.f107) (pl := zep) (k := k) (cu := zf4 k) (tys := [[0]]) (zer k) ctx mixed Go.Proofs.Tryz.func107 (by kernel_rfl) (by kernel_rfl) (cutOK_of (l := [(zf1 k, sub (bodyOf Go.Proofs.Tryz.f107) [1, 1, 0, 1])]) (by kernel_rfl) ⟨zf3 k, trivial⟩) fun x R h => by
    simp only [zf6, S_JoinList, optK_bind, optK_bif, optK_pure, optK_none, optK_oc, optK_guardT, optK_map] at h
    refine hold_of h ?_
    kernel_rfl
def zf9 (k : Nat) : Entry D := entS zf5 (zf6 k) zf7
theorem zfa (k : Nat) : EntryOK X 107 (zf9 k) := (zf8 k).en rfl
def zfb : Plan := ⟨[(0, [(0, some 34), (1, none)]), (1, [(0, some 34), (1, none), (6, some 9)]), (2, [(0, some 34), (1, none), (6, some 9), (7, none)]), (3, [(0, some 34), (1, none), (6, some 9), (7, none), (12, none)]), (4, [(0, some 34), (1, none), (6, some 9), (7, none)]), (5, [(0, some 34), (1, none), (6, some 9), (7, none), (21, none)]), (6, [(0, some 34), (1, none), (6, some 9), (7, none)]), (7, [(4, none), (5, none)])],
  [(0, [(6, some 9)]), (1, [(0, some 34), (1, none), (6, some 9), (7, none)])],
  [(12, ([(0, some 34), (1, none), (6, some 9), (7, none)], [(6, some 9)])), (21, ([(0, some 34), (1, none), (6, some 9), (7, none)], [(0, some 34), (1, none), (6, some 9), (7, none)]))]⟩
def zfc (k : Nat) : Calls' D := ⟨[(107, zf9 k)], [], [], [], []⟩
theorem zfd (k : Nat) : CallsOK X (zfc k) := .cons (zfa k) (.nil cod)
def zfe (x : (List IField) × (List UInt8) × Int × Bool × (List (List UInt8)) × Unit) (o : (List (List UInt8))) (Q : Ex → VSt D → Prop) (R : VR D → Prop) : Prop := Q .normal (mkSt ⟨[(0, .hole), (1, .hole), (6, .ref 500006), (7, .hole)], [(500006, .row)]⟩ [.sl 34 x.1, .str x.2.1, .int .i64 x.2.2.1, .sl 9 o])
def zff (k : Nat) : Cut D := cutS ⟨[(0, .hole), (1, .hole), (6, .ref 500006), (7, .hole), (21, .hole)], [(500006, .row)]⟩ [.kl 34, .ks, .ki .i64, .kb, .kl 9] (fun (x : (List IField) × (List UInt8) × Int × Bool × (List (List UInt8)) × Unit) => S_GetField_c21 k x.1 x.2.1 x.2.2.1 x.2.2.2.1 x.2.2.2.2.1) zfe
def zfg (k : Nat) : Cuts D := ⟨[], []⟩
theorem zfh (k : Nat) : CutFor X zfb k Go.Proofs.Tryz.f153.results.toList (zff k) (sub (bodyOf Go.Proofs.Tryz.f153) [1, 1, 0, 1, 0, 0, 1, 0, 0, 1]) :=
  joinCut_s (X := X) (sg := [.kl 34, .ks, .ki .i64, .kb, .kl 9]) (cu := zfg k) (cl := zfc k) (tys := [[0], [0]]) (zfd k) (cutOK_of (l := []) (by kernel_rfl) trivial) fun x Q R h => by
    simp only [S_GetField_c21, optK_bind, optK_bif, optK_pure, optK_none, optK_oc, optK_guardT, optK_map] at h
    refine hold_of h ?_
    kernel_rfl
def zfi (x : (List IField) × (List UInt8) × Int × (List (List UInt8)) × Unit) (o : (List (List UInt8))) (Q : Ex → VSt D → Prop) (R : VR D → Prop) : Prop := Q .normal (mkSt ⟨[(0, .hole), (1, .hole), (6, .ref 500006), (7, .hole)], [(500006, .row)]⟩ [.sl 34 x.1, .str x.2.1, .int .i64 x.2.2.1, .sl 9 o])
def zfj (k : Nat) : Cut D := cutS ⟨[(0, .hole), (1, .hole), (6, .ref 500006), (7, .hole)], [(500006, .row)]⟩ [.kl 34, .ks, .ki .i64, .kl 9] (fun (x : (List IField) × (List UInt8) × Int × (List (List UInt8)) × Unit) => S_GetField_b1 k x.1 x.2.1 x.2.2.1 x.2.2.2.1) zfi
def zfk (k : Nat) : Cuts D := ⟨[], [(21, some (zff k))]⟩
theorem zfl (k : Nat) : CutFor X zfb k Go.Proofs.Tryz.f153.results.toList (zfj k) (sub (bodyOf Go.Proofs.Tryz.f153) [1, 1, 0, 1, 0, 0, 1, 0]) :=
  joinCut_s (X := X) (sg := [.kl 34, .ks, .ki .i64, .kl 9]) (cu := zfk k) (cl := zfc k) (tys := [[0], [0]]) (zfd k) (cutOK_of (l := [(zff k, sub (bodyOf Go.Proofs.Tryz.f153) [1, 1, 0, 1, 0, 0, 1, 0, 0, 1])]) (by kernel_rfl) ⟨zfh k, trivial⟩) fun x Q R h => by
    simp only [S_GetField_b1, optK_bind, optK_bif, optK_pure, optK_none, optK_oc, optK_guardT, optK_map] at h
    refine hold_of h ?_
    kernel_rfl
def zfm (x : (List IField) × (List UInt8) × Int × (List (List UInt8)) × Unit) (o : (List (List UInt8))) (Q : Ex → VSt D → Prop) (R : VR D → Prop) : Prop := Q .normal (mkSt ⟨[(6, .ref 500006)], [(500006, .row)]⟩ [.sl 9 o])
def zfn (k : Nat) : Cut D := cutS ⟨[(0, .hole), (1, .hole), (6, .ref 500006), (7, .hole)], [(500006, .row)]⟩ [.kl 34, .ks, .ki .i64, .kl 9] (fun (x : (List IField) × (List UInt8) × Int × (List (List UInt8)) × Unit) => S_GetField_b0 k k x.1 x.2.1 x.2.2.1 x.2.2.2.1) zfm
def zfo (k : Nat) : Cuts D := ⟨[(1, some (zfj k))], []⟩
theorem zfp (k : Nat) : CutFor X zfb k Go.Proofs.Tryz.f153.results.toList (zfn k) (sub (bodyOf Go.Proofs.Tryz.f153) [1, 1, 0, 1]) :=
  loopCut_s (X := X) (sg := [.kl 34, .ks, .ki .i64, .kl 9]) (cu := zfo k) (cl := zfc k) (tys := [[0], [0]]) (id := 0) (c := sub (bodyOf Go.Proofs.Tryz.f153) [1, 1, 0, 1, 0, 0]) (f := fun n => fun (x : (List IField) × (List UInt8) × Int × (List (List UInt8)) × Unit) => S_GetField_b0 k n x.1 x.2.1 x.2.2.1 x.2.2.2.1) (zfd k) (cutOK_of (l := [(zfj k, sub (bodyOf Go.Proofs.Tryz.f153) [1, 1, 0, 1, 0, 0, 1, 0])]) (by kernel_rfl) ⟨zfl k, trivial⟩) (fun _ => rfl) (fun n x Q R h => by
    simp only [S_GetField_b0, optK_bind, optK_bif, optK_pure, optK_none, optK_oc, optK_guardT, optK_map] at h
    refine hold_of h ?_
    kernel_rfl) (by kernel_rfl)
def zfq (k : Nat) : Cuts D := ⟨[(0, some (zfn k))], []⟩
def zfr : List Ar := [.c (.kl 34), .c (.ks)]
def zfs (k : Nat) (x : TupA D zfr) : Option ((List UInt8) × Bool) := S_GetField k x.1 x.2.1
def zft (r : (List UInt8) × Bool) : VR D := .tup [.c (.str r.1), .c (.bool r.2)]
theorem zfu (k : Nat) : Does P X 153 zfr (zfs k) zft :=
  does_of (body := bodyOf Go.Proofs.Tryz.f153) (pl := zfb) (k := k) (cu := zfq k) (tys := [[0], [0]]) (zfd k) ctx mixed Go.Proofs.Tryz.func153 (by kernel_rfl) (by kernel_rfl) (cutOK_of (l := [(zfn k, sub (bodyOf Go.Proofs.Tryz.f153) [1, 1, 0, 1])]) (by kernel_rfl) ⟨zfp k, trivial⟩) fun x R h => by
    simp only [zfs, S_GetField, optK_bind, optK_bif, optK_pure, optK_none, optK_oc, optK_guardT, optK_map] at h
    refine hold_of h ?_
    kernel_rfl
def zfv (k : Nat) : Entry D := entS zfr (zfs k) zft
theorem zfw (k : Nat) : EntryOK X 153 (zfv k) := (zfu k).en rfl
def zfx : Plan := ⟨[(0, [(0, none)]), (1, [(2, none)])],
  [],
  []⟩
def zfy (k : Nat) : Calls' D := ⟨[(98, zen k)], [], [], [], []⟩
theorem zfz (k : Nat) : CallsOK X (zfy k) := .cons (zeo k) (.nil cod)
def zg0 (k : Nat) : Cuts D := ⟨[], []⟩
def zg1 : List Ar := [.c (.ki .u8)]
def zg2 (k : Nat) (x : TupA D zg1) : Option (Bool) := S_l4Letter k x.1
def zg3 (r : Bool) : VR D := .p (.c (.bool r))
theorem zg4 (k : Nat) : Does P X 220 zg1 (zg2 k) zg3 :=
  does_of (body := bodyOf Go.Proofs.Tryz.f220) (pl := zfx) (k := k) (cu := zg0 k) (tys := [[0]]) (zfz k) ctx mixed Go.Proofs.Tryz.func220 (by kernel_rfl) (by kernel_rfl) (cutOK_of (l := []) (by kernel_rfl) trivial) fun x R h => by
    simp only [zg2, S_l4Letter, optK_bind, optK_bif, optK_pure, optK_none, optK_oc, optK_guardT, optK_map] at h
    refine hold_of h ?_
    kernel_rfl
def zg5 (k : Nat) : Entry D := entS zg1 (zg2 k) zg3
theorem zg6 (k : Nat) : EntryOK X 220 (zg5 k) := (zg4 k).en rfl
def zg7 : Plan := ⟨[(0, [(0, none)]), (1, [(0, none), (3, none)]), (2, [(0, none), (3, none), (5, none)]), (3, [(0, none), (3, none)]), (4, [(0, none), (3, none), (11, none)]), (5, [(2, none)]), (6, [(2, none)])],
  [(0, [(0, none)]), (1, [(0, none), (3, none)])],
  [(5, ([(0, none), (3, none)], [(0, none)])), (11, ([], [(0, none), (3, none)]))]⟩
def zg8 (k : Nat) : Calls' D := ⟨[(220, zg5 k)], [], [], [], []⟩
theorem zg9 (k : Nat) : CallsOK X (zg8 k) := .cons (zg6 k) (.nil cod)
def zga (x : Int × Int × Unit) (o : Oc (Unit) (Bool)) (Q : Ex → VSt D → Prop) (R : VR D → Prop) : Prop := ocP o (fun v0 => Q .normal (mkSt ⟨[(0, .hole)], []⟩ [.int .u8 x.1])) (fun w0 => R (.p (.c (.bool w0))))
def zgb (k : Nat) : Cut D := cutS ⟨[(0, .hole), (3, .hole)], []⟩ [.ki .u8, .ki .i64] (fun (x : Int × Int × Unit) => S_l4Token_b0 k k x.1 x.2.1) zga
def zgc (k : Nat) : Cuts D := ⟨[], []⟩
theorem zgd (k : Nat) : CutFor X zg7 k Go.Proofs.Tryz.f224.results.toList (zgb k) (sub (bodyOf Go.Proofs.Tryz.f224) [1, 0, 1]) :=
  loopCut_s (X := X) (sg := [.ki .u8, .ki .i64]) (cu := zgc k) (cl := zg8 k) (tys := [[0]]) (id := 0) (c := sub (bodyOf Go.Proofs.Tryz.f224) [1, 0, 1, 0, 0]) (f := fun n => fun (x : Int × Int × Unit) => S_l4Token_b0 k n x.1 x.2.1) (zg9 k) (cutOK_of (l := []) (by kernel_rfl) trivial) (fun _ => rfl) (fun n x Q R h => by
    simp only [S_l4Token_b0, optK_bind, optK_bif, optK_pure, optK_none, optK_oc, optK_guardT, optK_map] at h
    refine hold_of h ?_
    kernel_rfl) (by kernel_rfl)
def zge (k : Nat) : Cuts D := ⟨[(0, some (zgb k))], []⟩
def zgf : List Ar := [.c (.ki .u8)]
def zgg (k : Nat) (x : TupA D zgf) : Option (Bool) := S_l4Token k x.1
def zgh (r : Bool) : VR D := .p (.c (.bool r))
theorem zgi (k : Nat) : Does P X 224 zgf (zgg k) zgh :=
  does_of (body := bodyOf Go.Proofs.Tryz.f224) (pl := zg7) (k := k) (cu := zge k) (tys := [[0]]) (zg9 k) ctx mixed Go.Proofs.Tryz.func224 (by kernel_rfl) (by kernel_rfl) (cutOK_of (l := [(zgb k, sub (bodyOf Go.Proofs.Tryz.f224) [1, 0, 1])]) (by kernel_rfl) ⟨zgd k, trivial⟩) fun x R h => by
    simp only [zgg, S_l4Token, optK_bind, optK_bif, optK_pure, optK_none, optK_oc, optK_guardT, optK_map] at h
    refine hold_of h ?_
    kernel_rfl
def zgj (k : Nat) : Entry D := entS zgf (zgg k) zgh
theorem zgk (k : Nat) : EntryOK X 224 (zgj k) := (zgi k).en rfl
def zgl : Plan := ⟨[(0, [(0, none)]), (1, [(0, none), (3, none)]), (2, [(0, none), (3, none), (7, none)]), (3, [(0, none), (3, none)]), (4, [(0, none), (3, none), (14, none)]), (5, [(2, none)]), (6, [(2, none)])],
  [(0, [(0, none)]), (1, [(0, none), (3, none)])],
  [(7, ([(0, none), (3, none)], [(0, none)])), (14, ([], [(0, none), (3, none)]))]⟩
def zgm (k : Nat) : Calls' D := ⟨[(224, zgj k), (98, zen k)], [], [], [], []⟩
theorem zgn (k : Nat) : CallsOK X (zgm k) := .cons (zgk k) (.cons (zeo k) (.nil cod))
def zgo (x : (List UInt8) × Int × Unit) (o : Oc (Unit) (Bool)) (Q : Ex → VSt D → Prop) (R : VR D → Prop) : Prop := ocP o (fun v0 => Q .normal (mkSt ⟨[(0, .hole)], []⟩ [.str x.1])) (fun w0 => R (.p (.c (.bool w0))))
def zgp (k : Nat) : Cut D := cutS ⟨[(0, .hole), (3, .hole)], []⟩ [.ks, .ki .i64] (fun (x : (List UInt8) × Int × Unit) => S_IsToken_b0 k k x.1 x.2.1) zgo
def zgq (k : Nat) : Cuts D := ⟨[], []⟩
theorem zgr (k : Nat) : CutFor X zgl k Go.Proofs.Tryz.f154.results.toList (zgp k) (sub (bodyOf Go.Proofs.Tryz.f154) [1, 0, 1]) :=
  loopCut_s (X := X) (sg := [.ks, .ki .i64]) (cu := zgq k) (cl := zgm k) (tys := [[0]]) (id := 0) (c := sub (bodyOf Go.Proofs.Tryz.f154) [1, 0, 1, 0, 0]) (f := fun n => fun (x : (List UInt8) × Int × Unit) => S_IsToken_b0 k n x.1 x.2.1) (zgn k) (cutOK_of (l := []) (by kernel_rfl) trivial) (fun _ => rfl) (fun n x Q R h => by
    simp only [S_IsToken_b0, optK_bind, optK_bif, optK_pure, optK_none, optK_oc, optK_guardT, optK_map] at h
    refine hold_of h ?_
    kernel_rfl) (by kernel_rfl)
def zgs (k : Nat) : Cuts D := ⟨[(0, some (zgp k))], []⟩
def zgt : List Ar := [.c (.ks)]
def zgu (k : Nat) (x : TupA D zgt) : Option (Bool) := S_IsToken k x.1
def zgv (r : Bool) : VR D := .p (.c (.bool r))
theorem zgw (k : Nat) : Does P X 154 zgt (zgu k) zgv :=
  does_of (body := bodyOf Go.Proofs.Tryz.f154) (pl := zgl) (k := k) (cu := zgs k) (tys := [[0]]) (zgn k) ctx mixed Go.Proofs.Tryz.func154 (by kernel_rfl) (by kernel_rfl) (cutOK_of (l := [(zgp k, sub (bodyOf Go.Proofs.Tryz.f154) [1, 0, 1])]) (by kernel_rfl) ⟨zgr k, trivial⟩) fun x R h => by
    simp only [zgu, S_IsToken, optK_bind, optK_bif, optK_pure, optK_none, optK_oc, optK_guardT, optK_map] at h
    refine hold_of h ?_
    kernel_rfl
def zgx (k : Nat) : Entry D := entS zgt (zgu k) zgv
theorem zgy (k : Nat) : EntryOK X 154 (zgx k) := (zgw k).en rfl
def zgz : Plan := ⟨[(0, [(0, none)]), (1, [(3, some 5)]), (2, [(3, some 5), (4, none)]), (3, [(3, some 5), (4, none), (10, none)]), (4, [(3, some 5), (4, none)]), (5, [(3, some 5), (4, none), (18, none)]), (6, [(3, some 5), (4, none)]), (7, [(2, none)])],
  [(0, [(3, some 5)]), (1, [(3, some 5), (4, none)])],
  [(10, ([(3, some 5), (4, none)], [(3, some 5)])), (18, ([(3, some 5), (4, none)], [(3, some 5), (4, none)]))]⟩
def zh0 (k : Nat) : Calls' D := ⟨[(98, zen k)], [], [], [], []⟩
theorem zh1 (k : Nat) : CallsOK X (zh0 k) := .cons (zeo k) (.nil cod)
def zh2 (x : Int × Bool × (List Int) × Unit) (o : (List Int)) (Q : Ex → VSt D → Prop) (R : VR D → Prop) : Prop := Q .normal (mkSt ⟨[(3, .ref 500003), (4, .hole)], [(500003, .row)]⟩ [.int .i64 x.1, .sl 5 o])
def zh3 (k : Nat) : Cut D := cutS ⟨[(3, .ref 500003), (4, .hole), (18, .hole)], [(500003, .row)]⟩ [.ki .i64, .kb, .kl 5] (fun (x : Int × Bool × (List Int) × Unit) => S_LowerText_c18 k x.1 x.2.1 x.2.2.1) zh2
def zh4 (k : Nat) : Cuts D := ⟨[], []⟩
theorem zh5 (k : Nat) : CutFor X zgz k Go.Proofs.Tryz.f270.results.toList (zh3 k) (sub (bodyOf Go.Proofs.Tryz.f270) [1, 1, 0, 1, 0, 0, 1, 0, 0, 1]) :=
  joinCut_s (X := X) (sg := [.ki .i64, .kb, .kl 5]) (cu := zh4 k) (cl := zh0 k) (tys := [[0]]) (zh1 k) (cutOK_of (l := []) (by kernel_rfl) trivial) fun x Q R h => by
    simp only [S_LowerText_c18, optK_bind, optK_bif, optK_pure, optK_none, optK_oc, optK_guardT, optK_map] at h
    refine hold_of h ?_
    kernel_rfl
def zh6 (x : Int × (List Int) × Unit) (o : (List Int)) (Q : Ex → VSt D → Prop) (R : VR D → Prop) : Prop := Q .normal (mkSt ⟨[(3, .ref 500003), (4, .hole)], [(500003, .row)]⟩ [.int .i64 x.1, .sl 5 o])
def zh7 (k : Nat) : Cut D := cutS ⟨[(3, .ref 500003), (4, .hole)], [(500003, .row)]⟩ [.ki .i64, .kl 5] (fun (x : Int × (List Int) × Unit) => S_LowerText_b1 k x.1 x.2.1) zh6
def zh8 (k : Nat) : Cuts D := ⟨[], [(18, some (zh3 k))]⟩
theorem zh9 (k : Nat) : CutFor X zgz k Go.Proofs.Tryz.f270.results.toList (zh7 k) (sub (bodyOf Go.Proofs.Tryz.f270) [1, 1, 0, 1, 0, 0, 1, 0]) :=
  joinCut_s (X := X) (sg := [.ki .i64, .kl 5]) (cu := zh8 k) (cl := zh0 k) (tys := [[0]]) (zh1 k) (cutOK_of (l := [(zh3 k, sub (bodyOf Go.Proofs.Tryz.f270) [1, 1, 0, 1, 0, 0, 1, 0, 0, 1])]) (by kernel_rfl) ⟨zh5 k, trivial⟩) fun x Q R h => by
    simp only [S_LowerText_b1, optK_bind, optK_bif, optK_pure, optK_none, optK_oc, optK_guardT, optK_map] at h
    refine hold_of h ?_
    kernel_rfl
def zha (x : Int × (List Int) × Unit) (o : (List Int)) (Q : Ex → VSt D → Prop) (R : VR D → Prop) : Prop := Q .normal (mkSt ⟨[(3, .ref 500003)], [(500003, .row)]⟩ [.sl 5 o])
def zhb (k : Nat) : Cut D := cutS ⟨[(3, .ref 500003), (4, .hole)], [(500003, .row)]⟩ [.ki .i64, .kl 5] (fun (x : Int × (List Int) × Unit) => S_LowerText_b0 k k x.1 x.2.1) zha
def zhc (k : Nat) : Cuts D := ⟨[(1, some (zh7 k))], []⟩
theorem zhd (k : Nat) : CutFor X zgz k Go.Proofs.Tryz.f270.results.toList (zhb k) (sub (bodyOf Go.Proofs.Tryz.f270) [1, 1, 0, 1]) :=
  loopCut_s (X := X) (sg := [.ki .i64, .kl 5]) (cu := zhc k) (cl := zh0 k) (tys := [[0]]) (id := 0) (c := sub (bodyOf Go.Proofs.Tryz.f270) [1, 1, 0, 1, 0, 0]) (f := fun n => fun (x : Int × (List Int) × Unit) => S_LowerText_b0 k n x.1 x.2.1) (zh1 k) (cutOK_of (l := [(zh7 k, sub (bodyOf Go.Proofs.Tryz.f270) [1, 1, 0, 1, 0, 0, 1, 0])]) (by kernel_rfl) ⟨zh9 k, trivial⟩) (fun _ => rfl) (fun n x Q R h => by
    simp only [S_LowerText_b0, optK_bind, optK_bif, optK_pure, optK_none, optK_oc, optK_guardT, optK_map] at h
    refine hold_of h ?_
    kernel_rfl) (by kernel_rfl)
def zhe (k : Nat) : Cuts D := ⟨[(0, some (zhb k))], []⟩
def zhf : List Ar := [.c (.ks)]
def zhg (k : Nat) (x : TupA D zhf) : Option ((List UInt8)) := S_LowerText k x.1
def zhh (r : (List UInt8)) : VR D := .p (.c (.str r))
theorem zhi (k : Nat) : Does P X 270 zhf (zhg k) zhh :=
  does_of (body := bodyOf Go.Proofs.Tryz.f270) (pl := zgz) (k := k) (cu := zhe k) (tys := [[0]]) (zh1 k) ctx mixed Go.Proofs.Tryz.func270 (by kernel_rfl) (by kernel_rfl) (cutOK_of (l := [(zhb k, sub (bodyOf Go.Proofs.Tryz.f270) [1, 1, 0, 1])]) (by kernel_rfl) ⟨zhd k, trivial⟩) fun x R h => by
    simp only [zhg, S_LowerText, optK_bind, optK_bif, optK_pure, optK_none, optK_oc, optK_guardT, optK_map] at h
    refine hold_of h ?_
    kernel_rfl
def zhj (k : Nat) : Entry D := entS zhf (zhg k) zhh
theorem zhk (k : Nat) : EntryOK X 270 (zhj k) := (zhi k).en rfl
def zhl : Plan := ⟨[(0, [(0, none)]), (1, [(2, none)])],
  [],
  []⟩
def zhm (k : Nat) : Calls' D := ⟨[(154, zgx k), (270, zhj k)], [], [], [], []⟩
theorem zhn (k : Nat) : CallsOK X (zhm k) := .cons (zgy k) (.cons (zhk k) (.nil cod))
def zho (k : Nat) : Cuts D := ⟨[], []⟩
def zhp : List Ar := [.c (.ks)]
def zhq (k : Nat) (x : TupA D zhp) : Option (Bool) := S_l5Name k x.1
def zhr (r : Bool) : VR D := .p (.c (.bool r))
theorem zhs (k : Nat) : Does P X 245 zhp (zhq k) zhr :=
  does_of (body := bodyOf Go.Proofs.Tryz.f245) (pl := zhl) (k := k) (cu := zho k) (tys := [[0]]) (zhn k) ctx mixed Go.Proofs.Tryz.func245 (by kernel_rfl) (by kernel_rfl) (cutOK_of (l := []) (by kernel_rfl) trivial) fun x R h => by
    simp only [zhq, S_l5Name, optK_bind, optK_bif, optK_pure, optK_none, optK_oc, optK_guardT, optK_map] at h
    refine hold_of h ?_
    kernel_rfl
def zht (k : Nat) : Entry D := entS zhp (zhq k) zhr
theorem zhu (k : Nat) : EntryOK X 245 (zht k) := (zhs k).en rfl
def zhv : Plan := ⟨[(0, [(0, none)]), (1, [(2, none)])],
  [],
  []⟩
def zhw (k : Nat) : Calls' D := ⟨[], [], [], [], []⟩
theorem zhx (k : Nat) : CallsOK X (zhw k) := .nil cod
def zhy (k : Nat) : Cuts D := ⟨[], []⟩
def zhz : List Ar := [.c (.ki .u8)]
def zi0 (k : Nat) (x : TupA D zhz) : Option (Bool) := S_l4Blank k x.1
def zi1 (r : Bool) : VR D := .p (.c (.bool r))
theorem zi2 (k : Nat) : Does P X 324 zhz (zi0 k) zi1 :=
  does_of (body := bodyOf Go.Proofs.Tryz.f324) (pl := zhv) (k := k) (cu := zhy k) (tys := [[0]]) (zhx k) ctx mixed Go.Proofs.Tryz.func324 (by kernel_rfl) (by kernel_rfl) (cutOK_of (l := []) (by kernel_rfl) trivial) fun x R h => by
    simp only [zi0, S_l4Blank, optK_bind, optK_bif, optK_pure, optK_none, optK_oc, optK_guardT, optK_map] at h
    refine hold_of h ?_
    kernel_rfl
def zi3 (k : Nat) : Entry D := entS zhz (zi0 k) zi1
theorem zi4 (k : Nat) : EntryOK X 324 (zi3 k) := (zi2 k).en rfl
def zi5 : Plan := ⟨[(0, [(0, none)]), (1, [(0, none), (10, none)]), (2, [(0, none)]), (3, [(0, none), (23, none)]), (4, [(0, none)]), (5, [(2, none)])],
  [(0, [(0, none)]), (1, [(0, none)]), (2, [(0, none)]), (3, [(0, none)])],
  [(10, ([(0, none)], [(0, none)])), (23, ([(0, none)], [(0, none)]))]⟩
def zi6 (k : Nat) : Calls' D := ⟨[(324, zi3 k)], [], [], [], []⟩
theorem zi7 (k : Nat) : CallsOK X (zi6 k) := .cons (zi4 k) (.nil cod)
def zi8 (x : (List UInt8) × Unit) (o : (List UInt8)) (Q : Ex → VSt D → Prop) (R : VR D → Prop) : Prop := Q .normal (mkSt ⟨[(0, .hole)], []⟩ [.str o])
def zi9 (k : Nat) : Cut D := cutS ⟨[(0, .hole)], []⟩ [.ks] (fun (x : (List UInt8) × Unit) => S_TrimText_b0 k k x.1) zi8
def zia (k : Nat) : Cuts D := ⟨[], []⟩
theorem zib (k : Nat) : CutFor X zi5 k Go.Proofs.Tryz.f271.results.toList (zi9 k) (sub (bodyOf Go.Proofs.Tryz.f271) [1, 0]) :=
  loopCut_s (X := X) (sg := [.ks]) (cu := zia k) (cl := zi6 k) (tys := [[0]]) (id := 0) (c := sub (bodyOf Go.Proofs.Tryz.f271) [1, 0, 0, 0]) (f := fun n => fun (x : (List UInt8) × Unit) => S_TrimText_b0 k n x.1) (zi7 k) (cutOK_of (l := []) (by kernel_rfl) trivial) (fun _ => rfl) (fun n x Q R h => by
    simp only [S_TrimText_b0, optK_bind, optK_bif, optK_pure, optK_none, optK_oc, optK_guardT, optK_map] at h
    refine hold_of h ?_
    kernel_rfl) (by kernel_rfl)
def zic (x : (List UInt8) × Unit) (o : (List UInt8)) (Q : Ex → VSt D → Prop) (R : VR D → Prop) : Prop := Q .normal (mkSt ⟨[(0, .hole)], []⟩ [.str o])
def zid (k : Nat) : Cut D := cutS ⟨[(0, .hole)], []⟩ [.ks] (fun (x : (List UInt8) × Unit) => S_TrimText_b2 k k x.1) zic
def zie (k : Nat) : Cuts D := ⟨[], []⟩
theorem zif (k : Nat) : CutFor X zi5 k Go.Proofs.Tryz.f271.results.toList (zid k) (sub (bodyOf Go.Proofs.Tryz.f271) [1, 1, 0]) :=
  loopCut_s (X := X) (sg := [.ks]) (cu := zie k) (cl := zi6 k) (tys := [[0]]) (id := 2) (c := sub (bodyOf Go.Proofs.Tryz.f271) [1, 1, 0, 0, 0]) (f := fun n => fun (x : (List UInt8) × Unit) => S_TrimText_b2 k n x.1) (zi7 k) (cutOK_of (l := []) (by kernel_rfl) trivial) (fun _ => rfl) (fun n x Q R h => by
    simp only [S_TrimText_b2, optK_bind, optK_bif, optK_pure, optK_none, optK_oc, optK_guardT, optK_map] at h
    refine hold_of h ?_
    kernel_rfl) (by kernel_rfl)
def zig (k : Nat) : Cuts D := ⟨[(0, some (zi9 k)), (2, some (zid k))], []⟩
def zih : List Ar := [.c (.ks)]
def zii (k : Nat) (x : TupA D zih) : Option ((List UInt8)) := S_TrimText k x.1
def zij (r : (List UInt8)) : VR D := .p (.c (.str r))
theorem zik (k : Nat) : Does P X 271 zih (zii k) zij :=
  does_of (body := bodyOf Go.Proofs.Tryz.f271) (pl := zi5) (k := k) (cu := zig k) (tys := [[0]]) (zi7 k) ctx mixed Go.Proofs.Tryz.func271 (by kernel_rfl) (by kernel_rfl) (cutOK_of (l := [(zi9 k, sub (bodyOf Go.Proofs.Tryz.f271) [1, 0]), (zid k, sub (bodyOf Go.Proofs.Tryz.f271) [1, 1, 0])]) (by kernel_rfl) ⟨zib k, zif k, trivial⟩) fun x R h => by
    simp only [zii, S_TrimText, optK_bind, optK_bif, optK_pure, optK_none, optK_oc, optK_guardT, optK_map] at h
    refine hold_of h ?_
    kernel_rfl
def zil (k : Nat) : Entry D := entS zih (zii k) zij
theorem zim (k : Nat) : EntryOK X 271 (zil k) := (zik k).en rfl
def zin : Plan := ⟨[(0, [(0, none)]), (1, [(0, none), (3, none)]), (2, [(0, none), (3, none), (7, none)]), (3, [(0, none), (3, none)]), (4, [(0, none), (3, none), (21, none)]), (5, [(2, none)]), (6, [(2, none)])],
  [(0, [(0, none)]), (1, [(0, none), (3, none)])],
  [(7, ([(0, none), (3, none)], [(0, none)])), (21, ([], [(0, none), (3, none)]))]⟩
def zio (k : Nat) : Calls' D := ⟨[(98, zen k), (271, zil k)], [], [], [], []⟩
theorem zip (k : Nat) : CallsOK X (zio k) := .cons (zeo k) (.cons (zim k) (.nil cod))
def ziq (x : (List UInt8) × Int × Unit) (o : Oc (Unit) (Bool)) (Q : Ex → VSt D → Prop) (R : VR D → Prop) : Prop := ocP o (fun v0 => Q .normal (mkSt ⟨[(0, .hole)], []⟩ [.str x.1])) (fun w0 => R (.p (.c (.bool w0))))
def zir (k : Nat) : Cut D := cutS ⟨[(0, .hole), (3, .hole)], []⟩ [.ks, .ki .i64] (fun (x : (List UInt8) × Int × Unit) => S_l5Value_b0 k k x.1 x.2.1) ziq
def zis (k : Nat) : Cuts D := ⟨[], []⟩
theorem zit (k : Nat) : CutFor X zin k Go.Proofs.Tryz.f247.results.toList (zir k) (sub (bodyOf Go.Proofs.Tryz.f247) [1, 0, 1]) :=
  loopCut_s (X := X) (sg := [.ks, .ki .i64]) (cu := zis k) (cl := zio k) (tys := [[0]]) (id := 0) (c := sub (bodyOf Go.Proofs.Tryz.f247) [1, 0, 1, 0, 0]) (f := fun n => fun (x : (List UInt8) × Int × Unit) => S_l5Value_b0 k n x.1 x.2.1) (zip k) (cutOK_of (l := []) (by kernel_rfl) trivial) (fun _ => rfl) (fun n x Q R h => by
    simp only [S_l5Value_b0, optK_bind, optK_bif, optK_pure, optK_none, optK_oc, optK_guardT, optK_map] at h
    refine hold_of h ?_
    kernel_rfl) (by kernel_rfl)
def ziu (k : Nat) : Cuts D := ⟨[(0, some (zir k))], []⟩
def ziv : List Ar := [.c (.ks)]
def ziw (k : Nat) (x : TupA D ziv) : Option (Bool) := S_l5Value k x.1
def zix (r : Bool) : VR D := .p (.c (.bool r))
theorem ziy (k : Nat) : Does P X 247 ziv (ziw k) zix :=
  does_of (body := bodyOf Go.Proofs.Tryz.f247) (pl := zin) (k := k) (cu := ziu k) (tys := [[0]]) (zip k) ctx mixed Go.Proofs.Tryz.func247 (by kernel_rfl) (by kernel_rfl) (cutOK_of (l := [(zir k, sub (bodyOf Go.Proofs.Tryz.f247) [1, 0, 1])]) (by kernel_rfl) ⟨zit k, trivial⟩) fun x R h => by
    simp only [ziw, S_l5Value, optK_bind, optK_bif, optK_pure, optK_none, optK_oc, optK_guardT, optK_map] at h
    refine hold_of h ?_
    kernel_rfl
def ziz (k : Nat) : Entry D := entS ziv (ziw k) zix
theorem zj0 (k : Nat) : EntryOK X 247 (ziz k) := (ziy k).en rfl
def zj1 : Plan := ⟨[(0, [(0, some 34)]), (1, [(0, some 34), (3, none)]), (2, [(0, some 34), (3, none), (7, none)]), (3, [(0, some 34), (3, none)]), (4, [(0, some 34), (3, none), (25, none)]), (5, [(2, none)]), (6, [(2, none)])],
  [(0, [(0, some 34)]), (1, [(0, some 34), (3, none)])],
  [(7, ([(0, some 34), (3, none)], [(0, some 34)])), (25, ([], [(0, some 34), (3, none)]))]⟩
def zj2 (k : Nat) : Calls' D := ⟨[(245, zht k), (247, ziz k)], [], [], [], []⟩
theorem zj3 (k : Nat) : CallsOK X (zj2 k) := .cons (zhu k) (.cons (zj0 k) (.nil cod))
def zj4 (x : (List IField) × Int × Unit) (o : Oc (Unit) (Bool)) (Q : Ex → VSt D → Prop) (R : VR D → Prop) : Prop := ocP o (fun v0 => Q .normal (mkSt ⟨[(0, .hole)], []⟩ [.sl 34 x.1])) (fun w0 => R (.p (.c (.bool w0))))
def zj5 (k : Nat) : Cut D := cutS ⟨[(0, .hole), (3, .hole)], []⟩ [.kl 34, .ki .i64] (fun (x : (List IField) × Int × Unit) => S_AreFields_b0 k k x.1 x.2.1) zj4
def zj6 (k : Nat) : Cuts D := ⟨[], []⟩
theorem zj7 (k : Nat) : CutFor X zj1 k Go.Proofs.Tryz.f225.results.toList (zj5 k) (sub (bodyOf Go.Proofs.Tryz.f225) [1, 0, 1]) :=
  loopCut_s (X := X) (sg := [.kl 34, .ki .i64]) (cu := zj6 k) (cl := zj2 k) (tys := [[0]]) (id := 0) (c := sub (bodyOf Go.Proofs.Tryz.f225) [1, 0, 1, 0, 0]) (f := fun n => fun (x : (List IField) × Int × Unit) => S_AreFields_b0 k n x.1 x.2.1) (zj3 k) (cutOK_of (l := []) (by kernel_rfl) trivial) (fun _ => rfl) (fun n x Q R h => by
    simp only [S_AreFields_b0, optK_bind, optK_bif, optK_pure, optK_none, optK_oc, optK_guardT, optK_map] at h
    refine hold_of h ?_
    kernel_rfl) (by kernel_rfl)
def zj8 (k : Nat) : Cuts D := ⟨[(0, some (zj5 k))], []⟩
def zj9 : List Ar := [.c (.kl 34)]
def zja (k : Nat) (x : TupA D zj9) : Option (Bool) := S_AreFields k x.1
def zjb (r : Bool) : VR D := .p (.c (.bool r))
theorem zjc (k : Nat) : Does P X 225 zj9 (zja k) zjb :=
  does_of (body := bodyOf Go.Proofs.Tryz.f225) (pl := zj1) (k := k) (cu := zj8 k) (tys := [[0]]) (zj3 k) ctx mixed Go.Proofs.Tryz.func225 (by kernel_rfl) (by kernel_rfl) (cutOK_of (l := [(zj5 k, sub (bodyOf Go.Proofs.Tryz.f225) [1, 0, 1])]) (by kernel_rfl) ⟨zj7 k, trivial⟩) fun x R h => by
    simp only [zja, S_AreFields, optK_bind, optK_bif, optK_pure, optK_none, optK_oc, optK_guardT, optK_map] at h
    refine hold_of h ?_
    kernel_rfl
def zjd (k : Nat) : Entry D := entS zj9 (zja k) zjb
theorem zje (k : Nat) : EntryOK X 225 (zjd k) := (zjc k).en rfl
def zjf : Plan := ⟨[(0, [(0, some 34)]), (1, [(0, some 34), (4, none)]), (2, [(2, none)])],
  [],
  []⟩
def zjg (k : Nat) : Calls' D := ⟨[(153, zfv k), (225, zjd k)], [], [], [], []⟩
theorem zjh (k : Nat) : CallsOK X (zjg k) := .cons (zfw k) (.cons (zje k) (.nil cod))
def zji (k : Nat) : Cuts D := ⟨[], []⟩
def zjj : List Ar := [.c (.kl 34)]
def zjk (k : Nat) (x : TupA D zjj) : Option (Bool) := S_l11Fields k x.1
def zjl (r : Bool) : VR D := .p (.c (.bool r))
theorem zjm (k : Nat) : Does P X 155 zjj (zjk k) zjl :=
  does_of (body := bodyOf Go.Proofs.Tryz.f155) (pl := zjf) (k := k) (cu := zji k) (tys := [[0]]) (zjh k) ctx mixed Go.Proofs.Tryz.func155 (by kernel_rfl) (by kernel_rfl) (cutOK_of (l := []) (by kernel_rfl) trivial) fun x R h => by
    simp only [zjk, S_l11Fields, optK_bind, optK_bif, optK_pure, optK_none, optK_oc, optK_guardT, optK_map] at h
    refine hold_of h ?_
    kernel_rfl
def zjn (k : Nat) : Entry D := entS zjj (zjk k) zjl
theorem zjo (k : Nat) : EntryOK X 155 (zjn k) := (zjm k).en rfl
def zjp : Plan := ⟨[(0, [(1, none)]), (1, [(1, none), (3, none)]), (2, [(1, none), (3, none), (13, none)]), (3, [(1, none), (3, none)]), (4, [(1, none), (3, none), (21, none)]), (5, [(2, none)]), (6, [(1, none), (4, none)]), (7, [(1, none), (4, none), (26, none)]), (8, [(1, none), (4, none)]), (9, [(1, none), (4, none), (5, none)]), (10, [(1, none), (4, none), (50, none)]), (11, [(2, none)]), (12, [(1, none), (6, none)]), (13, [(1, none), (6, none), (55, none)]), (14, [(1, none), (6, none)]), (15, [(1, none), (6, none), (64, none)]), (16, [(2, none)]), (17, [(1, none), (8, none)]), (18, [(2, none)])],
  [(0, [(1, none)]), (1, [(1, none), (3, none)]), (2, [(1, none)]), (3, [(1, none), (4, none)]), (4, [(1, none)]), (5, [(1, none), (6, none)])],
  [(13, ([(1, none), (3, none)], [(1, none)])), (21, ([], [(1, none), (3, none)])), (26, ([(1, none), (4, none)], [(1, none)])), (50, ([], [(1, none), (4, none)])), (55, ([(1, none), (6, none)], [(1, none)])), (64, ([], [(1, none), (6, none)]))]⟩
def zjq (k : Nat) : Calls' D := ⟨[(98, zen k), (153, zfv k), (154, zgx k), (155, zjn k)], [], [], [], []⟩
theorem zjr (k : Nat) : CallsOK X (zjq k) := .cons (zeo k) (.cons (zfw k) (.cons (zgy k) (.cons (zjo k) (.nil cod))))
def zjs (x : Int × (List UInt8) × (List UInt8) × (List UInt8) × (List IField) × Unit) (o : Oc (Unit) (Bool)) (Q : Ex → VSt D → Prop) (R : VR D → Prop) : Prop := ocP o (fun v0 => Q .normal (mkSt ⟨[(1, .ptr 1 0)], [(1, .var [.hole, .hole, .hole, .hole])]⟩ [.str x.2.1, .str x.2.2.1, .str x.2.2.2.1, .sl 34 x.2.2.2.2.1])) (fun w0 => R (.p (.c (.bool w0))))
def zjt (k : Nat) : Cut D := cutS ⟨[(1, .ptr 1 0), (3, .hole)], [(1, .var [.hole, .hole, .hole, .hole])]⟩ [.ki .i64, .ks, .ks, .ks, .kl 34] (fun (x : Int × (List UInt8) × (List UInt8) × (List UInt8) × (List IField) × Unit) => S_IsRequest_b0 k k x.1 x.2.1 x.2.2.1 x.2.2.2.1 x.2.2.2.2.1) zjs
def zju (k : Nat) : Cuts D := ⟨[], []⟩
theorem zjv (k : Nat) : CutFor X zjp k Go.Proofs.Tryz.f57.results.toList (zjt k) (sub (bodyOf Go.Proofs.Tryz.f57) [1, 0, 1]) :=
  loopCut_s (X := X) (sg := [.ki .i64, .ks, .ks, .ks, .kl 34]) (cu := zju k) (cl := zjq k) (tys := [[0]]) (id := 0) (c := sub (bodyOf Go.Proofs.Tryz.f57) [1, 0, 1, 0, 0]) (f := fun n => fun (x : Int × (List UInt8) × (List UInt8) × (List UInt8) × (List IField) × Unit) => S_IsRequest_b0 k n x.1 x.2.1 x.2.2.1 x.2.2.2.1 x.2.2.2.2.1) (zjr k) (cutOK_of (l := []) (by kernel_rfl) trivial) (fun _ => rfl) (fun n x Q R h => by
    simp only [S_IsRequest_b0, optK_bind, optK_bif, optK_pure, optK_none, optK_oc, optK_guardT, optK_map] at h
    refine hold_of h ?_
    kernel_rfl) (by kernel_rfl)
def zjw (x : Int × (List UInt8) × (List UInt8) × (List UInt8) × (List IField) × Unit) (o : Oc (Unit) (Bool)) (Q : Ex → VSt D → Prop) (R : VR D → Prop) : Prop := ocP o (fun v0 => Q .normal (mkSt ⟨[(1, .ptr 1 0)], [(1, .var [.hole, .hole, .hole, .hole])]⟩ [.str x.2.1, .str x.2.2.1, .str x.2.2.2.1, .sl 34 x.2.2.2.2.1])) (fun w0 => R (.p (.c (.bool w0))))
def zjx (k : Nat) : Cut D := cutS ⟨[(1, .ptr 1 0), (4, .hole)], [(1, .var [.hole, .hole, .hole, .hole])]⟩ [.ki .i64, .ks, .ks, .ks, .kl 34] (fun (x : Int × (List UInt8) × (List UInt8) × (List UInt8) × (List IField) × Unit) => S_IsRequest_b2 k k x.1 x.2.1 x.2.2.1 x.2.2.2.1 x.2.2.2.2.1) zjw
def zjy (k : Nat) : Cuts D := ⟨[], []⟩
theorem zjz (k : Nat) : CutFor X zjp k Go.Proofs.Tryz.f57.results.toList (zjx k) (sub (bodyOf Go.Proofs.Tryz.f57) [1, 1, 0, 1]) :=
  loopCut_s (X := X) (sg := [.ki .i64, .ks, .ks, .ks, .kl 34]) (cu := zjy k) (cl := zjq k) (tys := [[0]]) (id := 2) (c := sub (bodyOf Go.Proofs.Tryz.f57) [1, 1, 0, 1, 0, 0]) (f := fun n => fun (x : Int × (List UInt8) × (List UInt8) × (List UInt8) × (List IField) × Unit) => S_IsRequest_b2 k n x.1 x.2.1 x.2.2.1 x.2.2.2.1 x.2.2.2.2.1) (zjr k) (cutOK_of (l := []) (by kernel_rfl) trivial) (fun _ => rfl) (fun n x Q R h => by
    simp only [S_IsRequest_b2, optK_bind, optK_bif, optK_pure, optK_none, optK_oc, optK_guardT, optK_map] at h
    refine hold_of h ?_
    kernel_rfl) (by kernel_rfl)
def zk0 (x : Int × (List UInt8) × (List UInt8) × (List UInt8) × (List IField) × Unit) (o : Oc (Unit) (Bool)) (Q : Ex → VSt D → Prop) (R : VR D → Prop) : Prop := ocP o (fun v0 => Q .normal (mkSt ⟨[(1, .ptr 1 0)], [(1, .var [.hole, .hole, .hole, .hole])]⟩ [.str x.2.1, .str x.2.2.1, .str x.2.2.2.1, .sl 34 x.2.2.2.2.1])) (fun w0 => R (.p (.c (.bool w0))))
def zk1 (k : Nat) : Cut D := cutS ⟨[(1, .ptr 1 0), (6, .hole)], [(1, .var [.hole, .hole, .hole, .hole])]⟩ [.ki .i64, .ks, .ks, .ks, .kl 34] (fun (x : Int × (List UInt8) × (List UInt8) × (List UInt8) × (List IField) × Unit) => S_IsRequest_b4 k k x.1 x.2.1 x.2.2.1 x.2.2.2.1 x.2.2.2.2.1) zk0
def zk2 (k : Nat) : Cuts D := ⟨[], []⟩
theorem zk3 (k : Nat) : CutFor X zjp k Go.Proofs.Tryz.f57.results.toList (zk1 k) (sub (bodyOf Go.Proofs.Tryz.f57) [1, 1, 1, 0, 1]) :=
  loopCut_s (X := X) (sg := [.ki .i64, .ks, .ks, .ks, .kl 34]) (cu := zk2 k) (cl := zjq k) (tys := [[0]]) (id := 4) (c := sub (bodyOf Go.Proofs.Tryz.f57) [1, 1, 1, 0, 1, 0, 0]) (f := fun n => fun (x : Int × (List UInt8) × (List UInt8) × (List UInt8) × (List IField) × Unit) => S_IsRequest_b4 k n x.1 x.2.1 x.2.2.1 x.2.2.2.1 x.2.2.2.2.1) (zjr k) (cutOK_of (l := []) (by kernel_rfl) trivial) (fun _ => rfl) (fun n x Q R h => by
    simp only [S_IsRequest_b4, optK_bind, optK_bif, optK_pure, optK_none, optK_oc, optK_guardT, optK_map] at h
    refine hold_of h ?_
    kernel_rfl) (by kernel_rfl)
def zk4 (k : Nat) : Cuts D := ⟨[(0, some (zjt k)), (2, some (zjx k)), (4, some (zk1 k))], []⟩
def zk5 : List Ar := [.a [.ks, .ks, .ks, .kl 34]]
def zk6 (k : Nat) (x : TupA D zk5) : Option (Bool) := S_IsRequest k (⟨x.1.1, x.1.2.1, x.1.2.2.1, x.1.2.2.2.1⟩ : IRequest)
def zk7 (r : Bool) : VR D := .p (.c (.bool r))
theorem zk8 (k : Nat) : Does P X 57 zk5 (zk6 k) zk7 :=
  does_of (body := bodyOf Go.Proofs.Tryz.f57) (pl := zjp) (k := k) (cu := zk4 k) (tys := [[0]]) (zjr k) ctx mixed Go.Proofs.Tryz.func57 (by kernel_rfl) (by kernel_rfl) (cutOK_of (l := [(zjt k, sub (bodyOf Go.Proofs.Tryz.f57) [1, 0, 1]), (zjx k, sub (bodyOf Go.Proofs.Tryz.f57) [1, 1, 0, 1]), (zk1 k, sub (bodyOf Go.Proofs.Tryz.f57) [1, 1, 1, 0, 1])]) (by kernel_rfl) ⟨zjv k, zjz k, zk3 k, trivial⟩) fun x R h => by
    simp only [zk6, S_IsRequest, optK_bind, optK_bif, optK_pure, optK_none, optK_oc, optK_guardT, optK_map] at h
    refine hold_of h ?_
    kernel_rfl
def zk9 (k : Nat) : Entry D := entS zk5 (zk6 k) zk7
theorem zka (k : Nat) : EntryOK X 57 (zk9 k) := (zk8 k).en rfl
def zkb : Plan := ⟨[(0, [(1, none)]), (1, [(2, none)])],
  [],
  []⟩
def zkc (k : Nat) : Calls' D := ⟨[(98, zen k), (155, zjn k)], [], [], [], []⟩
theorem zkd (k : Nat) : CallsOK X (zkc k) := .cons (zeo k) (.cons (zjo k) (.nil cod))
def zke (k : Nat) : Cuts D := ⟨[], []⟩
def zkf : List Ar := [.a [.ki .i64, .kl 34, .ks]]
def zkg (k : Nat) (x : TupA D zkf) : Option (Bool) := S_IsResponse k (⟨x.1.1, x.1.2.1, x.1.2.2.1⟩ : IResponse)
def zkh (r : Bool) : VR D := .p (.c (.bool r))
theorem zki (k : Nat) : Does P X 58 zkf (zkg k) zkh :=
  does_of (body := bodyOf Go.Proofs.Tryz.f58) (pl := zkb) (k := k) (cu := zke k) (tys := [[0]]) (zkd k) ctx mixed Go.Proofs.Tryz.func58 (by kernel_rfl) (by kernel_rfl) (cutOK_of (l := []) (by kernel_rfl) trivial) fun x R h => by
    simp only [zkg, S_IsResponse, optK_bind, optK_bif, optK_pure, optK_none, optK_oc, optK_guardT, optK_map] at h
    refine hold_of h ?_
    kernel_rfl
def zkj (k : Nat) : Entry D := entS zkf (zkg k) zkh
theorem zkk (k : Nat) : EntryOK X 58 (zkj k) := (zki k).en rfl
def zkl : Plan := ⟨[(0, [(0, some 34), (1, some 34)]), (1, [(0, some 34), (1, some 34), (10, none)]), (2, [(4, none)]), (3, [(0, some 34), (1, some 34), (12, none), (13, none)]), (4, [(0, some 34), (1, some 34), (12, none), (13, none), (14, none)]), (5, [(0, some 34), (1, some 34), (5, none), (12, none), (13, none)]), (6, [(0, some 34), (1, some 34), (12, none), (13, none), (24, none)]), (7, [(4, none)]), (8, [(0, some 34), (1, some 34), (12, none), (13, none)]), (9, [(4, none)])],
  [(0, []), (1, [(0, some 34), (1, some 34), (12, none), (13, none)])],
  [(10, ([], [(0, some 34), (1, some 34)])), (14, ([(0, some 34), (1, some 34), (12, none), (13, none)], [])), (24, ([], [(0, some 34), (1, some 34), (12, none), (13, none)]))]⟩
def zkm (k : Nat) : Calls' D := ⟨[], [], [], [], []⟩
theorem zkn (k : Nat) : CallsOK X (zkm k) := .nil cod
def zko (x : (List IField) × (List IField) × Int × Int × Unit) (o : Oc (Unit) (Bool)) (Q : Ex → VSt D → Prop) (R : VR D → Prop) : Prop := ocP o (fun v0 => Q .normal (mkSt ⟨[], []⟩ [])) (fun w0 => R (.p (.c (.bool w0))))
def zkp (k : Nat) : Cut D := cutS ⟨[(0, .hole), (1, .hole), (12, .hole), (13, .hole)], []⟩ [.kl 34, .kl 34, .ki .i64, .ki .i64] (fun (x : (List IField) × (List IField) × Int × Int × Unit) => slices_Equal_IField_b0 k k x.1 x.2.1 x.2.2.1 x.2.2.2.1) zko
def zkq (k : Nat) : Cuts D := ⟨[], []⟩
theorem zkr (k : Nat) : CutFor X zkl k Go.Proofs.Tryz.f156.results.toList (zkp k) (sub (bodyOf Go.Proofs.Tryz.f156) [1, 1, 0, 1]) :=
  loopCut_s (X := X) (sg := [.kl 34, .kl 34, .ki .i64, .ki .i64]) (cu := zkq k) (cl := zkm k) (tys := [[0]]) (id := 0) (c := sub (bodyOf Go.Proofs.Tryz.f156) [1, 1, 0, 1, 0, 0]) (f := fun n => fun (x : (List IField) × (List IField) × Int × Int × Unit) => slices_Equal_IField_b0 k n x.1 x.2.1 x.2.2.1 x.2.2.2.1) (zkn k) (cutOK_of (l := []) (by kernel_rfl) trivial) (fun _ => rfl) (fun n x Q R h => by
    simp only [slices_Equal_IField_b0, optK_bind, optK_bif, optK_pure, optK_none, optK_oc, optK_guardT, optK_map] at h
    refine hold_of h ?_
    kernel_rfl) (by kernel_rfl)
def zks (k : Nat) : Cuts D := ⟨[(0, some (zkp k))], []⟩
def zkt : List Ar := [.c (.kl 34), .c (.kl 34)]
def zku (k : Nat) (x : TupA D zkt) : Option (Bool) := slices_Equal_IField k x.1 x.2.1
def zkv (r : Bool) : VR D := .p (.c (.bool r))
theorem zkw (k : Nat) : Does P X 156 zkt (zku k) zkv :=
  does_of (body := bodyOf Go.Proofs.Tryz.f156) (pl := zkl) (k := k) (cu := zks k) (tys := [[0]]) (zkn k) ctx mixed Go.Proofs.Tryz.func156 (by kernel_rfl) (by kernel_rfl) (cutOK_of (l := [(zkp k, sub (bodyOf Go.Proofs.Tryz.f156) [1, 1, 0, 1])]) (by kernel_rfl) ⟨zkr k, trivial⟩) fun x R h => by
    simp only [zku, slices_Equal_IField, optK_bind, optK_bif, optK_pure, optK_none, optK_oc, optK_guardT, optK_map] at h
    refine hold_of h ?_
    kernel_rfl
def zkx (k : Nat) : Entry D := entS zkt (zku k) zkv
theorem zky (k : Nat) : EntryOK X 156 (zkx k) := (zkw k).en rfl
def zkz : Plan := ⟨[(0, [(0, some 34), (1, some 34)]), (1, [(4, none)])],
  [],
  []⟩
def zl0 (k : Nat) : Calls' D := ⟨[(156, zkx k)], [], [], [], []⟩
theorem zl1 (k : Nat) : CallsOK X (zl0 k) := .cons (zky k) (.nil cod)
def zl2 (k : Nat) : Cuts D := ⟨[], []⟩
def zl3 : List Ar := [.c (.kl 34), .c (.kl 34)]
def zl4 (k : Nat) (x : TupA D zl3) : Option (Bool) := I_SameFields k x.1 x.2.1
def zl5 (r : Bool) : VR D := .p (.c (.bool r))
theorem zl6 (k : Nat) : Does P X 59 zl3 (zl4 k) zl5 :=
  does_of (body := bodyOf Go.Proofs.Tryz.f59) (pl := zkz) (k := k) (cu := zl2 k) (tys := [[0]]) (zl1 k) ctx mixed Go.Proofs.Tryz.func59 (by kernel_rfl) (by kernel_rfl) (cutOK_of (l := []) (by kernel_rfl) trivial) fun x R h => by
    simp only [zl4, I_SameFields, optK_bind, optK_bif, optK_pure, optK_none, optK_oc, optK_guardT, optK_map] at h
    refine hold_of h ?_
    kernel_rfl
def zl7 (k : Nat) : Entry D := entS zl3 (zl4 k) zl5
theorem zl8 (k : Nat) : EntryOK X 59 (zl7 k) := (zl6 k).en rfl
def zl9 : Plan := ⟨[(0, [(2, none), (3, none)]), (1, [(4, none)])],
  [],
  []⟩
def zla (k : Nat) : Calls' D := ⟨[(59, zl7 k)], [], [], [], []⟩
theorem zlb (k : Nat) : CallsOK X (zla k) := .cons (zl8 k) (.nil cod)
def zlc (k : Nat) : Cuts D := ⟨[], []⟩
def zld : List Ar := [.a [.ki .i64, .kl 34, .ks], .a [.ki .i64, .kl 34, .ks]]
def zle (k : Nat) (x : TupA D zld) : Option (Bool) := I_SameResponse k (⟨x.1.1, x.1.2.1, x.1.2.2.1⟩ : IResponse) (⟨x.2.1.1, x.2.1.2.1, x.2.1.2.2.1⟩ : IResponse)
def zlf (r : Bool) : VR D := .p (.c (.bool r))
theorem zlg (k : Nat) : Does P X 60 zld (zle k) zlf :=
  does_of (body := bodyOf Go.Proofs.Tryz.f60) (pl := zl9) (k := k) (cu := zlc k) (tys := [[0]]) (zlb k) ctx mixed Go.Proofs.Tryz.func60 (by kernel_rfl) (by kernel_rfl) (cutOK_of (l := []) (by kernel_rfl) trivial) fun x R h => by
    simp only [zle, I_SameResponse, optK_bind, optK_bif, optK_pure, optK_none, optK_oc, optK_guardT, optK_map] at h
    refine hold_of h ?_
    kernel_rfl
def zlh (k : Nat) : Entry D := entS zld (zle k) zlf
theorem zli (k : Nat) : EntryOK X 60 (zlh k) := (zlg k).en rfl
def zlj : Plan := ⟨[(0, [(0, some 5)]), (1, [(0, some 5), (10, none)]), (2, [(2, none)]), (3, [(0, some 5), (3, none)]), (4, [(0, some 5), (3, none), (4, none), (5, none)]), (5, [(3, none), (4, none), (5, none), (6, none)]), (6, [(3, none), (4, none), (5, none), (6, none), (7, none), (8, none)]), (7, [(3, none), (4, none), (5, none), (6, none), (7, none), (8, none), (36, none)]), (8, [(2, none)]), (9, [(2, none)])],
  [],
  [(10, ([], [(0, some 5)])), (36, ([], [(3, none), (4, none), (5, none), (6, none), (7, none), (8, none)]))]⟩
def zlk (k : Nat) : Calls' D := ⟨[(11, z8 k), (52, z3d k), (54, z95 k), (53, zat k), (55, zbt k), (56, zct k), (37, zed k), (57, zk9 k), (58, zkj k), (60, zlh k), (59, zl7 k)], [], [], [], []⟩
theorem zll (k : Nat) : CallsOK X (zlk k) := .cons (z9 k) (.cons (z3e k) (.cons (z96 k) (.cons (zau k) (.cons (zbu k) (.cons (zcu k) (.cons (zee k) (.cons (zka k) (.cons (zkk k) (.cons (zli k) (.cons (zl8 k) (.nil cod)))))))))))
def zlm (k : Nat) : Cuts D := ⟨[], []⟩
def L_FnMessages_ar : List Ar := [.c (.kl 5)]
def L_FnMessages_f (k : Nat) (x : TupA D L_FnMessages_ar) : Option (Bool) := L_FnMessages k x.1
def L_FnMessages_vr (r : Bool) : VR D := .p (.c (.bool r))
theorem L_FnMessages_ok (k : Nat) : Does P X 9 L_FnMessages_ar (L_FnMessages_f k) L_FnMessages_vr :=
  does_of (body := bodyOf Go.Proofs.Tryz.f9) (pl := zlj) (k := k) (cu := zlm k) (tys := [[0]]) (zll k) ctx mixed Go.Proofs.Tryz.func9 (by kernel_rfl) (by kernel_rfl) (cutOK_of (l := []) (by kernel_rfl) trivial) fun x R h => by
    simp only [L_FnMessages_f, L_FnMessages, optK_bind, optK_bif, optK_pure, optK_none, optK_oc, optK_guardT, optK_map] at h
    refine hold_of h ?_
    kernel_rfl
def zln (k : Nat) : Entry D := entS L_FnMessages_ar (L_FnMessages_f k) L_FnMessages_vr
theorem zlo (k : Nat) : EntryOK X 9 (zln k) := (L_FnMessages_ok k).en rfl

end
end Go.YtolmhhnhmbiofaaGreatDoor
