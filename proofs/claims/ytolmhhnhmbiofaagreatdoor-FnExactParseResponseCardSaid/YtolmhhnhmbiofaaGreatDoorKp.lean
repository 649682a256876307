/- The machine computes the functions. Nothing is claimed here. -/
import Derived.Test.YtolmhhnhmbiofaaGreatDoorKf
import Derived.Test.YtolmhhnhmbiofaaGreatDoorShelf
import Derived.Shelf.Strings.SlTrimAscii
set_option linter.unusedVariables false
set_option linter.unusedSimpArgs false
set_option maxRecDepth 100000
namespace Go.YtolmhhnhmbiofaaGreatDoor
open Go Go.RowKit Go.Pv
noncomputable section

def z0 : Plan := ⟨[(0, [(0, none), (1, none)]), (1, [(0, none), (1, none), (6, none)]), (2, [(0, none), (1, none), (6, none), (16, none)]), (3, [(0, none), (1, none), (6, none)]), (4, [(0, none), (1, none), (6, none), (29, none)]), (5, [(4, none), (5, none)]), (6, [(4, none), (5, none)])],
  [(0, []), (1, [(0, none), (1, none), (6, none)])],
  [(16, ([(0, none), (1, none), (6, none)], [])), (29, ([(0, none), (1, none), (6, none)], [(0, none), (1, none), (6, none)]))]⟩
def z1 (k : Nat) : Calls' D := ⟨[], [], [], [], []⟩
theorem z2 (k : Nat) : CallsOK X (z1 k) := .nil cod
def z3 (x : (List UInt8) × Int × Int × Unit) (o : Oc (Unit) ((List UInt8) × Int)) (Q : Ex → VSt D → Prop) (R : VR D → Prop) : Prop := ocP o (fun v0 => Q .normal (mkSt ⟨[], []⟩ [])) (fun w0 => R (.tup [.c (.str w0.1), .c (.int .i64 w0.2)]))
def z4 (k : Nat) : Cut D := cutS ⟨[(0, .hole), (1, .hole), (6, .hole)], []⟩ [.ks, .ki .i64, .ki .i64] (fun (x : (List UInt8) × Int × Int × Unit) => S_l5Line_b0 k k x.1 x.2.1 x.2.2.1) z3
def z5 (k : Nat) : Cuts D := ⟨[], []⟩
theorem z6 (k : Nat) : CutFor X z0 k Go.Proofs.Tryz.f196.results.toList (z4 k) (sub (bodyOf Go.Proofs.Tryz.f196) [1, 0, 1]) :=
  loopCut_s (X := X) (sg := [.ks, .ki .i64, .ki .i64]) (cu := z5 k) (cl := z1 k) (tys := [[0], [0]]) (id := 0) (c := sub (bodyOf Go.Proofs.Tryz.f196) [1, 0, 1, 0, 0]) (f := fun n => fun (x : (List UInt8) × Int × Int × Unit) => S_l5Line_b0 k n x.1 x.2.1 x.2.2.1) (z2 k) (cutOK_of (l := []) (by kernel_rfl) trivial) (fun _ => rfl) (fun n x Q R h => by
    simp only [S_l5Line_b0, optK_bind, optK_bif, optK_pure, optK_none, optK_oc, optK_guardT, optK_map] at h
    refine hold_of h ?_
    kernel_rfl) (by kernel_rfl)
def z7 (k : Nat) : Cuts D := ⟨[(0, some (z4 k))], []⟩
def z8 : List Ar := [.c (.ks), .c (.ki .i64)]
def z9 (k : Nat) (x : TupA D z8) : Option ((List UInt8) × Int) := S_l5Line k x.1 x.2.1
def za (r : (List UInt8) × Int) : VR D := .tup [.c (.str r.1), .c (.int .i64 r.2)]
theorem zb (k : Nat) : Does P X 196 z8 (z9 k) za :=
  does_of (body := bodyOf Go.Proofs.Tryz.f196) (pl := z0) (k := k) (cu := z7 k) (tys := [[0], [0]]) (z2 k) ctx mixed Go.Proofs.Tryz.func196 (by kernel_rfl) (by kernel_rfl) (cutOK_of (l := [(z4 k, sub (bodyOf Go.Proofs.Tryz.f196) [1, 0, 1])]) (by kernel_rfl) ⟨z6 k, trivial⟩) fun x R h => by
    simp only [z9, S_l5Line, optK_bind, optK_bif, optK_pure, optK_none, optK_oc, optK_guardT, optK_map] at h
    refine hold_of h ?_
    kernel_rfl
def zc (k : Nat) : Entry D := entS z8 (z9 k) za
theorem zd (k : Nat) : EntryOK X 196 (zc k) := (zb k).en rfl
def ze : Plan := ⟨[(0, [(0, none), (1, none), (2, none)]), (1, [(6, none)])],
  [],
  []⟩
def zf (k : Nat) : Calls' D := ⟨[], [], [], [], []⟩
theorem zg (k : Nat) : CallsOK X (zf k) := .nil cod
def zh (k : Nat) : Cuts D := ⟨[], []⟩
def zi : List Ar := [.c (.ki .i64), .c (.ki .i64), .c (.ki .i64)]
def zj (k : Nat) (x : TupA D zi) : Option (Bool) := S_l1In k x.1 x.2.1 x.2.2.1
def zk (r : Bool) : VR D := .p (.c (.bool r))
theorem zl (k : Nat) : Does P X 98 zi (zj k) zk :=
  does_of (body := bodyOf Go.Proofs.Tryz.f98) (pl := ze) (k := k) (cu := zh k) (tys := [[0]]) (zg k) ctx mixed Go.Proofs.Tryz.func98 (by kernel_rfl) (by kernel_rfl) (cutOK_of (l := []) (by kernel_rfl) trivial) fun x R h => by
    simp only [zj, S_l1In, optK_bind, optK_bif, optK_pure, optK_none, optK_oc, optK_guardT, optK_map] at h
    refine hold_of h ?_
    kernel_rfl
def zm (k : Nat) : Entry D := entS zi (zj k) zk
theorem zn (k : Nat) : EntryOK X 98 (zm k) := (zl k).en rfl
def zo : Plan := ⟨[(0, [(0, none)]), (1, [(3, some 5)]), (2, [(3, some 5), (4, none)]), (3, [(3, some 5), (4, none), (10, none)]), (4, [(3, some 5), (4, none)]), (5, [(3, some 5), (4, none), (18, none)]), (6, [(3, some 5), (4, none)]), (7, [(2, none)])],
  [(0, [(3, some 5)]), (1, [(3, some 5), (4, none)])],
  [(10, ([(3, some 5), (4, none)], [(3, some 5)])), (18, ([(3, some 5), (4, none)], [(3, some 5), (4, none)]))]⟩
def zp (k : Nat) : Calls' D := ⟨[(98, zm k)], [], [], [], []⟩
theorem zq (k : Nat) : CallsOK X (zp k) := .cons (zn k) (.nil cod)
def zr (x : Int × Bool × (List Int) × Unit) (o : (List Int)) (Q : Ex → VSt D → Prop) (R : VR D → Prop) : Prop := Q .normal (mkSt ⟨[(3, .ref 500003), (4, .hole)], [(500003, .row)]⟩ [.int .i64 x.1, .sl 5 o])
def zs (k : Nat) : Cut D := cutS ⟨[(3, .ref 500003), (4, .hole), (18, .hole)], [(500003, .row)]⟩ [.ki .i64, .kb, .kl 5] (fun (x : Int × Bool × (List Int) × Unit) => S_LowerText_c18 k x.1 x.2.1 x.2.2.1) zr
def zt (k : Nat) : Cuts D := ⟨[], []⟩
theorem zu (k : Nat) : CutFor X zo k Go.Proofs.Tryz.f270.results.toList (zs k) (sub (bodyOf Go.Proofs.Tryz.f270) [1, 1, 0, 1, 0, 0, 1, 0, 0, 1]) :=
  joinCut_s (X := X) (sg := [.ki .i64, .kb, .kl 5]) (cu := zt k) (cl := zp k) (tys := [[0]]) (zq k) (cutOK_of (l := []) (by kernel_rfl) trivial) fun x Q R h => by
    simp only [S_LowerText_c18, optK_bind, optK_bif, optK_pure, optK_none, optK_oc, optK_guardT, optK_map] at h
    refine hold_of h ?_
    kernel_rfl
def zv (x : Int × (List Int) × Unit) (o : (List Int)) (Q : Ex → VSt D → Prop) (R : VR D → Prop) : Prop := Q .normal (mkSt ⟨[(3, .ref 500003), (4, .hole)], [(500003, .row)]⟩ [.int .i64 x.1, .sl 5 o])
def zw (k : Nat) : Cut D := cutS ⟨[(3, .ref 500003), (4, .hole)], [(500003, .row)]⟩ [.ki .i64, .kl 5] (fun (x : Int × (List Int) × Unit) => S_LowerText_b1 k x.1 x.2.1) zv
def zx (k : Nat) : Cuts D := ⟨[], [(18, some (zs k))]⟩
theorem zy (k : Nat) : CutFor X zo k Go.Proofs.Tryz.f270.results.toList (zw k) (sub (bodyOf Go.Proofs.Tryz.f270) [1, 1, 0, 1, 0, 0, 1, 0]) :=
  joinCut_s (X := X) (sg := [.ki .i64, .kl 5]) (cu := zx k) (cl := zp k) (tys := [[0]]) (zq k) (cutOK_of (l := [(zs k, sub (bodyOf Go.Proofs.Tryz.f270) [1, 1, 0, 1, 0, 0, 1, 0, 0, 1])]) (by kernel_rfl) ⟨zu k, trivial⟩) fun x Q R h => by
    simp only [S_LowerText_b1, optK_bind, optK_bif, optK_pure, optK_none, optK_oc, optK_guardT, optK_map] at h
    refine hold_of h ?_
    kernel_rfl
def zz (x : Int × (List Int) × Unit) (o : (List Int)) (Q : Ex → VSt D → Prop) (R : VR D → Prop) : Prop := Q .normal (mkSt ⟨[(3, .ref 500003)], [(500003, .row)]⟩ [.sl 5 o])
def z10 (k : Nat) : Cut D := cutS ⟨[(3, .ref 500003), (4, .hole)], [(500003, .row)]⟩ [.ki .i64, .kl 5] (fun (x : Int × (List Int) × Unit) => S_LowerText_b0 k k x.1 x.2.1) zz
def z11 (k : Nat) : Cuts D := ⟨[(1, some (zw k))], []⟩
theorem z12 (k : Nat) : CutFor X zo k Go.Proofs.Tryz.f270.results.toList (z10 k) (sub (bodyOf Go.Proofs.Tryz.f270) [1, 1, 0, 1]) :=
  loopCut_s (X := X) (sg := [.ki .i64, .kl 5]) (cu := z11 k) (cl := zp k) (tys := [[0]]) (id := 0) (c := sub (bodyOf Go.Proofs.Tryz.f270) [1, 1, 0, 1, 0, 0]) (f := fun n => fun (x : Int × (List Int) × Unit) => S_LowerText_b0 k n x.1 x.2.1) (zq k) (cutOK_of (l := [(zw k, sub (bodyOf Go.Proofs.Tryz.f270) [1, 1, 0, 1, 0, 0, 1, 0])]) (by kernel_rfl) ⟨zy k, trivial⟩) (fun _ => rfl) (fun n x Q R h => by
    simp only [S_LowerText_b0, optK_bind, optK_bif, optK_pure, optK_none, optK_oc, optK_guardT, optK_map] at h
    refine hold_of h ?_
    kernel_rfl) (by kernel_rfl)
def z13 (k : Nat) : Cuts D := ⟨[(0, some (z10 k))], []⟩
def z14 : List Ar := [.c (.ks)]
def z15 (k : Nat) (x : TupA D z14) : Option ((List UInt8)) := S_LowerText k x.1
def z16 (r : (List UInt8)) : VR D := .p (.c (.str r))
theorem z17 (k : Nat) : Does P X 270 z14 (z15 k) z16 :=
  does_of (body := bodyOf Go.Proofs.Tryz.f270) (pl := zo) (k := k) (cu := z13 k) (tys := [[0]]) (zq k) ctx mixed Go.Proofs.Tryz.func270 (by kernel_rfl) (by kernel_rfl) (cutOK_of (l := [(z10 k, sub (bodyOf Go.Proofs.Tryz.f270) [1, 1, 0, 1])]) (by kernel_rfl) ⟨z12 k, trivial⟩) fun x R h => by
    simp only [z15, S_LowerText, optK_bind, optK_bif, optK_pure, optK_none, optK_oc, optK_guardT, optK_map] at h
    refine hold_of h ?_
    kernel_rfl
def z18 (k : Nat) : Entry D := entS z14 (z15 k) z16
theorem z19 (k : Nat) : EntryOK X 270 (z18 k) := (z17 k).en rfl
def z1a : Plan := ⟨[(0, [(0, none)]), (1, [(2, none)])],
  [],
  []⟩
def z1b (k : Nat) : Calls' D := ⟨[], [], [], [], []⟩
theorem z1c (k : Nat) : CallsOK X (z1b k) := .nil cod
def z1d (k : Nat) : Cuts D := ⟨[], []⟩
def z1e : List Ar := [.c (.ki .u8)]
def z1f (k : Nat) (x : TupA D z1e) : Option (Bool) := S_l4Blank k x.1
def z1g (r : Bool) : VR D := .p (.c (.bool r))
theorem z1h (k : Nat) : Does P X 324 z1e (z1f k) z1g :=
  does_of (body := bodyOf Go.Proofs.Tryz.f324) (pl := z1a) (k := k) (cu := z1d k) (tys := [[0]]) (z1c k) ctx mixed Go.Proofs.Tryz.func324 (by kernel_rfl) (by kernel_rfl) (cutOK_of (l := []) (by kernel_rfl) trivial) fun x R h => by
    simp only [z1f, S_l4Blank, optK_bind, optK_bif, optK_pure, optK_none, optK_oc, optK_guardT, optK_map] at h
    refine hold_of h ?_
    kernel_rfl
def z1i (k : Nat) : Entry D := entS z1e (z1f k) z1g
theorem z1j (k : Nat) : EntryOK X 324 (z1i k) := (z1h k).en rfl
def z1k : Plan := ⟨[(0, [(0, none)]), (1, [(0, none), (10, none)]), (2, [(0, none)]), (3, [(0, none), (23, none)]), (4, [(0, none)]), (5, [(2, none)])],
  [(0, [(0, none)]), (1, [(0, none)]), (2, [(0, none)]), (3, [(0, none)])],
  [(10, ([(0, none)], [(0, none)])), (23, ([(0, none)], [(0, none)]))]⟩
def z1l (k : Nat) : Calls' D := ⟨[(324, z1i k)], [], [], [], []⟩
theorem z1m (k : Nat) : CallsOK X (z1l k) := .cons (z1j k) (.nil cod)
def z1n (x : (List UInt8) × Unit) (o : (List UInt8)) (Q : Ex → VSt D → Prop) (R : VR D → Prop) : Prop := Q .normal (mkSt ⟨[(0, .hole)], []⟩ [.str o])
def z1o (k : Nat) : Cut D := cutS ⟨[(0, .hole)], []⟩ [.ks] (fun (x : (List UInt8) × Unit) => S_TrimText_b0 k k x.1) z1n
def z1p (k : Nat) : Cuts D := ⟨[], []⟩
theorem z1q (k : Nat) : CutFor X z1k k Go.Proofs.Tryz.f271.results.toList (z1o k) (sub (bodyOf Go.Proofs.Tryz.f271) [1, 0]) :=
  loopCut_s (X := X) (sg := [.ks]) (cu := z1p k) (cl := z1l k) (tys := [[0]]) (id := 0) (c := sub (bodyOf Go.Proofs.Tryz.f271) [1, 0, 0, 0]) (f := fun n => fun (x : (List UInt8) × Unit) => S_TrimText_b0 k n x.1) (z1m k) (cutOK_of (l := []) (by kernel_rfl) trivial) (fun _ => rfl) (fun n x Q R h => by
    simp only [S_TrimText_b0, optK_bind, optK_bif, optK_pure, optK_none, optK_oc, optK_guardT, optK_map] at h
    refine hold_of h ?_
    kernel_rfl) (by kernel_rfl)
def z1r (x : (List UInt8) × Unit) (o : (List UInt8)) (Q : Ex → VSt D → Prop) (R : VR D → Prop) : Prop := Q .normal (mkSt ⟨[(0, .hole)], []⟩ [.str o])
def z1s (k : Nat) : Cut D := cutS ⟨[(0, .hole)], []⟩ [.ks] (fun (x : (List UInt8) × Unit) => S_TrimText_b2 k k x.1) z1r
def z1t (k : Nat) : Cuts D := ⟨[], []⟩
theorem z1u (k : Nat) : CutFor X z1k k Go.Proofs.Tryz.f271.results.toList (z1s k) (sub (bodyOf Go.Proofs.Tryz.f271) [1, 1, 0]) :=
  loopCut_s (X := X) (sg := [.ks]) (cu := z1t k) (cl := z1l k) (tys := [[0]]) (id := 2) (c := sub (bodyOf Go.Proofs.Tryz.f271) [1, 1, 0, 0, 0]) (f := fun n => fun (x : (List UInt8) × Unit) => S_TrimText_b2 k n x.1) (z1m k) (cutOK_of (l := []) (by kernel_rfl) trivial) (fun _ => rfl) (fun n x Q R h => by
    simp only [S_TrimText_b2, optK_bind, optK_bif, optK_pure, optK_none, optK_oc, optK_guardT, optK_map] at h
    refine hold_of h ?_
    kernel_rfl) (by kernel_rfl)
def z1v (k : Nat) : Cuts D := ⟨[(0, some (z1o k)), (2, some (z1s k))], []⟩
def z1w : List Ar := [.c (.ks)]
def z1x (k : Nat) (x : TupA D z1w) : Option ((List UInt8)) := S_TrimText k x.1
def z1y (r : (List UInt8)) : VR D := .p (.c (.str r))
theorem z1z (k : Nat) : Does P X 271 z1w (z1x k) z1y :=
  does_of (body := bodyOf Go.Proofs.Tryz.f271) (pl := z1k) (k := k) (cu := z1v k) (tys := [[0]]) (z1m k) ctx mixed Go.Proofs.Tryz.func271 (by kernel_rfl) (by kernel_rfl) (cutOK_of (l := [(z1o k, sub (bodyOf Go.Proofs.Tryz.f271) [1, 0]), (z1s k, sub (bodyOf Go.Proofs.Tryz.f271) [1, 1, 0])]) (by kernel_rfl) ⟨z1q k, z1u k, trivial⟩) fun x R h => by
    simp only [z1x, S_TrimText, optK_bind, optK_bif, optK_pure, optK_none, optK_oc, optK_guardT, optK_map] at h
    refine hold_of h ?_
    kernel_rfl
def z20 (k : Nat) : Entry D := entS z1w (z1x k) z1y
theorem z21 (k : Nat) : EntryOK X 271 (z20 k) := (z1z k).en rfl
def z22 : Plan := ⟨[(0, [(0, none)]), (1, [(2, none)])],
  [],
  []⟩
def z23 (k : Nat) : Calls' D := ⟨[(98, zm k)], [], [], [], []⟩
theorem z24 (k : Nat) : CallsOK X (z23 k) := .cons (zn k) (.nil cod)
def z25 (k : Nat) : Cuts D := ⟨[], []⟩
def z26 : List Ar := [.c (.ki .u8)]
def z27 (k : Nat) (x : TupA D z26) : Option (Bool) := S_l4Letter k x.1
def z28 (r : Bool) : VR D := .p (.c (.bool r))
theorem z29 (k : Nat) : Does P X 220 z26 (z27 k) z28 :=
  does_of (body := bodyOf Go.Proofs.Tryz.f220) (pl := z22) (k := k) (cu := z25 k) (tys := [[0]]) (z24 k) ctx mixed Go.Proofs.Tryz.func220 (by kernel_rfl) (by kernel_rfl) (cutOK_of (l := []) (by kernel_rfl) trivial) fun x R h => by
    simp only [z27, S_l4Letter, optK_bind, optK_bif, optK_pure, optK_none, optK_oc, optK_guardT, optK_map] at h
    refine hold_of h ?_
    kernel_rfl
def z2a (k : Nat) : Entry D := entS z26 (z27 k) z28
theorem z2b (k : Nat) : EntryOK X 220 (z2a k) := (z29 k).en rfl
def z2c : Plan := ⟨[(0, [(0, none)]), (1, [(0, none), (3, none)]), (2, [(0, none), (3, none), (5, none)]), (3, [(0, none), (3, none)]), (4, [(0, none), (3, none), (11, none)]), (5, [(2, none)]), (6, [(2, none)])],
  [(0, [(0, none)]), (1, [(0, none), (3, none)])],
  [(5, ([(0, none), (3, none)], [(0, none)])), (11, ([], [(0, none), (3, none)]))]⟩
def z2d (k : Nat) : Calls' D := ⟨[(220, z2a k)], [], [], [], []⟩
theorem z2e (k : Nat) : CallsOK X (z2d k) := .cons (z2b k) (.nil cod)
def z2f (x : Int × Int × Unit) (o : Oc (Unit) (Bool)) (Q : Ex → VSt D → Prop) (R : VR D → Prop) : Prop := ocP o (fun v0 => Q .normal (mkSt ⟨[(0, .hole)], []⟩ [.int .u8 x.1])) (fun w0 => R (.p (.c (.bool w0))))
def z2g (k : Nat) : Cut D := cutS ⟨[(0, .hole), (3, .hole)], []⟩ [.ki .u8, .ki .i64] (fun (x : Int × Int × Unit) => S_l4Token_b0 k k x.1 x.2.1) z2f
def z2h (k : Nat) : Cuts D := ⟨[], []⟩
theorem z2i (k : Nat) : CutFor X z2c k Go.Proofs.Tryz.f224.results.toList (z2g k) (sub (bodyOf Go.Proofs.Tryz.f224) [1, 0, 1]) :=
  loopCut_s (X := X) (sg := [.ki .u8, .ki .i64]) (cu := z2h k) (cl := z2d k) (tys := [[0]]) (id := 0) (c := sub (bodyOf Go.Proofs.Tryz.f224) [1, 0, 1, 0, 0]) (f := fun n => fun (x : Int × Int × Unit) => S_l4Token_b0 k n x.1 x.2.1) (z2e k) (cutOK_of (l := []) (by kernel_rfl) trivial) (fun _ => rfl) (fun n x Q R h => by
    simp only [S_l4Token_b0, optK_bind, optK_bif, optK_pure, optK_none, optK_oc, optK_guardT, optK_map] at h
    refine hold_of h ?_
    kernel_rfl) (by kernel_rfl)
def z2j (k : Nat) : Cuts D := ⟨[(0, some (z2g k))], []⟩
def z2k : List Ar := [.c (.ki .u8)]
def z2l (k : Nat) (x : TupA D z2k) : Option (Bool) := S_l4Token k x.1
def z2m (r : Bool) : VR D := .p (.c (.bool r))
theorem z2n (k : Nat) : Does P X 224 z2k (z2l k) z2m :=
  does_of (body := bodyOf Go.Proofs.Tryz.f224) (pl := z2c) (k := k) (cu := z2j k) (tys := [[0]]) (z2e k) ctx mixed Go.Proofs.Tryz.func224 (by kernel_rfl) (by kernel_rfl) (cutOK_of (l := [(z2g k, sub (bodyOf Go.Proofs.Tryz.f224) [1, 0, 1])]) (by kernel_rfl) ⟨z2i k, trivial⟩) fun x R h => by
    simp only [z2l, S_l4Token, optK_bind, optK_bif, optK_pure, optK_none, optK_oc, optK_guardT, optK_map] at h
    refine hold_of h ?_
    kernel_rfl
def z2o (k : Nat) : Entry D := entS z2k (z2l k) z2m
theorem z2p (k : Nat) : EntryOK X 224 (z2o k) := (z2n k).en rfl
def z2q : Plan := ⟨[(0, [(0, none)]), (1, [(0, none), (3, none)]), (2, [(0, none), (3, none), (7, none)]), (3, [(0, none), (3, none)]), (4, [(0, none), (3, none), (14, none)]), (5, [(2, none)]), (6, [(2, none)])],
  [(0, [(0, none)]), (1, [(0, none), (3, none)])],
  [(7, ([(0, none), (3, none)], [(0, none)])), (14, ([], [(0, none), (3, none)]))]⟩
def z2r (k : Nat) : Calls' D := ⟨[(224, z2o k), (98, zm k)], [], [], [], []⟩
theorem z2s (k : Nat) : CallsOK X (z2r k) := .cons (z2p k) (.cons (zn k) (.nil cod))
def z2t (x : (List UInt8) × Int × Unit) (o : Oc (Unit) (Bool)) (Q : Ex → VSt D → Prop) (R : VR D → Prop) : Prop := ocP o (fun v0 => Q .normal (mkSt ⟨[(0, .hole)], []⟩ [.str x.1])) (fun w0 => R (.p (.c (.bool w0))))
def z2u (k : Nat) : Cut D := cutS ⟨[(0, .hole), (3, .hole)], []⟩ [.ks, .ki .i64] (fun (x : (List UInt8) × Int × Unit) => S_IsToken_b0 k k x.1 x.2.1) z2t
def z2v (k : Nat) : Cuts D := ⟨[], []⟩
theorem z2w (k : Nat) : CutFor X z2q k Go.Proofs.Tryz.f154.results.toList (z2u k) (sub (bodyOf Go.Proofs.Tryz.f154) [1, 0, 1]) :=
  loopCut_s (X := X) (sg := [.ks, .ki .i64]) (cu := z2v k) (cl := z2r k) (tys := [[0]]) (id := 0) (c := sub (bodyOf Go.Proofs.Tryz.f154) [1, 0, 1, 0, 0]) (f := fun n => fun (x : (List UInt8) × Int × Unit) => S_IsToken_b0 k n x.1 x.2.1) (z2s k) (cutOK_of (l := []) (by kernel_rfl) trivial) (fun _ => rfl) (fun n x Q R h => by
    simp only [S_IsToken_b0, optK_bind, optK_bif, optK_pure, optK_none, optK_oc, optK_guardT, optK_map] at h
    refine hold_of h ?_
    kernel_rfl) (by kernel_rfl)
def z2x (k : Nat) : Cuts D := ⟨[(0, some (z2u k))], []⟩
def z2y : List Ar := [.c (.ks)]
def z2z (k : Nat) (x : TupA D z2y) : Option (Bool) := S_IsToken k x.1
def z30 (r : Bool) : VR D := .p (.c (.bool r))
theorem z31 (k : Nat) : Does P X 154 z2y (z2z k) z30 :=
  does_of (body := bodyOf Go.Proofs.Tryz.f154) (pl := z2q) (k := k) (cu := z2x k) (tys := [[0]]) (z2s k) ctx mixed Go.Proofs.Tryz.func154 (by kernel_rfl) (by kernel_rfl) (cutOK_of (l := [(z2u k, sub (bodyOf Go.Proofs.Tryz.f154) [1, 0, 1])]) (by kernel_rfl) ⟨z2w k, trivial⟩) fun x R h => by
    simp only [z2z, S_IsToken, optK_bind, optK_bif, optK_pure, optK_none, optK_oc, optK_guardT, optK_map] at h
    refine hold_of h ?_
    kernel_rfl
def z32 (k : Nat) : Entry D := entS z2y (z2z k) z30
theorem z33 (k : Nat) : EntryOK X 154 (z32 k) := (z31 k).en rfl
def z34 : Plan := ⟨[(0, [(0, none)]), (1, [(2, none)])],
  [],
  []⟩
def z35 (k : Nat) : Calls' D := ⟨[(154, z32 k), (270, z18 k)], [], [], [], []⟩
theorem z36 (k : Nat) : CallsOK X (z35 k) := .cons (z33 k) (.cons (z19 k) (.nil cod))
def z37 (k : Nat) : Cuts D := ⟨[], []⟩
def z38 : List Ar := [.c (.ks)]
def z39 (k : Nat) (x : TupA D z38) : Option (Bool) := S_l5Name k x.1
def z3a (r : Bool) : VR D := .p (.c (.bool r))
theorem z3b (k : Nat) : Does P X 245 z38 (z39 k) z3a :=
  does_of (body := bodyOf Go.Proofs.Tryz.f245) (pl := z34) (k := k) (cu := z37 k) (tys := [[0]]) (z36 k) ctx mixed Go.Proofs.Tryz.func245 (by kernel_rfl) (by kernel_rfl) (cutOK_of (l := []) (by kernel_rfl) trivial) fun x R h => by
    simp only [z39, S_l5Name, optK_bind, optK_bif, optK_pure, optK_none, optK_oc, optK_guardT, optK_map] at h
    refine hold_of h ?_
    kernel_rfl
def z3c (k : Nat) : Entry D := entS z38 (z39 k) z3a
theorem z3d (k : Nat) : EntryOK X 245 (z3c k) := (z3b k).en rfl
def z3e : Plan := ⟨[(0, [(0, none)]), (1, [(0, none), (3, none)]), (2, [(0, none), (3, none), (7, none)]), (3, [(0, none), (3, none)]), (4, [(0, none), (3, none), (21, none)]), (5, [(2, none)]), (6, [(2, none)])],
  [(0, [(0, none)]), (1, [(0, none), (3, none)])],
  [(7, ([(0, none), (3, none)], [(0, none)])), (21, ([], [(0, none), (3, none)]))]⟩
def z3f (k : Nat) : Calls' D := ⟨[(98, zm k), (271, z20 k)], [], [], [], []⟩
theorem z3g (k : Nat) : CallsOK X (z3f k) := .cons (zn k) (.cons (z21 k) (.nil cod))
def z3h (x : (List UInt8) × Int × Unit) (o : Oc (Unit) (Bool)) (Q : Ex → VSt D → Prop) (R : VR D → Prop) : Prop := ocP o (fun v0 => Q .normal (mkSt ⟨[(0, .hole)], []⟩ [.str x.1])) (fun w0 => R (.p (.c (.bool w0))))
def z3i (k : Nat) : Cut D := cutS ⟨[(0, .hole), (3, .hole)], []⟩ [.ks, .ki .i64] (fun (x : (List UInt8) × Int × Unit) => S_l5Value_b0 k k x.1 x.2.1) z3h
def z3j (k : Nat) : Cuts D := ⟨[], []⟩
theorem z3k (k : Nat) : CutFor X z3e k Go.Proofs.Tryz.f247.results.toList (z3i k) (sub (bodyOf Go.Proofs.Tryz.f247) [1, 0, 1]) :=
  loopCut_s (X := X) (sg := [.ks, .ki .i64]) (cu := z3j k) (cl := z3f k) (tys := [[0]]) (id := 0) (c := sub (bodyOf Go.Proofs.Tryz.f247) [1, 0, 1, 0, 0]) (f := fun n => fun (x : (List UInt8) × Int × Unit) => S_l5Value_b0 k n x.1 x.2.1) (z3g k) (cutOK_of (l := []) (by kernel_rfl) trivial) (fun _ => rfl) (fun n x Q R h => by
    simp only [S_l5Value_b0, optK_bind, optK_bif, optK_pure, optK_none, optK_oc, optK_guardT, optK_map] at h
    refine hold_of h ?_
    kernel_rfl) (by kernel_rfl)
def z3l (k : Nat) : Cuts D := ⟨[(0, some (z3i k))], []⟩
def z3m : List Ar := [.c (.ks)]
def z3n (k : Nat) (x : TupA D z3m) : Option (Bool) := S_l5Value k x.1
def z3o (r : Bool) : VR D := .p (.c (.bool r))
theorem z3p (k : Nat) : Does P X 247 z3m (z3n k) z3o :=
  does_of (body := bodyOf Go.Proofs.Tryz.f247) (pl := z3e) (k := k) (cu := z3l k) (tys := [[0]]) (z3g k) ctx mixed Go.Proofs.Tryz.func247 (by kernel_rfl) (by kernel_rfl) (cutOK_of (l := [(z3i k, sub (bodyOf Go.Proofs.Tryz.f247) [1, 0, 1])]) (by kernel_rfl) ⟨z3k k, trivial⟩) fun x R h => by
    simp only [z3n, S_l5Value, optK_bind, optK_bif, optK_pure, optK_none, optK_oc, optK_guardT, optK_map] at h
    refine hold_of h ?_
    kernel_rfl
def z3q (k : Nat) : Entry D := entS z3m (z3n k) z3o
theorem z3r (k : Nat) : EntryOK X 247 (z3q k) := (z3p k).en rfl
def z3s : Plan := ⟨[(0, [(0, some 34)]), (1, [(0, some 34), (3, none)]), (2, [(0, some 34), (3, none), (7, none)]), (3, [(0, some 34), (3, none)]), (4, [(0, some 34), (3, none), (25, none)]), (5, [(2, none)]), (6, [(2, none)])],
  [(0, [(0, some 34)]), (1, [(0, some 34), (3, none)])],
  [(7, ([(0, some 34), (3, none)], [(0, some 34)])), (25, ([], [(0, some 34), (3, none)]))]⟩
def z3t (k : Nat) : Calls' D := ⟨[(245, z3c k), (247, z3q k)], [], [], [], []⟩
theorem z3u (k : Nat) : CallsOK X (z3t k) := .cons (z3d k) (.cons (z3r k) (.nil cod))
def z3v (x : (List IField) × Int × Unit) (o : Oc (Unit) (Bool)) (Q : Ex → VSt D → Prop) (R : VR D → Prop) : Prop := ocP o (fun v0 => Q .normal (mkSt ⟨[(0, .hole)], []⟩ [.sl 34 x.1])) (fun w0 => R (.p (.c (.bool w0))))
def z3w (k : Nat) : Cut D := cutS ⟨[(0, .hole), (3, .hole)], []⟩ [.kl 34, .ki .i64] (fun (x : (List IField) × Int × Unit) => S_AreFields_b0 k k x.1 x.2.1) z3v
def z3x (k : Nat) : Cuts D := ⟨[], []⟩
theorem z3y (k : Nat) : CutFor X z3s k Go.Proofs.Tryz.f225.results.toList (z3w k) (sub (bodyOf Go.Proofs.Tryz.f225) [1, 0, 1]) :=
  loopCut_s (X := X) (sg := [.kl 34, .ki .i64]) (cu := z3x k) (cl := z3t k) (tys := [[0]]) (id := 0) (c := sub (bodyOf Go.Proofs.Tryz.f225) [1, 0, 1, 0, 0]) (f := fun n => fun (x : (List IField) × Int × Unit) => S_AreFields_b0 k n x.1 x.2.1) (z3u k) (cutOK_of (l := []) (by kernel_rfl) trivial) (fun _ => rfl) (fun n x Q R h => by
    simp only [S_AreFields_b0, optK_bind, optK_bif, optK_pure, optK_none, optK_oc, optK_guardT, optK_map] at h
    refine hold_of h ?_
    kernel_rfl) (by kernel_rfl)
def z3z (k : Nat) : Cuts D := ⟨[(0, some (z3w k))], []⟩
def z40 : List Ar := [.c (.kl 34)]
def z41 (k : Nat) (x : TupA D z40) : Option (Bool) := S_AreFields k x.1
def z42 (r : Bool) : VR D := .p (.c (.bool r))
theorem z43 (k : Nat) : Does P X 225 z40 (z41 k) z42 :=
  does_of (body := bodyOf Go.Proofs.Tryz.f225) (pl := z3s) (k := k) (cu := z3z k) (tys := [[0]]) (z3u k) ctx mixed Go.Proofs.Tryz.func225 (by kernel_rfl) (by kernel_rfl) (cutOK_of (l := [(z3w k, sub (bodyOf Go.Proofs.Tryz.f225) [1, 0, 1])]) (by kernel_rfl) ⟨z3y k, trivial⟩) fun x R h => by
    simp only [z41, S_AreFields, optK_bind, optK_bif, optK_pure, optK_none, optK_oc, optK_guardT, optK_map] at h
    refine hold_of h ?_
    kernel_rfl
def z44 (k : Nat) : Entry D := entS z40 (z41 k) z42
theorem z45 (k : Nat) : EntryOK X 225 (z44 k) := (z43 k).en rfl
def z46 : Plan := ⟨[(0, [(0, none)]), (1, [(0, none), (4, some 34)]), (2, [(0, none), (4, some 34), (5, none)]), (3, [(0, none), (4, some 34), (5, none), (13, none)]), (4, [(0, none), (4, some 34), (6, none), (7, none)]), (5, [(0, none), (4, some 34), (6, none), (7, none), (8, none)]), (6, [(0, none), (4, some 34), (6, none), (7, none), (8, none), (29, none)]), (7, [(0, none), (4, some 34), (6, none), (7, none), (8, none)]), (8, [(0, none), (4, some 34), (6, none), (7, none), (8, none), (39, none)]), (9, [(2, some 34), (3, none)]), (10, [(0, none), (4, some 34), (7, none)]), (11, [(0, none), (4, some 34), (5, none)]), (12, [(4, some 34), (57, none)]), (13, [(2, some 34), (3, none)]), (14, [(2, some 34), (3, none)])],
  [(0, [(4, some 34)]), (1, [(0, none), (4, some 34), (5, none)]), (2, [(0, none), (4, some 34), (6, none), (7, none), (8, none)]), (3, [(0, none), (4, some 34), (6, none), (7, none), (8, none)])],
  [(13, ([(0, none), (4, some 34), (5, none)], [(4, some 34)])), (29, ([(0, none), (4, some 34), (6, none), (7, none), (8, none)], [(0, none), (4, some 34), (6, none), (7, none), (8, none)])), (39, ([], [(0, none), (4, some 34), (6, none), (7, none), (8, none)])), (57, ([], [(4, some 34)]))]⟩
def z47 (k : Nat) : Calls' D := ⟨[(196, zc k), (270, z18 k), (271, z20 k), (225, z44 k)], [], [], [], []⟩
theorem z48 (k : Nat) : CallsOK X (z47 k) := .cons (zd k) (.cons (z19 k) (.cons (z21 k) (.cons (z45 k) (.nil cod))))
def z49 (x : (List UInt8) × (List UInt8) × Int × Int × (List IField) × Unit) (o : Int) (Q : Ex → VSt D → Prop) (R : VR D → Prop) : Prop := Q .normal (mkSt ⟨[(0, .hole), (4, .ref 500004), (6, .hole), (7, .hole), (8, .hole)], [(500004, .row)]⟩ [.str x.1, .str x.2.1, .int .i64 x.2.2.1, .int .i64 o, .sl 34 x.2.2.2.2.1])
def z4a (k : Nat) : Cut D := cutS ⟨[(0, .hole), (4, .ref 500004), (6, .hole), (7, .hole), (8, .hole)], [(500004, .row)]⟩ [.ks, .ks, .ki .i64, .ki .i64, .kl 34] (fun (x : (List UInt8) × (List UInt8) × Int × Int × (List IField) × Unit) => S_ParseFields_b2 k k x.1 x.2.1 x.2.2.1 x.2.2.2.1 x.2.2.2.2.1) z49
def z4b (k : Nat) : Cuts D := ⟨[], []⟩
theorem z4c (k : Nat) : CutFor X z46 k Go.Proofs.Tryz.f197.results.toList (z4a k) (sub (bodyOf Go.Proofs.Tryz.f197) [1, 1, 1, 0, 0, 0, 1, 0, 1, 1, 0]) :=
  loopCut_s (X := X) (sg := [.ks, .ks, .ki .i64, .ki .i64, .kl 34]) (cu := z4b k) (cl := z47 k) (tys := [[34], [0]]) (id := 2) (c := sub (bodyOf Go.Proofs.Tryz.f197) [1, 1, 1, 0, 0, 0, 1, 0, 1, 1, 0, 0, 0]) (f := fun n => fun (x : (List UInt8) × (List UInt8) × Int × Int × (List IField) × Unit) => S_ParseFields_b2 k n x.1 x.2.1 x.2.2.1 x.2.2.2.1 x.2.2.2.2.1) (z48 k) (cutOK_of (l := []) (by kernel_rfl) trivial) (fun _ => rfl) (fun n x Q R h => by
    simp only [S_ParseFields_b2, optK_bind, optK_bif, optK_pure, optK_none, optK_oc, optK_guardT, optK_map] at h
    refine hold_of h ?_
    kernel_rfl) (by kernel_rfl)
def z4d (x : (List UInt8) × Int × (List IField) × Unit) (o : Oc ((List IField)) ((List IField) × Bool)) (Q : Ex → VSt D → Prop) (R : VR D → Prop) : Prop := ocP o (fun v0 => Q .normal (mkSt ⟨[(4, .ref 500004)], [(500004, .row)]⟩ [.sl 34 v0])) (fun w0 => R (.tup [.c (.sl 34 w0.1), .c (.bool w0.2)]))
def z4e (k : Nat) : Cut D := cutS ⟨[(0, .hole), (4, .ref 500004), (5, .hole)], [(500004, .row)]⟩ [.ks, .ki .i64, .kl 34] (fun (x : (List UInt8) × Int × (List IField) × Unit) => S_ParseFields_b0 k k x.1 x.2.1 x.2.2.1) z4d
def z4f (k : Nat) : Cuts D := ⟨[(2, some (z4a k))], []⟩
theorem z4g (k : Nat) : CutFor X z46 k Go.Proofs.Tryz.f197.results.toList (z4e k) (sub (bodyOf Go.Proofs.Tryz.f197) [1, 1, 1, 0]) :=
  loopCut_s (X := X) (sg := [.ks, .ki .i64, .kl 34]) (cu := z4f k) (cl := z47 k) (tys := [[34], [0]]) (id := 0) (c := sub (bodyOf Go.Proofs.Tryz.f197) [1, 1, 1, 0, 0, 0]) (f := fun n => fun (x : (List UInt8) × Int × (List IField) × Unit) => S_ParseFields_b0 k n x.1 x.2.1 x.2.2.1) (z48 k) (cutOK_of (l := [(z4a k, sub (bodyOf Go.Proofs.Tryz.f197) [1, 1, 1, 0, 0, 0, 1, 0, 1, 1, 0])]) (by kernel_rfl) ⟨z4c k, trivial⟩) (fun _ => rfl) (fun n x Q R h => by
    simp only [S_ParseFields_b0, optK_bind, optK_bif, optK_pure, optK_none, optK_oc, optK_guardT, optK_map] at h
    refine hold_of h ?_
    kernel_rfl) (by kernel_rfl)
def z4h (k : Nat) : Cuts D := ⟨[(0, some (z4e k))], []⟩
def z4i : List Ar := [.c (.ks)]
def z4j (k : Nat) (x : TupA D z4i) : Option ((List IField) × Bool) := S_ParseFields k x.1
def z4k (r : (List IField) × Bool) : VR D := .tup [.c (.sl 34 r.1), .c (.bool r.2)]
theorem z4l (k : Nat) : Does P X 197 z4i (z4j k) z4k :=
  does_of (body := bodyOf Go.Proofs.Tryz.f197) (pl := z46) (k := k) (cu := z4h k) (tys := [[34], [0]]) (z48 k) ctx mixed Go.Proofs.Tryz.func197 (by kernel_rfl) (by kernel_rfl) (cutOK_of (l := [(z4e k, sub (bodyOf Go.Proofs.Tryz.f197) [1, 1, 1, 0])]) (by kernel_rfl) ⟨z4g k, trivial⟩) fun x R h => by
    simp only [z4j, S_ParseFields, optK_bind, optK_bif, optK_pure, optK_none, optK_oc, optK_guardT, optK_map] at h
    refine hold_of h ?_
    kernel_rfl
def z4m (k : Nat) : Entry D := entS z4i (z4j k) z4k
theorem z4n (k : Nat) : EntryOK X 197 (z4m k) := (z4l k).en rfl
def z4o : Plan := ⟨[(0, [(0, none)]), (1, [(0, none), (5, none), (6, none)]), (2, [(0, none), (5, none), (6, none), (7, none)]), (3, [(0, none), (5, none), (6, none), (7, none), (19, none)]), (4, [(0, none), (5, none), (6, none), (7, none), (8, none), (9, none)]), (5, [(0, none), (5, none), (6, none), (7, none), (9, none), (31, none)]), (6, [(5, none), (9, none), (10, some 34), (11, none)]), (7, [(5, none), (9, none), (10, some 34), (41, none)]), (8, [(2, none), (3, some 34), (4, none)]), (9, [(2, none), (3, some 34), (4, none)]), (10, [(0, none), (5, none), (6, none), (7, none)]), (11, [(2, none), (3, some 34), (4, none)])],
  [(0, []), (1, [(0, none), (5, none), (6, none), (7, none)])],
  [(19, ([(0, none), (5, none), (6, none), (7, none)], [])), (31, ([(0, none), (5, none), (6, none), (7, none), (9, none)], [(0, none), (5, none), (7, none), (9, none)])), (41, ([], [(5, none), (9, none), (10, some 34)]))]⟩
def z4p (k : Nat) : Calls' D := ⟨[(196, zc k), (197, z4m k)], [], [], [], []⟩
theorem z4q (k : Nat) : CallsOK X (z4p k) := .cons (zd k) (.cons (z4n k) (.nil cod))
def z4r (x : (List UInt8) × (List UInt8) × Int × Int × Unit) (o : Oc (Unit) ((List UInt8) × (List IField) × Int)) (Q : Ex → VSt D → Prop) (R : VR D → Prop) : Prop := ocP o (fun v0 => Q .normal (mkSt ⟨[], []⟩ [])) (fun w0 => R (.tup [.c (.str w0.1), .c (.sl 34 w0.2.1), .c (.int .i64 w0.2.2)]))
def z4s (k : Nat) : Cut D := cutS ⟨[(0, .hole), (5, .hole), (6, .hole), (7, .hole)], []⟩ [.ks, .ks, .ki .i64, .ki .i64] (fun (x : (List UInt8) × (List UInt8) × Int × Int × Unit) => S_l11Head_b0 k k x.1 x.2.1 x.2.2.1 x.2.2.2.1) z4r
def z4t (k : Nat) : Cuts D := ⟨[], []⟩
theorem z4u (k : Nat) : CutFor X z4o k Go.Proofs.Tryz.f123.results.toList (z4s k) (sub (bodyOf Go.Proofs.Tryz.f123) [1, 1, 1, 0]) :=
  loopCut_s (X := X) (sg := [.ks, .ks, .ki .i64, .ki .i64]) (cu := z4t k) (cl := z4p k) (tys := [[0], [34], [0]]) (id := 0) (c := sub (bodyOf Go.Proofs.Tryz.f123) [1, 1, 1, 0, 0, 0]) (f := fun n => fun (x : (List UInt8) × (List UInt8) × Int × Int × Unit) => S_l11Head_b0 k n x.1 x.2.1 x.2.2.1 x.2.2.2.1) (z4q k) (cutOK_of (l := []) (by kernel_rfl) trivial) (fun _ => rfl) (fun n x Q R h => by
    simp only [S_l11Head_b0, optK_bind, optK_bif, optK_pure, optK_none, optK_oc, optK_guardT, optK_map] at h
    refine hold_of h ?_
    kernel_rfl) (by kernel_rfl)
def z4v (k : Nat) : Cuts D := ⟨[(0, some (z4s k))], []⟩
def z4w : List Ar := [.c (.ks)]
def z4x (k : Nat) (x : TupA D z4w) : Option ((List UInt8) × (List IField) × Int) := S_l11Head k x.1
def z4y (r : (List UInt8) × (List IField) × Int) : VR D := .tup [.c (.str r.1), .c (.sl 34 r.2.1), .c (.int .i64 r.2.2)]
theorem z4z (k : Nat) : Does P X 123 z4w (z4x k) z4y :=
  does_of (body := bodyOf Go.Proofs.Tryz.f123) (pl := z4o) (k := k) (cu := z4v k) (tys := [[0], [34], [0]]) (z4q k) ctx mixed Go.Proofs.Tryz.func123 (by kernel_rfl) (by kernel_rfl) (cutOK_of (l := [(z4s k, sub (bodyOf Go.Proofs.Tryz.f123) [1, 1, 1, 0])]) (by kernel_rfl) ⟨z4u k, trivial⟩) fun x R h => by
    simp only [z4x, S_l11Head, optK_bind, optK_bif, optK_pure, optK_none, optK_oc, optK_guardT, optK_map] at h
    refine hold_of h ?_
    kernel_rfl
def z50 (k : Nat) : Entry D := entS z4w (z4x k) z4y
theorem z51 (k : Nat) : EntryOK X 123 (z50 k) := (z4z k).en rfl
def z52 : Plan := ⟨[(0, [(0, none)]), (1, [(0, none), (7, none)]), (2, [(2, none)]), (3, [(0, none), (3, none)]), (4, [(0, none), (3, none), (4, none)]), (5, [(0, none), (3, none), (4, none), (10, none)]), (6, [(0, none), (3, none), (4, none)]), (7, [(0, none), (3, none), (4, none), (5, none)]), (8, [(0, none), (3, none), (4, none), (5, none), (16, none)]), (9, [(0, none), (3, none), (4, none), (5, none)]), (10, [(0, none), (3, none), (4, none)]), (11, [(3, none), (27, none)]), (12, [(2, none)]), (13, [(2, none)])],
  [(0, [(0, none), (3, none)]), (1, [(0, none), (3, none), (4, none)])],
  [(7, ([], [(0, none)])), (10, ([(0, none), (3, none), (4, none)], [(0, none), (3, none)])), (16, ([(0, none), (3, none), (4, none), (5, none)], [(0, none), (3, none), (4, none), (5, none)])), (27, ([(3, none)], [(3, none)]))]⟩
def z53 (k : Nat) : Calls' D := ⟨[], [], [], [], []⟩
theorem z54 (k : Nat) : CallsOK X (z53 k) := .nil cod
def z55 (x : Int × (List UInt8) × Int × Int × Bool × Unit) (o : Int) (Q : Ex → VSt D → Prop) (R : VR D → Prop) : Prop := Q .normal (mkSt ⟨[(0, .hole), (3, .hole), (4, .hole), (5, .hole)], []⟩ [.int .i64 x.1, .str x.2.1, .int .i64 x.2.2.1, .int .i64 o])
def z56 (k : Nat) : Cut D := cutS ⟨[(0, .hole), (3, .hole), (4, .hole), (5, .hole), (16, .hole)], []⟩ [.ki .i64, .ks, .ki .i64, .ki .i64, .kb] (fun (x : Int × (List UInt8) × Int × Int × Bool × Unit) => S_FormatInt_c16 k x.1 x.2.1 x.2.2.1 x.2.2.2.1 x.2.2.2.2.1) z55
def z57 (k : Nat) : Cuts D := ⟨[], []⟩
theorem z58 (k : Nat) : CutFor X z52 k Go.Proofs.Tryz.f181.results.toList (z56 k) (sub (bodyOf Go.Proofs.Tryz.f181) [1, 1, 1, 0, 1, 0, 0, 1, 0, 0, 1, 0, 1]) :=
  joinCut_s (X := X) (sg := [.ki .i64, .ks, .ki .i64, .ki .i64, .kb]) (cu := z57 k) (cl := z53 k) (tys := [[0]]) (z54 k) (cutOK_of (l := []) (by kernel_rfl) trivial) fun x Q R h => by
    simp only [S_FormatInt_c16, optK_bind, optK_bif, optK_pure, optK_none, optK_oc, optK_guardT, optK_map] at h
    refine hold_of h ?_
    kernel_rfl
def z59 (x : Int × (List UInt8) × Int × Unit) (o : (List UInt8)) (Q : Ex → VSt D → Prop) (R : VR D → Prop) : Prop := Q .normal (mkSt ⟨[(0, .hole), (3, .hole), (4, .hole)], []⟩ [.int .i64 x.1, .str o, .int .i64 x.2.2.1])
def z5a (k : Nat) : Cut D := cutS ⟨[(0, .hole), (3, .hole), (4, .hole)], []⟩ [.ki .i64, .ks, .ki .i64] (fun (x : Int × (List UInt8) × Int × Unit) => S_FormatInt_b1 k x.1 x.2.1 x.2.2.1) z59
def z5b (k : Nat) : Cuts D := ⟨[], [(16, some (z56 k))]⟩
theorem z5c (k : Nat) : CutFor X z52 k Go.Proofs.Tryz.f181.results.toList (z5a k) (sub (bodyOf Go.Proofs.Tryz.f181) [1, 1, 1, 0, 1, 0, 0, 1, 0]) :=
  joinCut_s (X := X) (sg := [.ki .i64, .ks, .ki .i64]) (cu := z5b k) (cl := z53 k) (tys := [[0]]) (z54 k) (cutOK_of (l := [(z56 k, sub (bodyOf Go.Proofs.Tryz.f181) [1, 1, 1, 0, 1, 0, 0, 1, 0, 0, 1, 0, 1])]) (by kernel_rfl) ⟨z58 k, trivial⟩) fun x Q R h => by
    simp only [S_FormatInt_b1, optK_bind, optK_bif, optK_pure, optK_none, optK_oc, optK_guardT, optK_map] at h
    refine hold_of h ?_
    kernel_rfl
def z5d (x : Int × (List UInt8) × Int × Unit) (o : (List UInt8)) (Q : Ex → VSt D → Prop) (R : VR D → Prop) : Prop := Q .normal (mkSt ⟨[(0, .hole), (3, .hole)], []⟩ [.int .i64 x.1, .str o])
def z5e (k : Nat) : Cut D := cutS ⟨[(0, .hole), (3, .hole), (4, .hole)], []⟩ [.ki .i64, .ks, .ki .i64] (fun (x : Int × (List UInt8) × Int × Unit) => S_FormatInt_b0 k k x.1 x.2.1 x.2.2.1) z5d
def z5f (k : Nat) : Cuts D := ⟨[(1, some (z5a k))], []⟩
theorem z5g (k : Nat) : CutFor X z52 k Go.Proofs.Tryz.f181.results.toList (z5e k) (sub (bodyOf Go.Proofs.Tryz.f181) [1, 1, 1, 0, 1]) :=
  loopCut_s (X := X) (sg := [.ki .i64, .ks, .ki .i64]) (cu := z5f k) (cl := z53 k) (tys := [[0]]) (id := 0) (c := sub (bodyOf Go.Proofs.Tryz.f181) [1, 1, 1, 0, 1, 0, 0]) (f := fun n => fun (x : Int × (List UInt8) × Int × Unit) => S_FormatInt_b0 k n x.1 x.2.1 x.2.2.1) (z54 k) (cutOK_of (l := [(z5a k, sub (bodyOf Go.Proofs.Tryz.f181) [1, 1, 1, 0, 1, 0, 0, 1, 0])]) (by kernel_rfl) ⟨z5c k, trivial⟩) (fun _ => rfl) (fun n x Q R h => by
    simp only [S_FormatInt_b0, optK_bind, optK_bif, optK_pure, optK_none, optK_oc, optK_guardT, optK_map] at h
    refine hold_of h ?_
    kernel_rfl) (by kernel_rfl)
def z5h (k : Nat) : Cuts D := ⟨[(0, some (z5e k))], []⟩
def z5i : List Ar := [.c (.ki .i64)]
def z5j (k : Nat) (x : TupA D z5i) : Option ((List UInt8)) := S_FormatInt k x.1
def z5k (r : (List UInt8)) : VR D := .p (.c (.str r))
theorem z5l (k : Nat) : Does P X 181 z5i (z5j k) z5k :=
  does_of (body := bodyOf Go.Proofs.Tryz.f181) (pl := z52) (k := k) (cu := z5h k) (tys := [[0]]) (z54 k) ctx mixed Go.Proofs.Tryz.func181 (by kernel_rfl) (by kernel_rfl) (cutOK_of (l := [(z5e k, sub (bodyOf Go.Proofs.Tryz.f181) [1, 1, 1, 0, 1])]) (by kernel_rfl) ⟨z5g k, trivial⟩) fun x R h => by
    simp only [z5j, S_FormatInt, optK_bind, optK_bif, optK_pure, optK_none, optK_oc, optK_guardT, optK_map] at h
    refine hold_of h ?_
    kernel_rfl
def z5m (k : Nat) : Entry D := entS z5i (z5j k) z5k
theorem z5n (k : Nat) : EntryOK X 181 (z5m k) := (z5l k).en rfl
def z5o : Plan := ⟨[(0, [(0, none)]), (1, [(0, none), (9, none)]), (2, [(2, none), (3, none)]), (3, [(0, none), (4, none)]), (4, [(0, none), (4, none), (5, none)]), (5, [(0, none), (4, none), (5, none), (13, none)]), (6, [(0, none), (4, none), (5, none)]), (7, [(0, none), (4, none), (5, none), (21, none)]), (8, [(2, none), (3, none)]), (9, [(0, none), (4, none), (5, none)]), (10, [(4, none), (37, none)]), (11, [(2, none), (3, none)]), (12, [(2, none), (3, none)])],
  [(0, [(0, none), (4, none)]), (1, [(0, none), (4, none), (5, none)])],
  [(9, ([], [(0, none)])), (13, ([(0, none), (4, none), (5, none)], [(0, none), (4, none)])), (21, ([], [(0, none), (4, none), (5, none)])), (37, ([], [(4, none)]))]⟩
def z5p (k : Nat) : Calls' D := ⟨[(98, zm k), (181, z5m k)], [], [], [], []⟩
theorem z5q (k : Nat) : CallsOK X (z5p k) := .cons (zn k) (.cons (z5n k) (.nil cod))
def z5r (x : (List UInt8) × Int × Int × Unit) (o : Oc (Int) (Int × Bool)) (Q : Ex → VSt D → Prop) (R : VR D → Prop) : Prop := ocP o (fun v0 => Q .normal (mkSt ⟨[(0, .hole), (4, .hole)], []⟩ [.str x.1, .int .i64 v0])) (fun w0 => R (.tup [.c (.int .i64 w0.1), .c (.bool w0.2)]))
def z5s (k : Nat) : Cut D := cutS ⟨[(0, .hole), (4, .hole), (5, .hole)], []⟩ [.ks, .ki .i64, .ki .i64] (fun (x : (List UInt8) × Int × Int × Unit) => S_ParseInt_b0 k k x.1 x.2.1 x.2.2.1) z5r
def z5t (k : Nat) : Cuts D := ⟨[], []⟩
theorem z5u (k : Nat) : CutFor X z5o k Go.Proofs.Tryz.f124.results.toList (z5s k) (sub (bodyOf Go.Proofs.Tryz.f124) [1, 1, 1, 0, 1]) :=
  loopCut_s (X := X) (sg := [.ks, .ki .i64, .ki .i64]) (cu := z5t k) (cl := z5p k) (tys := [[0], [0]]) (id := 0) (c := sub (bodyOf Go.Proofs.Tryz.f124) [1, 1, 1, 0, 1, 0, 0]) (f := fun n => fun (x : (List UInt8) × Int × Int × Unit) => S_ParseInt_b0 k n x.1 x.2.1 x.2.2.1) (z5q k) (cutOK_of (l := []) (by kernel_rfl) trivial) (fun _ => rfl) (fun n x Q R h => by
    simp only [S_ParseInt_b0, optK_bind, optK_bif, optK_pure, optK_none, optK_oc, optK_guardT, optK_map] at h
    refine hold_of h ?_
    kernel_rfl) (by kernel_rfl)
def z5v (k : Nat) : Cuts D := ⟨[(0, some (z5s k))], []⟩
def z5w : List Ar := [.c (.ks)]
def z5x (k : Nat) (x : TupA D z5w) : Option (Int × Bool) := S_ParseInt k x.1
def z5y (r : Int × Bool) : VR D := .tup [.c (.int .i64 r.1), .c (.bool r.2)]
theorem z5z (k : Nat) : Does P X 124 z5w (z5x k) z5y :=
  does_of (body := bodyOf Go.Proofs.Tryz.f124) (pl := z5o) (k := k) (cu := z5v k) (tys := [[0], [0]]) (z5q k) ctx mixed Go.Proofs.Tryz.func124 (by kernel_rfl) (by kernel_rfl) (cutOK_of (l := [(z5s k, sub (bodyOf Go.Proofs.Tryz.f124) [1, 1, 1, 0, 1])]) (by kernel_rfl) ⟨z5u k, trivial⟩) fun x R h => by
    simp only [z5x, S_ParseInt, optK_bind, optK_bif, optK_pure, optK_none, optK_oc, optK_guardT, optK_map] at h
    refine hold_of h ?_
    kernel_rfl
def z60 (k : Nat) : Entry D := entS z5w (z5x k) z5y
theorem z61 (k : Nat) : EntryOK X 124 (z60 k) := (z5z k).en rfl
def z62 : Plan := ⟨[(0, [(0, some 34)]), (1, [(2, some 34)])],
  [],
  []⟩
def z63 (k : Nat) : Calls' D := ⟨[], [], [], [], []⟩
theorem z64 (k : Nat) : CallsOK X (z63 k) := .nil cod
def z65 (k : Nat) : Cuts D := ⟨[], []⟩
def z66 : List Ar := [.c (.kl 34)]
def z67 (k : Nat) (x : TupA D z66) : Option ((List IField)) := S_l5Copy k x.1
def z68 (r : (List IField)) : VR D := .p (.c (.sl 34 r))
theorem z69 (k : Nat) : Does P X 125 z66 (z67 k) z68 :=
  does_of (body := bodyOf Go.Proofs.Tryz.f125) (pl := z62) (k := k) (cu := z65 k) (tys := [[34]]) (z64 k) ctx mixed Go.Proofs.Tryz.func125 (by kernel_rfl) (by kernel_rfl) (cutOK_of (l := []) (by kernel_rfl) trivial) fun x R h => by
    simp only [z67, S_l5Copy, optK_bind, optK_bif, optK_pure, optK_none, optK_oc, optK_guardT, optK_map] at h
    refine hold_of h ?_
    kernel_rfl
def z6a (k : Nat) : Entry D := entS z66 (z67 k) z68
theorem z6b (k : Nat) : EntryOK X 125 (z6a k) := (z69 k).en rfl
def z6c : Plan := ⟨[(0, [(0, some 9)]), (1, [(0, some 9), (3, none)]), (2, [(0, some 9), (3, none), (4, none)]), (3, [(0, some 9), (3, none), (4, none), (8, none)]), (4, [(0, some 9), (3, none), (4, none)]), (5, [(0, some 9), (3, none), (4, none), (12, none)]), (6, [(0, some 9), (3, none), (4, none)]), (7, [(0, some 9), (3, none), (4, none)]), (8, [(2, none)])],
  [(0, [(3, none)]), (1, [(0, some 9), (3, none), (4, none)])],
  [(8, ([(0, some 9), (3, none), (4, none)], [(3, none)])), (12, ([(0, some 9), (3, none), (4, none)], [(0, some 9), (3, none), (4, none)]))]⟩
def z6d (k : Nat) : Calls' D := ⟨[], [], [], [], []⟩
theorem z6e (k : Nat) : CallsOK X (z6d k) := .nil cod
def z6f (x : (List (List UInt8)) × (List UInt8) × Int × Bool × Unit) (o : (List UInt8)) (Q : Ex → VSt D → Prop) (R : VR D → Prop) : Prop := Q .normal (mkSt ⟨[(0, .hole), (3, .hole), (4, .hole)], []⟩ [.sl 9 x.1, .str o, .int .i64 x.2.2.1])
def z6g (k : Nat) : Cut D := cutS ⟨[(0, .hole), (3, .hole), (4, .hole), (12, .hole)], []⟩ [.kl 9, .ks, .ki .i64, .kb] (fun (x : (List (List UInt8)) × (List UInt8) × Int × Bool × Unit) => S_JoinList_c12 k x.1 x.2.1 x.2.2.1 x.2.2.2.1) z6f
def z6h (k : Nat) : Cuts D := ⟨[], []⟩
theorem z6i (k : Nat) : CutFor X z6c k Go.Proofs.Tryz.f107.results.toList (z6g k) (sub (bodyOf Go.Proofs.Tryz.f107) [1, 1, 0, 1, 0, 0, 1, 0, 0, 0, 1]) :=
  joinCut_s (X := X) (sg := [.kl 9, .ks, .ki .i64, .kb]) (cu := z6h k) (cl := z6d k) (tys := [[0]]) (z6e k) (cutOK_of (l := []) (by kernel_rfl) trivial) fun x Q R h => by
    simp only [S_JoinList_c12, optK_bind, optK_bif, optK_pure, optK_none, optK_oc, optK_guardT, optK_map] at h
    refine hold_of h ?_
    kernel_rfl
def z6j (x : (List (List UInt8)) × (List UInt8) × Int × Unit) (o : (List UInt8)) (Q : Ex → VSt D → Prop) (R : VR D → Prop) : Prop := Q .normal (mkSt ⟨[(0, .hole), (3, .hole), (4, .hole)], []⟩ [.sl 9 x.1, .str o, .int .i64 x.2.2.1])
def z6k (k : Nat) : Cut D := cutS ⟨[(0, .hole), (3, .hole), (4, .hole)], []⟩ [.kl 9, .ks, .ki .i64] (fun (x : (List (List UInt8)) × (List UInt8) × Int × Unit) => S_JoinList_b1 k x.1 x.2.1 x.2.2.1) z6j
def z6l (k : Nat) : Cuts D := ⟨[], [(12, some (z6g k))]⟩
theorem z6m (k : Nat) : CutFor X z6c k Go.Proofs.Tryz.f107.results.toList (z6k k) (sub (bodyOf Go.Proofs.Tryz.f107) [1, 1, 0, 1, 0, 0, 1, 0]) :=
  joinCut_s (X := X) (sg := [.kl 9, .ks, .ki .i64]) (cu := z6l k) (cl := z6d k) (tys := [[0]]) (z6e k) (cutOK_of (l := [(z6g k, sub (bodyOf Go.Proofs.Tryz.f107) [1, 1, 0, 1, 0, 0, 1, 0, 0, 0, 1])]) (by kernel_rfl) ⟨z6i k, trivial⟩) fun x Q R h => by
    simp only [S_JoinList_b1, optK_bind, optK_bif, optK_pure, optK_none, optK_oc, optK_guardT, optK_map] at h
    refine hold_of h ?_
    kernel_rfl
def z6n (x : (List (List UInt8)) × (List UInt8) × Int × Unit) (o : (List UInt8)) (Q : Ex → VSt D → Prop) (R : VR D → Prop) : Prop := Q .normal (mkSt ⟨[(3, .hole)], []⟩ [.str o])
def z6o (k : Nat) : Cut D := cutS ⟨[(0, .hole), (3, .hole), (4, .hole)], []⟩ [.kl 9, .ks, .ki .i64] (fun (x : (List (List UInt8)) × (List UInt8) × Int × Unit) => S_JoinList_b0 k k x.1 x.2.1 x.2.2.1) z6n
def z6p (k : Nat) : Cuts D := ⟨[(1, some (z6k k))], []⟩
theorem z6q (k : Nat) : CutFor X z6c k Go.Proofs.Tryz.f107.results.toList (z6o k) (sub (bodyOf Go.Proofs.Tryz.f107) [1, 1, 0, 1]) :=
  loopCut_s (X := X) (sg := [.kl 9, .ks, .ki .i64]) (cu := z6p k) (cl := z6d k) (tys := [[0]]) (id := 0) (c := sub (bodyOf Go.Proofs.Tryz.f107) [1, 1, 0, 1, 0, 0]) (f := fun n => fun (x : (List (List UInt8)) × (List UInt8) × Int × Unit) => S_JoinList_b0 k n x.1 x.2.1 x.2.2.1) (z6e k) (cutOK_of (l := [(z6k k, sub (bodyOf Go.Proofs.Tryz.f107) [1, 1, 0, 1, 0, 0, 1, 0])]) (by kernel_rfl) ⟨z6m k, trivial⟩) (fun _ => rfl) (fun n x Q R h => by
    simp only [S_JoinList_b0, optK_bind, optK_bif, optK_pure, optK_none, optK_oc, optK_guardT, optK_map] at h
    refine hold_of h ?_
    kernel_rfl) (by kernel_rfl)
def z6r (k : Nat) : Cuts D := ⟨[(0, some (z6o k))], []⟩
def z6s : List Ar := [.c (.kl 9)]
def z6t (k : Nat) (x : TupA D z6s) : Option ((List UInt8)) := S_JoinList k x.1
def z6u (r : (List UInt8)) : VR D := .p (.c (.str r))
theorem z6v (k : Nat) : Does P X 107 z6s (z6t k) z6u :=
  does_of (body := bodyOf Go.Proofs.Tryz.f107) (pl := z6c) (k := k) (cu := z6r k) (tys := [[0]]) (z6e k) ctx mixed Go.Proofs.Tryz.func107 (by kernel_rfl) (by kernel_rfl) (cutOK_of (l := [(z6o k, sub (bodyOf Go.Proofs.Tryz.f107) [1, 1, 0, 1])]) (by kernel_rfl) ⟨z6q k, trivial⟩) fun x R h => by
    simp only [z6t, S_JoinList, optK_bind, optK_bif, optK_pure, optK_none, optK_oc, optK_guardT, optK_map] at h
    refine hold_of h ?_
    kernel_rfl
def z6w (k : Nat) : Entry D := entS z6s (z6t k) z6u
theorem z6x (k : Nat) : EntryOK X 107 (z6w k) := (z6v k).en rfl
def z6y : Plan := ⟨[(0, [(0, some 34), (1, none)]), (1, [(0, some 34), (1, none), (6, some 9)]), (2, [(0, some 34), (1, none), (6, some 9), (7, none)]), (3, [(0, some 34), (1, none), (6, some 9), (7, none), (12, none)]), (4, [(0, some 34), (1, none), (6, some 9), (7, none)]), (5, [(0, some 34), (1, none), (6, some 9), (7, none), (21, none)]), (6, [(0, some 34), (1, none), (6, some 9), (7, none)]), (7, [(4, none), (5, none)])],
  [(0, [(6, some 9)]), (1, [(0, some 34), (1, none), (6, some 9), (7, none)])],
  [(12, ([(0, some 34), (1, none), (6, some 9), (7, none)], [(6, some 9)])), (21, ([(0, some 34), (1, none), (6, some 9), (7, none)], [(0, some 34), (1, none), (6, some 9), (7, none)]))]⟩
def z6z (k : Nat) : Calls' D := ⟨[(107, z6w k)], [], [], [], []⟩
theorem z70 (k : Nat) : CallsOK X (z6z k) := .cons (z6x k) (.nil cod)
def z71 (x : (List IField) × (List UInt8) × Int × Bool × (List (List UInt8)) × Unit) (o : (List (List UInt8))) (Q : Ex → VSt D → Prop) (R : VR D → Prop) : Prop := Q .normal (mkSt ⟨[(0, .hole), (1, .hole), (6, .ref 500006), (7, .hole)], [(500006, .row)]⟩ [.sl 34 x.1, .str x.2.1, .int .i64 x.2.2.1, .sl 9 o])
def z72 (k : Nat) : Cut D := cutS ⟨[(0, .hole), (1, .hole), (6, .ref 500006), (7, .hole), (21, .hole)], [(500006, .row)]⟩ [.kl 34, .ks, .ki .i64, .kb, .kl 9] (fun (x : (List IField) × (List UInt8) × Int × Bool × (List (List UInt8)) × Unit) => S_GetField_c21 k x.1 x.2.1 x.2.2.1 x.2.2.2.1 x.2.2.2.2.1) z71
def z73 (k : Nat) : Cuts D := ⟨[], []⟩
theorem z74 (k : Nat) : CutFor X z6y k Go.Proofs.Tryz.f153.results.toList (z72 k) (sub (bodyOf Go.Proofs.Tryz.f153) [1, 1, 0, 1, 0, 0, 1, 0, 0, 1]) :=
  joinCut_s (X := X) (sg := [.kl 34, .ks, .ki .i64, .kb, .kl 9]) (cu := z73 k) (cl := z6z k) (tys := [[0], [0]]) (z70 k) (cutOK_of (l := []) (by kernel_rfl) trivial) fun x Q R h => by
    simp only [S_GetField_c21, optK_bind, optK_bif, optK_pure, optK_none, optK_oc, optK_guardT, optK_map] at h
    refine hold_of h ?_
    kernel_rfl
def z75 (x : (List IField) × (List UInt8) × Int × (List (List UInt8)) × Unit) (o : (List (List UInt8))) (Q : Ex → VSt D → Prop) (R : VR D → Prop) : Prop := Q .normal (mkSt ⟨[(0, .hole), (1, .hole), (6, .ref 500006), (7, .hole)], [(500006, .row)]⟩ [.sl 34 x.1, .str x.2.1, .int .i64 x.2.2.1, .sl 9 o])
def z76 (k : Nat) : Cut D := cutS ⟨[(0, .hole), (1, .hole), (6, .ref 500006), (7, .hole)], [(500006, .row)]⟩ [.kl 34, .ks, .ki .i64, .kl 9] (fun (x : (List IField) × (List UInt8) × Int × (List (List UInt8)) × Unit) => S_GetField_b1 k x.1 x.2.1 x.2.2.1 x.2.2.2.1) z75
def z77 (k : Nat) : Cuts D := ⟨[], [(21, some (z72 k))]⟩
theorem z78 (k : Nat) : CutFor X z6y k Go.Proofs.Tryz.f153.results.toList (z76 k) (sub (bodyOf Go.Proofs.Tryz.f153) [1, 1, 0, 1, 0, 0, 1, 0]) :=
  joinCut_s (X := X) (sg := [.kl 34, .ks, .ki .i64, .kl 9]) (cu := z77 k) (cl := z6z k) (tys := [[0], [0]]) (z70 k) (cutOK_of (l := [(z72 k, sub (bodyOf Go.Proofs.Tryz.f153) [1, 1, 0, 1, 0, 0, 1, 0, 0, 1])]) (by kernel_rfl) ⟨z74 k, trivial⟩) fun x Q R h => by
    simp only [S_GetField_b1, optK_bind, optK_bif, optK_pure, optK_none, optK_oc, optK_guardT, optK_map] at h
    refine hold_of h ?_
    kernel_rfl
def z79 (x : (List IField) × (List UInt8) × Int × (List (List UInt8)) × Unit) (o : (List (List UInt8))) (Q : Ex → VSt D → Prop) (R : VR D → Prop) : Prop := Q .normal (mkSt ⟨[(6, .ref 500006)], [(500006, .row)]⟩ [.sl 9 o])
def z7a (k : Nat) : Cut D := cutS ⟨[(0, .hole), (1, .hole), (6, .ref 500006), (7, .hole)], [(500006, .row)]⟩ [.kl 34, .ks, .ki .i64, .kl 9] (fun (x : (List IField) × (List UInt8) × Int × (List (List UInt8)) × Unit) => S_GetField_b0 k k x.1 x.2.1 x.2.2.1 x.2.2.2.1) z79
def z7b (k : Nat) : Cuts D := ⟨[(1, some (z76 k))], []⟩
theorem z7c (k : Nat) : CutFor X z6y k Go.Proofs.Tryz.f153.results.toList (z7a k) (sub (bodyOf Go.Proofs.Tryz.f153) [1, 1, 0, 1]) :=
  loopCut_s (X := X) (sg := [.kl 34, .ks, .ki .i64, .kl 9]) (cu := z7b k) (cl := z6z k) (tys := [[0], [0]]) (id := 0) (c := sub (bodyOf Go.Proofs.Tryz.f153) [1, 1, 0, 1, 0, 0]) (f := fun n => fun (x : (List IField) × (List UInt8) × Int × (List (List UInt8)) × Unit) => S_GetField_b0 k n x.1 x.2.1 x.2.2.1 x.2.2.2.1) (z70 k) (cutOK_of (l := [(z76 k, sub (bodyOf Go.Proofs.Tryz.f153) [1, 1, 0, 1, 0, 0, 1, 0])]) (by kernel_rfl) ⟨z78 k, trivial⟩) (fun _ => rfl) (fun n x Q R h => by
    simp only [S_GetField_b0, optK_bind, optK_bif, optK_pure, optK_none, optK_oc, optK_guardT, optK_map] at h
    refine hold_of h ?_
    kernel_rfl) (by kernel_rfl)
def z7d (k : Nat) : Cuts D := ⟨[(0, some (z7a k))], []⟩
def z7e : List Ar := [.c (.kl 34), .c (.ks)]
def z7f (k : Nat) (x : TupA D z7e) : Option ((List UInt8) × Bool) := S_GetField k x.1 x.2.1
def z7g (r : (List UInt8) × Bool) : VR D := .tup [.c (.str r.1), .c (.bool r.2)]
theorem z7h (k : Nat) : Does P X 153 z7e (z7f k) z7g :=
  does_of (body := bodyOf Go.Proofs.Tryz.f153) (pl := z6y) (k := k) (cu := z7d k) (tys := [[0], [0]]) (z70 k) ctx mixed Go.Proofs.Tryz.func153 (by kernel_rfl) (by kernel_rfl) (cutOK_of (l := [(z7a k, sub (bodyOf Go.Proofs.Tryz.f153) [1, 1, 0, 1])]) (by kernel_rfl) ⟨z7c k, trivial⟩) fun x R h => by
    simp only [z7f, S_GetField, optK_bind, optK_bif, optK_pure, optK_none, optK_oc, optK_guardT, optK_map] at h
    refine hold_of h ?_
    kernel_rfl
def z7i (k : Nat) : Entry D := entS z7e (z7f k) z7g
theorem z7j (k : Nat) : EntryOK X 153 (z7i k) := (z7h k).en rfl
def z7k : Plan := ⟨[(0, [(0, some 34)]), (1, [(0, some 34), (4, none)]), (2, [(2, none)])],
  [],
  []⟩
def z7l (k : Nat) : Calls' D := ⟨[(153, z7i k), (225, z44 k)], [], [], [], []⟩
theorem z7m (k : Nat) : CallsOK X (z7l k) := .cons (z7j k) (.cons (z45 k) (.nil cod))
def z7n (k : Nat) : Cuts D := ⟨[], []⟩
def z7o : List Ar := [.c (.kl 34)]
def z7p (k : Nat) (x : TupA D z7o) : Option (Bool) := S_l11Fields k x.1
def z7q (r : Bool) : VR D := .p (.c (.bool r))
theorem z7r (k : Nat) : Does P X 155 z7o (z7p k) z7q :=
  does_of (body := bodyOf Go.Proofs.Tryz.f155) (pl := z7k) (k := k) (cu := z7n k) (tys := [[0]]) (z7m k) ctx mixed Go.Proofs.Tryz.func155 (by kernel_rfl) (by kernel_rfl) (cutOK_of (l := []) (by kernel_rfl) trivial) fun x R h => by
    simp only [z7p, S_l11Fields, optK_bind, optK_bif, optK_pure, optK_none, optK_oc, optK_guardT, optK_map] at h
    refine hold_of h ?_
    kernel_rfl
def z7s (k : Nat) : Entry D := entS z7o (z7p k) z7q
theorem z7t (k : Nat) : EntryOK X 155 (z7s k) := (z7r k).en rfl
def z7u : Plan := ⟨[(0, [(1, none)]), (1, [(2, none)])],
  [],
  []⟩
def z7v (k : Nat) : Calls' D := ⟨[(98, zm k), (155, z7s k)], [], [], [], []⟩
theorem z7w (k : Nat) : CallsOK X (z7v k) := .cons (zn k) (.cons (z7t k) (.nil cod))
def z7x (k : Nat) : Cuts D := ⟨[], []⟩
def z7y : List Ar := [.a [.ki .i64, .kl 34, .ks]]
def z7z (k : Nat) (x : TupA D z7y) : Option (Bool) := S_IsResponse k (⟨x.1.1, x.1.2.1, x.1.2.2.1⟩ : IResponse)
def z80 (r : Bool) : VR D := .p (.c (.bool r))
theorem z81 (k : Nat) : Does P X 58 z7y (z7z k) z80 :=
  does_of (body := bodyOf Go.Proofs.Tryz.f58) (pl := z7u) (k := k) (cu := z7x k) (tys := [[0]]) (z7w k) ctx mixed Go.Proofs.Tryz.func58 (by kernel_rfl) (by kernel_rfl) (cutOK_of (l := []) (by kernel_rfl) trivial) fun x R h => by
    simp only [z7z, S_IsResponse, optK_bind, optK_bif, optK_pure, optK_none, optK_oc, optK_guardT, optK_map] at h
    refine hold_of h ?_
    kernel_rfl
def z82 (k : Nat) : Entry D := entS z7y (z7z k) z80
theorem z83 (k : Nat) : EntryOK X 58 (z82 k) := (z81 k).en rfl
def z84 : Plan := ⟨[(0, [(0, none), (2, none)]), (1, [(0, none), (2, none), (4, none)]), (2, [(0, none), (2, none), (4, none), (5, none), (6, some 34), (7, none)]), (3, [(0, none), (2, none), (4, none), (5, none), (6, some 34), (7, none), (46, none)]), (4, [(2, none), (3, none)]), (5, [(0, none), (2, none), (4, none), (6, some 34), (7, none), (8, none)]), (6, [(0, none), (2, none), (4, none), (6, some 34), (7, none), (8, none), (10, none), (11, none)]), (7, [(2, none), (4, none), (10, none), (11, none), (12, none)]), (8, [(2, none), (4, none), (12, none), (89, none)]), (9, [(2, none), (3, none)]), (10, [(2, none), (3, none)])],
  [],
  [(46, ([(2, none), (4, none)], [(0, none), (2, none), (4, none), (5, none), (6, some 34), (7, none)])), (89, ([(2, none), (4, none)], [(2, none), (12, none)]))]⟩
def z85 (k : Nat) : Calls' D := ⟨[(123, z50 k), (124, z60 k), (125, z6a k), (58, z82 k)], [], [], [], []⟩
theorem z86 (k : Nat) : CallsOK X (z85 k) := .cons (z51 k) (.cons (z61 k) (.cons (z6b k) (.cons (z83 k) (.nil cod))))
def z87 (k : Nat) : Cuts D := ⟨[], []⟩
def z88 : List Ar := [.c (.ks)]
def z89 (k : Nat) (x : TupA D z88) : Option (IResponse × Bool) := S_ParseResponse k x.1
def z8a (r : IResponse × Bool) : VR D := .tup [.agg [.int .i64 r.1.Code, .sl 34 r.1.Fields, .str r.1.Body], .c (.bool r.2)]
theorem z8b (k : Nat) : Does P X 36 z88 (z89 k) z8a :=
  does_of (body := bodyOf Go.Proofs.Tryz.f36) (pl := z84) (k := k) (cu := z87 k) (tys := [[0, 34, 0], [0]]) (z86 k) ctx mixed Go.Proofs.Tryz.func36 (by kernel_rfl) (by kernel_rfl) (cutOK_of (l := []) (by kernel_rfl) trivial) fun x R h => by
    simp only [z89, S_ParseResponse, optK_bind, optK_bif, optK_pure, optK_none, optK_oc, optK_guardT, optK_map] at h
    refine hold_of h ?_
    kernel_rfl
def z8c (k : Nat) : Entry D := entS z88 (z89 k) z8a
theorem z8d (k : Nat) : EntryOK X 36 (z8c k) := (z8b k).en rfl
def z8e : List Ar := [.c (.ks), .c (.ks)]
def z8f (k : Nat) (x : TupA D z8e) : Option ((List UInt8) × (List UInt8) × Bool) := strings_Cut k x.1 x.2.1
def z8g (r : (List UInt8) × (List UInt8) × Bool) : VR D := .tup [.c (.str r.1), .c (.str r.2.1), .c (.bool r.2.2)]
theorem z8h (k : Nat) : Does P X 126 z8e (z8f k) z8g := does_cut ⟨Go.Proofs.Tryz.f126, Go.Proofs.Tryz.func126, by kernel_rfl, by kernel_rfl⟩ (fun s sep w hg hs => let ⟨m, hm⟩ := hg.1; Go.Proofs.Tryz.strings_Cut s sep m w hs hm)
def z8i (k : Nat) : Entry D := entS z8e (z8f k) z8g
theorem z8j (k : Nat) : EntryOK X 126 (z8i k) := (z8h k).en rfl
def z8k : Plan := ⟨[(0, [(0, none), (1, none)]), (1, [(4, none)])],
  [],
  []⟩
def z8l (k : Nat) : Calls' D := ⟨[], [], [], [], []⟩
theorem z8m (k : Nat) : CallsOK X (z8l k) := .nil cod
def z8n (k : Nat) : Cuts D := ⟨[], []⟩
def z8o : List Ar := [.c (.ks), .c (.ks)]
def z8p (k : Nat) (x : TupA D z8o) : Option (Bool) := internal_stringslite_HasPrefix k x.1 x.2.1
def z8q (r : Bool) : VR D := .p (.c (.bool r))
theorem z8r (k : Nat) : Does P X 211 z8o (z8p k) z8q :=
  does_of (body := bodyOf Go.Proofs.Tryz.f211) (pl := z8k) (k := k) (cu := z8n k) (tys := [[0]]) (z8m k) ctx mixed Go.Proofs.Tryz.func211 (by kernel_rfl) (by kernel_rfl) (cutOK_of (l := []) (by kernel_rfl) trivial) fun x R h => by
    simp only [z8p, internal_stringslite_HasPrefix, optK_bind, optK_bif, optK_pure, optK_none, optK_oc, optK_guardT, optK_map] at h
    refine hold_of h ?_
    kernel_rfl
def z8s (k : Nat) : Entry D := entS z8o (z8p k) z8q
theorem z8t (k : Nat) : EntryOK X 211 (z8s k) := (z8r k).en rfl
def z8u : Plan := ⟨[(0, [(0, none), (1, none)]), (1, [(0, none), (1, none), (9, none)]), (2, [(4, none), (5, none)]), (3, [(4, none), (5, none)])],
  [],
  [(9, ([(0, none)], [(0, none), (1, none)]))]⟩
def z8v (k : Nat) : Calls' D := ⟨[(211, z8s k)], [], [], [], []⟩
theorem z8w (k : Nat) : CallsOK X (z8v k) := .cons (z8t k) (.nil cod)
def z8x (k : Nat) : Cuts D := ⟨[], []⟩
def z8y : List Ar := [.c (.ks), .c (.ks)]
def z8z (k : Nat) (x : TupA D z8y) : Option ((List UInt8) × Bool) := internal_stringslite_CutPrefix k x.1 x.2.1
def z90 (r : (List UInt8) × Bool) : VR D := .tup [.c (.str r.1), .c (.bool r.2)]
theorem z91 (k : Nat) : Does P X 199 z8y (z8z k) z90 :=
  does_of (body := bodyOf Go.Proofs.Tryz.f199) (pl := z8u) (k := k) (cu := z8x k) (tys := [[0], [0]]) (z8w k) ctx mixed Go.Proofs.Tryz.func199 (by kernel_rfl) (by kernel_rfl) (cutOK_of (l := []) (by kernel_rfl) trivial) fun x R h => by
    simp only [z8z, internal_stringslite_CutPrefix, optK_bind, optK_bif, optK_pure, optK_none, optK_oc, optK_guardT, optK_map] at h
    refine hold_of h ?_
    kernel_rfl
def z92 (k : Nat) : Entry D := entS z8y (z8z k) z90
theorem z93 (k : Nat) : EntryOK X 199 (z92 k) := (z91 k).en rfl
def z94 : Plan := ⟨[(0, [(0, none), (1, none)]), (1, [(4, none), (5, none)])],
  [],
  []⟩
def z95 (k : Nat) : Calls' D := ⟨[(199, z92 k)], [], [], [], []⟩
theorem z96 (k : Nat) : CallsOK X (z95 k) := .cons (z93 k) (.nil cod)
def z97 (k : Nat) : Cuts D := ⟨[], []⟩
def z98 : List Ar := [.c (.ks), .c (.ks)]
def z99 (k : Nat) (x : TupA D z98) : Option ((List UInt8) × Bool) := strings_CutPrefix k x.1 x.2.1
def z9a (r : (List UInt8) × Bool) : VR D := .tup [.c (.str r.1), .c (.bool r.2)]
theorem z9b (k : Nat) : Does P X 127 z98 (z99 k) z9a :=
  does_of (body := bodyOf Go.Proofs.Tryz.f127) (pl := z94) (k := k) (cu := z97 k) (tys := [[0], [0]]) (z96 k) ctx mixed Go.Proofs.Tryz.func127 (by kernel_rfl) (by kernel_rfl) (cutOK_of (l := []) (by kernel_rfl) trivial) fun x R h => by
    simp only [z99, strings_CutPrefix, optK_bind, optK_bif, optK_pure, optK_none, optK_oc, optK_guardT, optK_map] at h
    refine hold_of h ?_
    kernel_rfl
def z9c (k : Nat) : Entry D := entS z98 (z99 k) z9a
theorem z9d (k : Nat) : EntryOK X 127 (z9c k) := (z9b k).en rfl
def z9e : List Ar := [.c (.ks)]
def z9f (k : Nat) (x : TupA D z9e) : Option (Int × Bool) := strconv_Atoi k x.1
def z9g (r : Int × Bool) : VR D := .tup [.c (.int .i64 r.1), .c (.err r.2)]
theorem z9h (k : Nat) : Does P X 200 z9e (z9f k) z9g := does_atoi ⟨Go.Proofs.Tryz.f200, Go.Proofs.Tryz.func200, by kernel_rfl, by kernel_rfl⟩ (fun s v w hg h1 h2 => Go.Proofs.Tryz.strconv_Atoi_ok s h1 v h2 w) (fun s w hg h1 h2 => let ⟨tp, p, hv⟩ := hg.2.1; (Go.Proofs.Tryz.strconv_Atoi_range_var s h1 h2 tp p w hv).mono fun e w1 ⟨N, h, _, _, hb⟩ => ⟨_, h, hb⟩) (fun s w hg h1 h2 h3 => let ⟨tp, p, hv⟩ := hg.2.2.1; (Go.Proofs.Any.strconv_Atoi_syntax_var Go.Proofs.Tryz.laysC172 s h1 (atoi_bad h2 h3) tp p w hv).mono fun e w1 ⟨N, h, _, _, hb⟩ => ⟨_, h, hb⟩)
def z9i (k : Nat) : Entry D := entS z9e (z9f k) z9g
theorem z9j (k : Nat) : EntryOK X 200 (z9i k) := (z9h k).en rfl
def z9k : Plan := ⟨[(0, [(0, none), (1, none), (2, none)]), (1, [(6, none)])],
  [],
  []⟩
def z9l (k : Nat) : Calls' D := ⟨[], [], [], [], []⟩
theorem z9m (k : Nat) : CallsOK X (z9l k) := .nil cod
def z9n (k : Nat) : Cuts D := ⟨[], []⟩
def z9o : List Ar := [.c (.ki .i64), .c (.ki .i64), .c (.ki .i64)]
def z9p (k : Nat) (x : TupA D z9o) : Option (Bool) := I_inRange k x.1 x.2.1 x.2.2.1
def z9q (r : Bool) : VR D := .p (.c (.bool r))
theorem z9r (k : Nat) : Does P X 111 z9o (z9p k) z9q :=
  does_of (body := bodyOf Go.Proofs.Tryz.f111) (pl := z9k) (k := k) (cu := z9n k) (tys := [[0]]) (z9m k) ctx mixed Go.Proofs.Tryz.func111 (by kernel_rfl) (by kernel_rfl) (cutOK_of (l := []) (by kernel_rfl) trivial) fun x R h => by
    simp only [z9p, I_inRange, optK_bind, optK_bif, optK_pure, optK_none, optK_oc, optK_guardT, optK_map] at h
    refine hold_of h ?_
    kernel_rfl
def z9s (k : Nat) : Entry D := entS z9o (z9p k) z9q
theorem z9t (k : Nat) : EntryOK X 111 (z9s k) := (z9r k).en rfl
def z9u : List Ar := [.c (.ki .i64)]
def z9v (k : Nat) (x : TupA D z9u) : Option ((List UInt8)) := strconv_Itoa k x.1
def z9w (r : (List UInt8)) : VR D := .p (.c (.str r))
theorem z9x (k : Nat) : Does P X 91 z9u (z9v k) z9w := does_itoa ⟨Go.Proofs.Tryz.f91, Go.Proofs.Tryz.func91, by kernel_rfl, by kernel_rfl⟩ (fun n w hg h0 h1 => Go.Proofs.Tryz.strconv_Itoa n h0 h1 w hg.2.2.2)
def z9y (k : Nat) : Entry D := entS z9u (z9v k) z9w
theorem z9z (k : Nat) : EntryOK X 91 (z9y k) := (z9x k).en rfl
def za0 : Plan := ⟨[(0, [(0, none)]), (1, [(2, none)])],
  [],
  []⟩
def za1 (k : Nat) : Calls' D := ⟨[(91, z9y k)], [], [], [], []⟩
theorem za2 (k : Nat) : CallsOK X (za1 k) := .cons (z9z k) (.nil cod)
def za3 (k : Nat) : Cuts D := ⟨[], []⟩
def za4 : List Ar := [.c (.ki .i64)]
def za5 (k : Nat) (x : TupA D za4) : Option ((List UInt8)) := I_FormatInt k x.1
def za6 (r : (List UInt8)) : VR D := .p (.c (.str r))
theorem za7 (k : Nat) : Does P X 19 za4 (za5 k) za6 :=
  does_of (body := bodyOf Go.Proofs.Tryz.f19) (pl := za0) (k := k) (cu := za3 k) (tys := [[0]]) (za2 k) ctx mixed Go.Proofs.Tryz.func19 (by kernel_rfl) (by kernel_rfl) (cutOK_of (l := []) (by kernel_rfl) trivial) fun x R h => by
    simp only [za5, I_FormatInt, optK_bind, optK_bif, optK_pure, optK_none, optK_oc, optK_guardT, optK_map] at h
    refine hold_of h ?_
    kernel_rfl
def za8 (k : Nat) : Entry D := entS za4 (za5 k) za6
theorem za9 (k : Nat) : EntryOK X 19 (za8 k) := (za7 k).en rfl
def zaa : Plan := ⟨[(0, [(0, none)]), (1, [(0, none), (8, none)]), (2, [(2, none), (3, none)]), (3, [(0, none), (4, none), (5, none)]), (4, [(4, none), (26, none)]), (5, [(2, none), (3, none)]), (6, [(2, none), (3, none)])],
  [],
  [(8, ([], [(0, none)])), (26, ([], [(4, none)]))]⟩
def zab (k : Nat) : Calls' D := ⟨[(200, z9i k), (111, z9s k), (19, za8 k)], [], [], [], []⟩
theorem zac (k : Nat) : CallsOK X (zab k) := .cons (z9j k) (.cons (z9t k) (.cons (za9 k) (.nil cod)))
def zad (k : Nat) : Cuts D := ⟨[], []⟩
def zae : List Ar := [.c (.ks)]
def zaf (k : Nat) (x : TupA D zae) : Option (Int × Bool) := I_ParseInt k x.1
def zag (r : Int × Bool) : VR D := .tup [.c (.int .i64 r.1), .c (.bool r.2)]
theorem zah (k : Nat) : Does P X 128 zae (zaf k) zag :=
  does_of (body := bodyOf Go.Proofs.Tryz.f128) (pl := zaa) (k := k) (cu := zad k) (tys := [[0], [0]]) (zac k) ctx mixed Go.Proofs.Tryz.func128 (by kernel_rfl) (by kernel_rfl) (cutOK_of (l := []) (by kernel_rfl) trivial) fun x R h => by
    simp only [zaf, I_ParseInt, optK_bind, optK_bif, optK_pure, optK_none, optK_oc, optK_guardT, optK_map] at h
    refine hold_of h ?_
    kernel_rfl
def zai (k : Nat) : Entry D := entS zae (zaf k) zag
theorem zaj (k : Nat) : EntryOK X 128 (zai k) := (zah k).en rfl
def zak : Plan := ⟨[(0, [(0, none)]), (1, [(3, some 5)]), (2, [(3, some 5), (8, some 5), (9, none), (10, none)]), (3, [(3, some 5), (8, some 5), (9, none), (10, none), (11, none)]), (4, [(3, some 5), (4, none), (5, none), (8, some 5), (9, none), (10, none)]), (5, [(3, some 5), (4, none), (5, none), (8, some 5), (9, none), (10, none), (20, none)]), (6, [(3, some 5), (8, some 5), (9, none), (10, none)]), (7, [(3, some 5), (8, some 5), (9, none), (10, none)]), (8, [(2, none)])],
  [(0, [(3, some 5)]), (1, [(3, some 5), (8, some 5), (9, none), (10, none)])],
  [(11, ([(3, some 5), (8, some 5), (9, none), (10, none)], [(3, some 5)])), (20, ([(3, some 5), (4, none), (5, none), (8, some 5), (9, none), (10, none)], [(3, some 5), (8, some 5), (9, none), (10, none)]))]⟩
def zal (k : Nat) : Calls' D := ⟨[], [], [], [], []⟩
theorem zam (k : Nat) : CallsOK X (zal k) := .nil cod
def zan (x : Int × Int × Int × Int × Bool × (List Int) × Unit) (o : (List Int)) (Q : Ex → VSt D → Prop) (R : VR D → Prop) : Prop := Q .normal (mkSt ⟨[(3, .ref 500008), (8, .ref 500008), (9, .hole), (10, .hole)], [(500008, .row)]⟩ [.int .i64 x.2.2.1, .int .i64 x.2.2.2.1, .sl 5 o])
def zao (k : Nat) : Cut D := cutS ⟨[(3, .ref 500008), (4, .hole), (5, .hole), (8, .ref 500008), (9, .hole), (10, .hole), (20, .hole)], [(500008, .row)]⟩ [.ki .i64, .ki .u8, .ki .i64, .ki .i64, .kb, .kl 5] (fun (x : Int × Int × Int × Int × Bool × (List Int) × Unit) => I_LowerText_c20 k x.1 x.2.1 x.2.2.1 x.2.2.2.1 x.2.2.2.2.1 x.2.2.2.2.2.1) zan
def zap (k : Nat) : Cuts D := ⟨[], []⟩
theorem zaq (k : Nat) : CutFor X zak k Go.Proofs.Tryz.f201.results.toList (zao k) (sub (bodyOf Go.Proofs.Tryz.f201) [1, 1, 0, 1, 0, 0, 1, 1, 0, 0, 1, 1]) :=
  joinCut_s (X := X) (sg := [.ki .i64, .ki .u8, .ki .i64, .ki .i64, .kb, .kl 5]) (cu := zap k) (cl := zal k) (tys := [[0]]) (zam k) (cutOK_of (l := []) (by kernel_rfl) trivial) fun x Q R h => by
    simp only [I_LowerText_c20, optK_bind, optK_bif, optK_pure, optK_none, optK_oc, optK_guardT, optK_map] at h
    refine hold_of h ?_
    kernel_rfl
def zar (x : Int × Int × (List Int) × Unit) (o : (List Int)) (Q : Ex → VSt D → Prop) (R : VR D → Prop) : Prop := Q .normal (mkSt ⟨[(3, .ref 500008), (8, .ref 500008), (9, .hole), (10, .hole)], [(500008, .row)]⟩ [.int .i64 x.1, .int .i64 x.2.1, .sl 5 o])
def zas (k : Nat) : Cut D := cutS ⟨[(3, .ref 500008), (8, .ref 500008), (9, .hole), (10, .hole)], [(500008, .row)]⟩ [.ki .i64, .ki .i64, .kl 5] (fun (x : Int × Int × (List Int) × Unit) => I_LowerText_b1 k x.1 x.2.1 x.2.2.1) zar
def zat (k : Nat) : Cuts D := ⟨[], [(20, some (zao k))]⟩
theorem zau (k : Nat) : CutFor X zak k Go.Proofs.Tryz.f201.results.toList (zas k) (sub (bodyOf Go.Proofs.Tryz.f201) [1, 1, 0, 1, 0, 0, 1, 1, 0]) :=
  joinCut_s (X := X) (sg := [.ki .i64, .ki .i64, .kl 5]) (cu := zat k) (cl := zal k) (tys := [[0]]) (zam k) (cutOK_of (l := [(zao k, sub (bodyOf Go.Proofs.Tryz.f201) [1, 1, 0, 1, 0, 0, 1, 1, 0, 0, 1, 1])]) (by kernel_rfl) ⟨zaq k, trivial⟩) fun x Q R h => by
    simp only [I_LowerText_b1, optK_bind, optK_bif, optK_pure, optK_none, optK_oc, optK_guardT, optK_map] at h
    refine hold_of h ?_
    kernel_rfl
def zav (x : Int × Int × (List Int) × Unit) (o : (List Int)) (Q : Ex → VSt D → Prop) (R : VR D → Prop) : Prop := Q .normal (mkSt ⟨[(3, .ref 500003)], [(500003, .row)]⟩ [.sl 5 o])
def zaw (k : Nat) : Cut D := cutS ⟨[(3, .ref 500008), (8, .ref 500008), (9, .hole), (10, .hole)], [(500008, .row)]⟩ [.ki .i64, .ki .i64, .kl 5] (fun (x : Int × Int × (List Int) × Unit) => I_LowerText_b0 k k x.1 x.2.1 x.2.2.1) zav
def zax (k : Nat) : Cuts D := ⟨[(1, some (zas k))], []⟩
theorem zay (k : Nat) : CutFor X zak k Go.Proofs.Tryz.f201.results.toList (zaw k) (sub (bodyOf Go.Proofs.Tryz.f201) [1, 1, 0, 1]) :=
  loopCut_s (X := X) (sg := [.ki .i64, .ki .i64, .kl 5]) (cu := zax k) (cl := zal k) (tys := [[0]]) (id := 0) (c := sub (bodyOf Go.Proofs.Tryz.f201) [1, 1, 0, 1, 0, 0]) (f := fun n => fun (x : Int × Int × (List Int) × Unit) => I_LowerText_b0 k n x.1 x.2.1 x.2.2.1) (zam k) (cutOK_of (l := [(zas k, sub (bodyOf Go.Proofs.Tryz.f201) [1, 1, 0, 1, 0, 0, 1, 1, 0])]) (by kernel_rfl) ⟨zau k, trivial⟩) (fun _ => rfl) (fun n x Q R h => by
    simp only [I_LowerText_b0, optK_bind, optK_bif, optK_pure, optK_none, optK_oc, optK_guardT, optK_map] at h
    refine hold_of h ?_
    kernel_rfl) (by kernel_rfl)
def zaz (k : Nat) : Cuts D := ⟨[(0, some (zaw k))], []⟩
def zb0 : List Ar := [.c (.ks)]
def zb1 (k : Nat) (x : TupA D zb0) : Option ((List UInt8)) := I_LowerText k x.1
def zb2 (r : (List UInt8)) : VR D := .p (.c (.str r))
theorem zb3 (k : Nat) : Does P X 201 zb0 (zb1 k) zb2 :=
  does_of (body := bodyOf Go.Proofs.Tryz.f201) (pl := zak) (k := k) (cu := zaz k) (tys := [[0]]) (zam k) ctx mixed Go.Proofs.Tryz.func201 (by kernel_rfl) (by kernel_rfl) (cutOK_of (l := [(zaw k, sub (bodyOf Go.Proofs.Tryz.f201) [1, 1, 0, 1])]) (by kernel_rfl) ⟨zay k, trivial⟩) fun x R h => by
    simp only [zb1, I_LowerText, optK_bind, optK_bif, optK_pure, optK_none, optK_oc, optK_guardT, optK_map] at h
    refine hold_of h ?_
    kernel_rfl
def zb4 (k : Nat) : Entry D := entS zb0 (zb1 k) zb2
theorem zb5 (k : Nat) : EntryOK X 201 (zb4 k) := (zb3 k).en rfl
def zb6 : List Ar := [.c (.ks), .c (.ks)]
def zb7 (k : Nat) (x : TupA D zb6) : Option ((List UInt8)) := strings_Trim k x.1 x.2.1
def zb8 (r : (List UInt8)) : VR D := .p (.c (.str r))
theorem zb9 (k : Nat) : Does P X 166 zb6 (zb7 k) zb8 := does_trim ⟨Go.Proofs.Tryz.f166, Go.Proofs.Tryz.func166, by kernel_rfl, by kernel_rfl⟩ (fun s cs w hg h1 h2 h3 => Go.Proofs.Any.strings_Trim_laid Go.Proofs.Tryz.lays160 (by kernel_rfl) s cs w h1 h2 h3)
def zba (k : Nat) : Entry D := entS zb6 (zb7 k) zb8
theorem zbb (k : Nat) : EntryOK X 166 (zba k) := (zb9 k).en rfl
def zbc : Plan := ⟨[(0, [(0, none)]), (1, [(2, none)])],
  [],
  []⟩
def zbd (k : Nat) : Calls' D := ⟨[(166, zba k)], [], [], [], []⟩
theorem zbe (k : Nat) : CallsOK X (zbd k) := .cons (zbb k) (.nil cod)
def zbf (k : Nat) : Cuts D := ⟨[], []⟩
def zbg : List Ar := [.c (.ks)]
def zbh (k : Nat) (x : TupA D zbg) : Option ((List UInt8)) := I_TrimText k x.1
def zbi (r : (List UInt8)) : VR D := .p (.c (.str r))
theorem zbj (k : Nat) : Does P X 163 zbg (zbh k) zbi :=
  does_of (body := bodyOf Go.Proofs.Tryz.f163) (pl := zbc) (k := k) (cu := zbf k) (tys := [[0]]) (zbe k) ctx mixed Go.Proofs.Tryz.func163 (by kernel_rfl) (by kernel_rfl) (cutOK_of (l := []) (by kernel_rfl) trivial) fun x R h => by
    simp only [zbh, I_TrimText, optK_bind, optK_bif, optK_pure, optK_none, optK_oc, optK_guardT, optK_map] at h
    refine hold_of h ?_
    kernel_rfl
def zbk (k : Nat) : Entry D := entS zbg (zbh k) zbi
theorem zbl (k : Nat) : EntryOK X 163 (zbk k) := (zbj k).en rfl
def zbm : List Ar := [.c (.ks), .c (.ki .u8)]
def zbn (k : Nat) (x : TupA D zbm) : Option (Int) := strings_IndexByte k x.1 x.2.1
def zbo (r : Int) : VR D := .p (.c (.int .i64 r))
theorem zbp (k : Nat) : Does P X 210 zbm (zbn k) zbo := does_indexByte ⟨Go.Proofs.Tryz.f210, Go.Proofs.Tryz.func210, by kernel_rfl, by kernel_rfl⟩ (fun s c w hg => Go.Proofs.Tryz.strings_IndexByte s c w)
def zbq (k : Nat) : Entry D := entS zbm (zbn k) zbo
theorem zbr (k : Nat) : EntryOK X 210 (zbq k) := (zbp k).en rfl
def zbs : Plan := ⟨[(0, [(0, none)]), (1, [(2, none)])],
  [],
  []⟩
def zbt (k : Nat) : Calls' D := ⟨[(210, zbq k)], [], [], [], []⟩
theorem zbu (k : Nat) : CallsOK X (zbt k) := .cons (zbr k) (.nil cod)
def zbv (k : Nat) : Cuts D := ⟨[], []⟩
def zbw : List Ar := [.c (.ki .u8)]
def zbx (k : Nat) (x : TupA D zbw) : Option (Bool) := I_isTokenByte k x.1
def zby (r : Bool) : VR D := .p (.c (.bool r))
theorem zbz (k : Nat) : Does P X 261 zbw (zbx k) zby :=
  does_of (body := bodyOf Go.Proofs.Tryz.f261) (pl := zbs) (k := k) (cu := zbv k) (tys := [[0]]) (zbu k) ctx mixed Go.Proofs.Tryz.func261 (by kernel_rfl) (by kernel_rfl) (cutOK_of (l := []) (by kernel_rfl) trivial) fun x R h => by
    simp only [zbx, I_isTokenByte, optK_bind, optK_bif, optK_pure, optK_none, optK_oc, optK_guardT, optK_map] at h
    refine hold_of h ?_
    kernel_rfl
def zc0 (k : Nat) : Entry D := entS zbw (zbx k) zby
theorem zc1 (k : Nat) : EntryOK X 261 (zc0 k) := (zbz k).en rfl
def zc2 : Plan := ⟨[(0, [(0, none)]), (1, [(0, none), (5, none), (6, none)]), (2, [(0, none), (5, none), (6, none), (7, none)]), (3, [(0, none), (3, none), (5, none), (6, none)]), (4, [(0, none), (5, none), (6, none), (13, none)]), (5, [(2, none)]), (6, [(0, none), (5, none), (6, none)]), (7, [(2, none)])],
  [(0, [(0, none)]), (1, [(0, none), (5, none), (6, none)])],
  [(7, ([(0, none), (5, none), (6, none)], [(0, none)])), (13, ([], [(0, none), (5, none), (6, none)]))]⟩
def zc3 (k : Nat) : Calls' D := ⟨[(261, zc0 k), (111, z9s k)], [], [], [], []⟩
theorem zc4 (k : Nat) : CallsOK X (zc3 k) := .cons (zc1 k) (.cons (z9t k) (.nil cod))
def zc5 (x : (List UInt8) × Int × Int × Unit) (o : Oc (Unit) (Bool)) (Q : Ex → VSt D → Prop) (R : VR D → Prop) : Prop := ocP o (fun v0 => Q .normal (mkSt ⟨[(0, .hole)], []⟩ [.str x.1])) (fun w0 => R (.p (.c (.bool w0))))
def zc6 (k : Nat) : Cut D := cutS ⟨[(0, .hole), (5, .hole), (6, .hole)], []⟩ [.ks, .ki .i64, .ki .i64] (fun (x : (List UInt8) × Int × Int × Unit) => I_IsToken_b0 k k x.1 x.2.1 x.2.2.1) zc5
def zc7 (k : Nat) : Cuts D := ⟨[], []⟩
theorem zc8 (k : Nat) : CutFor X zc2 k Go.Proofs.Tryz.f184.results.toList (zc6 k) (sub (bodyOf Go.Proofs.Tryz.f184) [1, 0, 1]) :=
  loopCut_s (X := X) (sg := [.ks, .ki .i64, .ki .i64]) (cu := zc7 k) (cl := zc3 k) (tys := [[0]]) (id := 0) (c := sub (bodyOf Go.Proofs.Tryz.f184) [1, 0, 1, 0, 0]) (f := fun n => fun (x : (List UInt8) × Int × Int × Unit) => I_IsToken_b0 k n x.1 x.2.1 x.2.2.1) (zc4 k) (cutOK_of (l := []) (by kernel_rfl) trivial) (fun _ => rfl) (fun n x Q R h => by
    simp only [I_IsToken_b0, optK_bind, optK_bif, optK_pure, optK_none, optK_oc, optK_guardT, optK_map] at h
    refine hold_of h ?_
    kernel_rfl) (by kernel_rfl)
def zc9 (k : Nat) : Cuts D := ⟨[(0, some (zc6 k))], []⟩
def zca : List Ar := [.c (.ks)]
def zcb (k : Nat) (x : TupA D zca) : Option (Bool) := I_IsToken k x.1
def zcc (r : Bool) : VR D := .p (.c (.bool r))
theorem zcd (k : Nat) : Does P X 184 zca (zcb k) zcc :=
  does_of (body := bodyOf Go.Proofs.Tryz.f184) (pl := zc2) (k := k) (cu := zc9 k) (tys := [[0]]) (zc4 k) ctx mixed Go.Proofs.Tryz.func184 (by kernel_rfl) (by kernel_rfl) (cutOK_of (l := [(zc6 k, sub (bodyOf Go.Proofs.Tryz.f184) [1, 0, 1])]) (by kernel_rfl) ⟨zc8 k, trivial⟩) fun x R h => by
    simp only [zcb, I_IsToken, optK_bind, optK_bif, optK_pure, optK_none, optK_oc, optK_guardT, optK_map] at h
    refine hold_of h ?_
    kernel_rfl
def zce (k : Nat) : Entry D := entS zca (zcb k) zcc
theorem zcf (k : Nat) : EntryOK X 184 (zce k) := (zcd k).en rfl
def zcg : Plan := ⟨[(0, [(0, none)]), (1, [(0, none), (5, none), (6, none)]), (2, [(0, none), (5, none), (6, none), (7, none)]), (3, [(0, none), (3, none), (5, none), (6, none)]), (4, [(0, none), (5, none), (6, none), (20, none)]), (5, [(2, none)]), (6, [(0, none), (5, none), (6, none)]), (7, [(2, none)])],
  [(0, [(0, none)]), (1, [(0, none), (5, none), (6, none)])],
  [(7, ([(0, none), (5, none), (6, none)], [(0, none)])), (20, ([], [(0, none), (5, none), (6, none)]))]⟩
def zch (k : Nat) : Calls' D := ⟨[(111, z9s k), (163, zbk k)], [], [], [], []⟩
theorem zci (k : Nat) : CallsOK X (zch k) := .cons (z9t k) (.cons (zbl k) (.nil cod))
def zcj (x : (List UInt8) × Int × Int × Unit) (o : Oc (Unit) (Bool)) (Q : Ex → VSt D → Prop) (R : VR D → Prop) : Prop := ocP o (fun v0 => Q .normal (mkSt ⟨[(0, .hole)], []⟩ [.str x.1])) (fun w0 => R (.p (.c (.bool w0))))
def zck (k : Nat) : Cut D := cutS ⟨[(0, .hole), (5, .hole), (6, .hole)], []⟩ [.ks, .ki .i64, .ki .i64] (fun (x : (List UInt8) × Int × Int × Unit) => I_isFieldValue_b0 k k x.1 x.2.1 x.2.2.1) zcj
def zcl (k : Nat) : Cuts D := ⟨[], []⟩
theorem zcm (k : Nat) : CutFor X zcg k Go.Proofs.Tryz.f204.results.toList (zck k) (sub (bodyOf Go.Proofs.Tryz.f204) [1, 0, 1]) :=
  loopCut_s (X := X) (sg := [.ks, .ki .i64, .ki .i64]) (cu := zcl k) (cl := zch k) (tys := [[0]]) (id := 0) (c := sub (bodyOf Go.Proofs.Tryz.f204) [1, 0, 1, 0, 0]) (f := fun n => fun (x : (List UInt8) × Int × Int × Unit) => I_isFieldValue_b0 k n x.1 x.2.1 x.2.2.1) (zci k) (cutOK_of (l := []) (by kernel_rfl) trivial) (fun _ => rfl) (fun n x Q R h => by
    simp only [I_isFieldValue_b0, optK_bind, optK_bif, optK_pure, optK_none, optK_oc, optK_guardT, optK_map] at h
    refine hold_of h ?_
    kernel_rfl) (by kernel_rfl)
def zcn (k : Nat) : Cuts D := ⟨[(0, some (zck k))], []⟩
def zco : List Ar := [.c (.ks)]
def zcp (k : Nat) (x : TupA D zco) : Option (Bool) := I_isFieldValue k x.1
def zcq (r : Bool) : VR D := .p (.c (.bool r))
theorem zcr (k : Nat) : Does P X 204 zco (zcp k) zcq :=
  does_of (body := bodyOf Go.Proofs.Tryz.f204) (pl := zcg) (k := k) (cu := zcn k) (tys := [[0]]) (zci k) ctx mixed Go.Proofs.Tryz.func204 (by kernel_rfl) (by kernel_rfl) (cutOK_of (l := [(zck k, sub (bodyOf Go.Proofs.Tryz.f204) [1, 0, 1])]) (by kernel_rfl) ⟨zcm k, trivial⟩) fun x R h => by
    simp only [zcp, I_isFieldValue, optK_bind, optK_bif, optK_pure, optK_none, optK_oc, optK_guardT, optK_map] at h
    refine hold_of h ?_
    kernel_rfl
def zcs (k : Nat) : Entry D := entS zco (zcp k) zcq
theorem zct (k : Nat) : EntryOK X 204 (zcs k) := (zcr k).en rfl
def zcu : Plan := ⟨[(0, [(0, some 34)]), (1, [(0, some 34), (5, some 34), (6, none), (7, none)]), (2, [(0, some 34), (5, some 34), (6, none), (7, none), (8, none)]), (3, [(0, some 34), (4, none), (5, some 34), (6, none), (7, none)]), (4, [(0, some 34), (5, some 34), (6, none), (7, none), (28, none)]), (5, [(2, none)]), (6, [(0, some 34), (5, some 34), (6, none), (7, none)]), (7, [(2, none)])],
  [(0, [(0, some 34)]), (1, [(0, some 34), (5, some 34), (6, none), (7, none)])],
  [(8, ([(0, some 34), (5, some 34), (6, none), (7, none)], [(0, some 34)])), (28, ([], [(0, some 34), (5, some 34), (6, none), (7, none)]))]⟩
def zcv (k : Nat) : Calls' D := ⟨[(184, zce k), (201, zb4 k), (204, zcs k)], [], [], [], []⟩
theorem zcw (k : Nat) : CallsOK X (zcv k) := .cons (zcf k) (.cons (zb5 k) (.cons (zct k) (.nil cod)))
def zcx (x : (List IField) × (List IField) × Int × Int × Unit) (o : Oc (Unit) (Bool)) (Q : Ex → VSt D → Prop) (R : VR D → Prop) : Prop := ocP o (fun v0 => Q .normal (mkSt ⟨[(0, .hole)], []⟩ [.sl 34 x.1])) (fun w0 => R (.p (.c (.bool w0))))
def zcy (k : Nat) : Cut D := cutS ⟨[(0, .hole), (5, .hole), (6, .hole), (7, .hole)], []⟩ [.kl 34, .kl 34, .ki .i64, .ki .i64] (fun (x : (List IField) × (List IField) × Int × Int × Unit) => I_AreFields_b0 k k x.1 x.2.1 x.2.2.1 x.2.2.2.1) zcx
def zcz (k : Nat) : Cuts D := ⟨[], []⟩
theorem zd0 (k : Nat) : CutFor X zcu k Go.Proofs.Tryz.f187.results.toList (zcy k) (sub (bodyOf Go.Proofs.Tryz.f187) [1, 0, 1]) :=
  loopCut_s (X := X) (sg := [.kl 34, .kl 34, .ki .i64, .ki .i64]) (cu := zcz k) (cl := zcv k) (tys := [[0]]) (id := 0) (c := sub (bodyOf Go.Proofs.Tryz.f187) [1, 0, 1, 0, 0]) (f := fun n => fun (x : (List IField) × (List IField) × Int × Int × Unit) => I_AreFields_b0 k n x.1 x.2.1 x.2.2.1 x.2.2.2.1) (zcw k) (cutOK_of (l := []) (by kernel_rfl) trivial) (fun _ => rfl) (fun n x Q R h => by
    simp only [I_AreFields_b0, optK_bind, optK_bif, optK_pure, optK_none, optK_oc, optK_guardT, optK_map] at h
    refine hold_of h ?_
    kernel_rfl) (by kernel_rfl)
def zd1 (k : Nat) : Cuts D := ⟨[(0, some (zcy k))], []⟩
def zd2 : List Ar := [.c (.kl 34)]
def zd3 (k : Nat) (x : TupA D zd2) : Option (Bool) := I_AreFields k x.1
def zd4 (r : Bool) : VR D := .p (.c (.bool r))
theorem zd5 (k : Nat) : Does P X 187 zd2 (zd3 k) zd4 :=
  does_of (body := bodyOf Go.Proofs.Tryz.f187) (pl := zcu) (k := k) (cu := zd1 k) (tys := [[0]]) (zcw k) ctx mixed Go.Proofs.Tryz.func187 (by kernel_rfl) (by kernel_rfl) (cutOK_of (l := [(zcy k, sub (bodyOf Go.Proofs.Tryz.f187) [1, 0, 1])]) (by kernel_rfl) ⟨zd0 k, trivial⟩) fun x R h => by
    simp only [zd3, I_AreFields, optK_bind, optK_bif, optK_pure, optK_none, optK_oc, optK_guardT, optK_map] at h
    refine hold_of h ?_
    kernel_rfl
def zd6 (k : Nat) : Entry D := entS zd2 (zd3 k) zd4
theorem zd7 (k : Nat) : EntryOK X 187 (zd6 k) := (zd5 k).en rfl
def zd8 : Plan := ⟨[(0, [(0, none)]), (1, [(0, none), (4, some 34)]), (2, [(0, none), (4, some 34), (13, none)]), (3, [(4, some 34), (5, none), (6, none), (7, none)]), (4, [(4, some 34), (6, none), (7, none), (8, none), (9, none), (10, none)]), (5, [(4, some 34), (6, none), (8, none), (9, none), (31, none)]), (6, [(2, some 34), (3, none)]), (7, [(4, some 34), (6, none)]), (8, [(0, none), (4, some 34)]), (9, [(4, some 34), (43, none)]), (10, [(2, some 34), (3, none)]), (11, [(2, some 34), (3, none)])],
  [(0, [(4, some 34)]), (1, [(0, none), (4, some 34)])],
  [(13, ([(0, none), (4, some 34)], [(4, some 34)])), (31, ([], [(4, some 34), (6, none), (8, none), (9, none)])), (43, ([], [(4, some 34)]))]⟩
def zd9 (k : Nat) : Calls' D := ⟨[(126, z8i k), (201, zb4 k), (163, zbk k), (187, zd6 k)], [], [], [], []⟩
theorem zda (k : Nat) : CallsOK X (zd9 k) := .cons (z8j k) (.cons (zb5 k) (.cons (zbl k) (.cons (zd7 k) (.nil cod))))
def zdb (x : (List UInt8) × (List IField) × Unit) (o : Oc ((List IField)) ((List IField) × Bool)) (Q : Ex → VSt D → Prop) (R : VR D → Prop) : Prop := ocP o (fun v0 => Q .normal (mkSt ⟨[(4, .ref 500004)], [(500004, .row)]⟩ [.sl 34 v0])) (fun w0 => R (.tup [.c (.sl 34 w0.1), .c (.bool w0.2)]))
def zdc (k : Nat) : Cut D := cutS ⟨[(0, .hole), (4, .ref 500004)], [(500004, .row)]⟩ [.ks, .kl 34] (fun (x : (List UInt8) × (List IField) × Unit) => I_ParseFields_b0 k k x.1 x.2.1) zdb
def zdd (k : Nat) : Cuts D := ⟨[], []⟩
theorem zde (k : Nat) : CutFor X zd8 k Go.Proofs.Tryz.f129.results.toList (zdc k) (sub (bodyOf Go.Proofs.Tryz.f129) [1, 1, 0]) :=
  loopCut_s (X := X) (sg := [.ks, .kl 34]) (cu := zdd k) (cl := zd9 k) (tys := [[34], [0]]) (id := 0) (c := sub (bodyOf Go.Proofs.Tryz.f129) [1, 1, 0, 0, 0]) (f := fun n => fun (x : (List UInt8) × (List IField) × Unit) => I_ParseFields_b0 k n x.1 x.2.1) (zda k) (cutOK_of (l := []) (by kernel_rfl) trivial) (fun _ => rfl) (fun n x Q R h => by
    simp only [I_ParseFields_b0, optK_bind, optK_bif, optK_pure, optK_none, optK_oc, optK_guardT, optK_map] at h
    refine hold_of h ?_
    kernel_rfl) (by kernel_rfl)
def zdf (k : Nat) : Cuts D := ⟨[(0, some (zdc k))], []⟩
def zdg : List Ar := [.c (.ks)]
def zdh (k : Nat) (x : TupA D zdg) : Option ((List IField) × Bool) := I_ParseFields k x.1
def zdi (r : (List IField) × Bool) : VR D := .tup [.c (.sl 34 r.1), .c (.bool r.2)]
theorem zdj (k : Nat) : Does P X 129 zdg (zdh k) zdi :=
  does_of (body := bodyOf Go.Proofs.Tryz.f129) (pl := zd8) (k := k) (cu := zdf k) (tys := [[34], [0]]) (zda k) ctx mixed Go.Proofs.Tryz.func129 (by kernel_rfl) (by kernel_rfl) (cutOK_of (l := [(zdc k, sub (bodyOf Go.Proofs.Tryz.f129) [1, 1, 0])]) (by kernel_rfl) ⟨zde k, trivial⟩) fun x R h => by
    simp only [zdh, I_ParseFields, optK_bind, optK_bif, optK_pure, optK_none, optK_oc, optK_guardT, optK_map] at h
    refine hold_of h ?_
    kernel_rfl
def zdk (k : Nat) : Entry D := entS zdg (zdh k) zdi
theorem zdl (k : Nat) : EntryOK X 129 (zdk k) := (zdj k).en rfl
def zdm : Plan := ⟨[(0, [(1, none), (2, none)]), (1, [(3, none)])],
  [],
  []⟩
def zdn (k : Nat) : Calls' D := ⟨[], [], [], [], []⟩
theorem zdo (k : Nat) : CallsOK X (zdn k) := .nil cod
def zdp (k : Nat) : Cuts D := ⟨[], []⟩
def zdq : List Ar := [.a [.ks, .ks], .x [.ks]]
def zdr (k : Nat) (x : TupA D zdq) : Option (Bool) := I_hasField_1 k (⟨x.1.1, x.1.2.1⟩ : IField) x.2.1.1
def zds (r : Bool) : VR D := .p (.c (.bool r))
theorem zdt (k : Nat) : Does P X 173 zdq (zdr k) zds :=
  does_of (body := bodyOf Go.Proofs.Tryz.f173) (pl := zdm) (k := k) (cu := zdp k) (tys := [[0]]) (zdo k) ctx mixed Go.Proofs.Tryz.func173 (by kernel_rfl) (by kernel_rfl) (cutOK_of (l := []) (by kernel_rfl) trivial) fun x R h => by
    simp only [zdr, I_hasField_1, optK_bind, optK_bif, optK_pure, optK_none, optK_oc, optK_guardT, optK_map] at h
    refine hold_of h ?_
    kernel_rfl
def zdu (k : Nat) : Entry D := entS zdq (zdr k) zds
theorem zdv (k : Nat) : EntryOK X 173 (zdu k) := (zdt k).en rfl
def zdw : Plan := ⟨[(0, [(0, some 34), (1, none)]), (1, [(0, some 34), (1, none), (7, none), (8, none)]), (2, [(0, some 34), (1, none), (7, none), (8, none), (9, none)]), (3, [(0, some 34), (1, none), (5, none), (7, none), (8, none)]), (4, [(0, some 34), (1, none), (5, none), (7, none), (8, none), (16, none)]), (5, [(4, none)]), (6, [(0, some 34), (1, none), (7, none), (8, none)]), (7, [(4, none)])],
  [(0, []), (1, [(0, some 34), (1, none), (7, none), (8, none)])],
  [(9, ([(0, some 34), (1, none), (7, none), (8, none)], [])), (16, ([(5, none)], [(0, some 34), (1, none), (7, none), (8, none)]))]⟩
def zdx (k : Nat) : Calls' D := ⟨[(173, zdu k)], [], [], [], []⟩
theorem zdy (k : Nat) : CallsOK X (zdx k) := .cons (zdv k) (.nil cod)
def zdz (x : (List IField) × (List UInt8) × Int × Int × Unit) (o : Oc (Unit) (Int)) (Q : Ex → VSt D → Prop) (R : VR D → Prop) : Prop := ocP o (fun v0 => Q .normal (mkSt ⟨[], []⟩ [])) (fun w0 => R (.p (.c (.int .i64 w0))))
def ze0 (k : Nat) : Cut D := cutS ⟨[(0, .hole), (1, .clo 173 [.rptr 1]), (7, .hole), (8, .hole)], []⟩ [.kl 34, .ks, .ki .i64, .ki .i64] (fun (x : (List IField) × (List UInt8) × Int × Int × Unit) => slices_IndexFunc_IField_at_I_hasField_1_b0 k k x.1 x.2.1 x.2.2.1 x.2.2.2.1) zdz
def ze1 (k : Nat) : Cuts D := ⟨[], []⟩
theorem ze2 (k : Nat) : CutFor X zdw k Go.Proofs.Tryz.f242.results.toList (ze0 k) (sub (bodyOf Go.Proofs.Tryz.f242) [1, 0, 1]) :=
  loopCut_s (X := X) (sg := [.kl 34, .ks, .ki .i64, .ki .i64]) (cu := ze1 k) (cl := zdx k) (tys := [[0]]) (id := 0) (c := sub (bodyOf Go.Proofs.Tryz.f242) [1, 0, 1, 0, 0]) (f := fun n => fun (x : (List IField) × (List UInt8) × Int × Int × Unit) => slices_IndexFunc_IField_at_I_hasField_1_b0 k n x.1 x.2.1 x.2.2.1 x.2.2.2.1) (zdy k) (cutOK_of (l := []) (by kernel_rfl) trivial) (fun _ => rfl) (fun n x Q R h => by
    simp only [slices_IndexFunc_IField_at_I_hasField_1_b0, optK_bind, optK_bif, optK_pure, optK_none, optK_oc, optK_guardT, optK_map] at h
    refine hold_of h ?_
    kernel_rfl) (by kernel_rfl)
def ze3 (k : Nat) : Cuts D := ⟨[(0, some (ze0 k))], []⟩
def ze4 : List Ar := [.c (.kl 34), .f 173 [[.ks]]]
def ze5 (k : Nat) (x : TupA D ze4) : Option (Int) := slices_IndexFunc_IField_at_I_hasField_1 k x.1 x.2.1.1.1
def ze6 (r : Int) : VR D := .p (.c (.int .i64 r))
theorem ze7 (k : Nat) : Does P X 242 ze4 (ze5 k) ze6 :=
  does_of (body := bodyOf Go.Proofs.Tryz.f242) (pl := zdw) (k := k) (cu := ze3 k) (tys := [[0]]) (zdy k) ctx mixed Go.Proofs.Tryz.func242 (by kernel_rfl) (by kernel_rfl) (cutOK_of (l := [(ze0 k, sub (bodyOf Go.Proofs.Tryz.f242) [1, 0, 1])]) (by kernel_rfl) ⟨ze2 k, trivial⟩) fun x R h => by
    simp only [ze5, slices_IndexFunc_IField_at_I_hasField_1, optK_bind, optK_bif, optK_pure, optK_none, optK_oc, optK_guardT, optK_map] at h
    refine hold_of h ?_
    kernel_rfl
def ze8 (k : Nat) : Entry D := entS ze4 (ze5 k) ze6
theorem ze9 (k : Nat) : EntryOK X 242 (ze8 k) := (ze7 k).en rfl
def zea : Plan := ⟨[(0, [(0, some 34), (1, none)]), (1, [(4, none)])],
  [],
  []⟩
def zeb (k : Nat) : Calls' D := ⟨[(242, ze8 k)], [], [], [], []⟩
theorem zec (k : Nat) : CallsOK X (zeb k) := .cons (ze9 k) (.nil cod)
def zed (k : Nat) : Cuts D := ⟨[], []⟩
def zee : List Ar := [.c (.kl 34), .f 173 [[.ks]]]
def zef (k : Nat) (x : TupA D zee) : Option (Bool) := slices_ContainsFunc_IField_at_I_hasField_1 k x.1 x.2.1.1.1
def zeg (r : Bool) : VR D := .p (.c (.bool r))
theorem zeh (k : Nat) : Does P X 172 zee (zef k) zeg :=
  does_of (body := bodyOf Go.Proofs.Tryz.f172) (pl := zea) (k := k) (cu := zed k) (tys := [[0]]) (zec k) ctx mixed Go.Proofs.Tryz.func172 (by kernel_rfl) (by kernel_rfl) (cutOK_of (l := []) (by kernel_rfl) trivial) fun x R h => by
    simp only [zef, slices_ContainsFunc_IField_at_I_hasField_1, optK_bind, optK_bif, optK_pure, optK_none, optK_oc, optK_guardT, optK_map] at h
    refine hold_of h ?_
    kernel_rfl
def zei (k : Nat) : Entry D := entS zee (zef k) zeg
theorem zej (k : Nat) : EntryOK X 172 (zei k) := (zeh k).en rfl
def zek : Plan := ⟨[(0, [(0, some 34), (3, none)]), (1, [(4, none)])],
  [],
  []⟩
def zel (k : Nat) : Calls' D := ⟨[(172, zei k)], [], [], [], []⟩
theorem zem (k : Nat) : CallsOK X (zel k) := .cons (zej k) (.nil cod)
def zen (k : Nat) : Cuts D := ⟨[], []⟩
def zeo : List Ar := [.c (.kl 34), .c (.ks)]
def zep (k : Nat) (x : TupA D zeo) : Option (Bool) := I_hasField k x.1 x.2.1
def zeq (r : Bool) : VR D := .p (.c (.bool r))
theorem zer (k : Nat) : Does P X 94 zeo (zep k) zeq :=
  does_of (body := bodyOf Go.Proofs.Tryz.f94) (pl := zek) (k := k) (cu := zen k) (tys := [[0]]) (zem k) ctx mixed Go.Proofs.Tryz.func94 (by kernel_rfl) (by kernel_rfl) (cutOK_of (l := []) (by kernel_rfl) trivial) fun x R h => by
    simp only [zep, I_hasField, optK_bind, optK_bif, optK_pure, optK_none, optK_oc, optK_guardT, optK_map] at h
    refine hold_of h ?_
    kernel_rfl
def zes (k : Nat) : Entry D := entS zeo (zep k) zeq
theorem zet (k : Nat) : EntryOK X 94 (zes k) := (zer k).en rfl
def zeu : Plan := ⟨[(0, [(1, none)]), (1, [(2, none)])],
  [],
  []⟩
def zev (k : Nat) : Calls' D := ⟨[(111, z9s k), (187, zd6 k), (94, zes k)], [], [], [], []⟩
theorem zew (k : Nat) : CallsOK X (zev k) := .cons (z9t k) (.cons (zd7 k) (.cons (zet k) (.nil cod)))
def zex (k : Nat) : Cuts D := ⟨[], []⟩
def zey : List Ar := [.a [.ki .i64, .kl 34, .ks]]
def zez (k : Nat) (x : TupA D zey) : Option (Bool) := I_IsResponse k (⟨x.1.1, x.1.2.1, x.1.2.2.1⟩ : IResponse)
def zf0 (r : Bool) : VR D := .p (.c (.bool r))
theorem zf1 (k : Nat) : Does P X 130 zey (zez k) zf0 :=
  does_of (body := bodyOf Go.Proofs.Tryz.f130) (pl := zeu) (k := k) (cu := zex k) (tys := [[0]]) (zew k) ctx mixed Go.Proofs.Tryz.func130 (by kernel_rfl) (by kernel_rfl) (cutOK_of (l := []) (by kernel_rfl) trivial) fun x R h => by
    simp only [zez, I_IsResponse, optK_bind, optK_bif, optK_pure, optK_none, optK_oc, optK_guardT, optK_map] at h
    refine hold_of h ?_
    kernel_rfl
def zf2 (k : Nat) : Entry D := entS zey (zez k) zf0
theorem zf3 (k : Nat) : EntryOK X 130 (zf2 k) := (zf1 k).en rfl
def zf4 : Plan := ⟨[(0, [(0, none), (2, none)]), (1, [(2, none), (4, none), (5, none), (6, none)]), (2, [(2, none), (5, none), (6, none), (7, none), (8, none), (9, none)]), (3, [(2, none), (5, none), (6, none), (8, none), (9, none), (10, none), (11, none)]), (4, [(2, none), (5, none), (6, none), (8, none), (9, none), (11, none), (12, none), (13, none)]), (5, [(2, none), (5, none), (6, none), (9, none), (11, none), (12, none), (13, none), (14, some 34), (15, none)]), (6, [(2, none), (5, none), (6, none), (9, none), (11, none), (12, none), (13, none), (14, some 34), (15, none), (16, none)]), (7, [(2, none), (5, none), (12, none), (14, some 34), (16, none), (89, none)]), (8, [(2, none), (3, none)]), (9, [(2, none), (17, none)]), (10, [(2, none), (17, none), (100, none)]), (11, [(2, none), (3, none)]), (12, [(2, none), (3, none)])],
  [],
  [(89, ([(2, none)], [(2, none), (5, none), (12, none), (14, some 34), (16, none)])), (100, ([(2, none)], [(2, none), (17, none)]))]⟩
def zf5 (k : Nat) : Calls' D := ⟨[(126, z8i k), (127, z9c k), (128, zai k), (129, zdk k), (19, za8 k), (130, zf2 k)], [], [], [], []⟩
theorem zf6 (k : Nat) : CallsOK X (zf5 k) := .cons (z8j k) (.cons (z9d k) (.cons (zaj k) (.cons (zdl k) (.cons (za9 k) (.cons (zf3 k) (.nil cod))))))
def zf7 (k : Nat) : Cuts D := ⟨[], []⟩
def zf8 : List Ar := [.c (.ks)]
def zf9 (k : Nat) (x : TupA D zf8) : Option (IResponse × Bool) := I_ParseResponse k x.1
def zfa (r : IResponse × Bool) : VR D := .tup [.agg [.int .i64 r.1.Code, .sl 34 r.1.Fields, .str r.1.Body], .c (.bool r.2)]
theorem zfb (k : Nat) : Does P X 37 zf8 (zf9 k) zfa :=
  does_of (body := bodyOf Go.Proofs.Tryz.f37) (pl := zf4) (k := k) (cu := zf7 k) (tys := [[0, 34, 0], [0]]) (zf6 k) ctx mixed Go.Proofs.Tryz.func37 (by kernel_rfl) (by kernel_rfl) (cutOK_of (l := []) (by kernel_rfl) trivial) fun x R h => by
    simp only [zf9, I_ParseResponse, optK_bind, optK_bif, optK_pure, optK_none, optK_oc, optK_guardT, optK_map] at h
    refine hold_of h ?_
    kernel_rfl
def zfc (k : Nat) : Entry D := entS zf8 (zf9 k) zfa
theorem zfd (k : Nat) : EntryOK X 37 (zfc k) := (zfb k).en rfl
def zfe : Plan := ⟨[(0, [(2, none), (3, none)]), (1, [(2, none), (3, none), (9, none)]), (2, [(4, none)]), (3, [(14, none)]), (4, [(4, none)]), (5, [(4, none)])],
  [],
  [(9, ([], [(2, none), (3, none)])), (14, ([], []))]⟩
def zff (k : Nat) : Calls' D := ⟨[], [], [], [], []⟩
theorem zfg (k : Nat) : CallsOK X (zff k) := .nil cod
def zfh (k : Nat) : Cuts D := ⟨[], []⟩
def zfi : List Ar := [.a [.ks, .ks], .a [.ks, .ks]]
def zfj (k : Nat) (x : TupA D zfi) : Option (Bool) := L_eqField k (⟨x.1.1, x.1.2.1⟩ : IField) (⟨x.2.1.1, x.2.1.2.1⟩ : IField)
def zfk (r : Bool) : VR D := .p (.c (.bool r))
theorem zfl (k : Nat) : Does P X 191 zfi (zfj k) zfk :=
  does_of (body := bodyOf Go.Proofs.Tryz.f191) (pl := zfe) (k := k) (cu := zfh k) (tys := [[0]]) (zfg k) ctx mixed Go.Proofs.Tryz.func191 (by kernel_rfl) (by kernel_rfl) (cutOK_of (l := []) (by kernel_rfl) trivial) fun x R h => by
    simp only [zfj, L_eqField, optK_bind, optK_bif, optK_pure, optK_none, optK_oc, optK_guardT, optK_map] at h
    refine hold_of h ?_
    kernel_rfl
def zfm (k : Nat) : Entry D := entS zfi (zfj k) zfk
theorem zfn (k : Nat) : EntryOK X 191 (zfm k) := (zfl k).en rfl
def zfo : Plan := ⟨[(0, [(0, some 34), (1, some 34)]), (1, [(0, some 34), (1, some 34), (10, none)]), (2, [(4, none)]), (3, [(0, some 34), (1, some 34), (5, none)]), (4, [(0, some 34), (1, some 34), (5, none), (14, none)]), (5, [(0, some 34), (1, some 34), (5, none)]), (6, [(0, some 34), (1, some 34), (5, none), (26, none)]), (7, [(4, none)]), (8, [(4, none)])],
  [(0, []), (1, [(0, some 34), (1, some 34), (5, none)])],
  [(10, ([], [(0, some 34), (1, some 34)])), (14, ([(0, some 34), (1, some 34), (5, none)], [])), (26, ([], [(0, some 34), (1, some 34), (5, none)]))]⟩
def zfp (k : Nat) : Calls' D := ⟨[(191, zfm k)], [], [], [], []⟩
theorem zfq (k : Nat) : CallsOK X (zfp k) := .cons (zfn k) (.nil cod)
def zfr (x : (List IField) × (List IField) × Int × Unit) (o : Oc (Unit) (Bool)) (Q : Ex → VSt D → Prop) (R : VR D → Prop) : Prop := ocP o (fun v0 => Q .normal (mkSt ⟨[], []⟩ [])) (fun w0 => R (.p (.c (.bool w0))))
def zfs (k : Nat) : Cut D := cutS ⟨[(0, .hole), (1, .hole), (5, .hole)], []⟩ [.kl 34, .kl 34, .ki .i64] (fun (x : (List IField) × (List IField) × Int × Unit) => L_eqFieldS_b0 k k x.1 x.2.1 x.2.2.1) zfr
def zft (k : Nat) : Cuts D := ⟨[], []⟩
theorem zfu (k : Nat) : CutFor X zfo k Go.Proofs.Tryz.f118.results.toList (zfs k) (sub (bodyOf Go.Proofs.Tryz.f118) [1, 1, 0, 1]) :=
  loopCut_s (X := X) (sg := [.kl 34, .kl 34, .ki .i64]) (cu := zft k) (cl := zfp k) (tys := [[0]]) (id := 0) (c := sub (bodyOf Go.Proofs.Tryz.f118) [1, 1, 0, 1, 0, 0]) (f := fun n => fun (x : (List IField) × (List IField) × Int × Unit) => L_eqFieldS_b0 k n x.1 x.2.1 x.2.2.1) (zfq k) (cutOK_of (l := []) (by kernel_rfl) trivial) (fun _ => rfl) (fun n x Q R h => by
    simp only [L_eqFieldS_b0, optK_bind, optK_bif, optK_pure, optK_none, optK_oc, optK_guardT, optK_map] at h
    refine hold_of h ?_
    kernel_rfl) (by kernel_rfl)
def zfv (k : Nat) : Cuts D := ⟨[(0, some (zfs k))], []⟩
def zfw : List Ar := [.c (.kl 34), .c (.kl 34)]
def zfx (k : Nat) (x : TupA D zfw) : Option (Bool) := L_eqFieldS k x.1 x.2.1
def zfy (r : Bool) : VR D := .p (.c (.bool r))
theorem zfz (k : Nat) : Does P X 118 zfw (zfx k) zfy :=
  does_of (body := bodyOf Go.Proofs.Tryz.f118) (pl := zfo) (k := k) (cu := zfv k) (tys := [[0]]) (zfq k) ctx mixed Go.Proofs.Tryz.func118 (by kernel_rfl) (by kernel_rfl) (cutOK_of (l := [(zfs k, sub (bodyOf Go.Proofs.Tryz.f118) [1, 1, 0, 1])]) (by kernel_rfl) ⟨zfu k, trivial⟩) fun x R h => by
    simp only [zfx, L_eqFieldS, optK_bind, optK_bif, optK_pure, optK_none, optK_oc, optK_guardT, optK_map] at h
    refine hold_of h ?_
    kernel_rfl
def zg0 (k : Nat) : Entry D := entS zfw (zfx k) zfy
theorem zg1 (k : Nat) : EntryOK X 118 (zg0 k) := (zfz k).en rfl
def zg2 : Plan := ⟨[(0, [(2, none), (3, none)]), (1, [(2, none), (3, none), (9, none)]), (2, [(4, none)]), (3, [(2, none), (3, none), (15, none)]), (4, [(4, none)]), (5, [(20, none)]), (6, [(4, none)]), (7, [(4, none)])],
  [],
  [(9, ([], [(2, none), (3, none)])), (15, ([], [(2, none), (3, none)])), (20, ([], []))]⟩
def zg3 (k : Nat) : Calls' D := ⟨[(118, zg0 k)], [], [], [], []⟩
theorem zg4 (k : Nat) : CallsOK X (zg3 k) := .cons (zg1 k) (.nil cod)
def zg5 (k : Nat) : Cuts D := ⟨[], []⟩
def zg6 : List Ar := [.a [.ki .i64, .kl 34, .ks], .a [.ki .i64, .kl 34, .ks]]
def zg7 (k : Nat) (x : TupA D zg6) : Option (Bool) := L_eqResponse k (⟨x.1.1, x.1.2.1, x.1.2.2.1⟩ : IResponse) (⟨x.2.1.1, x.2.1.2.1, x.2.1.2.2.1⟩ : IResponse)
def zg8 (r : Bool) : VR D := .p (.c (.bool r))
theorem zg9 (k : Nat) : Does P X 29 zg6 (zg7 k) zg8 :=
  does_of (body := bodyOf Go.Proofs.Tryz.f29) (pl := zg2) (k := k) (cu := zg5 k) (tys := [[0]]) (zg4 k) ctx mixed Go.Proofs.Tryz.func29 (by kernel_rfl) (by kernel_rfl) (cutOK_of (l := []) (by kernel_rfl) trivial) fun x R h => by
    simp only [zg7, L_eqResponse, optK_bind, optK_bif, optK_pure, optK_none, optK_oc, optK_guardT, optK_map] at h
    refine hold_of h ?_
    kernel_rfl
def zga (k : Nat) : Entry D := entS zg6 (zg7 k) zg8
theorem zgb (k : Nat) : EntryOK X 29 (zga k) := (zg9 k).en rfl
def zgc : Plan := ⟨[(0, [(0, none)]), (1, [(0, none), (5, none)]), (2, [(2, none)]), (3, [(0, none), (3, none)]), (4, [(0, none), (3, none), (7, none)]), (5, [(0, none), (3, none)]), (6, [(0, none), (3, none)]), (7, [(2, none)])],
  [(0, [(3, none)]), (1, [(0, none), (3, none)])],
  [(5, ([], [(0, none)])), (7, ([(0, none), (3, none)], [(3, none)]))]⟩
def zgd (k : Nat) : Calls' D := ⟨[], [], [], [], []⟩
theorem zge (k : Nat) : CallsOK X (zgd k) := .nil cod
def zgf (x : Int × (List UInt8) × Unit) (o : (List UInt8)) (Q : Ex → VSt D → Prop) (R : VR D → Prop) : Prop := Q .normal (mkSt ⟨[(3, .hole)], []⟩ [.str o])
def zgg (k : Nat) : Cut D := cutS ⟨[(0, .hole), (3, .hole)], []⟩ [.ki .i64, .ks] (fun (x : Int × (List UInt8) × Unit) => L_markText_b0 k k x.1 x.2.1) zgf
def zgh (k : Nat) : Cuts D := ⟨[], []⟩
theorem zgi (k : Nat) : CutFor X zgc k Go.Proofs.Tryz.f193.results.toList (zgg k) (sub (bodyOf Go.Proofs.Tryz.f193) [1, 1, 1, 0]) :=
  loopCut_s (X := X) (sg := [.ki .i64, .ks]) (cu := zgh k) (cl := zgd k) (tys := [[0]]) (id := 0) (c := sub (bodyOf Go.Proofs.Tryz.f193) [1, 1, 1, 0, 0, 0]) (f := fun n => fun (x : Int × (List UInt8) × Unit) => L_markText_b0 k n x.1 x.2.1) (zge k) (cutOK_of (l := []) (by kernel_rfl) trivial) (fun _ => rfl) (fun n x Q R h => by
    simp only [L_markText_b0, optK_bind, optK_bif, optK_pure, optK_none, optK_oc, optK_guardT, optK_map] at h
    refine hold_of h ?_
    kernel_rfl) (by kernel_rfl)
def zgj (k : Nat) : Cuts D := ⟨[(0, some (zgg k))], []⟩
def zgk : List Ar := [.c (.ki .i64)]
def zgl (k : Nat) (x : TupA D zgk) : Option ((List UInt8)) := L_markText k x.1
def zgm (r : (List UInt8)) : VR D := .p (.c (.str r))
theorem zgn (k : Nat) : Does P X 193 zgk (zgl k) zgm :=
  does_of (body := bodyOf Go.Proofs.Tryz.f193) (pl := zgc) (k := k) (cu := zgj k) (tys := [[0]]) (zge k) ctx mixed Go.Proofs.Tryz.func193 (by kernel_rfl) (by kernel_rfl) (cutOK_of (l := [(zgg k, sub (bodyOf Go.Proofs.Tryz.f193) [1, 1, 1, 0])]) (by kernel_rfl) ⟨zgi k, trivial⟩) fun x R h => by
    simp only [zgl, L_markText, optK_bind, optK_bif, optK_pure, optK_none, optK_oc, optK_guardT, optK_map] at h
    refine hold_of h ?_
    kernel_rfl
def zgo (k : Nat) : Entry D := entS zgk (zgl k) zgm
theorem zgp (k : Nat) : EntryOK X 193 (zgo k) := (zgn k).en rfl
def zgq : Plan := ⟨[(0, [(0, some 34), (1, none)]), (1, [(0, some 34), (1, none), (5, none)]), (2, [(0, some 34), (1, none), (5, none), (9, none)]), (3, [(0, some 34), (1, none), (5, none)]), (4, [(0, some 34), (1, none), (5, none)]), (5, [(0, some 34), (1, none), (5, none)]), (6, [(0, some 34), (1, none), (5, none)]), (7, [(0, some 34), (1, none), (5, none)]), (8, [(0, some 34), (4, none)])],
  [(0, [(0, some 34), (1, none)]), (1, [(0, some 34), (1, none), (5, none)])],
  [(9, ([(0, some 34), (1, none), (5, none)], [(0, some 34), (1, none)]))]⟩
def zgr (k : Nat) : Calls' D := ⟨[(193, zgo k)], [], [], [], []⟩
theorem zgs (k : Nat) : CallsOK X (zgr k) := .cons (zgp k) (.nil cod)
def zgt (x : Int × Int × (List IField) × Unit) (o : Int × (List IField)) (Q : Ex → VSt D → Prop) (R : VR D → Prop) : Prop := Q .normal (mkSt ⟨[(0, .ref 500000), (1, .hole)], [(500000, .row)]⟩ [.int .i64 o.1, .sl 34 o.2])
def zgu (k : Nat) : Cut D := cutS ⟨[(0, .ref 500000), (1, .hole), (5, .hole)], [(500000, .row)]⟩ [.ki .i64, .ki .i64, .kl 34] (fun (x : Int × Int × (List IField) × Unit) => L_markFieldS_b0 k k x.1 x.2.1 x.2.2.1) zgt
def zgv (k : Nat) : Cuts D := ⟨[], []⟩
theorem zgw (k : Nat) : CutFor X zgq k [.tmp 4, .tmp 0] (zgu k) (sub (bodyOf Go.Proofs.Tryz.f121) [1, 0, 1]) :=
  loopCut_s (X := X) (sg := [.ki .i64, .ki .i64, .kl 34]) (cu := zgv k) (cl := zgr k) (tys := [[0], [34]]) (id := 0) (c := sub (bodyOf Go.Proofs.Tryz.f121) [1, 0, 1, 0, 0]) (f := fun n => fun (x : Int × Int × (List IField) × Unit) => L_markFieldS_b0 k n x.1 x.2.1 x.2.2.1) (zgs k) (cutOK_of (l := []) (by kernel_rfl) trivial) (fun _ => rfl) (fun n x Q R h => by
    simp only [L_markFieldS_b0, optK_bind, optK_bif, optK_pure, optK_none, optK_oc, optK_guardT, optK_map] at h
    refine hold_of h ?_
    kernel_rfl) (by kernel_rfl)
def zgx (k : Nat) : Cuts D := ⟨[(0, some (zgu k))], []⟩
def zgy (k : Nat) : ArT D (.c (.kl 34)) → Int → Option (Int × ArT D (.c (.kl 34))) := fun x n => L_markFieldS k x n
theorem zgz (k : Nat) : DoesW P X 121 (.c (.kl 34)) (zgy k) :=
  doesW_of (r0 := 4) (body := bodyOf Go.Proofs.Tryz.f121) (pl := zgq) (k := k) (cu := zgx k) (tys := [[0], [34]]) (zgs k) ctx mixed Go.Proofs.Tryz.func121 (by kernel_rfl) (by kernel_rfl) (by kernel_rfl) (by kernel_rfl) (cutOK_of (l := [(zgu k, sub (bodyOf Go.Proofs.Tryz.f121) [1, 0, 1])]) (by kernel_rfl) ⟨zgw k, trivial⟩) fun x n R h => by
    simp only [zgy, L_markFieldS, optK_bind, optK_bif, optK_pure, optK_none, optK_oc, optK_guardT, optK_map] at h
    refine hold_of h ?_
    kernel_rfl
def zh0 (k : Nat) : EntryW D := entW (.c (.kl 34)) (zgy k)
theorem zh1 (k : Nat) : EntryWOK X 121 (zh0 k) := (zgz k).en rfl
def zh2 : Plan := ⟨[(0, [(0, none), (1, none), (2, none)]), (1, [(0, none), (1, none)]), (2, [(0, none), (4, none)])],
  [],
  []⟩
def zh3 (k : Nat) : Calls' D := ⟨[], [(121, zh0 k)], [], [], []⟩
theorem zh4 (k : Nat) : CallsOK X (zh3 k) := .consW (zh1 k) (.nil cod)
def zh5 (k : Nat) : Cuts D := ⟨[], []⟩
theorem zh6 (k : Nat) : DoesW P X 34 (.a [.ki .i64, .kl 34, .ks]) (L_markResponse_f k) :=
  doesW_of (r0 := 4) (body := bodyOf Go.Proofs.Tryz.f34) (pl := zh2) (k := k) (cu := zh5 k) (tys := [[0], [0, 34, 0]]) (zh4 k) ctx mixed Go.Proofs.Tryz.func34 (by kernel_rfl) (by kernel_rfl) (by kernel_rfl) (by kernel_rfl) (cutOK_of (l := []) (by kernel_rfl) trivial) fun x n R h => by
    simp only [L_markResponse_f, L_markResponse, optK_bind, optK_bif, optK_pure, optK_none, optK_oc, optK_guardT, optK_map] at h
    refine hold_of h ?_
    kernel_rfl
def zh7 (k : Nat) : EntryW D := entW (.a [.ki .i64, .kl 34, .ks]) (L_markResponse_f k)
theorem zh8 (k : Nat) : EntryWOK X 34 (zh7 k) := (zh6 k).en rfl
def zh9 : Plan := ⟨[(0, [(0, some 34), (1, none)]), (1, [(0, some 34), (1, none), (5, none)]), (2, [(0, some 34), (1, none), (5, none), (9, none)]), (3, [(0, some 34), (1, none), (5, none)]), (4, [(0, some 34), (1, none), (5, none), (19, none)]), (5, [(4, none)]), (6, [(0, some 34), (1, none), (5, none)]), (7, [(0, some 34), (1, none), (5, none), (29, none)]), (8, [(4, none)]), (9, [(0, some 34), (1, none), (5, none)]), (10, [(4, none)])],
  [(0, [(1, none)]), (1, [(0, some 34), (1, none), (5, none)])],
  [(9, ([(0, some 34), (1, none), (5, none)], [(1, none)])), (19, ([], [(0, some 34), (1, none), (5, none)])), (29, ([], [(0, some 34), (1, none), (5, none)]))]⟩
def zha (k : Nat) : Calls' D := ⟨[(193, zgo k)], [], [], [], []⟩
theorem zhb (k : Nat) : CallsOK X (zha k) := .cons (zgp k) (.nil cod)
def zhc (x : (List IField) × Int × Int × Unit) (o : Oc (Int) (Int)) (Q : Ex → VSt D → Prop) (R : VR D → Prop) : Prop := ocP o (fun v0 => Q .normal (mkSt ⟨[(1, .hole)], []⟩ [.int .i64 v0])) (fun w0 => R (.p (.c (.int .i64 w0))))
def zhd (k : Nat) : Cut D := cutS ⟨[(0, .hole), (1, .hole), (5, .hole)], []⟩ [.kl 34, .ki .i64, .ki .i64] (fun (x : (List IField) × Int × Int × Unit) => L_heldFieldS_b0 k k x.1 x.2.1 x.2.2.1) zhc
def zhe (k : Nat) : Cuts D := ⟨[], []⟩
theorem zhf (k : Nat) : CutFor X zh9 k Go.Proofs.Tryz.f122.results.toList (zhd k) (sub (bodyOf Go.Proofs.Tryz.f122) [1, 0, 1]) :=
  loopCut_s (X := X) (sg := [.kl 34, .ki .i64, .ki .i64]) (cu := zhe k) (cl := zha k) (tys := [[0]]) (id := 0) (c := sub (bodyOf Go.Proofs.Tryz.f122) [1, 0, 1, 0, 0]) (f := fun n => fun (x : (List IField) × Int × Int × Unit) => L_heldFieldS_b0 k n x.1 x.2.1 x.2.2.1) (zhb k) (cutOK_of (l := []) (by kernel_rfl) trivial) (fun _ => rfl) (fun n x Q R h => by
    simp only [L_heldFieldS_b0, optK_bind, optK_bif, optK_pure, optK_none, optK_oc, optK_guardT, optK_map] at h
    refine hold_of h ?_
    kernel_rfl) (by kernel_rfl)
def zhg (k : Nat) : Cuts D := ⟨[(0, some (zhd k))], []⟩
def zhh : List Ar := [.c (.kl 34), .c (.ki .i64)]
def zhi (k : Nat) (x : TupA D zhh) : Option (Int) := L_heldFieldS k x.1 x.2.1
def zhj (r : Int) : VR D := .p (.c (.int .i64 r))
theorem zhk (k : Nat) : Does P X 122 zhh (zhi k) zhj :=
  does_of (body := bodyOf Go.Proofs.Tryz.f122) (pl := zh9) (k := k) (cu := zhg k) (tys := [[0]]) (zhb k) ctx mixed Go.Proofs.Tryz.func122 (by kernel_rfl) (by kernel_rfl) (cutOK_of (l := [(zhd k, sub (bodyOf Go.Proofs.Tryz.f122) [1, 0, 1])]) (by kernel_rfl) ⟨zhf k, trivial⟩) fun x R h => by
    simp only [zhi, L_heldFieldS, optK_bind, optK_bif, optK_pure, optK_none, optK_oc, optK_guardT, optK_map] at h
    refine hold_of h ?_
    kernel_rfl
def zhl (k : Nat) : Entry D := entS zhh (zhi k) zhj
theorem zhm (k : Nat) : EntryOK X 122 (zhl k) := (zhk k).en rfl
def zhn : Plan := ⟨[(0, [(1, none), (2, none)]), (1, [(1, none)]), (2, [(1, none), (10, none)]), (3, [(4, none)]), (4, [(4, none)])],
  [],
  [(10, ([], [(1, none)]))]⟩
def zho (k : Nat) : Calls' D := ⟨[(122, zhl k)], [], [], [], []⟩
theorem zhp (k : Nat) : CallsOK X (zho k) := .cons (zhm k) (.nil cod)
def zhq (k : Nat) : Cuts D := ⟨[], []⟩
def zhr : List Ar := [.a [.ki .i64, .kl 34, .ks], .c (.ki .i64)]
def zhs (k : Nat) (x : TupA D zhr) : Option (Int) := L_heldResponse k (⟨x.1.1, x.1.2.1, x.1.2.2.1⟩ : IResponse) x.2.1
def zht (r : Int) : VR D := .p (.c (.int .i64 r))
theorem zhu (k : Nat) : Does P X 35 zhr (zhs k) zht :=
  does_of (body := bodyOf Go.Proofs.Tryz.f35) (pl := zhn) (k := k) (cu := zhq k) (tys := [[0]]) (zhp k) ctx mixed Go.Proofs.Tryz.func35 (by kernel_rfl) (by kernel_rfl) (cutOK_of (l := []) (by kernel_rfl) trivial) fun x R h => by
    simp only [zhs, L_heldResponse, optK_bind, optK_bif, optK_pure, optK_none, optK_oc, optK_guardT, optK_map] at h
    refine hold_of h ?_
    kernel_rfl
def zhv (k : Nat) : Entry D := entS zhr (zhs k) zht
theorem zhw (k : Nat) : EntryOK X 35 (zhv k) := (zhu k).en rfl
def zhx : Plan := ⟨[(0, [(0, none)]), (1, [(0, none), (13, none)]), (2, [(2, none)]), (3, [(0, none), (3, none), (4, none)]), (4, [(0, none), (3, none), (4, none), (5, none), (6, none)]), (5, [(0, none), (3, none), (4, none), (5, none), (32, none)]), (6, [(2, none)]), (7, [(0, none), (3, none), (4, none), (5, none), (7, none)]), (8, [(0, none), (3, none), (4, none), (5, none), (7, none)]), (9, [(0, none), (3, none), (4, none), (5, none), (7, none), (8, none)]), (10, [(0, none), (3, none), (4, none), (5, none), (7, none), (8, none)]), (11, [(0, none), (3, none), (4, none), (5, none), (7, none), (8, none), (40, none)]), (12, [(2, none)]), (13, [(0, none), (3, none), (4, none), (5, none), (7, none), (43, none)]), (14, [(2, none)]), (15, [(3, none), (4, none), (5, none), (7, none), (9, none), (10, none)]), (16, [(5, none), (7, none), (57, none)]), (17, [(2, none)]), (18, [(5, none), (7, none), (8, none)]), (19, [(7, none), (8, none)]), (20, [(7, none), (8, none), (62, none)]), (21, [(2, none)]), (22, [(65, none)]), (23, [(2, none)]), (24, [(2, none)])],
  [],
  [(13, ([], [(0, none)])), (32, ([], [(0, none), (3, none), (4, none), (5, none)])), (40, ([], [(0, none), (3, none), (4, none), (5, none), (7, none), (8, none)])), (43, ([], [(0, none), (3, none), (4, none), (5, none), (7, none)])), (57, ([], [(5, none), (7, none)])), (62, ([], [(7, none), (8, none)])), (65, ([], []))]⟩
def zhy (k : Nat) : Calls' D := ⟨[(36, z8c k), (37, zfc k), (29, zga k), (35, zhv k)], [(34, zh7 k)], [], [], []⟩
theorem zhz (k : Nat) : CallsOK X (zhy k) := .cons (z8d k) (.cons (zfd k) (.cons (zgb k) (.cons (zhw k) (.consW (zh8 k) (.nil cod)))))
def zi0 (k : Nat) : Cuts D := ⟨[], []⟩
def L_FnExactParseResponse_ar : List Ar := [.c (.ks)]
def L_FnExactParseResponse_f (k : Nat) (x : TupA D L_FnExactParseResponse_ar) : Option (Bool) := L_FnExactParseResponse k x.1
def L_FnExactParseResponse_vr (r : Bool) : VR D := .p (.c (.bool r))
theorem L_FnExactParseResponse_ok (k : Nat) : Does P X 6 L_FnExactParseResponse_ar (L_FnExactParseResponse_f k) L_FnExactParseResponse_vr :=
  does_of (body := bodyOf Go.Proofs.Tryz.f6) (pl := zhx) (k := k) (cu := zi0 k) (tys := [[0]]) (zhz k) ctx mixed Go.Proofs.Tryz.func6 (by kernel_rfl) (by kernel_rfl) (cutOK_of (l := []) (by kernel_rfl) trivial) fun x R h => by
    simp only [L_FnExactParseResponse_f, L_FnExactParseResponse, optK_bind, optK_bif, optK_pure, optK_none, optK_oc, optK_guardT, optK_map] at h
    refine hold_of h ?_
    kernel_rfl
def zi1 (k : Nat) : Entry D := entS L_FnExactParseResponse_ar (L_FnExactParseResponse_f k) L_FnExactParseResponse_vr
theorem zi2 (k : Nat) : EntryOK X 6 (zi1 k) := (L_FnExactParseResponse_ok k).en rfl

end
end Go.YtolmhhnhmbiofaaGreatDoor
