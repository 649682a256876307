/- The machine computes the functions. Nothing is claimed here. -/
import Derived.Test.YtolmhhnhmbiofaaDoorKf
import Derived.Test.YtolmhhnhmbiofaaDoorShelf
import Derived.Shelf.Strings.SlTrimAscii
set_option linter.unusedVariables false
set_option linter.unusedSimpArgs false
set_option maxRecDepth 100000
namespace Go.YtolmhhnhmbiofaaDoor
open Go Go.RowKit Go.Pv
noncomputable section

def z0 : Plan := ⟨[(0, [(0, none), (1, none)]), (1, [(0, none), (1, none), (6, none)]), (2, [(0, none), (1, none), (6, none), (16, none)]), (3, [(0, none), (1, none), (6, none)]), (4, [(0, none), (1, none), (6, none), (29, none)]), (5, [(4, none), (5, none)]), (6, [(4, none), (5, none)])],
  [(0, []), (1, [(0, none), (1, none), (6, none)])],
  [(16, ([(0, none), (1, none), (6, none)], [])), (29, ([(0, none), (1, none), (6, none)], [(0, none), (1, none), (6, none)]))]⟩
def z1 (k : Nat) : Calls' D := ⟨[], [], [], [], []⟩
theorem z2 (k : Nat) : CallsOK X (z1 k) := .nil cod
def z3 (x : (List UInt8) × Int × Int × Unit) (o : Oc (Unit) ((List UInt8) × Int)) (Q : Ex → VSt D → Prop) (R : VR D → Prop) : Prop := ocP o (fun v0 => Q .normal (mkSt ⟨[], []⟩ [])) (fun w0 => R (.tup [.c (.str w0.1), .c (.int .i64 w0.2)]))
def z4 (k : Nat) : Cut D := cutS ⟨[(0, .hole), (1, .hole), (6, .hole)], []⟩ [.ks, .ki .i64, .ki .i64] (fun (x : (List UInt8) × Int × Int × Unit) => S_l5Line_b0 k k x.1 x.2.1 x.2.2.1) z3
def z5 (k : Nat) : Cuts D := ⟨[], []⟩
theorem z6 (k : Nat) : CutFor X z0 k Go.Proofs.Tryd.f19.results.toList (z4 k) (sub (bodyOf Go.Proofs.Tryd.f19) [1, 0, 1]) :=
  loopCut_s (X := X) (sg := [.ks, .ki .i64, .ki .i64]) (cu := z5 k) (cl := z1 k) (tys := [[0], [0]]) (id := 0) (c := sub (bodyOf Go.Proofs.Tryd.f19) [1, 0, 1, 0, 0]) (f := fun n => fun (x : (List UInt8) × Int × Int × Unit) => S_l5Line_b0 k n x.1 x.2.1 x.2.2.1) (z2 k) (cutOK_of (l := []) (by kernel_rfl) trivial) (fun _ => rfl) (fun n x Q R h => by
    simp only [S_l5Line_b0, optK_bind, optK_bif, optK_pure, optK_none, optK_oc, optK_guardT, optK_map] at h
    refine hold_of h ?_
    kernel_rfl) (by kernel_rfl)
def z7 (k : Nat) : Cuts D := ⟨[(0, some (z4 k))], []⟩
def z8 : List Ar := [.c (.ks), .c (.ki .i64)]
def z9 (k : Nat) (x : TupA D z8) : Option ((List UInt8) × Int) := S_l5Line k x.1 x.2.1
def za (r : (List UInt8) × Int) : VR D := .tup [.c (.str r.1), .c (.int .i64 r.2)]
theorem zb (k : Nat) : Does P X 19 z8 (z9 k) za :=
  does_of (body := bodyOf Go.Proofs.Tryd.f19) (pl := z0) (k := k) (cu := z7 k) (tys := [[0], [0]]) (z2 k) ctx mixed Go.Proofs.Tryd.func19 (by kernel_rfl) (by kernel_rfl) (cutOK_of (l := [(z4 k, sub (bodyOf Go.Proofs.Tryd.f19) [1, 0, 1])]) (by kernel_rfl) ⟨z6 k, trivial⟩) fun x R h => by
    simp only [z9, S_l5Line, optK_bind, optK_bif, optK_pure, optK_none, optK_oc, optK_guardT, optK_map] at h
    refine hold_of h ?_
    kernel_rfl
def zc (k : Nat) : Entry D := entS z8 (z9 k) za
theorem zd (k : Nat) : EntryOK X 19 (zc k) := (zb k).en rfl
def ze : Plan := ⟨[(0, [(0, none), (1, none), (2, none)]), (1, [(6, none)])],
  [],
  []⟩
def zf (k : Nat) : Calls' D := ⟨[], [], [], [], []⟩
theorem zg (k : Nat) : CallsOK X (zf k) := .nil cod
def zh (k : Nat) : Cuts D := ⟨[], []⟩
def zi : List Ar := [.c (.ki .i64), .c (.ki .i64), .c (.ki .i64)]
def zj (k : Nat) (x : TupA D zi) : Option (Bool) := S_l1In k x.1 x.2.1 x.2.2.1
def zk (r : Bool) : VR D := .p (.c (.bool r))
theorem zl (k : Nat) : Does P X 21 zi (zj k) zk :=
  does_of (body := bodyOf Go.Proofs.Tryd.f21) (pl := ze) (k := k) (cu := zh k) (tys := [[0]]) (zg k) ctx mixed Go.Proofs.Tryd.func21 (by kernel_rfl) (by kernel_rfl) (cutOK_of (l := []) (by kernel_rfl) trivial) fun x R h => by
    simp only [zj, S_l1In, optK_bind, optK_bif, optK_pure, optK_none, optK_oc, optK_guardT, optK_map] at h
    refine hold_of h ?_
    kernel_rfl
def zm (k : Nat) : Entry D := entS zi (zj k) zk
theorem zn (k : Nat) : EntryOK X 21 (zm k) := (zl k).en rfl
def zo : Plan := ⟨[(0, [(0, none)]), (1, [(3, some 5)]), (2, [(3, some 5), (4, none)]), (3, [(3, some 5), (4, none), (10, none)]), (4, [(3, some 5), (4, none)]), (5, [(3, some 5), (4, none), (18, none)]), (6, [(3, some 5), (4, none)]), (7, [(2, none)])],
  [(0, [(3, some 5)]), (1, [(3, some 5), (4, none)])],
  [(10, ([(3, some 5), (4, none)], [(3, some 5)])), (18, ([(3, some 5), (4, none)], [(3, some 5), (4, none)]))]⟩
def zp (k : Nat) : Calls' D := ⟨[(21, zm k)], [], [], [], []⟩
theorem zq (k : Nat) : CallsOK X (zp k) := .cons (zn k) (.nil cod)
def zr (x : Int × Bool × (List Int) × Unit) (o : (List Int)) (Q : Ex → VSt D → Prop) (R : VR D → Prop) : Prop := Q .normal (mkSt ⟨[(3, .ref 500003), (4, .hole)], [(500003, .row)]⟩ [.int .i64 x.1, .sl 5 o])
def zs (k : Nat) : Cut D := cutS ⟨[(3, .ref 500003), (4, .hole), (18, .hole)], [(500003, .row)]⟩ [.ki .i64, .kb, .kl 5] (fun (x : Int × Bool × (List Int) × Unit) => S_LowerText_c18 k x.1 x.2.1 x.2.2.1) zr
def zt (k : Nat) : Cuts D := ⟨[], []⟩
theorem zu (k : Nat) : CutFor X zo k Go.Proofs.Tryd.f37.results.toList (zs k) (sub (bodyOf Go.Proofs.Tryd.f37) [1, 1, 0, 1, 0, 0, 1, 0, 0, 1]) :=
  joinCut_s (X := X) (sg := [.ki .i64, .kb, .kl 5]) (cu := zt k) (cl := zp k) (tys := [[0]]) (zq k) (cutOK_of (l := []) (by kernel_rfl) trivial) fun x Q R h => by
    simp only [S_LowerText_c18, optK_bind, optK_bif, optK_pure, optK_none, optK_oc, optK_guardT, optK_map] at h
    refine hold_of h ?_
    kernel_rfl
def zv (x : Int × (List Int) × Unit) (o : (List Int)) (Q : Ex → VSt D → Prop) (R : VR D → Prop) : Prop := Q .normal (mkSt ⟨[(3, .ref 500003), (4, .hole)], [(500003, .row)]⟩ [.int .i64 x.1, .sl 5 o])
def zw (k : Nat) : Cut D := cutS ⟨[(3, .ref 500003), (4, .hole)], [(500003, .row)]⟩ [.ki .i64, .kl 5] (fun (x : Int × (List Int) × Unit) => S_LowerText_b1 k x.1 x.2.1) zv
def zx (k : Nat) : Cuts D := ⟨[], [(18, some (zs k))]⟩
theorem zy (k : Nat) : CutFor X zo k Go.Proofs.Tryd.f37.results.toList (zw k) (sub (bodyOf Go.Proofs.Tryd.f37) [1, 1, 0, 1, 0, 0, 1, 0]) :=
  joinCut_s (X := X) (sg := [.ki .i64, .kl 5]) (cu := zx k) (cl := zp k) (tys := [[0]]) (zq k) (cutOK_of (l := [(zs k, sub (bodyOf Go.Proofs.Tryd.f37) [1, 1, 0, 1, 0, 0, 1, 0, 0, 1])]) (by kernel_rfl) ⟨zu k, trivial⟩) fun x Q R h => by
    simp only [S_LowerText_b1, optK_bind, optK_bif, optK_pure, optK_none, optK_oc, optK_guardT, optK_map] at h
    refine hold_of h ?_
    kernel_rfl
def zz (x : Int × (List Int) × Unit) (o : (List Int)) (Q : Ex → VSt D → Prop) (R : VR D → Prop) : Prop := Q .normal (mkSt ⟨[(3, .ref 500003)], [(500003, .row)]⟩ [.sl 5 o])
def z10 (k : Nat) : Cut D := cutS ⟨[(3, .ref 500003), (4, .hole)], [(500003, .row)]⟩ [.ki .i64, .kl 5] (fun (x : Int × (List Int) × Unit) => S_LowerText_b0 k k x.1 x.2.1) zz
def z11 (k : Nat) : Cuts D := ⟨[(1, some (zw k))], []⟩
theorem z12 (k : Nat) : CutFor X zo k Go.Proofs.Tryd.f37.results.toList (z10 k) (sub (bodyOf Go.Proofs.Tryd.f37) [1, 1, 0, 1]) :=
  loopCut_s (X := X) (sg := [.ki .i64, .kl 5]) (cu := z11 k) (cl := zp k) (tys := [[0]]) (id := 0) (c := sub (bodyOf Go.Proofs.Tryd.f37) [1, 1, 0, 1, 0, 0]) (f := fun n => fun (x : Int × (List Int) × Unit) => S_LowerText_b0 k n x.1 x.2.1) (zq k) (cutOK_of (l := [(zw k, sub (bodyOf Go.Proofs.Tryd.f37) [1, 1, 0, 1, 0, 0, 1, 0])]) (by kernel_rfl) ⟨zy k, trivial⟩) (fun _ => rfl) (fun n x Q R h => by
    simp only [S_LowerText_b0, optK_bind, optK_bif, optK_pure, optK_none, optK_oc, optK_guardT, optK_map] at h
    refine hold_of h ?_
    kernel_rfl) (by kernel_rfl)
def z13 (k : Nat) : Cuts D := ⟨[(0, some (z10 k))], []⟩
def z14 : List Ar := [.c (.ks)]
def z15 (k : Nat) (x : TupA D z14) : Option ((List UInt8)) := S_LowerText k x.1
def z16 (r : (List UInt8)) : VR D := .p (.c (.str r))
theorem z17 (k : Nat) : Does P X 37 z14 (z15 k) z16 :=
  does_of (body := bodyOf Go.Proofs.Tryd.f37) (pl := zo) (k := k) (cu := z13 k) (tys := [[0]]) (zq k) ctx mixed Go.Proofs.Tryd.func37 (by kernel_rfl) (by kernel_rfl) (cutOK_of (l := [(z10 k, sub (bodyOf Go.Proofs.Tryd.f37) [1, 1, 0, 1])]) (by kernel_rfl) ⟨z12 k, trivial⟩) fun x R h => by
    simp only [z15, S_LowerText, optK_bind, optK_bif, optK_pure, optK_none, optK_oc, optK_guardT, optK_map] at h
    refine hold_of h ?_
    kernel_rfl
def z18 (k : Nat) : Entry D := entS z14 (z15 k) z16
theorem z19 (k : Nat) : EntryOK X 37 (z18 k) := (z17 k).en rfl
def z1a : Plan := ⟨[(0, [(0, none)]), (1, [(2, none)])],
  [],
  []⟩
def z1b (k : Nat) : Calls' D := ⟨[], [], [], [], []⟩
theorem z1c (k : Nat) : CallsOK X (z1b k) := .nil cod
def z1d (k : Nat) : Cuts D := ⟨[], []⟩
def z1e : List Ar := [.c (.ki .u8)]
def z1f (k : Nat) (x : TupA D z1e) : Option (Bool) := S_l4Blank k x.1
def z1g (r : Bool) : VR D := .p (.c (.bool r))
theorem z1h (k : Nat) : Does P X 55 z1e (z1f k) z1g :=
  does_of (body := bodyOf Go.Proofs.Tryd.f55) (pl := z1a) (k := k) (cu := z1d k) (tys := [[0]]) (z1c k) ctx mixed Go.Proofs.Tryd.func55 (by kernel_rfl) (by kernel_rfl) (cutOK_of (l := []) (by kernel_rfl) trivial) fun x R h => by
    simp only [z1f, S_l4Blank, optK_bind, optK_bif, optK_pure, optK_none, optK_oc, optK_guardT, optK_map] at h
    refine hold_of h ?_
    kernel_rfl
def z1i (k : Nat) : Entry D := entS z1e (z1f k) z1g
theorem z1j (k : Nat) : EntryOK X 55 (z1i k) := (z1h k).en rfl
def z1k : Plan := ⟨[(0, [(0, none)]), (1, [(0, none), (10, none)]), (2, [(0, none)]), (3, [(0, none), (23, none)]), (4, [(0, none)]), (5, [(2, none)])],
  [(0, [(0, none)]), (1, [(0, none)]), (2, [(0, none)]), (3, [(0, none)])],
  [(10, ([(0, none)], [(0, none)])), (23, ([(0, none)], [(0, none)]))]⟩
def z1l (k : Nat) : Calls' D := ⟨[(55, z1i k)], [], [], [], []⟩
theorem z1m (k : Nat) : CallsOK X (z1l k) := .cons (z1j k) (.nil cod)
def z1n (x : (List UInt8) × Unit) (o : (List UInt8)) (Q : Ex → VSt D → Prop) (R : VR D → Prop) : Prop := Q .normal (mkSt ⟨[(0, .hole)], []⟩ [.str o])
def z1o (k : Nat) : Cut D := cutS ⟨[(0, .hole)], []⟩ [.ks] (fun (x : (List UInt8) × Unit) => S_TrimText_b0 k k x.1) z1n
def z1p (k : Nat) : Cuts D := ⟨[], []⟩
theorem z1q (k : Nat) : CutFor X z1k k Go.Proofs.Tryd.f38.results.toList (z1o k) (sub (bodyOf Go.Proofs.Tryd.f38) [1, 0]) :=
  loopCut_s (X := X) (sg := [.ks]) (cu := z1p k) (cl := z1l k) (tys := [[0]]) (id := 0) (c := sub (bodyOf Go.Proofs.Tryd.f38) [1, 0, 0, 0]) (f := fun n => fun (x : (List UInt8) × Unit) => S_TrimText_b0 k n x.1) (z1m k) (cutOK_of (l := []) (by kernel_rfl) trivial) (fun _ => rfl) (fun n x Q R h => by
    simp only [S_TrimText_b0, optK_bind, optK_bif, optK_pure, optK_none, optK_oc, optK_guardT, optK_map] at h
    refine hold_of h ?_
    kernel_rfl) (by kernel_rfl)
def z1r (x : (List UInt8) × Unit) (o : (List UInt8)) (Q : Ex → VSt D → Prop) (R : VR D → Prop) : Prop := Q .normal (mkSt ⟨[(0, .hole)], []⟩ [.str o])
def z1s (k : Nat) : Cut D := cutS ⟨[(0, .hole)], []⟩ [.ks] (fun (x : (List UInt8) × Unit) => S_TrimText_b2 k k x.1) z1r
def z1t (k : Nat) : Cuts D := ⟨[], []⟩
theorem z1u (k : Nat) : CutFor X z1k k Go.Proofs.Tryd.f38.results.toList (z1s k) (sub (bodyOf Go.Proofs.Tryd.f38) [1, 1, 0]) :=
  loopCut_s (X := X) (sg := [.ks]) (cu := z1t k) (cl := z1l k) (tys := [[0]]) (id := 2) (c := sub (bodyOf Go.Proofs.Tryd.f38) [1, 1, 0, 0, 0]) (f := fun n => fun (x : (List UInt8) × Unit) => S_TrimText_b2 k n x.1) (z1m k) (cutOK_of (l := []) (by kernel_rfl) trivial) (fun _ => rfl) (fun n x Q R h => by
    simp only [S_TrimText_b2, optK_bind, optK_bif, optK_pure, optK_none, optK_oc, optK_guardT, optK_map] at h
    refine hold_of h ?_
    kernel_rfl) (by kernel_rfl)
def z1v (k : Nat) : Cuts D := ⟨[(0, some (z1o k)), (2, some (z1s k))], []⟩
def z1w : List Ar := [.c (.ks)]
def z1x (k : Nat) (x : TupA D z1w) : Option ((List UInt8)) := S_TrimText k x.1
def z1y (r : (List UInt8)) : VR D := .p (.c (.str r))
theorem z1z (k : Nat) : Does P X 38 z1w (z1x k) z1y :=
  does_of (body := bodyOf Go.Proofs.Tryd.f38) (pl := z1k) (k := k) (cu := z1v k) (tys := [[0]]) (z1m k) ctx mixed Go.Proofs.Tryd.func38 (by kernel_rfl) (by kernel_rfl) (cutOK_of (l := [(z1o k, sub (bodyOf Go.Proofs.Tryd.f38) [1, 0]), (z1s k, sub (bodyOf Go.Proofs.Tryd.f38) [1, 1, 0])]) (by kernel_rfl) ⟨z1q k, z1u k, trivial⟩) fun x R h => by
    simp only [z1x, S_TrimText, optK_bind, optK_bif, optK_pure, optK_none, optK_oc, optK_guardT, optK_map] at h
    refine hold_of h ?_
    kernel_rfl
def z20 (k : Nat) : Entry D := entS z1w (z1x k) z1y
theorem z21 (k : Nat) : EntryOK X 38 (z20 k) := (z1z k).en rfl
def z22 : Plan := ⟨[(0, [(0, none)]), (1, [(2, none)])],
  [],
  []⟩
def z23 (k : Nat) : Calls' D := ⟨[(21, zm k)], [], [], [], []⟩
theorem z24 (k : Nat) : CallsOK X (z23 k) := .cons (zn k) (.nil cod)
def z25 (k : Nat) : Cuts D := ⟨[], []⟩
def z26 : List Ar := [.c (.ki .u8)]
def z27 (k : Nat) (x : TupA D z26) : Option (Bool) := S_l4Letter k x.1
def z28 (r : Bool) : VR D := .p (.c (.bool r))
theorem z29 (k : Nat) : Does P X 58 z26 (z27 k) z28 :=
  does_of (body := bodyOf Go.Proofs.Tryd.f58) (pl := z22) (k := k) (cu := z25 k) (tys := [[0]]) (z24 k) ctx mixed Go.Proofs.Tryd.func58 (by kernel_rfl) (by kernel_rfl) (cutOK_of (l := []) (by kernel_rfl) trivial) fun x R h => by
    simp only [z27, S_l4Letter, optK_bind, optK_bif, optK_pure, optK_none, optK_oc, optK_guardT, optK_map] at h
    refine hold_of h ?_
    kernel_rfl
def z2a (k : Nat) : Entry D := entS z26 (z27 k) z28
theorem z2b (k : Nat) : EntryOK X 58 (z2a k) := (z29 k).en rfl
def z2c : Plan := ⟨[(0, [(0, none)]), (1, [(0, none), (3, none)]), (2, [(0, none), (3, none), (5, none)]), (3, [(0, none), (3, none)]), (4, [(0, none), (3, none), (11, none)]), (5, [(2, none)]), (6, [(2, none)])],
  [(0, [(0, none)]), (1, [(0, none), (3, none)])],
  [(5, ([(0, none), (3, none)], [(0, none)])), (11, ([], [(0, none), (3, none)]))]⟩
def z2d (k : Nat) : Calls' D := ⟨[(58, z2a k)], [], [], [], []⟩
theorem z2e (k : Nat) : CallsOK X (z2d k) := .cons (z2b k) (.nil cod)
def z2f (x : Int × Int × Unit) (o : Oc (Unit) (Bool)) (Q : Ex → VSt D → Prop) (R : VR D → Prop) : Prop := ocP o (fun v0 => Q .normal (mkSt ⟨[(0, .hole)], []⟩ [.int .u8 x.1])) (fun w0 => R (.p (.c (.bool w0))))
def z2g (k : Nat) : Cut D := cutS ⟨[(0, .hole), (3, .hole)], []⟩ [.ki .u8, .ki .i64] (fun (x : Int × Int × Unit) => S_l4Token_b0 k k x.1 x.2.1) z2f
def z2h (k : Nat) : Cuts D := ⟨[], []⟩
theorem z2i (k : Nat) : CutFor X z2c k Go.Proofs.Tryd.f41.results.toList (z2g k) (sub (bodyOf Go.Proofs.Tryd.f41) [1, 0, 1]) :=
  loopCut_s (X := X) (sg := [.ki .u8, .ki .i64]) (cu := z2h k) (cl := z2d k) (tys := [[0]]) (id := 0) (c := sub (bodyOf Go.Proofs.Tryd.f41) [1, 0, 1, 0, 0]) (f := fun n => fun (x : Int × Int × Unit) => S_l4Token_b0 k n x.1 x.2.1) (z2e k) (cutOK_of (l := []) (by kernel_rfl) trivial) (fun _ => rfl) (fun n x Q R h => by
    simp only [S_l4Token_b0, optK_bind, optK_bif, optK_pure, optK_none, optK_oc, optK_guardT, optK_map] at h
    refine hold_of h ?_
    kernel_rfl) (by kernel_rfl)
def z2j (k : Nat) : Cuts D := ⟨[(0, some (z2g k))], []⟩
def z2k : List Ar := [.c (.ki .u8)]
def z2l (k : Nat) (x : TupA D z2k) : Option (Bool) := S_l4Token k x.1
def z2m (r : Bool) : VR D := .p (.c (.bool r))
theorem z2n (k : Nat) : Does P X 41 z2k (z2l k) z2m :=
  does_of (body := bodyOf Go.Proofs.Tryd.f41) (pl := z2c) (k := k) (cu := z2j k) (tys := [[0]]) (z2e k) ctx mixed Go.Proofs.Tryd.func41 (by kernel_rfl) (by kernel_rfl) (cutOK_of (l := [(z2g k, sub (bodyOf Go.Proofs.Tryd.f41) [1, 0, 1])]) (by kernel_rfl) ⟨z2i k, trivial⟩) fun x R h => by
    simp only [z2l, S_l4Token, optK_bind, optK_bif, optK_pure, optK_none, optK_oc, optK_guardT, optK_map] at h
    refine hold_of h ?_
    kernel_rfl
def z2o (k : Nat) : Entry D := entS z2k (z2l k) z2m
theorem z2p (k : Nat) : EntryOK X 41 (z2o k) := (z2n k).en rfl
def z2q : Plan := ⟨[(0, [(0, none)]), (1, [(0, none), (3, none)]), (2, [(0, none), (3, none), (7, none)]), (3, [(0, none), (3, none)]), (4, [(0, none), (3, none), (14, none)]), (5, [(2, none)]), (6, [(2, none)])],
  [(0, [(0, none)]), (1, [(0, none), (3, none)])],
  [(7, ([(0, none), (3, none)], [(0, none)])), (14, ([], [(0, none), (3, none)]))]⟩
def z2r (k : Nat) : Calls' D := ⟨[(41, z2o k), (21, zm k)], [], [], [], []⟩
theorem z2s (k : Nat) : CallsOK X (z2r k) := .cons (z2p k) (.cons (zn k) (.nil cod))
def z2t (x : (List UInt8) × Int × Unit) (o : Oc (Unit) (Bool)) (Q : Ex → VSt D → Prop) (R : VR D → Prop) : Prop := ocP o (fun v0 => Q .normal (mkSt ⟨[(0, .hole)], []⟩ [.str x.1])) (fun w0 => R (.p (.c (.bool w0))))
def z2u (k : Nat) : Cut D := cutS ⟨[(0, .hole), (3, .hole)], []⟩ [.ks, .ki .i64] (fun (x : (List UInt8) × Int × Unit) => S_IsToken_b0 k k x.1 x.2.1) z2t
def z2v (k : Nat) : Cuts D := ⟨[], []⟩
theorem z2w (k : Nat) : CutFor X z2q k Go.Proofs.Tryd.f23.results.toList (z2u k) (sub (bodyOf Go.Proofs.Tryd.f23) [1, 0, 1]) :=
  loopCut_s (X := X) (sg := [.ks, .ki .i64]) (cu := z2v k) (cl := z2r k) (tys := [[0]]) (id := 0) (c := sub (bodyOf Go.Proofs.Tryd.f23) [1, 0, 1, 0, 0]) (f := fun n => fun (x : (List UInt8) × Int × Unit) => S_IsToken_b0 k n x.1 x.2.1) (z2s k) (cutOK_of (l := []) (by kernel_rfl) trivial) (fun _ => rfl) (fun n x Q R h => by
    simp only [S_IsToken_b0, optK_bind, optK_bif, optK_pure, optK_none, optK_oc, optK_guardT, optK_map] at h
    refine hold_of h ?_
    kernel_rfl) (by kernel_rfl)
def z2x (k : Nat) : Cuts D := ⟨[(0, some (z2u k))], []⟩
def z2y : List Ar := [.c (.ks)]
def z2z (k : Nat) (x : TupA D z2y) : Option (Bool) := S_IsToken k x.1
def z30 (r : Bool) : VR D := .p (.c (.bool r))
theorem z31 (k : Nat) : Does P X 23 z2y (z2z k) z30 :=
  does_of (body := bodyOf Go.Proofs.Tryd.f23) (pl := z2q) (k := k) (cu := z2x k) (tys := [[0]]) (z2s k) ctx mixed Go.Proofs.Tryd.func23 (by kernel_rfl) (by kernel_rfl) (cutOK_of (l := [(z2u k, sub (bodyOf Go.Proofs.Tryd.f23) [1, 0, 1])]) (by kernel_rfl) ⟨z2w k, trivial⟩) fun x R h => by
    simp only [z2z, S_IsToken, optK_bind, optK_bif, optK_pure, optK_none, optK_oc, optK_guardT, optK_map] at h
    refine hold_of h ?_
    kernel_rfl
def z32 (k : Nat) : Entry D := entS z2y (z2z k) z30
theorem z33 (k : Nat) : EntryOK X 23 (z32 k) := (z31 k).en rfl
def z34 : Plan := ⟨[(0, [(0, none)]), (1, [(2, none)])],
  [],
  []⟩
def z35 (k : Nat) : Calls' D := ⟨[(23, z32 k), (37, z18 k)], [], [], [], []⟩
theorem z36 (k : Nat) : CallsOK X (z35 k) := .cons (z33 k) (.cons (z19 k) (.nil cod))
def z37 (k : Nat) : Cuts D := ⟨[], []⟩
def z38 : List Ar := [.c (.ks)]
def z39 (k : Nat) (x : TupA D z38) : Option (Bool) := S_l5Name k x.1
def z3a (r : Bool) : VR D := .p (.c (.bool r))
theorem z3b (k : Nat) : Does P X 56 z38 (z39 k) z3a :=
  does_of (body := bodyOf Go.Proofs.Tryd.f56) (pl := z34) (k := k) (cu := z37 k) (tys := [[0]]) (z36 k) ctx mixed Go.Proofs.Tryd.func56 (by kernel_rfl) (by kernel_rfl) (cutOK_of (l := []) (by kernel_rfl) trivial) fun x R h => by
    simp only [z39, S_l5Name, optK_bind, optK_bif, optK_pure, optK_none, optK_oc, optK_guardT, optK_map] at h
    refine hold_of h ?_
    kernel_rfl
def z3c (k : Nat) : Entry D := entS z38 (z39 k) z3a
theorem z3d (k : Nat) : EntryOK X 56 (z3c k) := (z3b k).en rfl
def z3e : Plan := ⟨[(0, [(0, none)]), (1, [(0, none), (3, none)]), (2, [(0, none), (3, none), (7, none)]), (3, [(0, none), (3, none)]), (4, [(0, none), (3, none), (21, none)]), (5, [(2, none)]), (6, [(2, none)])],
  [(0, [(0, none)]), (1, [(0, none), (3, none)])],
  [(7, ([(0, none), (3, none)], [(0, none)])), (21, ([], [(0, none), (3, none)]))]⟩
def z3f (k : Nat) : Calls' D := ⟨[(21, zm k), (38, z20 k)], [], [], [], []⟩
theorem z3g (k : Nat) : CallsOK X (z3f k) := .cons (zn k) (.cons (z21 k) (.nil cod))
def z3h (x : (List UInt8) × Int × Unit) (o : Oc (Unit) (Bool)) (Q : Ex → VSt D → Prop) (R : VR D → Prop) : Prop := ocP o (fun v0 => Q .normal (mkSt ⟨[(0, .hole)], []⟩ [.str x.1])) (fun w0 => R (.p (.c (.bool w0))))
def z3i (k : Nat) : Cut D := cutS ⟨[(0, .hole), (3, .hole)], []⟩ [.ks, .ki .i64] (fun (x : (List UInt8) × Int × Unit) => S_l5Value_b0 k k x.1 x.2.1) z3h
def z3j (k : Nat) : Cuts D := ⟨[], []⟩
theorem z3k (k : Nat) : CutFor X z3e k Go.Proofs.Tryd.f57.results.toList (z3i k) (sub (bodyOf Go.Proofs.Tryd.f57) [1, 0, 1]) :=
  loopCut_s (X := X) (sg := [.ks, .ki .i64]) (cu := z3j k) (cl := z3f k) (tys := [[0]]) (id := 0) (c := sub (bodyOf Go.Proofs.Tryd.f57) [1, 0, 1, 0, 0]) (f := fun n => fun (x : (List UInt8) × Int × Unit) => S_l5Value_b0 k n x.1 x.2.1) (z3g k) (cutOK_of (l := []) (by kernel_rfl) trivial) (fun _ => rfl) (fun n x Q R h => by
    simp only [S_l5Value_b0, optK_bind, optK_bif, optK_pure, optK_none, optK_oc, optK_guardT, optK_map] at h
    refine hold_of h ?_
    kernel_rfl) (by kernel_rfl)
def z3l (k : Nat) : Cuts D := ⟨[(0, some (z3i k))], []⟩
def z3m : List Ar := [.c (.ks)]
def z3n (k : Nat) (x : TupA D z3m) : Option (Bool) := S_l5Value k x.1
def z3o (r : Bool) : VR D := .p (.c (.bool r))
theorem z3p (k : Nat) : Does P X 57 z3m (z3n k) z3o :=
  does_of (body := bodyOf Go.Proofs.Tryd.f57) (pl := z3e) (k := k) (cu := z3l k) (tys := [[0]]) (z3g k) ctx mixed Go.Proofs.Tryd.func57 (by kernel_rfl) (by kernel_rfl) (cutOK_of (l := [(z3i k, sub (bodyOf Go.Proofs.Tryd.f57) [1, 0, 1])]) (by kernel_rfl) ⟨z3k k, trivial⟩) fun x R h => by
    simp only [z3n, S_l5Value, optK_bind, optK_bif, optK_pure, optK_none, optK_oc, optK_guardT, optK_map] at h
    refine hold_of h ?_
    kernel_rfl
def z3q (k : Nat) : Entry D := entS z3m (z3n k) z3o
theorem z3r (k : Nat) : EntryOK X 57 (z3q k) := (z3p k).en rfl
def z3s : Plan := ⟨[(0, [(0, some 33)]), (1, [(0, some 33), (3, none)]), (2, [(0, some 33), (3, none), (7, none)]), (3, [(0, some 33), (3, none)]), (4, [(0, some 33), (3, none), (25, none)]), (5, [(2, none)]), (6, [(2, none)])],
  [(0, [(0, some 33)]), (1, [(0, some 33), (3, none)])],
  [(7, ([(0, some 33), (3, none)], [(0, some 33)])), (25, ([], [(0, some 33), (3, none)]))]⟩
def z3t (k : Nat) : Calls' D := ⟨[(56, z3c k), (57, z3q k)], [], [], [], []⟩
theorem z3u (k : Nat) : CallsOK X (z3t k) := .cons (z3d k) (.cons (z3r k) (.nil cod))
def z3v (x : (List IField) × Int × Unit) (o : Oc (Unit) (Bool)) (Q : Ex → VSt D → Prop) (R : VR D → Prop) : Prop := ocP o (fun v0 => Q .normal (mkSt ⟨[(0, .hole)], []⟩ [.sl 33 x.1])) (fun w0 => R (.p (.c (.bool w0))))
def z3w (k : Nat) : Cut D := cutS ⟨[(0, .hole), (3, .hole)], []⟩ [.kl 33, .ki .i64] (fun (x : (List IField) × Int × Unit) => S_AreFields_b0 k k x.1 x.2.1) z3v
def z3x (k : Nat) : Cuts D := ⟨[], []⟩
theorem z3y (k : Nat) : CutFor X z3s k Go.Proofs.Tryd.f39.results.toList (z3w k) (sub (bodyOf Go.Proofs.Tryd.f39) [1, 0, 1]) :=
  loopCut_s (X := X) (sg := [.kl 33, .ki .i64]) (cu := z3x k) (cl := z3t k) (tys := [[0]]) (id := 0) (c := sub (bodyOf Go.Proofs.Tryd.f39) [1, 0, 1, 0, 0]) (f := fun n => fun (x : (List IField) × Int × Unit) => S_AreFields_b0 k n x.1 x.2.1) (z3u k) (cutOK_of (l := []) (by kernel_rfl) trivial) (fun _ => rfl) (fun n x Q R h => by
    simp only [S_AreFields_b0, optK_bind, optK_bif, optK_pure, optK_none, optK_oc, optK_guardT, optK_map] at h
    refine hold_of h ?_
    kernel_rfl) (by kernel_rfl)
def z3z (k : Nat) : Cuts D := ⟨[(0, some (z3w k))], []⟩
def z40 : List Ar := [.c (.kl 33)]
def z41 (k : Nat) (x : TupA D z40) : Option (Bool) := S_AreFields k x.1
def z42 (r : Bool) : VR D := .p (.c (.bool r))
theorem z43 (k : Nat) : Does P X 39 z40 (z41 k) z42 :=
  does_of (body := bodyOf Go.Proofs.Tryd.f39) (pl := z3s) (k := k) (cu := z3z k) (tys := [[0]]) (z3u k) ctx mixed Go.Proofs.Tryd.func39 (by kernel_rfl) (by kernel_rfl) (cutOK_of (l := [(z3w k, sub (bodyOf Go.Proofs.Tryd.f39) [1, 0, 1])]) (by kernel_rfl) ⟨z3y k, trivial⟩) fun x R h => by
    simp only [z41, S_AreFields, optK_bind, optK_bif, optK_pure, optK_none, optK_oc, optK_guardT, optK_map] at h
    refine hold_of h ?_
    kernel_rfl
def z44 (k : Nat) : Entry D := entS z40 (z41 k) z42
theorem z45 (k : Nat) : EntryOK X 39 (z44 k) := (z43 k).en rfl
def z46 : Plan := ⟨[(0, [(0, none)]), (1, [(0, none), (4, some 33)]), (2, [(0, none), (4, some 33), (5, none)]), (3, [(0, none), (4, some 33), (5, none), (13, none)]), (4, [(0, none), (4, some 33), (6, none), (7, none)]), (5, [(0, none), (4, some 33), (6, none), (7, none), (8, none)]), (6, [(0, none), (4, some 33), (6, none), (7, none), (8, none), (29, none)]), (7, [(0, none), (4, some 33), (6, none), (7, none), (8, none)]), (8, [(0, none), (4, some 33), (6, none), (7, none), (8, none), (39, none)]), (9, [(2, some 33), (3, none)]), (10, [(0, none), (4, some 33), (7, none)]), (11, [(0, none), (4, some 33), (5, none)]), (12, [(4, some 33), (57, none)]), (13, [(2, some 33), (3, none)]), (14, [(2, some 33), (3, none)])],
  [(0, [(4, some 33)]), (1, [(0, none), (4, some 33), (5, none)]), (2, [(0, none), (4, some 33), (6, none), (7, none), (8, none)]), (3, [(0, none), (4, some 33), (6, none), (7, none), (8, none)])],
  [(13, ([(0, none), (4, some 33), (5, none)], [(4, some 33)])), (29, ([(0, none), (4, some 33), (6, none), (7, none), (8, none)], [(0, none), (4, some 33), (6, none), (7, none), (8, none)])), (39, ([], [(0, none), (4, some 33), (6, none), (7, none), (8, none)])), (57, ([], [(4, some 33)]))]⟩
def z47 (k : Nat) : Calls' D := ⟨[(19, zc k), (37, z18 k), (38, z20 k), (39, z44 k)], [], [], [], []⟩
theorem z48 (k : Nat) : CallsOK X (z47 k) := .cons (zd k) (.cons (z19 k) (.cons (z21 k) (.cons (z45 k) (.nil cod))))
def z49 (x : (List UInt8) × (List UInt8) × Int × Int × (List IField) × Unit) (o : Int) (Q : Ex → VSt D → Prop) (R : VR D → Prop) : Prop := Q .normal (mkSt ⟨[(0, .hole), (4, .ref 500004), (6, .hole), (7, .hole), (8, .hole)], [(500004, .row)]⟩ [.str x.1, .str x.2.1, .int .i64 x.2.2.1, .int .i64 o, .sl 33 x.2.2.2.2.1])
def z4a (k : Nat) : Cut D := cutS ⟨[(0, .hole), (4, .ref 500004), (6, .hole), (7, .hole), (8, .hole)], [(500004, .row)]⟩ [.ks, .ks, .ki .i64, .ki .i64, .kl 33] (fun (x : (List UInt8) × (List UInt8) × Int × Int × (List IField) × Unit) => S_ParseFields_b2 k k x.1 x.2.1 x.2.2.1 x.2.2.2.1 x.2.2.2.2.1) z49
def z4b (k : Nat) : Cuts D := ⟨[], []⟩
theorem z4c (k : Nat) : CutFor X z46 k Go.Proofs.Tryd.f20.results.toList (z4a k) (sub (bodyOf Go.Proofs.Tryd.f20) [1, 1, 1, 0, 0, 0, 1, 0, 1, 1, 0]) :=
  loopCut_s (X := X) (sg := [.ks, .ks, .ki .i64, .ki .i64, .kl 33]) (cu := z4b k) (cl := z47 k) (tys := [[33], [0]]) (id := 2) (c := sub (bodyOf Go.Proofs.Tryd.f20) [1, 1, 1, 0, 0, 0, 1, 0, 1, 1, 0, 0, 0]) (f := fun n => fun (x : (List UInt8) × (List UInt8) × Int × Int × (List IField) × Unit) => S_ParseFields_b2 k n x.1 x.2.1 x.2.2.1 x.2.2.2.1 x.2.2.2.2.1) (z48 k) (cutOK_of (l := []) (by kernel_rfl) trivial) (fun _ => rfl) (fun n x Q R h => by
    simp only [S_ParseFields_b2, optK_bind, optK_bif, optK_pure, optK_none, optK_oc, optK_guardT, optK_map] at h
    refine hold_of h ?_
    kernel_rfl) (by kernel_rfl)
def z4d (x : (List UInt8) × Int × (List IField) × Unit) (o : Oc ((List IField)) ((List IField) × Bool)) (Q : Ex → VSt D → Prop) (R : VR D → Prop) : Prop := ocP o (fun v0 => Q .normal (mkSt ⟨[(4, .ref 500004)], [(500004, .row)]⟩ [.sl 33 v0])) (fun w0 => R (.tup [.c (.sl 33 w0.1), .c (.bool w0.2)]))
def z4e (k : Nat) : Cut D := cutS ⟨[(0, .hole), (4, .ref 500004), (5, .hole)], [(500004, .row)]⟩ [.ks, .ki .i64, .kl 33] (fun (x : (List UInt8) × Int × (List IField) × Unit) => S_ParseFields_b0 k k x.1 x.2.1 x.2.2.1) z4d
def z4f (k : Nat) : Cuts D := ⟨[(2, some (z4a k))], []⟩
theorem z4g (k : Nat) : CutFor X z46 k Go.Proofs.Tryd.f20.results.toList (z4e k) (sub (bodyOf Go.Proofs.Tryd.f20) [1, 1, 1, 0]) :=
  loopCut_s (X := X) (sg := [.ks, .ki .i64, .kl 33]) (cu := z4f k) (cl := z47 k) (tys := [[33], [0]]) (id := 0) (c := sub (bodyOf Go.Proofs.Tryd.f20) [1, 1, 1, 0, 0, 0]) (f := fun n => fun (x : (List UInt8) × Int × (List IField) × Unit) => S_ParseFields_b0 k n x.1 x.2.1 x.2.2.1) (z48 k) (cutOK_of (l := [(z4a k, sub (bodyOf Go.Proofs.Tryd.f20) [1, 1, 1, 0, 0, 0, 1, 0, 1, 1, 0])]) (by kernel_rfl) ⟨z4c k, trivial⟩) (fun _ => rfl) (fun n x Q R h => by
    simp only [S_ParseFields_b0, optK_bind, optK_bif, optK_pure, optK_none, optK_oc, optK_guardT, optK_map] at h
    refine hold_of h ?_
    kernel_rfl) (by kernel_rfl)
def z4h (k : Nat) : Cuts D := ⟨[(0, some (z4e k))], []⟩
def z4i : List Ar := [.c (.ks)]
def z4j (k : Nat) (x : TupA D z4i) : Option ((List IField) × Bool) := S_ParseFields k x.1
def z4k (r : (List IField) × Bool) : VR D := .tup [.c (.sl 33 r.1), .c (.bool r.2)]
theorem z4l (k : Nat) : Does P X 20 z4i (z4j k) z4k :=
  does_of (body := bodyOf Go.Proofs.Tryd.f20) (pl := z46) (k := k) (cu := z4h k) (tys := [[33], [0]]) (z48 k) ctx mixed Go.Proofs.Tryd.func20 (by kernel_rfl) (by kernel_rfl) (cutOK_of (l := [(z4e k, sub (bodyOf Go.Proofs.Tryd.f20) [1, 1, 1, 0])]) (by kernel_rfl) ⟨z4g k, trivial⟩) fun x R h => by
    simp only [z4j, S_ParseFields, optK_bind, optK_bif, optK_pure, optK_none, optK_oc, optK_guardT, optK_map] at h
    refine hold_of h ?_
    kernel_rfl
def z4m (k : Nat) : Entry D := entS z4i (z4j k) z4k
theorem z4n (k : Nat) : EntryOK X 20 (z4m k) := (z4l k).en rfl
def z4o : Plan := ⟨[(0, [(0, none)]), (1, [(0, none), (5, none), (6, none)]), (2, [(0, none), (5, none), (6, none), (7, none)]), (3, [(0, none), (5, none), (6, none), (7, none), (19, none)]), (4, [(0, none), (5, none), (6, none), (7, none), (8, none), (9, none)]), (5, [(0, none), (5, none), (6, none), (7, none), (9, none), (31, none)]), (6, [(5, none), (9, none), (10, some 33), (11, none)]), (7, [(5, none), (9, none), (10, some 33), (41, none)]), (8, [(2, none), (3, some 33), (4, none)]), (9, [(2, none), (3, some 33), (4, none)]), (10, [(0, none), (5, none), (6, none), (7, none)]), (11, [(2, none), (3, some 33), (4, none)])],
  [(0, []), (1, [(0, none), (5, none), (6, none), (7, none)])],
  [(19, ([(0, none), (5, none), (6, none), (7, none)], [])), (31, ([(0, none), (5, none), (6, none), (7, none), (9, none)], [(0, none), (5, none), (7, none), (9, none)])), (41, ([], [(5, none), (9, none), (10, some 33)]))]⟩
def z4p (k : Nat) : Calls' D := ⟨[(19, zc k), (20, z4m k)], [], [], [], []⟩
theorem z4q (k : Nat) : CallsOK X (z4p k) := .cons (zd k) (.cons (z4n k) (.nil cod))
def z4r (x : (List UInt8) × (List UInt8) × Int × Int × Unit) (o : Oc (Unit) ((List UInt8) × (List IField) × Int)) (Q : Ex → VSt D → Prop) (R : VR D → Prop) : Prop := ocP o (fun v0 => Q .normal (mkSt ⟨[], []⟩ [])) (fun w0 => R (.tup [.c (.str w0.1), .c (.sl 33 w0.2.1), .c (.int .i64 w0.2.2)]))
def z4s (k : Nat) : Cut D := cutS ⟨[(0, .hole), (5, .hole), (6, .hole), (7, .hole)], []⟩ [.ks, .ks, .ki .i64, .ki .i64] (fun (x : (List UInt8) × (List UInt8) × Int × Int × Unit) => S_l11Head_b0 k k x.1 x.2.1 x.2.2.1 x.2.2.2.1) z4r
def z4t (k : Nat) : Cuts D := ⟨[], []⟩
theorem z4u (k : Nat) : CutFor X z4o k Go.Proofs.Tryd.f9.results.toList (z4s k) (sub (bodyOf Go.Proofs.Tryd.f9) [1, 1, 1, 0]) :=
  loopCut_s (X := X) (sg := [.ks, .ks, .ki .i64, .ki .i64]) (cu := z4t k) (cl := z4p k) (tys := [[0], [33], [0]]) (id := 0) (c := sub (bodyOf Go.Proofs.Tryd.f9) [1, 1, 1, 0, 0, 0]) (f := fun n => fun (x : (List UInt8) × (List UInt8) × Int × Int × Unit) => S_l11Head_b0 k n x.1 x.2.1 x.2.2.1 x.2.2.2.1) (z4q k) (cutOK_of (l := []) (by kernel_rfl) trivial) (fun _ => rfl) (fun n x Q R h => by
    simp only [S_l11Head_b0, optK_bind, optK_bif, optK_pure, optK_none, optK_oc, optK_guardT, optK_map] at h
    refine hold_of h ?_
    kernel_rfl) (by kernel_rfl)
def z4v (k : Nat) : Cuts D := ⟨[(0, some (z4s k))], []⟩
def z4w : List Ar := [.c (.ks)]
def z4x (k : Nat) (x : TupA D z4w) : Option ((List UInt8) × (List IField) × Int) := S_l11Head k x.1
def z4y (r : (List UInt8) × (List IField) × Int) : VR D := .tup [.c (.str r.1), .c (.sl 33 r.2.1), .c (.int .i64 r.2.2)]
theorem z4z (k : Nat) : Does P X 9 z4w (z4x k) z4y :=
  does_of (body := bodyOf Go.Proofs.Tryd.f9) (pl := z4o) (k := k) (cu := z4v k) (tys := [[0], [33], [0]]) (z4q k) ctx mixed Go.Proofs.Tryd.func9 (by kernel_rfl) (by kernel_rfl) (cutOK_of (l := [(z4s k, sub (bodyOf Go.Proofs.Tryd.f9) [1, 1, 1, 0])]) (by kernel_rfl) ⟨z4u k, trivial⟩) fun x R h => by
    simp only [z4x, S_l11Head, optK_bind, optK_bif, optK_pure, optK_none, optK_oc, optK_guardT, optK_map] at h
    refine hold_of h ?_
    kernel_rfl
def z50 (k : Nat) : Entry D := entS z4w (z4x k) z4y
theorem z51 (k : Nat) : EntryOK X 9 (z50 k) := (z4z k).en rfl
def z52 : Plan := ⟨[(0, [(0, some 33)]), (1, [(2, some 33)])],
  [],
  []⟩
def z53 (k : Nat) : Calls' D := ⟨[], [], [], [], []⟩
theorem z54 (k : Nat) : CallsOK X (z53 k) := .nil cod
def z55 (k : Nat) : Cuts D := ⟨[], []⟩
def z56 : List Ar := [.c (.kl 33)]
def z57 (k : Nat) (x : TupA D z56) : Option ((List IField)) := S_l5Copy k x.1
def z58 (r : (List IField)) : VR D := .p (.c (.sl 33 r))
theorem z59 (k : Nat) : Does P X 10 z56 (z57 k) z58 :=
  does_of (body := bodyOf Go.Proofs.Tryd.f10) (pl := z52) (k := k) (cu := z55 k) (tys := [[33]]) (z54 k) ctx mixed Go.Proofs.Tryd.func10 (by kernel_rfl) (by kernel_rfl) (cutOK_of (l := []) (by kernel_rfl) trivial) fun x R h => by
    simp only [z57, S_l5Copy, optK_bind, optK_bif, optK_pure, optK_none, optK_oc, optK_guardT, optK_map] at h
    refine hold_of h ?_
    kernel_rfl
def z5a (k : Nat) : Entry D := entS z56 (z57 k) z58
theorem z5b (k : Nat) : EntryOK X 10 (z5a k) := (z59 k).en rfl
def z5c : Plan := ⟨[(0, [(0, some 9)]), (1, [(0, some 9), (3, none)]), (2, [(0, some 9), (3, none), (4, none)]), (3, [(0, some 9), (3, none), (4, none), (8, none)]), (4, [(0, some 9), (3, none), (4, none)]), (5, [(0, some 9), (3, none), (4, none), (12, none)]), (6, [(0, some 9), (3, none), (4, none)]), (7, [(0, some 9), (3, none), (4, none)]), (8, [(2, none)])],
  [(0, [(3, none)]), (1, [(0, some 9), (3, none), (4, none)])],
  [(8, ([(0, some 9), (3, none), (4, none)], [(3, none)])), (12, ([(0, some 9), (3, none), (4, none)], [(0, some 9), (3, none), (4, none)]))]⟩
def z5d (k : Nat) : Calls' D := ⟨[], [], [], [], []⟩
theorem z5e (k : Nat) : CallsOK X (z5d k) := .nil cod
def z5f (x : (List (List UInt8)) × (List UInt8) × Int × Bool × Unit) (o : (List UInt8)) (Q : Ex → VSt D → Prop) (R : VR D → Prop) : Prop := Q .normal (mkSt ⟨[(0, .hole), (3, .hole), (4, .hole)], []⟩ [.sl 9 x.1, .str o, .int .i64 x.2.2.1])
def z5g (k : Nat) : Cut D := cutS ⟨[(0, .hole), (3, .hole), (4, .hole), (12, .hole)], []⟩ [.kl 9, .ks, .ki .i64, .kb] (fun (x : (List (List UInt8)) × (List UInt8) × Int × Bool × Unit) => S_JoinList_c12 k x.1 x.2.1 x.2.2.1 x.2.2.2.1) z5f
def z5h (k : Nat) : Cuts D := ⟨[], []⟩
theorem z5i (k : Nat) : CutFor X z5c k Go.Proofs.Tryd.f40.results.toList (z5g k) (sub (bodyOf Go.Proofs.Tryd.f40) [1, 1, 0, 1, 0, 0, 1, 0, 0, 0, 1]) :=
  joinCut_s (X := X) (sg := [.kl 9, .ks, .ki .i64, .kb]) (cu := z5h k) (cl := z5d k) (tys := [[0]]) (z5e k) (cutOK_of (l := []) (by kernel_rfl) trivial) fun x Q R h => by
    simp only [S_JoinList_c12, optK_bind, optK_bif, optK_pure, optK_none, optK_oc, optK_guardT, optK_map] at h
    refine hold_of h ?_
    kernel_rfl
def z5j (x : (List (List UInt8)) × (List UInt8) × Int × Unit) (o : (List UInt8)) (Q : Ex → VSt D → Prop) (R : VR D → Prop) : Prop := Q .normal (mkSt ⟨[(0, .hole), (3, .hole), (4, .hole)], []⟩ [.sl 9 x.1, .str o, .int .i64 x.2.2.1])
def z5k (k : Nat) : Cut D := cutS ⟨[(0, .hole), (3, .hole), (4, .hole)], []⟩ [.kl 9, .ks, .ki .i64] (fun (x : (List (List UInt8)) × (List UInt8) × Int × Unit) => S_JoinList_b1 k x.1 x.2.1 x.2.2.1) z5j
def z5l (k : Nat) : Cuts D := ⟨[], [(12, some (z5g k))]⟩
theorem z5m (k : Nat) : CutFor X z5c k Go.Proofs.Tryd.f40.results.toList (z5k k) (sub (bodyOf Go.Proofs.Tryd.f40) [1, 1, 0, 1, 0, 0, 1, 0]) :=
  joinCut_s (X := X) (sg := [.kl 9, .ks, .ki .i64]) (cu := z5l k) (cl := z5d k) (tys := [[0]]) (z5e k) (cutOK_of (l := [(z5g k, sub (bodyOf Go.Proofs.Tryd.f40) [1, 1, 0, 1, 0, 0, 1, 0, 0, 0, 1])]) (by kernel_rfl) ⟨z5i k, trivial⟩) fun x Q R h => by
    simp only [S_JoinList_b1, optK_bind, optK_bif, optK_pure, optK_none, optK_oc, optK_guardT, optK_map] at h
    refine hold_of h ?_
    kernel_rfl
def z5n (x : (List (List UInt8)) × (List UInt8) × Int × Unit) (o : (List UInt8)) (Q : Ex → VSt D → Prop) (R : VR D → Prop) : Prop := Q .normal (mkSt ⟨[(3, .hole)], []⟩ [.str o])
def z5o (k : Nat) : Cut D := cutS ⟨[(0, .hole), (3, .hole), (4, .hole)], []⟩ [.kl 9, .ks, .ki .i64] (fun (x : (List (List UInt8)) × (List UInt8) × Int × Unit) => S_JoinList_b0 k k x.1 x.2.1 x.2.2.1) z5n
def z5p (k : Nat) : Cuts D := ⟨[(1, some (z5k k))], []⟩
theorem z5q (k : Nat) : CutFor X z5c k Go.Proofs.Tryd.f40.results.toList (z5o k) (sub (bodyOf Go.Proofs.Tryd.f40) [1, 1, 0, 1]) :=
  loopCut_s (X := X) (sg := [.kl 9, .ks, .ki .i64]) (cu := z5p k) (cl := z5d k) (tys := [[0]]) (id := 0) (c := sub (bodyOf Go.Proofs.Tryd.f40) [1, 1, 0, 1, 0, 0]) (f := fun n => fun (x : (List (List UInt8)) × (List UInt8) × Int × Unit) => S_JoinList_b0 k n x.1 x.2.1 x.2.2.1) (z5e k) (cutOK_of (l := [(z5k k, sub (bodyOf Go.Proofs.Tryd.f40) [1, 1, 0, 1, 0, 0, 1, 0])]) (by kernel_rfl) ⟨z5m k, trivial⟩) (fun _ => rfl) (fun n x Q R h => by
    simp only [S_JoinList_b0, optK_bind, optK_bif, optK_pure, optK_none, optK_oc, optK_guardT, optK_map] at h
    refine hold_of h ?_
    kernel_rfl) (by kernel_rfl)
def z5r (k : Nat) : Cuts D := ⟨[(0, some (z5o k))], []⟩
def z5s : List Ar := [.c (.kl 9)]
def z5t (k : Nat) (x : TupA D z5s) : Option ((List UInt8)) := S_JoinList k x.1
def z5u (r : (List UInt8)) : VR D := .p (.c (.str r))
theorem z5v (k : Nat) : Does P X 40 z5s (z5t k) z5u :=
  does_of (body := bodyOf Go.Proofs.Tryd.f40) (pl := z5c) (k := k) (cu := z5r k) (tys := [[0]]) (z5e k) ctx mixed Go.Proofs.Tryd.func40 (by kernel_rfl) (by kernel_rfl) (cutOK_of (l := [(z5o k, sub (bodyOf Go.Proofs.Tryd.f40) [1, 1, 0, 1])]) (by kernel_rfl) ⟨z5q k, trivial⟩) fun x R h => by
    simp only [z5t, S_JoinList, optK_bind, optK_bif, optK_pure, optK_none, optK_oc, optK_guardT, optK_map] at h
    refine hold_of h ?_
    kernel_rfl
def z5w (k : Nat) : Entry D := entS z5s (z5t k) z5u
theorem z5x (k : Nat) : EntryOK X 40 (z5w k) := (z5v k).en rfl
def z5y : Plan := ⟨[(0, [(0, some 33), (1, none)]), (1, [(0, some 33), (1, none), (6, some 9)]), (2, [(0, some 33), (1, none), (6, some 9), (7, none)]), (3, [(0, some 33), (1, none), (6, some 9), (7, none), (12, none)]), (4, [(0, some 33), (1, none), (6, some 9), (7, none)]), (5, [(0, some 33), (1, none), (6, some 9), (7, none), (21, none)]), (6, [(0, some 33), (1, none), (6, some 9), (7, none)]), (7, [(4, none), (5, none)])],
  [(0, [(6, some 9)]), (1, [(0, some 33), (1, none), (6, some 9), (7, none)])],
  [(12, ([(0, some 33), (1, none), (6, some 9), (7, none)], [(6, some 9)])), (21, ([(0, some 33), (1, none), (6, some 9), (7, none)], [(0, some 33), (1, none), (6, some 9), (7, none)]))]⟩
def z5z (k : Nat) : Calls' D := ⟨[(40, z5w k)], [], [], [], []⟩
theorem z60 (k : Nat) : CallsOK X (z5z k) := .cons (z5x k) (.nil cod)
def z61 (x : (List IField) × (List UInt8) × Int × Bool × (List (List UInt8)) × Unit) (o : (List (List UInt8))) (Q : Ex → VSt D → Prop) (R : VR D → Prop) : Prop := Q .normal (mkSt ⟨[(0, .hole), (1, .hole), (6, .ref 500006), (7, .hole)], [(500006, .row)]⟩ [.sl 33 x.1, .str x.2.1, .int .i64 x.2.2.1, .sl 9 o])
def z62 (k : Nat) : Cut D := cutS ⟨[(0, .hole), (1, .hole), (6, .ref 500006), (7, .hole), (21, .hole)], [(500006, .row)]⟩ [.kl 33, .ks, .ki .i64, .kb, .kl 9] (fun (x : (List IField) × (List UInt8) × Int × Bool × (List (List UInt8)) × Unit) => S_GetField_c21 k x.1 x.2.1 x.2.2.1 x.2.2.2.1 x.2.2.2.2.1) z61
def z63 (k : Nat) : Cuts D := ⟨[], []⟩
theorem z64 (k : Nat) : CutFor X z5y k Go.Proofs.Tryd.f22.results.toList (z62 k) (sub (bodyOf Go.Proofs.Tryd.f22) [1, 1, 0, 1, 0, 0, 1, 0, 0, 1]) :=
  joinCut_s (X := X) (sg := [.kl 33, .ks, .ki .i64, .kb, .kl 9]) (cu := z63 k) (cl := z5z k) (tys := [[0], [0]]) (z60 k) (cutOK_of (l := []) (by kernel_rfl) trivial) fun x Q R h => by
    simp only [S_GetField_c21, optK_bind, optK_bif, optK_pure, optK_none, optK_oc, optK_guardT, optK_map] at h
    refine hold_of h ?_
    kernel_rfl
def z65 (x : (List IField) × (List UInt8) × Int × (List (List UInt8)) × Unit) (o : (List (List UInt8))) (Q : Ex → VSt D → Prop) (R : VR D → Prop) : Prop := Q .normal (mkSt ⟨[(0, .hole), (1, .hole), (6, .ref 500006), (7, .hole)], [(500006, .row)]⟩ [.sl 33 x.1, .str x.2.1, .int .i64 x.2.2.1, .sl 9 o])
def z66 (k : Nat) : Cut D := cutS ⟨[(0, .hole), (1, .hole), (6, .ref 500006), (7, .hole)], [(500006, .row)]⟩ [.kl 33, .ks, .ki .i64, .kl 9] (fun (x : (List IField) × (List UInt8) × Int × (List (List UInt8)) × Unit) => S_GetField_b1 k x.1 x.2.1 x.2.2.1 x.2.2.2.1) z65
def z67 (k : Nat) : Cuts D := ⟨[], [(21, some (z62 k))]⟩
theorem z68 (k : Nat) : CutFor X z5y k Go.Proofs.Tryd.f22.results.toList (z66 k) (sub (bodyOf Go.Proofs.Tryd.f22) [1, 1, 0, 1, 0, 0, 1, 0]) :=
  joinCut_s (X := X) (sg := [.kl 33, .ks, .ki .i64, .kl 9]) (cu := z67 k) (cl := z5z k) (tys := [[0], [0]]) (z60 k) (cutOK_of (l := [(z62 k, sub (bodyOf Go.Proofs.Tryd.f22) [1, 1, 0, 1, 0, 0, 1, 0, 0, 1])]) (by kernel_rfl) ⟨z64 k, trivial⟩) fun x Q R h => by
    simp only [S_GetField_b1, optK_bind, optK_bif, optK_pure, optK_none, optK_oc, optK_guardT, optK_map] at h
    refine hold_of h ?_
    kernel_rfl
def z69 (x : (List IField) × (List UInt8) × Int × (List (List UInt8)) × Unit) (o : (List (List UInt8))) (Q : Ex → VSt D → Prop) (R : VR D → Prop) : Prop := Q .normal (mkSt ⟨[(6, .ref 500006)], [(500006, .row)]⟩ [.sl 9 o])
def z6a (k : Nat) : Cut D := cutS ⟨[(0, .hole), (1, .hole), (6, .ref 500006), (7, .hole)], [(500006, .row)]⟩ [.kl 33, .ks, .ki .i64, .kl 9] (fun (x : (List IField) × (List UInt8) × Int × (List (List UInt8)) × Unit) => S_GetField_b0 k k x.1 x.2.1 x.2.2.1 x.2.2.2.1) z69
def z6b (k : Nat) : Cuts D := ⟨[(1, some (z66 k))], []⟩
theorem z6c (k : Nat) : CutFor X z5y k Go.Proofs.Tryd.f22.results.toList (z6a k) (sub (bodyOf Go.Proofs.Tryd.f22) [1, 1, 0, 1]) :=
  loopCut_s (X := X) (sg := [.kl 33, .ks, .ki .i64, .kl 9]) (cu := z6b k) (cl := z5z k) (tys := [[0], [0]]) (id := 0) (c := sub (bodyOf Go.Proofs.Tryd.f22) [1, 1, 0, 1, 0, 0]) (f := fun n => fun (x : (List IField) × (List UInt8) × Int × (List (List UInt8)) × Unit) => S_GetField_b0 k n x.1 x.2.1 x.2.2.1 x.2.2.2.1) (z60 k) (cutOK_of (l := [(z66 k, sub (bodyOf Go.Proofs.Tryd.f22) [1, 1, 0, 1, 0, 0, 1, 0])]) (by kernel_rfl) ⟨z68 k, trivial⟩) (fun _ => rfl) (fun n x Q R h => by
    simp only [S_GetField_b0, optK_bind, optK_bif, optK_pure, optK_none, optK_oc, optK_guardT, optK_map] at h
    refine hold_of h ?_
    kernel_rfl) (by kernel_rfl)
def z6d (k : Nat) : Cuts D := ⟨[(0, some (z6a k))], []⟩
def z6e : List Ar := [.c (.kl 33), .c (.ks)]
def z6f (k : Nat) (x : TupA D z6e) : Option ((List UInt8) × Bool) := S_GetField k x.1 x.2.1
def z6g (r : (List UInt8) × Bool) : VR D := .tup [.c (.str r.1), .c (.bool r.2)]
theorem z6h (k : Nat) : Does P X 22 z6e (z6f k) z6g :=
  does_of (body := bodyOf Go.Proofs.Tryd.f22) (pl := z5y) (k := k) (cu := z6d k) (tys := [[0], [0]]) (z60 k) ctx mixed Go.Proofs.Tryd.func22 (by kernel_rfl) (by kernel_rfl) (cutOK_of (l := [(z6a k, sub (bodyOf Go.Proofs.Tryd.f22) [1, 1, 0, 1])]) (by kernel_rfl) ⟨z6c k, trivial⟩) fun x R h => by
    simp only [z6f, S_GetField, optK_bind, optK_bif, optK_pure, optK_none, optK_oc, optK_guardT, optK_map] at h
    refine hold_of h ?_
    kernel_rfl
def z6i (k : Nat) : Entry D := entS z6e (z6f k) z6g
theorem z6j (k : Nat) : EntryOK X 22 (z6i k) := (z6h k).en rfl
def z6k : Plan := ⟨[(0, [(0, some 33)]), (1, [(0, some 33), (4, none)]), (2, [(2, none)])],
  [],
  []⟩
def z6l (k : Nat) : Calls' D := ⟨[(22, z6i k), (39, z44 k)], [], [], [], []⟩
theorem z6m (k : Nat) : CallsOK X (z6l k) := .cons (z6j k) (.cons (z45 k) (.nil cod))
def z6n (k : Nat) : Cuts D := ⟨[], []⟩
def z6o : List Ar := [.c (.kl 33)]
def z6p (k : Nat) (x : TupA D z6o) : Option (Bool) := S_l11Fields k x.1
def z6q (r : Bool) : VR D := .p (.c (.bool r))
theorem z6r (k : Nat) : Does P X 24 z6o (z6p k) z6q :=
  does_of (body := bodyOf Go.Proofs.Tryd.f24) (pl := z6k) (k := k) (cu := z6n k) (tys := [[0]]) (z6m k) ctx mixed Go.Proofs.Tryd.func24 (by kernel_rfl) (by kernel_rfl) (cutOK_of (l := []) (by kernel_rfl) trivial) fun x R h => by
    simp only [z6p, S_l11Fields, optK_bind, optK_bif, optK_pure, optK_none, optK_oc, optK_guardT, optK_map] at h
    refine hold_of h ?_
    kernel_rfl
def z6s (k : Nat) : Entry D := entS z6o (z6p k) z6q
theorem z6t (k : Nat) : EntryOK X 24 (z6s k) := (z6r k).en rfl
def z6u : Plan := ⟨[(0, [(1, none)]), (1, [(1, none), (3, none)]), (2, [(1, none), (3, none), (13, none)]), (3, [(1, none), (3, none)]), (4, [(1, none), (3, none), (21, none)]), (5, [(2, none)]), (6, [(1, none), (4, none)]), (7, [(1, none), (4, none), (26, none)]), (8, [(1, none), (4, none)]), (9, [(1, none), (4, none), (5, none)]), (10, [(1, none), (4, none), (50, none)]), (11, [(2, none)]), (12, [(1, none), (6, none)]), (13, [(1, none), (6, none), (55, none)]), (14, [(1, none), (6, none)]), (15, [(1, none), (6, none), (64, none)]), (16, [(2, none)]), (17, [(1, none), (8, none)]), (18, [(2, none)])],
  [(0, [(1, none)]), (1, [(1, none), (3, none)]), (2, [(1, none)]), (3, [(1, none), (4, none)]), (4, [(1, none)]), (5, [(1, none), (6, none)])],
  [(13, ([(1, none), (3, none)], [(1, none)])), (21, ([], [(1, none), (3, none)])), (26, ([(1, none), (4, none)], [(1, none)])), (50, ([], [(1, none), (4, none)])), (55, ([(1, none), (6, none)], [(1, none)])), (64, ([], [(1, none), (6, none)]))]⟩
def z6v (k : Nat) : Calls' D := ⟨[(21, zm k), (22, z6i k), (23, z32 k), (24, z6s k)], [], [], [], []⟩
theorem z6w (k : Nat) : CallsOK X (z6v k) := .cons (zn k) (.cons (z6j k) (.cons (z33 k) (.cons (z6t k) (.nil cod))))
def z6x (x : Int × (List UInt8) × (List UInt8) × (List UInt8) × (List IField) × Unit) (o : Oc (Unit) (Bool)) (Q : Ex → VSt D → Prop) (R : VR D → Prop) : Prop := ocP o (fun v0 => Q .normal (mkSt ⟨[(1, .ptr 1 0)], [(1, .var [.hole, .hole, .hole, .hole])]⟩ [.str x.2.1, .str x.2.2.1, .str x.2.2.2.1, .sl 33 x.2.2.2.2.1])) (fun w0 => R (.p (.c (.bool w0))))
def z6y (k : Nat) : Cut D := cutS ⟨[(1, .ptr 1 0), (3, .hole)], [(1, .var [.hole, .hole, .hole, .hole])]⟩ [.ki .i64, .ks, .ks, .ks, .kl 33] (fun (x : Int × (List UInt8) × (List UInt8) × (List UInt8) × (List IField) × Unit) => S_IsRequest_b0 k k x.1 x.2.1 x.2.2.1 x.2.2.2.1 x.2.2.2.2.1) z6x
def z6z (k : Nat) : Cuts D := ⟨[], []⟩
theorem z70 (k : Nat) : CutFor X z6u k Go.Proofs.Tryd.f11.results.toList (z6y k) (sub (bodyOf Go.Proofs.Tryd.f11) [1, 0, 1]) :=
  loopCut_s (X := X) (sg := [.ki .i64, .ks, .ks, .ks, .kl 33]) (cu := z6z k) (cl := z6v k) (tys := [[0]]) (id := 0) (c := sub (bodyOf Go.Proofs.Tryd.f11) [1, 0, 1, 0, 0]) (f := fun n => fun (x : Int × (List UInt8) × (List UInt8) × (List UInt8) × (List IField) × Unit) => S_IsRequest_b0 k n x.1 x.2.1 x.2.2.1 x.2.2.2.1 x.2.2.2.2.1) (z6w k) (cutOK_of (l := []) (by kernel_rfl) trivial) (fun _ => rfl) (fun n x Q R h => by
    simp only [S_IsRequest_b0, optK_bind, optK_bif, optK_pure, optK_none, optK_oc, optK_guardT, optK_map] at h
    refine hold_of h ?_
    kernel_rfl) (by kernel_rfl)
def z71 (x : Int × (List UInt8) × (List UInt8) × (List UInt8) × (List IField) × Unit) (o : Oc (Unit) (Bool)) (Q : Ex → VSt D → Prop) (R : VR D → Prop) : Prop := ocP o (fun v0 => Q .normal (mkSt ⟨[(1, .ptr 1 0)], [(1, .var [.hole, .hole, .hole, .hole])]⟩ [.str x.2.1, .str x.2.2.1, .str x.2.2.2.1, .sl 33 x.2.2.2.2.1])) (fun w0 => R (.p (.c (.bool w0))))
def z72 (k : Nat) : Cut D := cutS ⟨[(1, .ptr 1 0), (4, .hole)], [(1, .var [.hole, .hole, .hole, .hole])]⟩ [.ki .i64, .ks, .ks, .ks, .kl 33] (fun (x : Int × (List UInt8) × (List UInt8) × (List UInt8) × (List IField) × Unit) => S_IsRequest_b2 k k x.1 x.2.1 x.2.2.1 x.2.2.2.1 x.2.2.2.2.1) z71
def z73 (k : Nat) : Cuts D := ⟨[], []⟩
theorem z74 (k : Nat) : CutFor X z6u k Go.Proofs.Tryd.f11.results.toList (z72 k) (sub (bodyOf Go.Proofs.Tryd.f11) [1, 1, 0, 1]) :=
  loopCut_s (X := X) (sg := [.ki .i64, .ks, .ks, .ks, .kl 33]) (cu := z73 k) (cl := z6v k) (tys := [[0]]) (id := 2) (c := sub (bodyOf Go.Proofs.Tryd.f11) [1, 1, 0, 1, 0, 0]) (f := fun n => fun (x : Int × (List UInt8) × (List UInt8) × (List UInt8) × (List IField) × Unit) => S_IsRequest_b2 k n x.1 x.2.1 x.2.2.1 x.2.2.2.1 x.2.2.2.2.1) (z6w k) (cutOK_of (l := []) (by kernel_rfl) trivial) (fun _ => rfl) (fun n x Q R h => by
    simp only [S_IsRequest_b2, optK_bind, optK_bif, optK_pure, optK_none, optK_oc, optK_guardT, optK_map] at h
    refine hold_of h ?_
    kernel_rfl) (by kernel_rfl)
def z75 (x : Int × (List UInt8) × (List UInt8) × (List UInt8) × (List IField) × Unit) (o : Oc (Unit) (Bool)) (Q : Ex → VSt D → Prop) (R : VR D → Prop) : Prop := ocP o (fun v0 => Q .normal (mkSt ⟨[(1, .ptr 1 0)], [(1, .var [.hole, .hole, .hole, .hole])]⟩ [.str x.2.1, .str x.2.2.1, .str x.2.2.2.1, .sl 33 x.2.2.2.2.1])) (fun w0 => R (.p (.c (.bool w0))))
def z76 (k : Nat) : Cut D := cutS ⟨[(1, .ptr 1 0), (6, .hole)], [(1, .var [.hole, .hole, .hole, .hole])]⟩ [.ki .i64, .ks, .ks, .ks, .kl 33] (fun (x : Int × (List UInt8) × (List UInt8) × (List UInt8) × (List IField) × Unit) => S_IsRequest_b4 k k x.1 x.2.1 x.2.2.1 x.2.2.2.1 x.2.2.2.2.1) z75
def z77 (k : Nat) : Cuts D := ⟨[], []⟩
theorem z78 (k : Nat) : CutFor X z6u k Go.Proofs.Tryd.f11.results.toList (z76 k) (sub (bodyOf Go.Proofs.Tryd.f11) [1, 1, 1, 0, 1]) :=
  loopCut_s (X := X) (sg := [.ki .i64, .ks, .ks, .ks, .kl 33]) (cu := z77 k) (cl := z6v k) (tys := [[0]]) (id := 4) (c := sub (bodyOf Go.Proofs.Tryd.f11) [1, 1, 1, 0, 1, 0, 0]) (f := fun n => fun (x : Int × (List UInt8) × (List UInt8) × (List UInt8) × (List IField) × Unit) => S_IsRequest_b4 k n x.1 x.2.1 x.2.2.1 x.2.2.2.1 x.2.2.2.2.1) (z6w k) (cutOK_of (l := []) (by kernel_rfl) trivial) (fun _ => rfl) (fun n x Q R h => by
    simp only [S_IsRequest_b4, optK_bind, optK_bif, optK_pure, optK_none, optK_oc, optK_guardT, optK_map] at h
    refine hold_of h ?_
    kernel_rfl) (by kernel_rfl)
def z79 (k : Nat) : Cuts D := ⟨[(0, some (z6y k)), (2, some (z72 k)), (4, some (z76 k))], []⟩
def z7a : List Ar := [.a [.ks, .ks, .ks, .kl 33]]
def z7b (k : Nat) (x : TupA D z7a) : Option (Bool) := S_IsRequest k (⟨x.1.1, x.1.2.1, x.1.2.2.1, x.1.2.2.2.1⟩ : IRequest)
def z7c (r : Bool) : VR D := .p (.c (.bool r))
theorem z7d (k : Nat) : Does P X 11 z7a (z7b k) z7c :=
  does_of (body := bodyOf Go.Proofs.Tryd.f11) (pl := z6u) (k := k) (cu := z79 k) (tys := [[0]]) (z6w k) ctx mixed Go.Proofs.Tryd.func11 (by kernel_rfl) (by kernel_rfl) (cutOK_of (l := [(z6y k, sub (bodyOf Go.Proofs.Tryd.f11) [1, 0, 1]), (z72 k, sub (bodyOf Go.Proofs.Tryd.f11) [1, 1, 0, 1]), (z76 k, sub (bodyOf Go.Proofs.Tryd.f11) [1, 1, 1, 0, 1])]) (by kernel_rfl) ⟨z70 k, z74 k, z78 k, trivial⟩) fun x R h => by
    simp only [z7b, S_IsRequest, optK_bind, optK_bif, optK_pure, optK_none, optK_oc, optK_guardT, optK_map] at h
    refine hold_of h ?_
    kernel_rfl
def z7e (k : Nat) : Entry D := entS z7a (z7b k) z7c
theorem z7f (k : Nat) : EntryOK X 11 (z7e k) := (z7d k).en rfl
def z7g : Plan := ⟨[(0, [(0, none), (2, none)]), (1, [(0, none), (2, none), (4, none)]), (2, [(0, none), (2, none), (4, none), (5, none), (6, some 33), (7, none)]), (3, [(0, none), (2, none), (4, none), (5, none), (6, some 33), (7, none), (8, none)]), (4, [(2, none), (4, none), (5, none), (6, some 33), (8, none), (46, none)]), (5, [(2, none), (3, none)]), (6, [(2, none), (4, none), (5, none), (6, some 33), (8, none), (9, none)]), (7, [(2, none), (4, none), (5, none), (6, some 33), (8, none), (9, none), (56, none)]), (8, [(2, none), (4, none), (5, none), (6, some 33), (8, none), (9, none)]), (9, [(2, none), (4, none), (5, none), (6, some 33), (8, none), (9, none), (63, none)]), (10, [(2, none), (3, none)]), (11, [(2, none), (4, none), (10, none)]), (12, [(2, none), (4, none), (10, none), (84, none)]), (13, [(2, none), (3, none)]), (14, [(2, none), (3, none)])],
  [(0, [(2, none), (4, none), (5, none), (6, some 33), (8, none), (9, none)]), (1, [(2, none), (4, none), (5, none), (6, some 33), (8, none), (9, none)])],
  [(46, ([(2, none), (4, none)], [(2, none), (4, none), (5, none), (6, some 33), (8, none)])), (56, ([(2, none), (4, none), (5, none), (6, some 33), (8, none), (9, none)], [(2, none), (4, none), (5, none), (6, some 33), (8, none), (9, none)])), (63, ([(2, none), (4, none)], [(2, none), (4, none), (5, none), (6, some 33), (8, none), (9, none), (1000006, some 33)])), (84, ([(2, none), (4, none)], [(2, none), (10, none)]))]⟩
def z7h (k : Nat) : Calls' D := ⟨[(9, z50 k), (10, z5a k), (11, z7e k)], [], [], [], []⟩
theorem z7i (k : Nat) : CallsOK X (z7h k) := .cons (z51 k) (.cons (z5b k) (.cons (z7f k) (.nil cod)))
def z7j (x : (List UInt8) × Int × Int × (List UInt8) × (List UInt8) × (List UInt8) × (List UInt8) × (List UInt8) × (List UInt8) × (List IField) × Unit) (o : Int) (Q : Ex → VSt D → Prop) (R : VR D → Prop) : Prop := Q .normal (mkSt ⟨[(2, .ptr 2 0), (4, .ptr 4 0), (5, .hole), (6, .ref 500006), (8, .hole), (9, .hole)], [(2, .var [.hole, .hole, .hole, .nil]), (4, .var [.hole, .hole, .hole, .nil]), (500006, .row)]⟩ [.str x.1, .int .i64 x.2.1, .int .i64 o, .str x.2.2.2.1, .str x.2.2.2.2.1, .str x.2.2.2.2.2.1, .str x.2.2.2.2.2.2.1, .str x.2.2.2.2.2.2.2.1, .str x.2.2.2.2.2.2.2.2.1, .sl 33 x.2.2.2.2.2.2.2.2.2.1])
def z7k (k : Nat) : Cut D := cutS ⟨[(2, .ptr 2 0), (4, .ptr 4 0), (5, .hole), (6, .ref 500006), (8, .hole), (9, .hole)], [(2, .var [.hole, .hole, .hole, .nil]), (4, .var [.hole, .hole, .hole, .nil]), (500006, .row)]⟩ [.ks, .ki .i64, .ki .i64, .ks, .ks, .ks, .ks, .ks, .ks, .kl 33] (fun (x : (List UInt8) × Int × Int × (List UInt8) × (List UInt8) × (List UInt8) × (List UInt8) × (List UInt8) × (List UInt8) × (List IField) × Unit) => S_ParseRequest_b0 k k x.1 x.2.1 x.2.2.1 x.2.2.2.1 x.2.2.2.2.1 x.2.2.2.2.2.1 x.2.2.2.2.2.2.1 x.2.2.2.2.2.2.2.1 x.2.2.2.2.2.2.2.2.1 x.2.2.2.2.2.2.2.2.2.1) z7j
def z7l (k : Nat) : Cuts D := ⟨[], []⟩
theorem z7m (k : Nat) : CutFor X z7g k Go.Proofs.Tryd.f4.results.toList (z7k k) (sub (bodyOf Go.Proofs.Tryd.f4) [1, 1, 1, 1, 1, 1, 0]) :=
  loopCut_s (X := X) (sg := [.ks, .ki .i64, .ki .i64, .ks, .ks, .ks, .ks, .ks, .ks, .kl 33]) (cu := z7l k) (cl := z7h k) (tys := [[0, 0, 0, 33], [0]]) (id := 0) (c := sub (bodyOf Go.Proofs.Tryd.f4) [1, 1, 1, 1, 1, 1, 0, 0, 0]) (f := fun n => fun (x : (List UInt8) × Int × Int × (List UInt8) × (List UInt8) × (List UInt8) × (List UInt8) × (List UInt8) × (List UInt8) × (List IField) × Unit) => S_ParseRequest_b0 k n x.1 x.2.1 x.2.2.1 x.2.2.2.1 x.2.2.2.2.1 x.2.2.2.2.2.1 x.2.2.2.2.2.2.1 x.2.2.2.2.2.2.2.1 x.2.2.2.2.2.2.2.2.1 x.2.2.2.2.2.2.2.2.2.1) (z7i k) (cutOK_of (l := []) (by kernel_rfl) trivial) (fun _ => rfl) (fun n x Q R h => by
    simp only [S_ParseRequest_b0, optK_bind, optK_bif, optK_pure, optK_none, optK_oc, optK_guardT, optK_map] at h
    refine hold_of h ?_
    kernel_rfl) (by kernel_rfl)
def z7n (k : Nat) : Cuts D := ⟨[(0, some (z7k k))], []⟩
def z7o : List Ar := [.c (.ks)]
def z7p (k : Nat) (x : TupA D z7o) : Option (IRequest × Bool) := S_ParseRequest k x.1
def z7q (r : IRequest × Bool) : VR D := .tup [.agg [.str r.1.Method, .str r.1.Host, .str r.1.Target, .sl 33 r.1.Fields], .c (.bool r.2)]
theorem z7r (k : Nat) : Does P X 4 z7o (z7p k) z7q :=
  does_of (body := bodyOf Go.Proofs.Tryd.f4) (pl := z7g) (k := k) (cu := z7n k) (tys := [[0, 0, 0, 33], [0]]) (z7i k) ctx mixed Go.Proofs.Tryd.func4 (by kernel_rfl) (by kernel_rfl) (cutOK_of (l := [(z7k k, sub (bodyOf Go.Proofs.Tryd.f4) [1, 1, 1, 1, 1, 1, 0])]) (by kernel_rfl) ⟨z7m k, trivial⟩) fun x R h => by
    simp only [z7p, S_ParseRequest, optK_bind, optK_bif, optK_pure, optK_none, optK_oc, optK_guardT, optK_map] at h
    refine hold_of h ?_
    kernel_rfl
def z7s (k : Nat) : Entry D := entS z7o (z7p k) z7q
theorem z7t (k : Nat) : EntryOK X 4 (z7s k) := (z7r k).en rfl
def z7u : List Ar := [.c (.ks), .c (.ks)]
def z7v (k : Nat) (x : TupA D z7u) : Option ((List UInt8) × (List UInt8) × Bool) := strings_Cut k x.1 x.2.1
def z7w (r : (List UInt8) × (List UInt8) × Bool) : VR D := .tup [.c (.str r.1), .c (.str r.2.1), .c (.bool r.2.2)]
theorem z7x (k : Nat) : Does P X 12 z7u (z7v k) z7w := does_cut ⟨Go.Proofs.Tryd.f12, Go.Proofs.Tryd.func12, by kernel_rfl, by kernel_rfl⟩ (fun s sep w hg hs => let ⟨m, hm⟩ := hg; Go.Proofs.Tryd.strings_Cut s sep m w hs hm)
def z7y (k : Nat) : Entry D := entS z7u (z7v k) z7w
theorem z7z (k : Nat) : EntryOK X 12 (z7y k) := (z7x k).en rfl
def z80 : Plan := ⟨[(0, [(0, none), (1, none)]), (1, [(4, none)])],
  [],
  []⟩
def z81 (k : Nat) : Calls' D := ⟨[], [], [], [], []⟩
theorem z82 (k : Nat) : CallsOK X (z81 k) := .nil cod
def z83 (k : Nat) : Cuts D := ⟨[], []⟩
def z84 : List Ar := [.c (.ks), .c (.ks)]
def z85 (k : Nat) (x : TupA D z84) : Option (Bool) := internal_stringslite_HasSuffix k x.1 x.2.1
def z86 (r : Bool) : VR D := .p (.c (.bool r))
theorem z87 (k : Nat) : Does P X 43 z84 (z85 k) z86 :=
  does_of (body := bodyOf Go.Proofs.Tryd.f43) (pl := z80) (k := k) (cu := z83 k) (tys := [[0]]) (z82 k) ctx mixed Go.Proofs.Tryd.func43 (by kernel_rfl) (by kernel_rfl) (cutOK_of (l := []) (by kernel_rfl) trivial) fun x R h => by
    simp only [z85, internal_stringslite_HasSuffix, optK_bind, optK_bif, optK_pure, optK_none, optK_oc, optK_guardT, optK_map] at h
    refine hold_of h ?_
    kernel_rfl
def z88 (k : Nat) : Entry D := entS z84 (z85 k) z86
theorem z89 (k : Nat) : EntryOK X 43 (z88 k) := (z87 k).en rfl
def z8a : Plan := ⟨[(0, [(0, none), (1, none)]), (1, [(0, none), (1, none), (9, none)]), (2, [(4, none), (5, none)]), (3, [(4, none), (5, none)])],
  [],
  [(9, ([(0, none)], [(0, none), (1, none)]))]⟩
def z8b (k : Nat) : Calls' D := ⟨[(43, z88 k)], [], [], [], []⟩
theorem z8c (k : Nat) : CallsOK X (z8b k) := .cons (z89 k) (.nil cod)
def z8d (k : Nat) : Cuts D := ⟨[], []⟩
def z8e : List Ar := [.c (.ks), .c (.ks)]
def z8f (k : Nat) (x : TupA D z8e) : Option ((List UInt8) × Bool) := internal_stringslite_CutSuffix k x.1 x.2.1
def z8g (r : (List UInt8) × Bool) : VR D := .tup [.c (.str r.1), .c (.bool r.2)]
theorem z8h (k : Nat) : Does P X 26 z8e (z8f k) z8g :=
  does_of (body := bodyOf Go.Proofs.Tryd.f26) (pl := z8a) (k := k) (cu := z8d k) (tys := [[0], [0]]) (z8c k) ctx mixed Go.Proofs.Tryd.func26 (by kernel_rfl) (by kernel_rfl) (cutOK_of (l := []) (by kernel_rfl) trivial) fun x R h => by
    simp only [z8f, internal_stringslite_CutSuffix, optK_bind, optK_bif, optK_pure, optK_none, optK_oc, optK_guardT, optK_map] at h
    refine hold_of h ?_
    kernel_rfl
def z8i (k : Nat) : Entry D := entS z8e (z8f k) z8g
theorem z8j (k : Nat) : EntryOK X 26 (z8i k) := (z8h k).en rfl
def z8k : Plan := ⟨[(0, [(0, none), (1, none)]), (1, [(4, none), (5, none)])],
  [],
  []⟩
def z8l (k : Nat) : Calls' D := ⟨[(26, z8i k)], [], [], [], []⟩
theorem z8m (k : Nat) : CallsOK X (z8l k) := .cons (z8j k) (.nil cod)
def z8n (k : Nat) : Cuts D := ⟨[], []⟩
def z8o : List Ar := [.c (.ks), .c (.ks)]
def z8p (k : Nat) (x : TupA D z8o) : Option ((List UInt8) × Bool) := strings_CutSuffix k x.1 x.2.1
def z8q (r : (List UInt8) × Bool) : VR D := .tup [.c (.str r.1), .c (.bool r.2)]
theorem z8r (k : Nat) : Does P X 13 z8o (z8p k) z8q :=
  does_of (body := bodyOf Go.Proofs.Tryd.f13) (pl := z8k) (k := k) (cu := z8n k) (tys := [[0], [0]]) (z8m k) ctx mixed Go.Proofs.Tryd.func13 (by kernel_rfl) (by kernel_rfl) (cutOK_of (l := []) (by kernel_rfl) trivial) fun x R h => by
    simp only [z8p, strings_CutSuffix, optK_bind, optK_bif, optK_pure, optK_none, optK_oc, optK_guardT, optK_map] at h
    refine hold_of h ?_
    kernel_rfl
def z8s (k : Nat) : Entry D := entS z8o (z8p k) z8q
theorem z8t (k : Nat) : EntryOK X 13 (z8s k) := (z8r k).en rfl
def z8u : Plan := ⟨[(0, [(0, none)]), (1, [(3, some 5)]), (2, [(3, some 5), (8, some 5), (9, none), (10, none)]), (3, [(3, some 5), (8, some 5), (9, none), (10, none), (11, none)]), (4, [(3, some 5), (4, none), (5, none), (8, some 5), (9, none), (10, none)]), (5, [(3, some 5), (4, none), (5, none), (8, some 5), (9, none), (10, none), (20, none)]), (6, [(3, some 5), (8, some 5), (9, none), (10, none)]), (7, [(3, some 5), (8, some 5), (9, none), (10, none)]), (8, [(2, none)])],
  [(0, [(3, some 5)]), (1, [(3, some 5), (8, some 5), (9, none), (10, none)])],
  [(11, ([(3, some 5), (8, some 5), (9, none), (10, none)], [(3, some 5)])), (20, ([(3, some 5), (4, none), (5, none), (8, some 5), (9, none), (10, none)], [(3, some 5), (8, some 5), (9, none), (10, none)]))]⟩
def z8v (k : Nat) : Calls' D := ⟨[], [], [], [], []⟩
theorem z8w (k : Nat) : CallsOK X (z8v k) := .nil cod
def z8x (x : Int × Int × Int × Int × Bool × (List Int) × Unit) (o : (List Int)) (Q : Ex → VSt D → Prop) (R : VR D → Prop) : Prop := Q .normal (mkSt ⟨[(3, .ref 500008), (8, .ref 500008), (9, .hole), (10, .hole)], [(500008, .row)]⟩ [.int .i64 x.2.2.1, .int .i64 x.2.2.2.1, .sl 5 o])
def z8y (k : Nat) : Cut D := cutS ⟨[(3, .ref 500008), (4, .hole), (5, .hole), (8, .ref 500008), (9, .hole), (10, .hole), (20, .hole)], [(500008, .row)]⟩ [.ki .i64, .ki .u8, .ki .i64, .ki .i64, .kb, .kl 5] (fun (x : Int × Int × Int × Int × Bool × (List Int) × Unit) => I_LowerText_c20 k x.1 x.2.1 x.2.2.1 x.2.2.2.1 x.2.2.2.2.1 x.2.2.2.2.2.1) z8x
def z8z (k : Nat) : Cuts D := ⟨[], []⟩
theorem z90 (k : Nat) : CutFor X z8u k Go.Proofs.Tryd.f27.results.toList (z8y k) (sub (bodyOf Go.Proofs.Tryd.f27) [1, 1, 0, 1, 0, 0, 1, 1, 0, 0, 1, 1]) :=
  joinCut_s (X := X) (sg := [.ki .i64, .ki .u8, .ki .i64, .ki .i64, .kb, .kl 5]) (cu := z8z k) (cl := z8v k) (tys := [[0]]) (z8w k) (cutOK_of (l := []) (by kernel_rfl) trivial) fun x Q R h => by
    simp only [I_LowerText_c20, optK_bind, optK_bif, optK_pure, optK_none, optK_oc, optK_guardT, optK_map] at h
    refine hold_of h ?_
    kernel_rfl
def z91 (x : Int × Int × (List Int) × Unit) (o : (List Int)) (Q : Ex → VSt D → Prop) (R : VR D → Prop) : Prop := Q .normal (mkSt ⟨[(3, .ref 500008), (8, .ref 500008), (9, .hole), (10, .hole)], [(500008, .row)]⟩ [.int .i64 x.1, .int .i64 x.2.1, .sl 5 o])
def z92 (k : Nat) : Cut D := cutS ⟨[(3, .ref 500008), (8, .ref 500008), (9, .hole), (10, .hole)], [(500008, .row)]⟩ [.ki .i64, .ki .i64, .kl 5] (fun (x : Int × Int × (List Int) × Unit) => I_LowerText_b1 k x.1 x.2.1 x.2.2.1) z91
def z93 (k : Nat) : Cuts D := ⟨[], [(20, some (z8y k))]⟩
theorem z94 (k : Nat) : CutFor X z8u k Go.Proofs.Tryd.f27.results.toList (z92 k) (sub (bodyOf Go.Proofs.Tryd.f27) [1, 1, 0, 1, 0, 0, 1, 1, 0]) :=
  joinCut_s (X := X) (sg := [.ki .i64, .ki .i64, .kl 5]) (cu := z93 k) (cl := z8v k) (tys := [[0]]) (z8w k) (cutOK_of (l := [(z8y k, sub (bodyOf Go.Proofs.Tryd.f27) [1, 1, 0, 1, 0, 0, 1, 1, 0, 0, 1, 1])]) (by kernel_rfl) ⟨z90 k, trivial⟩) fun x Q R h => by
    simp only [I_LowerText_b1, optK_bind, optK_bif, optK_pure, optK_none, optK_oc, optK_guardT, optK_map] at h
    refine hold_of h ?_
    kernel_rfl
def z95 (x : Int × Int × (List Int) × Unit) (o : (List Int)) (Q : Ex → VSt D → Prop) (R : VR D → Prop) : Prop := Q .normal (mkSt ⟨[(3, .ref 500003)], [(500003, .row)]⟩ [.sl 5 o])
def z96 (k : Nat) : Cut D := cutS ⟨[(3, .ref 500008), (8, .ref 500008), (9, .hole), (10, .hole)], [(500008, .row)]⟩ [.ki .i64, .ki .i64, .kl 5] (fun (x : Int × Int × (List Int) × Unit) => I_LowerText_b0 k k x.1 x.2.1 x.2.2.1) z95
def z97 (k : Nat) : Cuts D := ⟨[(1, some (z92 k))], []⟩
theorem z98 (k : Nat) : CutFor X z8u k Go.Proofs.Tryd.f27.results.toList (z96 k) (sub (bodyOf Go.Proofs.Tryd.f27) [1, 1, 0, 1]) :=
  loopCut_s (X := X) (sg := [.ki .i64, .ki .i64, .kl 5]) (cu := z97 k) (cl := z8v k) (tys := [[0]]) (id := 0) (c := sub (bodyOf Go.Proofs.Tryd.f27) [1, 1, 0, 1, 0, 0]) (f := fun n => fun (x : Int × Int × (List Int) × Unit) => I_LowerText_b0 k n x.1 x.2.1 x.2.2.1) (z8w k) (cutOK_of (l := [(z92 k, sub (bodyOf Go.Proofs.Tryd.f27) [1, 1, 0, 1, 0, 0, 1, 1, 0])]) (by kernel_rfl) ⟨z94 k, trivial⟩) (fun _ => rfl) (fun n x Q R h => by
    simp only [I_LowerText_b0, optK_bind, optK_bif, optK_pure, optK_none, optK_oc, optK_guardT, optK_map] at h
    refine hold_of h ?_
    kernel_rfl) (by kernel_rfl)
def z99 (k : Nat) : Cuts D := ⟨[(0, some (z96 k))], []⟩
def z9a : List Ar := [.c (.ks)]
def z9b (k : Nat) (x : TupA D z9a) : Option ((List UInt8)) := I_LowerText k x.1
def z9c (r : (List UInt8)) : VR D := .p (.c (.str r))
theorem z9d (k : Nat) : Does P X 27 z9a (z9b k) z9c :=
  does_of (body := bodyOf Go.Proofs.Tryd.f27) (pl := z8u) (k := k) (cu := z99 k) (tys := [[0]]) (z8w k) ctx mixed Go.Proofs.Tryd.func27 (by kernel_rfl) (by kernel_rfl) (cutOK_of (l := [(z96 k, sub (bodyOf Go.Proofs.Tryd.f27) [1, 1, 0, 1])]) (by kernel_rfl) ⟨z98 k, trivial⟩) fun x R h => by
    simp only [z9b, I_LowerText, optK_bind, optK_bif, optK_pure, optK_none, optK_oc, optK_guardT, optK_map] at h
    refine hold_of h ?_
    kernel_rfl
def z9e (k : Nat) : Entry D := entS z9a (z9b k) z9c
theorem z9f (k : Nat) : EntryOK X 27 (z9e k) := (z9d k).en rfl
def z9g : List Ar := [.c (.ks), .c (.ks)]
def z9h (k : Nat) (x : TupA D z9g) : Option ((List UInt8)) := strings_Trim k x.1 x.2.1
def z9i (r : (List UInt8)) : VR D := .p (.c (.str r))
theorem z9j (k : Nat) : Does P X 44 z9g (z9h k) z9i := does_trim ⟨Go.Proofs.Tryd.f44, Go.Proofs.Tryd.func44, by kernel_rfl, by kernel_rfl⟩ (fun s cs w hg h1 h2 h3 => Go.Proofs.Any.strings_Trim_laid Go.Proofs.Tryd.lays160 (by kernel_rfl) s cs w h1 h2 h3)
def z9k (k : Nat) : Entry D := entS z9g (z9h k) z9i
theorem z9l (k : Nat) : EntryOK X 44 (z9k k) := (z9j k).en rfl
def z9m : Plan := ⟨[(0, [(0, none)]), (1, [(2, none)])],
  [],
  []⟩
def z9n (k : Nat) : Calls' D := ⟨[(44, z9k k)], [], [], [], []⟩
theorem z9o (k : Nat) : CallsOK X (z9n k) := .cons (z9l k) (.nil cod)
def z9p (k : Nat) : Cuts D := ⟨[], []⟩
def z9q : List Ar := [.c (.ks)]
def z9r (k : Nat) (x : TupA D z9q) : Option ((List UInt8)) := I_TrimText k x.1
def z9s (r : (List UInt8)) : VR D := .p (.c (.str r))
theorem z9t (k : Nat) : Does P X 28 z9q (z9r k) z9s :=
  does_of (body := bodyOf Go.Proofs.Tryd.f28) (pl := z9m) (k := k) (cu := z9p k) (tys := [[0]]) (z9o k) ctx mixed Go.Proofs.Tryd.func28 (by kernel_rfl) (by kernel_rfl) (cutOK_of (l := []) (by kernel_rfl) trivial) fun x R h => by
    simp only [z9r, I_TrimText, optK_bind, optK_bif, optK_pure, optK_none, optK_oc, optK_guardT, optK_map] at h
    refine hold_of h ?_
    kernel_rfl
def z9u (k : Nat) : Entry D := entS z9q (z9r k) z9s
theorem z9v (k : Nat) : EntryOK X 28 (z9u k) := (z9t k).en rfl
def z9w : List Ar := [.c (.ks), .c (.ki .u8)]
def z9x (k : Nat) (x : TupA D z9w) : Option (Int) := strings_IndexByte k x.1 x.2.1
def z9y (r : Int) : VR D := .p (.c (.int .i64 r))
theorem z9z (k : Nat) : Does P X 70 z9w (z9x k) z9y := does_indexByte ⟨Go.Proofs.Tryd.f70, Go.Proofs.Tryd.func70, by kernel_rfl, by kernel_rfl⟩ (fun s c w hg => Go.Proofs.Tryd.strings_IndexByte s c w)
def za0 (k : Nat) : Entry D := entS z9w (z9x k) z9y
theorem za1 (k : Nat) : EntryOK X 70 (za0 k) := (z9z k).en rfl
def za2 : Plan := ⟨[(0, [(0, none)]), (1, [(2, none)])],
  [],
  []⟩
def za3 (k : Nat) : Calls' D := ⟨[(70, za0 k)], [], [], [], []⟩
theorem za4 (k : Nat) : CallsOK X (za3 k) := .cons (za1 k) (.nil cod)
def za5 (k : Nat) : Cuts D := ⟨[], []⟩
def za6 : List Ar := [.c (.ki .u8)]
def za7 (k : Nat) (x : TupA D za6) : Option (Bool) := I_isTokenByte k x.1
def za8 (r : Bool) : VR D := .p (.c (.bool r))
theorem za9 (k : Nat) : Does P X 46 za6 (za7 k) za8 :=
  does_of (body := bodyOf Go.Proofs.Tryd.f46) (pl := za2) (k := k) (cu := za5 k) (tys := [[0]]) (za4 k) ctx mixed Go.Proofs.Tryd.func46 (by kernel_rfl) (by kernel_rfl) (cutOK_of (l := []) (by kernel_rfl) trivial) fun x R h => by
    simp only [za7, I_isTokenByte, optK_bind, optK_bif, optK_pure, optK_none, optK_oc, optK_guardT, optK_map] at h
    refine hold_of h ?_
    kernel_rfl
def zaa (k : Nat) : Entry D := entS za6 (za7 k) za8
theorem zab (k : Nat) : EntryOK X 46 (zaa k) := (za9 k).en rfl
def zac : Plan := ⟨[(0, [(0, none), (1, none), (2, none)]), (1, [(6, none)])],
  [],
  []⟩
def zad (k : Nat) : Calls' D := ⟨[], [], [], [], []⟩
theorem zae (k : Nat) : CallsOK X (zad k) := .nil cod
def zaf (k : Nat) : Cuts D := ⟨[], []⟩
def zag : List Ar := [.c (.ki .i64), .c (.ki .i64), .c (.ki .i64)]
def zah (k : Nat) (x : TupA D zag) : Option (Bool) := I_inRange k x.1 x.2.1 x.2.2.1
def zai (r : Bool) : VR D := .p (.c (.bool r))
theorem zaj (k : Nat) : Does P X 33 zag (zah k) zai :=
  does_of (body := bodyOf Go.Proofs.Tryd.f33) (pl := zac) (k := k) (cu := zaf k) (tys := [[0]]) (zae k) ctx mixed Go.Proofs.Tryd.func33 (by kernel_rfl) (by kernel_rfl) (cutOK_of (l := []) (by kernel_rfl) trivial) fun x R h => by
    simp only [zah, I_inRange, optK_bind, optK_bif, optK_pure, optK_none, optK_oc, optK_guardT, optK_map] at h
    refine hold_of h ?_
    kernel_rfl
def zak (k : Nat) : Entry D := entS zag (zah k) zai
theorem zal (k : Nat) : EntryOK X 33 (zak k) := (zaj k).en rfl
def zam : Plan := ⟨[(0, [(0, none)]), (1, [(0, none), (5, none), (6, none)]), (2, [(0, none), (5, none), (6, none), (7, none)]), (3, [(0, none), (3, none), (5, none), (6, none)]), (4, [(0, none), (5, none), (6, none), (13, none)]), (5, [(2, none)]), (6, [(0, none), (5, none), (6, none)]), (7, [(2, none)])],
  [(0, [(0, none)]), (1, [(0, none), (5, none), (6, none)])],
  [(7, ([(0, none), (5, none), (6, none)], [(0, none)])), (13, ([], [(0, none), (5, none), (6, none)]))]⟩
def zan (k : Nat) : Calls' D := ⟨[(46, zaa k), (33, zak k)], [], [], [], []⟩
theorem zao (k : Nat) : CallsOK X (zan k) := .cons (zab k) (.cons (zal k) (.nil cod))
def zap (x : (List UInt8) × Int × Int × Unit) (o : Oc (Unit) (Bool)) (Q : Ex → VSt D → Prop) (R : VR D → Prop) : Prop := ocP o (fun v0 => Q .normal (mkSt ⟨[(0, .hole)], []⟩ [.str x.1])) (fun w0 => R (.p (.c (.bool w0))))
def zaq (k : Nat) : Cut D := cutS ⟨[(0, .hole), (5, .hole), (6, .hole)], []⟩ [.ks, .ki .i64, .ki .i64] (fun (x : (List UInt8) × Int × Int × Unit) => I_IsToken_b0 k k x.1 x.2.1 x.2.2.1) zap
def zar (k : Nat) : Cuts D := ⟨[], []⟩
theorem zas (k : Nat) : CutFor X zam k Go.Proofs.Tryd.f30.results.toList (zaq k) (sub (bodyOf Go.Proofs.Tryd.f30) [1, 0, 1]) :=
  loopCut_s (X := X) (sg := [.ks, .ki .i64, .ki .i64]) (cu := zar k) (cl := zan k) (tys := [[0]]) (id := 0) (c := sub (bodyOf Go.Proofs.Tryd.f30) [1, 0, 1, 0, 0]) (f := fun n => fun (x : (List UInt8) × Int × Int × Unit) => I_IsToken_b0 k n x.1 x.2.1 x.2.2.1) (zao k) (cutOK_of (l := []) (by kernel_rfl) trivial) (fun _ => rfl) (fun n x Q R h => by
    simp only [I_IsToken_b0, optK_bind, optK_bif, optK_pure, optK_none, optK_oc, optK_guardT, optK_map] at h
    refine hold_of h ?_
    kernel_rfl) (by kernel_rfl)
def zat (k : Nat) : Cuts D := ⟨[(0, some (zaq k))], []⟩
def zau : List Ar := [.c (.ks)]
def zav (k : Nat) (x : TupA D zau) : Option (Bool) := I_IsToken k x.1
def zaw (r : Bool) : VR D := .p (.c (.bool r))
theorem zax (k : Nat) : Does P X 30 zau (zav k) zaw :=
  does_of (body := bodyOf Go.Proofs.Tryd.f30) (pl := zam) (k := k) (cu := zat k) (tys := [[0]]) (zao k) ctx mixed Go.Proofs.Tryd.func30 (by kernel_rfl) (by kernel_rfl) (cutOK_of (l := [(zaq k, sub (bodyOf Go.Proofs.Tryd.f30) [1, 0, 1])]) (by kernel_rfl) ⟨zas k, trivial⟩) fun x R h => by
    simp only [zav, I_IsToken, optK_bind, optK_bif, optK_pure, optK_none, optK_oc, optK_guardT, optK_map] at h
    refine hold_of h ?_
    kernel_rfl
def zay (k : Nat) : Entry D := entS zau (zav k) zaw
theorem zaz (k : Nat) : EntryOK X 30 (zay k) := (zax k).en rfl
def zb0 : Plan := ⟨[(0, [(0, none)]), (1, [(0, none), (5, none), (6, none)]), (2, [(0, none), (5, none), (6, none), (7, none)]), (3, [(0, none), (3, none), (5, none), (6, none)]), (4, [(0, none), (5, none), (6, none), (20, none)]), (5, [(2, none)]), (6, [(0, none), (5, none), (6, none)]), (7, [(2, none)])],
  [(0, [(0, none)]), (1, [(0, none), (5, none), (6, none)])],
  [(7, ([(0, none), (5, none), (6, none)], [(0, none)])), (20, ([], [(0, none), (5, none), (6, none)]))]⟩
def zb1 (k : Nat) : Calls' D := ⟨[(33, zak k), (28, z9u k)], [], [], [], []⟩
theorem zb2 (k : Nat) : CallsOK X (zb1 k) := .cons (zal k) (.cons (z9v k) (.nil cod))
def zb3 (x : (List UInt8) × Int × Int × Unit) (o : Oc (Unit) (Bool)) (Q : Ex → VSt D → Prop) (R : VR D → Prop) : Prop := ocP o (fun v0 => Q .normal (mkSt ⟨[(0, .hole)], []⟩ [.str x.1])) (fun w0 => R (.p (.c (.bool w0))))
def zb4 (k : Nat) : Cut D := cutS ⟨[(0, .hole), (5, .hole), (6, .hole)], []⟩ [.ks, .ki .i64, .ki .i64] (fun (x : (List UInt8) × Int × Int × Unit) => I_isFieldValue_b0 k k x.1 x.2.1 x.2.2.1) zb3
def zb5 (k : Nat) : Cuts D := ⟨[], []⟩
theorem zb6 (k : Nat) : CutFor X zb0 k Go.Proofs.Tryd.f45.results.toList (zb4 k) (sub (bodyOf Go.Proofs.Tryd.f45) [1, 0, 1]) :=
  loopCut_s (X := X) (sg := [.ks, .ki .i64, .ki .i64]) (cu := zb5 k) (cl := zb1 k) (tys := [[0]]) (id := 0) (c := sub (bodyOf Go.Proofs.Tryd.f45) [1, 0, 1, 0, 0]) (f := fun n => fun (x : (List UInt8) × Int × Int × Unit) => I_isFieldValue_b0 k n x.1 x.2.1 x.2.2.1) (zb2 k) (cutOK_of (l := []) (by kernel_rfl) trivial) (fun _ => rfl) (fun n x Q R h => by
    simp only [I_isFieldValue_b0, optK_bind, optK_bif, optK_pure, optK_none, optK_oc, optK_guardT, optK_map] at h
    refine hold_of h ?_
    kernel_rfl) (by kernel_rfl)
def zb7 (k : Nat) : Cuts D := ⟨[(0, some (zb4 k))], []⟩
def zb8 : List Ar := [.c (.ks)]
def zb9 (k : Nat) (x : TupA D zb8) : Option (Bool) := I_isFieldValue k x.1
def zba (r : Bool) : VR D := .p (.c (.bool r))
theorem zbb (k : Nat) : Does P X 45 zb8 (zb9 k) zba :=
  does_of (body := bodyOf Go.Proofs.Tryd.f45) (pl := zb0) (k := k) (cu := zb7 k) (tys := [[0]]) (zb2 k) ctx mixed Go.Proofs.Tryd.func45 (by kernel_rfl) (by kernel_rfl) (cutOK_of (l := [(zb4 k, sub (bodyOf Go.Proofs.Tryd.f45) [1, 0, 1])]) (by kernel_rfl) ⟨zb6 k, trivial⟩) fun x R h => by
    simp only [zb9, I_isFieldValue, optK_bind, optK_bif, optK_pure, optK_none, optK_oc, optK_guardT, optK_map] at h
    refine hold_of h ?_
    kernel_rfl
def zbc (k : Nat) : Entry D := entS zb8 (zb9 k) zba
theorem zbd (k : Nat) : EntryOK X 45 (zbc k) := (zbb k).en rfl
def zbe : Plan := ⟨[(0, [(0, some 33)]), (1, [(0, some 33), (5, some 33), (6, none), (7, none)]), (2, [(0, some 33), (5, some 33), (6, none), (7, none), (8, none)]), (3, [(0, some 33), (4, none), (5, some 33), (6, none), (7, none)]), (4, [(0, some 33), (5, some 33), (6, none), (7, none), (28, none)]), (5, [(2, none)]), (6, [(0, some 33), (5, some 33), (6, none), (7, none)]), (7, [(2, none)])],
  [(0, [(0, some 33)]), (1, [(0, some 33), (5, some 33), (6, none), (7, none)])],
  [(8, ([(0, some 33), (5, some 33), (6, none), (7, none)], [(0, some 33)])), (28, ([], [(0, some 33), (5, some 33), (6, none), (7, none)]))]⟩
def zbf (k : Nat) : Calls' D := ⟨[(30, zay k), (27, z9e k), (45, zbc k)], [], [], [], []⟩
theorem zbg (k : Nat) : CallsOK X (zbf k) := .cons (zaz k) (.cons (z9f k) (.cons (zbd k) (.nil cod)))
def zbh (x : (List IField) × (List IField) × Int × Int × Unit) (o : Oc (Unit) (Bool)) (Q : Ex → VSt D → Prop) (R : VR D → Prop) : Prop := ocP o (fun v0 => Q .normal (mkSt ⟨[(0, .hole)], []⟩ [.sl 33 x.1])) (fun w0 => R (.p (.c (.bool w0))))
def zbi (k : Nat) : Cut D := cutS ⟨[(0, .hole), (5, .hole), (6, .hole), (7, .hole)], []⟩ [.kl 33, .kl 33, .ki .i64, .ki .i64] (fun (x : (List IField) × (List IField) × Int × Int × Unit) => I_AreFields_b0 k k x.1 x.2.1 x.2.2.1 x.2.2.2.1) zbh
def zbj (k : Nat) : Cuts D := ⟨[], []⟩
theorem zbk (k : Nat) : CutFor X zbe k Go.Proofs.Tryd.f29.results.toList (zbi k) (sub (bodyOf Go.Proofs.Tryd.f29) [1, 0, 1]) :=
  loopCut_s (X := X) (sg := [.kl 33, .kl 33, .ki .i64, .ki .i64]) (cu := zbj k) (cl := zbf k) (tys := [[0]]) (id := 0) (c := sub (bodyOf Go.Proofs.Tryd.f29) [1, 0, 1, 0, 0]) (f := fun n => fun (x : (List IField) × (List IField) × Int × Int × Unit) => I_AreFields_b0 k n x.1 x.2.1 x.2.2.1 x.2.2.2.1) (zbg k) (cutOK_of (l := []) (by kernel_rfl) trivial) (fun _ => rfl) (fun n x Q R h => by
    simp only [I_AreFields_b0, optK_bind, optK_bif, optK_pure, optK_none, optK_oc, optK_guardT, optK_map] at h
    refine hold_of h ?_
    kernel_rfl) (by kernel_rfl)
def zbl (k : Nat) : Cuts D := ⟨[(0, some (zbi k))], []⟩
def zbm : List Ar := [.c (.kl 33)]
def zbn (k : Nat) (x : TupA D zbm) : Option (Bool) := I_AreFields k x.1
def zbo (r : Bool) : VR D := .p (.c (.bool r))
theorem zbp (k : Nat) : Does P X 29 zbm (zbn k) zbo :=
  does_of (body := bodyOf Go.Proofs.Tryd.f29) (pl := zbe) (k := k) (cu := zbl k) (tys := [[0]]) (zbg k) ctx mixed Go.Proofs.Tryd.func29 (by kernel_rfl) (by kernel_rfl) (cutOK_of (l := [(zbi k, sub (bodyOf Go.Proofs.Tryd.f29) [1, 0, 1])]) (by kernel_rfl) ⟨zbk k, trivial⟩) fun x R h => by
    simp only [zbn, I_AreFields, optK_bind, optK_bif, optK_pure, optK_none, optK_oc, optK_guardT, optK_map] at h
    refine hold_of h ?_
    kernel_rfl
def zbq (k : Nat) : Entry D := entS zbm (zbn k) zbo
theorem zbr (k : Nat) : EntryOK X 29 (zbq k) := (zbp k).en rfl
def zbs : Plan := ⟨[(0, [(0, none)]), (1, [(0, none), (4, some 33)]), (2, [(0, none), (4, some 33), (13, none)]), (3, [(4, some 33), (5, none), (6, none), (7, none)]), (4, [(4, some 33), (6, none), (7, none), (8, none), (9, none), (10, none)]), (5, [(4, some 33), (6, none), (8, none), (9, none), (31, none)]), (6, [(2, some 33), (3, none)]), (7, [(4, some 33), (6, none)]), (8, [(0, none), (4, some 33)]), (9, [(4, some 33), (43, none)]), (10, [(2, some 33), (3, none)]), (11, [(2, some 33), (3, none)])],
  [(0, [(4, some 33)]), (1, [(0, none), (4, some 33)])],
  [(13, ([(0, none), (4, some 33)], [(4, some 33)])), (31, ([], [(4, some 33), (6, none), (8, none), (9, none)])), (43, ([], [(4, some 33)]))]⟩
def zbt (k : Nat) : Calls' D := ⟨[(12, z7y k), (27, z9e k), (28, z9u k), (29, zbq k)], [], [], [], []⟩
theorem zbu (k : Nat) : CallsOK X (zbt k) := .cons (z7z k) (.cons (z9f k) (.cons (z9v k) (.cons (zbr k) (.nil cod))))
def zbv (x : (List UInt8) × (List IField) × Unit) (o : Oc ((List IField)) ((List IField) × Bool)) (Q : Ex → VSt D → Prop) (R : VR D → Prop) : Prop := ocP o (fun v0 => Q .normal (mkSt ⟨[(4, .ref 500004)], [(500004, .row)]⟩ [.sl 33 v0])) (fun w0 => R (.tup [.c (.sl 33 w0.1), .c (.bool w0.2)]))
def zbw (k : Nat) : Cut D := cutS ⟨[(0, .hole), (4, .ref 500004)], [(500004, .row)]⟩ [.ks, .kl 33] (fun (x : (List UInt8) × (List IField) × Unit) => I_ParseFields_b0 k k x.1 x.2.1) zbv
def zbx (k : Nat) : Cuts D := ⟨[], []⟩
theorem zby (k : Nat) : CutFor X zbs k Go.Proofs.Tryd.f14.results.toList (zbw k) (sub (bodyOf Go.Proofs.Tryd.f14) [1, 1, 0]) :=
  loopCut_s (X := X) (sg := [.ks, .kl 33]) (cu := zbx k) (cl := zbt k) (tys := [[33], [0]]) (id := 0) (c := sub (bodyOf Go.Proofs.Tryd.f14) [1, 1, 0, 0, 0]) (f := fun n => fun (x : (List UInt8) × (List IField) × Unit) => I_ParseFields_b0 k n x.1 x.2.1) (zbu k) (cutOK_of (l := []) (by kernel_rfl) trivial) (fun _ => rfl) (fun n x Q R h => by
    simp only [I_ParseFields_b0, optK_bind, optK_bif, optK_pure, optK_none, optK_oc, optK_guardT, optK_map] at h
    refine hold_of h ?_
    kernel_rfl) (by kernel_rfl)
def zbz (k : Nat) : Cuts D := ⟨[(0, some (zbw k))], []⟩
def zc0 : List Ar := [.c (.ks)]
def zc1 (k : Nat) (x : TupA D zc0) : Option ((List IField) × Bool) := I_ParseFields k x.1
def zc2 (r : (List IField) × Bool) : VR D := .tup [.c (.sl 33 r.1), .c (.bool r.2)]
theorem zc3 (k : Nat) : Does P X 14 zc0 (zc1 k) zc2 :=
  does_of (body := bodyOf Go.Proofs.Tryd.f14) (pl := zbs) (k := k) (cu := zbz k) (tys := [[33], [0]]) (zbu k) ctx mixed Go.Proofs.Tryd.func14 (by kernel_rfl) (by kernel_rfl) (cutOK_of (l := [(zbw k, sub (bodyOf Go.Proofs.Tryd.f14) [1, 1, 0])]) (by kernel_rfl) ⟨zby k, trivial⟩) fun x R h => by
    simp only [zc1, I_ParseFields, optK_bind, optK_bif, optK_pure, optK_none, optK_oc, optK_guardT, optK_map] at h
    refine hold_of h ?_
    kernel_rfl
def zc4 (k : Nat) : Entry D := entS zc0 (zc1 k) zc2
theorem zc5 (k : Nat) : EntryOK X 14 (zc4 k) := (zc3 k).en rfl
def zc6 : List Ar := [.c (.ks)]
def zc7 (k : Nat) (x : TupA D zc6) : Option ((List UInt8)) := strings_ToUpper k x.1
def zc8 (r : (List UInt8)) : VR D := .p (.c (.str r))
theorem zc9 (k : Nat) : Does P X 31 zc6 (zc7 k) zc8 := does_toUpper ⟨Go.Proofs.Tryd.f31, Go.Proofs.Tryd.func31, by kernel_rfl, by kernel_rfl⟩ (fun s w hg h1 h2 => Go.Proofs.Tryd.strings_ToUpper_ascii s w h1 h2)
def zca (k : Nat) : Entry D := entS zc6 (zc7 k) zc8
theorem zcb (k : Nat) : EntryOK X 31 (zca k) := (zc9 k).en rfl
def zcc : Plan := ⟨[(0, [(0, none)]), (1, [(0, none), (6, none), (7, none)]), (2, [(0, none), (6, none), (7, none), (8, none)]), (3, [(0, none), (3, none), (6, none), (7, none)]), (4, [(0, none), (4, none), (6, none), (7, none)]), (5, [(0, none), (6, none), (7, none), (35, none)]), (6, [(2, none)]), (7, [(0, none), (6, none), (7, none)]), (8, [(2, none)])],
  [(0, [(0, none)]), (1, [(0, none), (6, none), (7, none)])],
  [(8, ([(0, none), (6, none), (7, none)], [(0, none)])), (35, ([], [(0, none), (6, none), (7, none)]))]⟩
def zcd (k : Nat) : Calls' D := ⟨[(33, zak k)], [], [], [], []⟩
theorem zce (k : Nat) : CallsOK X (zcd k) := .cons (zal k) (.nil cod)
def zcf (x : (List UInt8) × Int × Int × Unit) (o : Oc (Unit) (Bool)) (Q : Ex → VSt D → Prop) (R : VR D → Prop) : Prop := ocP o (fun v0 => Q .normal (mkSt ⟨[(0, .hole)], []⟩ [.str x.1])) (fun w0 => R (.p (.c (.bool w0))))
def zcg (k : Nat) : Cut D := cutS ⟨[(0, .hole), (6, .hole), (7, .hole)], []⟩ [.ks, .ki .i64, .ki .i64] (fun (x : (List UInt8) × Int × Int × Unit) => I_isHost_b0 k k x.1 x.2.1 x.2.2.1) zcf
def zch (k : Nat) : Cuts D := ⟨[], []⟩
theorem zci (k : Nat) : CutFor X zcc k Go.Proofs.Tryd.f32.results.toList (zcg k) (sub (bodyOf Go.Proofs.Tryd.f32) [1, 0, 1]) :=
  loopCut_s (X := X) (sg := [.ks, .ki .i64, .ki .i64]) (cu := zch k) (cl := zcd k) (tys := [[0]]) (id := 0) (c := sub (bodyOf Go.Proofs.Tryd.f32) [1, 0, 1, 0, 0]) (f := fun n => fun (x : (List UInt8) × Int × Int × Unit) => I_isHost_b0 k n x.1 x.2.1 x.2.2.1) (zce k) (cutOK_of (l := []) (by kernel_rfl) trivial) (fun _ => rfl) (fun n x Q R h => by
    simp only [I_isHost_b0, optK_bind, optK_bif, optK_pure, optK_none, optK_oc, optK_guardT, optK_map] at h
    refine hold_of h ?_
    kernel_rfl) (by kernel_rfl)
def zcj (k : Nat) : Cuts D := ⟨[(0, some (zcg k))], []⟩
def zck : List Ar := [.c (.ks)]
def zcl (k : Nat) (x : TupA D zck) : Option (Bool) := I_isHost k x.1
def zcm (r : Bool) : VR D := .p (.c (.bool r))
theorem zcn (k : Nat) : Does P X 32 zck (zcl k) zcm :=
  does_of (body := bodyOf Go.Proofs.Tryd.f32) (pl := zcc) (k := k) (cu := zcj k) (tys := [[0]]) (zce k) ctx mixed Go.Proofs.Tryd.func32 (by kernel_rfl) (by kernel_rfl) (cutOK_of (l := [(zcg k, sub (bodyOf Go.Proofs.Tryd.f32) [1, 0, 1])]) (by kernel_rfl) ⟨zci k, trivial⟩) fun x R h => by
    simp only [zcl, I_isHost, optK_bind, optK_bif, optK_pure, optK_none, optK_oc, optK_guardT, optK_map] at h
    refine hold_of h ?_
    kernel_rfl
def zco (k : Nat) : Entry D := entS zck (zcl k) zcm
theorem zcp (k : Nat) : EntryOK X 32 (zco k) := (zcn k).en rfl
def zcq : Plan := ⟨[(0, [(1, none), (2, none)]), (1, [(3, none)])],
  [],
  []⟩
def zcr (k : Nat) : Calls' D := ⟨[], [], [], [], []⟩
theorem zcs (k : Nat) : CallsOK X (zcr k) := .nil cod
def zct (k : Nat) : Cuts D := ⟨[], []⟩
def zcu : List Ar := [.a [.ks, .ks], .x [.ks]]
def zcv (k : Nat) (x : TupA D zcu) : Option (Bool) := I_hasField_1 k (⟨x.1.1, x.1.2.1⟩ : IField) x.2.1.1
def zcw (r : Bool) : VR D := .p (.c (.bool r))
theorem zcx (k : Nat) : Does P X 54 zcu (zcv k) zcw :=
  does_of (body := bodyOf Go.Proofs.Tryd.f54) (pl := zcq) (k := k) (cu := zct k) (tys := [[0]]) (zcs k) ctx mixed Go.Proofs.Tryd.func54 (by kernel_rfl) (by kernel_rfl) (cutOK_of (l := []) (by kernel_rfl) trivial) fun x R h => by
    simp only [zcv, I_hasField_1, optK_bind, optK_bif, optK_pure, optK_none, optK_oc, optK_guardT, optK_map] at h
    refine hold_of h ?_
    kernel_rfl
def zcy (k : Nat) : Entry D := entS zcu (zcv k) zcw
theorem zcz (k : Nat) : EntryOK X 54 (zcy k) := (zcx k).en rfl
def zd0 : Plan := ⟨[(0, [(0, some 33), (1, none)]), (1, [(0, some 33), (1, none), (7, none), (8, none)]), (2, [(0, some 33), (1, none), (7, none), (8, none), (9, none)]), (3, [(0, some 33), (1, none), (5, none), (7, none), (8, none)]), (4, [(0, some 33), (1, none), (5, none), (7, none), (8, none), (16, none)]), (5, [(4, none)]), (6, [(0, some 33), (1, none), (7, none), (8, none)]), (7, [(4, none)])],
  [(0, []), (1, [(0, some 33), (1, none), (7, none), (8, none)])],
  [(9, ([(0, some 33), (1, none), (7, none), (8, none)], [])), (16, ([(5, none)], [(0, some 33), (1, none), (7, none), (8, none)]))]⟩
def zd1 (k : Nat) : Calls' D := ⟨[(54, zcy k)], [], [], [], []⟩
theorem zd2 (k : Nat) : CallsOK X (zd1 k) := .cons (zcz k) (.nil cod)
def zd3 (x : (List IField) × (List UInt8) × Int × Int × Unit) (o : Oc (Unit) (Int)) (Q : Ex → VSt D → Prop) (R : VR D → Prop) : Prop := ocP o (fun v0 => Q .normal (mkSt ⟨[], []⟩ [])) (fun w0 => R (.p (.c (.int .i64 w0))))
def zd4 (k : Nat) : Cut D := cutS ⟨[(0, .hole), (1, .clo 54 [.rptr 1]), (7, .hole), (8, .hole)], []⟩ [.kl 33, .ks, .ki .i64, .ki .i64] (fun (x : (List IField) × (List UInt8) × Int × Int × Unit) => slices_IndexFunc_IField_at_I_hasField_1_b0 k k x.1 x.2.1 x.2.2.1 x.2.2.2.1) zd3
def zd5 (k : Nat) : Cuts D := ⟨[], []⟩
theorem zd6 (k : Nat) : CutFor X zd0 k Go.Proofs.Tryd.f78.results.toList (zd4 k) (sub (bodyOf Go.Proofs.Tryd.f78) [1, 0, 1]) :=
  loopCut_s (X := X) (sg := [.kl 33, .ks, .ki .i64, .ki .i64]) (cu := zd5 k) (cl := zd1 k) (tys := [[0]]) (id := 0) (c := sub (bodyOf Go.Proofs.Tryd.f78) [1, 0, 1, 0, 0]) (f := fun n => fun (x : (List IField) × (List UInt8) × Int × Int × Unit) => slices_IndexFunc_IField_at_I_hasField_1_b0 k n x.1 x.2.1 x.2.2.1 x.2.2.2.1) (zd2 k) (cutOK_of (l := []) (by kernel_rfl) trivial) (fun _ => rfl) (fun n x Q R h => by
    simp only [slices_IndexFunc_IField_at_I_hasField_1_b0, optK_bind, optK_bif, optK_pure, optK_none, optK_oc, optK_guardT, optK_map] at h
    refine hold_of h ?_
    kernel_rfl) (by kernel_rfl)
def zd7 (k : Nat) : Cuts D := ⟨[(0, some (zd4 k))], []⟩
def zd8 : List Ar := [.c (.kl 33), .f 54 [[.ks]]]
def zd9 (k : Nat) (x : TupA D zd8) : Option (Int) := slices_IndexFunc_IField_at_I_hasField_1 k x.1 x.2.1.1.1
def zda (r : Int) : VR D := .p (.c (.int .i64 r))
theorem zdb (k : Nat) : Does P X 78 zd8 (zd9 k) zda :=
  does_of (body := bodyOf Go.Proofs.Tryd.f78) (pl := zd0) (k := k) (cu := zd7 k) (tys := [[0]]) (zd2 k) ctx mixed Go.Proofs.Tryd.func78 (by kernel_rfl) (by kernel_rfl) (cutOK_of (l := [(zd4 k, sub (bodyOf Go.Proofs.Tryd.f78) [1, 0, 1])]) (by kernel_rfl) ⟨zd6 k, trivial⟩) fun x R h => by
    simp only [zd9, slices_IndexFunc_IField_at_I_hasField_1, optK_bind, optK_bif, optK_pure, optK_none, optK_oc, optK_guardT, optK_map] at h
    refine hold_of h ?_
    kernel_rfl
def zdc (k : Nat) : Entry D := entS zd8 (zd9 k) zda
theorem zdd (k : Nat) : EntryOK X 78 (zdc k) := (zdb k).en rfl
def zde : Plan := ⟨[(0, [(0, some 33), (1, none)]), (1, [(4, none)])],
  [],
  []⟩
def zdf (k : Nat) : Calls' D := ⟨[(78, zdc k)], [], [], [], []⟩
theorem zdg (k : Nat) : CallsOK X (zdf k) := .cons (zdd k) (.nil cod)
def zdh (k : Nat) : Cuts D := ⟨[], []⟩
def zdi : List Ar := [.c (.kl 33), .f 54 [[.ks]]]
def zdj (k : Nat) (x : TupA D zdi) : Option (Bool) := slices_ContainsFunc_IField_at_I_hasField_1 k x.1 x.2.1.1.1
def zdk (r : Bool) : VR D := .p (.c (.bool r))
theorem zdl (k : Nat) : Does P X 53 zdi (zdj k) zdk :=
  does_of (body := bodyOf Go.Proofs.Tryd.f53) (pl := zde) (k := k) (cu := zdh k) (tys := [[0]]) (zdg k) ctx mixed Go.Proofs.Tryd.func53 (by kernel_rfl) (by kernel_rfl) (cutOK_of (l := []) (by kernel_rfl) trivial) fun x R h => by
    simp only [zdj, slices_ContainsFunc_IField_at_I_hasField_1, optK_bind, optK_bif, optK_pure, optK_none, optK_oc, optK_guardT, optK_map] at h
    refine hold_of h ?_
    kernel_rfl
def zdm (k : Nat) : Entry D := entS zdi (zdj k) zdk
theorem zdn (k : Nat) : EntryOK X 53 (zdm k) := (zdl k).en rfl
def zdo : Plan := ⟨[(0, [(0, some 33), (3, none)]), (1, [(4, none)])],
  [],
  []⟩
def zdp (k : Nat) : Calls' D := ⟨[(53, zdm k)], [], [], [], []⟩
theorem zdq (k : Nat) : CallsOK X (zdp k) := .cons (zdn k) (.nil cod)
def zdr (k : Nat) : Cuts D := ⟨[], []⟩
def zds : List Ar := [.c (.kl 33), .c (.ks)]
def zdt (k : Nat) (x : TupA D zds) : Option (Bool) := I_hasField k x.1 x.2.1
def zdu (r : Bool) : VR D := .p (.c (.bool r))
theorem zdv (k : Nat) : Does P X 34 zds (zdt k) zdu :=
  does_of (body := bodyOf Go.Proofs.Tryd.f34) (pl := zdo) (k := k) (cu := zdr k) (tys := [[0]]) (zdq k) ctx mixed Go.Proofs.Tryd.func34 (by kernel_rfl) (by kernel_rfl) (cutOK_of (l := []) (by kernel_rfl) trivial) fun x R h => by
    simp only [zdt, I_hasField, optK_bind, optK_bif, optK_pure, optK_none, optK_oc, optK_guardT, optK_map] at h
    refine hold_of h ?_
    kernel_rfl
def zdw (k : Nat) : Entry D := entS zds (zdt k) zdu
theorem zdx (k : Nat) : EntryOK X 34 (zdw k) := (zdv k).en rfl
def zdy : Plan := ⟨[(0, [(1, none)]), (1, [(1, none), (34, none)]), (2, [(2, none)]), (3, [(1, none), (37, none), (38, none)]), (4, [(1, none), (37, none), (38, none), (39, none)]), (5, [(1, none), (3, none), (37, none), (38, none)]), (6, [(1, none), (37, none), (38, none), (47, none)]), (7, [(2, none)]), (8, [(1, none), (37, none), (38, none)]), (9, [(2, none)])],
  [(0, [(1, none)]), (1, [(1, none), (37, none), (38, none)])],
  [(34, ([], [(1, none)])), (39, ([(1, none), (37, none), (38, none)], [(1, none)])), (47, ([], [(1, none), (37, none), (38, none)]))]⟩
def zdz (k : Nat) : Calls' D := ⟨[(30, zay k), (31, zca k), (32, zco k), (33, zak k), (29, zbq k), (34, zdw k)], [], [], [], []⟩
theorem ze0 (k : Nat) : CallsOK X (zdz k) := .cons (zaz k) (.cons (zcb k) (.cons (zcp k) (.cons (zal k) (.cons (zbr k) (.cons (zdx k) (.nil cod))))))
def ze1 (x : Int × Int × (List UInt8) × (List UInt8) × (List UInt8) × (List IField) × Unit) (o : Oc (Unit) (Bool)) (Q : Ex → VSt D → Prop) (R : VR D → Prop) : Prop := ocP o (fun v0 => Q .normal (mkSt ⟨[(1, .ptr 1 0)], [(1, .var [.hole, .hole, .hole, .hole])]⟩ [.str x.2.2.1, .str x.2.2.2.1, .str x.2.2.2.2.1, .sl 33 x.2.2.2.2.2.1])) (fun w0 => R (.p (.c (.bool w0))))
def ze2 (k : Nat) : Cut D := cutS ⟨[(1, .ptr 1 0), (37, .hole), (38, .hole)], [(1, .var [.hole, .hole, .hole, .hole])]⟩ [.ki .i64, .ki .i64, .ks, .ks, .ks, .kl 33] (fun (x : Int × Int × (List UInt8) × (List UInt8) × (List UInt8) × (List IField) × Unit) => I_IsRequest_b0 k k x.1 x.2.1 x.2.2.1 x.2.2.2.1 x.2.2.2.2.1 x.2.2.2.2.2.1) ze1
def ze3 (k : Nat) : Cuts D := ⟨[], []⟩
theorem ze4 (k : Nat) : CutFor X zdy k Go.Proofs.Tryd.f15.results.toList (ze2 k) (sub (bodyOf Go.Proofs.Tryd.f15) [1, 1, 0, 1]) :=
  loopCut_s (X := X) (sg := [.ki .i64, .ki .i64, .ks, .ks, .ks, .kl 33]) (cu := ze3 k) (cl := zdz k) (tys := [[0]]) (id := 0) (c := sub (bodyOf Go.Proofs.Tryd.f15) [1, 1, 0, 1, 0, 0]) (f := fun n => fun (x : Int × Int × (List UInt8) × (List UInt8) × (List UInt8) × (List IField) × Unit) => I_IsRequest_b0 k n x.1 x.2.1 x.2.2.1 x.2.2.2.1 x.2.2.2.2.1 x.2.2.2.2.2.1) (ze0 k) (cutOK_of (l := []) (by kernel_rfl) trivial) (fun _ => rfl) (fun n x Q R h => by
    simp only [I_IsRequest_b0, optK_bind, optK_bif, optK_pure, optK_none, optK_oc, optK_guardT, optK_map] at h
    refine hold_of h ?_
    kernel_rfl) (by kernel_rfl)
def ze5 (k : Nat) : Cuts D := ⟨[(0, some (ze2 k))], []⟩
def ze6 : List Ar := [.a [.ks, .ks, .ks, .kl 33]]
def ze7 (k : Nat) (x : TupA D ze6) : Option (Bool) := I_IsRequest k (⟨x.1.1, x.1.2.1, x.1.2.2.1, x.1.2.2.2.1⟩ : IRequest)
def ze8 (r : Bool) : VR D := .p (.c (.bool r))
theorem ze9 (k : Nat) : Does P X 15 ze6 (ze7 k) ze8 :=
  does_of (body := bodyOf Go.Proofs.Tryd.f15) (pl := zdy) (k := k) (cu := ze5 k) (tys := [[0]]) (ze0 k) ctx mixed Go.Proofs.Tryd.func15 (by kernel_rfl) (by kernel_rfl) (cutOK_of (l := [(ze2 k, sub (bodyOf Go.Proofs.Tryd.f15) [1, 1, 0, 1])]) (by kernel_rfl) ⟨ze4 k, trivial⟩) fun x R h => by
    simp only [ze7, I_IsRequest, optK_bind, optK_bif, optK_pure, optK_none, optK_oc, optK_guardT, optK_map] at h
    refine hold_of h ?_
    kernel_rfl
def zea (k : Nat) : Entry D := entS ze6 (ze7 k) ze8
theorem zeb (k : Nat) : EntryOK X 15 (zea k) := (ze9 k).en rfl
def zec : Plan := ⟨[(0, [(0, none), (2, none)]), (1, [(2, none), (4, none), (5, none), (6, none)]), (2, [(2, none), (5, none), (6, none), (7, none), (8, none), (9, none)]), (3, [(2, none), (5, none), (6, none), (7, none), (8, none), (9, none), (10, none)]), (4, [(2, none), (5, none), (6, none), (7, none), (8, none), (9, none), (10, none), (11, none)]), (5, [(2, none), (6, none), (7, none), (8, none), (9, none), (10, none), (11, none), (12, some 33), (13, none)]), (6, [(2, none), (7, none), (8, none), (12, some 33), (71, none)]), (7, [(2, none), (3, none)]), (8, [(2, none), (14, none)]), (9, [(2, none), (14, none), (88, none)]), (10, [(2, none), (3, none)]), (11, [(2, none), (3, none)])],
  [],
  [(71, ([(2, none)], [(2, none), (7, none), (8, none), (12, some 33)])), (88, ([(2, none)], [(2, none), (14, none)]))]⟩
def zed (k : Nat) : Calls' D := ⟨[(12, z7y k), (13, z8s k), (14, zc4 k), (15, zea k)], [], [], [], []⟩
theorem zee (k : Nat) : CallsOK X (zed k) := .cons (z7z k) (.cons (z8t k) (.cons (zc5 k) (.cons (zeb k) (.nil cod))))
def zef (k : Nat) : Cuts D := ⟨[], []⟩
def zeg : List Ar := [.c (.ks)]
def zeh (k : Nat) (x : TupA D zeg) : Option (IRequest × Bool) := I_ParseRequest k x.1
def zei (r : IRequest × Bool) : VR D := .tup [.agg [.str r.1.Method, .str r.1.Host, .str r.1.Target, .sl 33 r.1.Fields], .c (.bool r.2)]
theorem zej (k : Nat) : Does P X 5 zeg (zeh k) zei :=
  does_of (body := bodyOf Go.Proofs.Tryd.f5) (pl := zec) (k := k) (cu := zef k) (tys := [[0, 0, 0, 33], [0]]) (zee k) ctx mixed Go.Proofs.Tryd.func5 (by kernel_rfl) (by kernel_rfl) (cutOK_of (l := []) (by kernel_rfl) trivial) fun x R h => by
    simp only [zeh, I_ParseRequest, optK_bind, optK_bif, optK_pure, optK_none, optK_oc, optK_guardT, optK_map] at h
    refine hold_of h ?_
    kernel_rfl
def zek (k : Nat) : Entry D := entS zeg (zeh k) zei
theorem zel (k : Nat) : EntryOK X 5 (zek k) := (zej k).en rfl
def zem : Plan := ⟨[(0, [(2, none), (3, none)]), (1, [(2, none), (3, none), (9, none)]), (2, [(4, none)]), (3, [(14, none)]), (4, [(4, none)]), (5, [(4, none)])],
  [],
  [(9, ([], [(2, none), (3, none)])), (14, ([], []))]⟩
def zen (k : Nat) : Calls' D := ⟨[], [], [], [], []⟩
theorem zeo (k : Nat) : CallsOK X (zen k) := .nil cod
def zep (k : Nat) : Cuts D := ⟨[], []⟩
def zeq : List Ar := [.a [.ks, .ks], .a [.ks, .ks]]
def zer (k : Nat) (x : TupA D zeq) : Option (Bool) := L_eqField k (⟨x.1.1, x.1.2.1⟩ : IField) (⟨x.2.1.1, x.2.1.2.1⟩ : IField)
def zes (r : Bool) : VR D := .p (.c (.bool r))
theorem zet (k : Nat) : Does P X 35 zeq (zer k) zes :=
  does_of (body := bodyOf Go.Proofs.Tryd.f35) (pl := zem) (k := k) (cu := zep k) (tys := [[0]]) (zeo k) ctx mixed Go.Proofs.Tryd.func35 (by kernel_rfl) (by kernel_rfl) (cutOK_of (l := []) (by kernel_rfl) trivial) fun x R h => by
    simp only [zer, L_eqField, optK_bind, optK_bif, optK_pure, optK_none, optK_oc, optK_guardT, optK_map] at h
    refine hold_of h ?_
    kernel_rfl
def zeu (k : Nat) : Entry D := entS zeq (zer k) zes
theorem zev (k : Nat) : EntryOK X 35 (zeu k) := (zet k).en rfl
def zew : Plan := ⟨[(0, [(0, some 33), (1, some 33)]), (1, [(0, some 33), (1, some 33), (10, none)]), (2, [(4, none)]), (3, [(0, some 33), (1, some 33), (5, none)]), (4, [(0, some 33), (1, some 33), (5, none), (14, none)]), (5, [(0, some 33), (1, some 33), (5, none)]), (6, [(0, some 33), (1, some 33), (5, none), (26, none)]), (7, [(4, none)]), (8, [(4, none)])],
  [(0, []), (1, [(0, some 33), (1, some 33), (5, none)])],
  [(10, ([], [(0, some 33), (1, some 33)])), (14, ([(0, some 33), (1, some 33), (5, none)], [])), (26, ([], [(0, some 33), (1, some 33), (5, none)]))]⟩
def zex (k : Nat) : Calls' D := ⟨[(35, zeu k)], [], [], [], []⟩
theorem zey (k : Nat) : CallsOK X (zex k) := .cons (zev k) (.nil cod)
def zez (x : (List IField) × (List IField) × Int × Unit) (o : Oc (Unit) (Bool)) (Q : Ex → VSt D → Prop) (R : VR D → Prop) : Prop := ocP o (fun v0 => Q .normal (mkSt ⟨[], []⟩ [])) (fun w0 => R (.p (.c (.bool w0))))
def zf0 (k : Nat) : Cut D := cutS ⟨[(0, .hole), (1, .hole), (5, .hole)], []⟩ [.kl 33, .kl 33, .ki .i64] (fun (x : (List IField) × (List IField) × Int × Unit) => L_eqFieldS_b0 k k x.1 x.2.1 x.2.2.1) zez
def zf1 (k : Nat) : Cuts D := ⟨[], []⟩
theorem zf2 (k : Nat) : CutFor X zew k Go.Proofs.Tryd.f16.results.toList (zf0 k) (sub (bodyOf Go.Proofs.Tryd.f16) [1, 1, 0, 1]) :=
  loopCut_s (X := X) (sg := [.kl 33, .kl 33, .ki .i64]) (cu := zf1 k) (cl := zex k) (tys := [[0]]) (id := 0) (c := sub (bodyOf Go.Proofs.Tryd.f16) [1, 1, 0, 1, 0, 0]) (f := fun n => fun (x : (List IField) × (List IField) × Int × Unit) => L_eqFieldS_b0 k n x.1 x.2.1 x.2.2.1) (zey k) (cutOK_of (l := []) (by kernel_rfl) trivial) (fun _ => rfl) (fun n x Q R h => by
    simp only [L_eqFieldS_b0, optK_bind, optK_bif, optK_pure, optK_none, optK_oc, optK_guardT, optK_map] at h
    refine hold_of h ?_
    kernel_rfl) (by kernel_rfl)
def zf3 (k : Nat) : Cuts D := ⟨[(0, some (zf0 k))], []⟩
def zf4 : List Ar := [.c (.kl 33), .c (.kl 33)]
def zf5 (k : Nat) (x : TupA D zf4) : Option (Bool) := L_eqFieldS k x.1 x.2.1
def zf6 (r : Bool) : VR D := .p (.c (.bool r))
theorem zf7 (k : Nat) : Does P X 16 zf4 (zf5 k) zf6 :=
  does_of (body := bodyOf Go.Proofs.Tryd.f16) (pl := zew) (k := k) (cu := zf3 k) (tys := [[0]]) (zey k) ctx mixed Go.Proofs.Tryd.func16 (by kernel_rfl) (by kernel_rfl) (cutOK_of (l := [(zf0 k, sub (bodyOf Go.Proofs.Tryd.f16) [1, 1, 0, 1])]) (by kernel_rfl) ⟨zf2 k, trivial⟩) fun x R h => by
    simp only [zf5, L_eqFieldS, optK_bind, optK_bif, optK_pure, optK_none, optK_oc, optK_guardT, optK_map] at h
    refine hold_of h ?_
    kernel_rfl
def zf8 (k : Nat) : Entry D := entS zf4 (zf5 k) zf6
theorem zf9 (k : Nat) : EntryOK X 16 (zf8 k) := (zf7 k).en rfl
def zfa : Plan := ⟨[(0, [(2, none), (3, none)]), (1, [(2, none), (3, none), (9, none)]), (2, [(4, none)]), (3, [(2, none), (3, none), (14, none)]), (4, [(4, none)]), (5, [(2, none), (3, none), (19, none)]), (6, [(4, none)]), (7, [(25, none)]), (8, [(4, none)]), (9, [(4, none)])],
  [],
  [(9, ([], [(2, none), (3, none)])), (14, ([], [(2, none), (3, none)])), (19, ([], [(2, none), (3, none)])), (25, ([], []))]⟩
def zfb (k : Nat) : Calls' D := ⟨[(16, zf8 k)], [], [], [], []⟩
theorem zfc (k : Nat) : CallsOK X (zfb k) := .cons (zf9 k) (.nil cod)
def zfd (k : Nat) : Cuts D := ⟨[], []⟩
def zfe : List Ar := [.a [.ks, .ks, .ks, .kl 33], .a [.ks, .ks, .ks, .kl 33]]
def zff (k : Nat) (x : TupA D zfe) : Option (Bool) := L_eqRequest k (⟨x.1.1, x.1.2.1, x.1.2.2.1, x.1.2.2.2.1⟩ : IRequest) (⟨x.2.1.1, x.2.1.2.1, x.2.1.2.2.1, x.2.1.2.2.2.1⟩ : IRequest)
def zfg (r : Bool) : VR D := .p (.c (.bool r))
theorem zfh (k : Nat) : Does P X 6 zfe (zff k) zfg :=
  does_of (body := bodyOf Go.Proofs.Tryd.f6) (pl := zfa) (k := k) (cu := zfd k) (tys := [[0]]) (zfc k) ctx mixed Go.Proofs.Tryd.func6 (by kernel_rfl) (by kernel_rfl) (cutOK_of (l := []) (by kernel_rfl) trivial) fun x R h => by
    simp only [zff, L_eqRequest, optK_bind, optK_bif, optK_pure, optK_none, optK_oc, optK_guardT, optK_map] at h
    refine hold_of h ?_
    kernel_rfl
def zfi (k : Nat) : Entry D := entS zfe (zff k) zfg
theorem zfj (k : Nat) : EntryOK X 6 (zfi k) := (zfh k).en rfl
def zfk : Plan := ⟨[(0, [(0, none)]), (1, [(0, none), (5, none)]), (2, [(2, none)]), (3, [(0, none), (3, none)]), (4, [(0, none), (3, none), (7, none)]), (5, [(0, none), (3, none)]), (6, [(0, none), (3, none)]), (7, [(2, none)])],
  [(0, [(3, none)]), (1, [(0, none), (3, none)])],
  [(5, ([], [(0, none)])), (7, ([(0, none), (3, none)], [(3, none)]))]⟩
def zfl (k : Nat) : Calls' D := ⟨[], [], [], [], []⟩
theorem zfm (k : Nat) : CallsOK X (zfl k) := .nil cod
def zfn (x : Int × (List UInt8) × Unit) (o : (List UInt8)) (Q : Ex → VSt D → Prop) (R : VR D → Prop) : Prop := Q .normal (mkSt ⟨[(3, .hole)], []⟩ [.str o])
def zfo (k : Nat) : Cut D := cutS ⟨[(0, .hole), (3, .hole)], []⟩ [.ki .i64, .ks] (fun (x : Int × (List UInt8) × Unit) => L_markText_b0 k k x.1 x.2.1) zfn
def zfp (k : Nat) : Cuts D := ⟨[], []⟩
theorem zfq (k : Nat) : CutFor X zfk k Go.Proofs.Tryd.f36.results.toList (zfo k) (sub (bodyOf Go.Proofs.Tryd.f36) [1, 1, 1, 0]) :=
  loopCut_s (X := X) (sg := [.ki .i64, .ks]) (cu := zfp k) (cl := zfl k) (tys := [[0]]) (id := 0) (c := sub (bodyOf Go.Proofs.Tryd.f36) [1, 1, 1, 0, 0, 0]) (f := fun n => fun (x : Int × (List UInt8) × Unit) => L_markText_b0 k n x.1 x.2.1) (zfm k) (cutOK_of (l := []) (by kernel_rfl) trivial) (fun _ => rfl) (fun n x Q R h => by
    simp only [L_markText_b0, optK_bind, optK_bif, optK_pure, optK_none, optK_oc, optK_guardT, optK_map] at h
    refine hold_of h ?_
    kernel_rfl) (by kernel_rfl)
def zfr (k : Nat) : Cuts D := ⟨[(0, some (zfo k))], []⟩
def zfs : List Ar := [.c (.ki .i64)]
def zft (k : Nat) (x : TupA D zfs) : Option ((List UInt8)) := L_markText k x.1
def zfu (r : (List UInt8)) : VR D := .p (.c (.str r))
theorem zfv (k : Nat) : Does P X 36 zfs (zft k) zfu :=
  does_of (body := bodyOf Go.Proofs.Tryd.f36) (pl := zfk) (k := k) (cu := zfr k) (tys := [[0]]) (zfm k) ctx mixed Go.Proofs.Tryd.func36 (by kernel_rfl) (by kernel_rfl) (cutOK_of (l := [(zfo k, sub (bodyOf Go.Proofs.Tryd.f36) [1, 1, 1, 0])]) (by kernel_rfl) ⟨zfq k, trivial⟩) fun x R h => by
    simp only [zft, L_markText, optK_bind, optK_bif, optK_pure, optK_none, optK_oc, optK_guardT, optK_map] at h
    refine hold_of h ?_
    kernel_rfl
def zfw (k : Nat) : Entry D := entS zfs (zft k) zfu
theorem zfx (k : Nat) : EntryOK X 36 (zfw k) := (zfv k).en rfl
def zfy : Plan := ⟨[(0, [(0, some 33), (1, none)]), (1, [(0, some 33), (1, none), (5, none)]), (2, [(0, some 33), (1, none), (5, none), (9, none)]), (3, [(0, some 33), (1, none), (5, none)]), (4, [(0, some 33), (1, none), (5, none)]), (5, [(0, some 33), (1, none), (5, none)]), (6, [(0, some 33), (1, none), (5, none)]), (7, [(0, some 33), (1, none), (5, none)]), (8, [(0, some 33), (4, none)])],
  [(0, [(0, some 33), (1, none)]), (1, [(0, some 33), (1, none), (5, none)])],
  [(9, ([(0, some 33), (1, none), (5, none)], [(0, some 33), (1, none)]))]⟩
def zfz (k : Nat) : Calls' D := ⟨[(36, zfw k)], [], [], [], []⟩
theorem zg0 (k : Nat) : CallsOK X (zfz k) := .cons (zfx k) (.nil cod)
def zg1 (x : Int × Int × (List IField) × Unit) (o : Int × (List IField)) (Q : Ex → VSt D → Prop) (R : VR D → Prop) : Prop := Q .normal (mkSt ⟨[(0, .ref 500000), (1, .hole)], [(500000, .row)]⟩ [.int .i64 o.1, .sl 33 o.2])
def zg2 (k : Nat) : Cut D := cutS ⟨[(0, .ref 500000), (1, .hole), (5, .hole)], [(500000, .row)]⟩ [.ki .i64, .ki .i64, .kl 33] (fun (x : Int × Int × (List IField) × Unit) => L_markFieldS_b0 k k x.1 x.2.1 x.2.2.1) zg1
def zg3 (k : Nat) : Cuts D := ⟨[], []⟩
theorem zg4 (k : Nat) : CutFor X zfy k [.tmp 4, .tmp 0] (zg2 k) (sub (bodyOf Go.Proofs.Tryd.f17) [1, 0, 1]) :=
  loopCut_s (X := X) (sg := [.ki .i64, .ki .i64, .kl 33]) (cu := zg3 k) (cl := zfz k) (tys := [[0], [33]]) (id := 0) (c := sub (bodyOf Go.Proofs.Tryd.f17) [1, 0, 1, 0, 0]) (f := fun n => fun (x : Int × Int × (List IField) × Unit) => L_markFieldS_b0 k n x.1 x.2.1 x.2.2.1) (zg0 k) (cutOK_of (l := []) (by kernel_rfl) trivial) (fun _ => rfl) (fun n x Q R h => by
    simp only [L_markFieldS_b0, optK_bind, optK_bif, optK_pure, optK_none, optK_oc, optK_guardT, optK_map] at h
    refine hold_of h ?_
    kernel_rfl) (by kernel_rfl)
def zg5 (k : Nat) : Cuts D := ⟨[(0, some (zg2 k))], []⟩
def zg6 (k : Nat) : ArT D (.c (.kl 33)) → Int → Option (Int × ArT D (.c (.kl 33))) := fun x n => L_markFieldS k x n
theorem zg7 (k : Nat) : DoesW P X 17 (.c (.kl 33)) (zg6 k) :=
  doesW_of (r0 := 4) (body := bodyOf Go.Proofs.Tryd.f17) (pl := zfy) (k := k) (cu := zg5 k) (tys := [[0], [33]]) (zg0 k) ctx mixed Go.Proofs.Tryd.func17 (by kernel_rfl) (by kernel_rfl) (by kernel_rfl) (by kernel_rfl) (cutOK_of (l := [(zg2 k, sub (bodyOf Go.Proofs.Tryd.f17) [1, 0, 1])]) (by kernel_rfl) ⟨zg4 k, trivial⟩) fun x n R h => by
    simp only [zg6, L_markFieldS, optK_bind, optK_bif, optK_pure, optK_none, optK_oc, optK_guardT, optK_map] at h
    refine hold_of h ?_
    kernel_rfl
def zg8 (k : Nat) : EntryW D := entW (.c (.kl 33)) (zg6 k)
theorem zg9 (k : Nat) : EntryWOK X 17 (zg8 k) := (zg7 k).en rfl
def zga : Plan := ⟨[(0, [(0, none), (1, none), (2, none)]), (1, [(0, none), (1, none)]), (2, [(0, none), (4, none)])],
  [],
  []⟩
def zgb (k : Nat) : Calls' D := ⟨[], [(17, zg8 k)], [], [], []⟩
theorem zgc (k : Nat) : CallsOK X (zgb k) := .consW (zg9 k) (.nil cod)
def zgd (k : Nat) : Cuts D := ⟨[], []⟩
theorem zge (k : Nat) : DoesW P X 7 (.a [.ks, .ks, .ks, .kl 33]) (L_markRequest_f k) :=
  doesW_of (r0 := 4) (body := bodyOf Go.Proofs.Tryd.f7) (pl := zga) (k := k) (cu := zgd k) (tys := [[0], [0, 0, 0, 33]]) (zgc k) ctx mixed Go.Proofs.Tryd.func7 (by kernel_rfl) (by kernel_rfl) (by kernel_rfl) (by kernel_rfl) (cutOK_of (l := []) (by kernel_rfl) trivial) fun x n R h => by
    simp only [L_markRequest_f, L_markRequest, optK_bind, optK_bif, optK_pure, optK_none, optK_oc, optK_guardT, optK_map] at h
    refine hold_of h ?_
    kernel_rfl
def zgf (k : Nat) : EntryW D := entW (.a [.ks, .ks, .ks, .kl 33]) (L_markRequest_f k)
theorem zgg (k : Nat) : EntryWOK X 7 (zgf k) := (zge k).en rfl
def zgh : Plan := ⟨[(0, [(0, some 33), (1, none)]), (1, [(0, some 33), (1, none), (5, none)]), (2, [(0, some 33), (1, none), (5, none), (9, none)]), (3, [(0, some 33), (1, none), (5, none)]), (4, [(0, some 33), (1, none), (5, none), (19, none)]), (5, [(4, none)]), (6, [(0, some 33), (1, none), (5, none)]), (7, [(0, some 33), (1, none), (5, none), (29, none)]), (8, [(4, none)]), (9, [(0, some 33), (1, none), (5, none)]), (10, [(4, none)])],
  [(0, [(1, none)]), (1, [(0, some 33), (1, none), (5, none)])],
  [(9, ([(0, some 33), (1, none), (5, none)], [(1, none)])), (19, ([], [(0, some 33), (1, none), (5, none)])), (29, ([], [(0, some 33), (1, none), (5, none)]))]⟩
def zgi (k : Nat) : Calls' D := ⟨[(36, zfw k)], [], [], [], []⟩
theorem zgj (k : Nat) : CallsOK X (zgi k) := .cons (zfx k) (.nil cod)
def zgk (x : (List IField) × Int × Int × Unit) (o : Oc (Int) (Int)) (Q : Ex → VSt D → Prop) (R : VR D → Prop) : Prop := ocP o (fun v0 => Q .normal (mkSt ⟨[(1, .hole)], []⟩ [.int .i64 v0])) (fun w0 => R (.p (.c (.int .i64 w0))))
def zgl (k : Nat) : Cut D := cutS ⟨[(0, .hole), (1, .hole), (5, .hole)], []⟩ [.kl 33, .ki .i64, .ki .i64] (fun (x : (List IField) × Int × Int × Unit) => L_heldFieldS_b0 k k x.1 x.2.1 x.2.2.1) zgk
def zgm (k : Nat) : Cuts D := ⟨[], []⟩
theorem zgn (k : Nat) : CutFor X zgh k Go.Proofs.Tryd.f18.results.toList (zgl k) (sub (bodyOf Go.Proofs.Tryd.f18) [1, 0, 1]) :=
  loopCut_s (X := X) (sg := [.kl 33, .ki .i64, .ki .i64]) (cu := zgm k) (cl := zgi k) (tys := [[0]]) (id := 0) (c := sub (bodyOf Go.Proofs.Tryd.f18) [1, 0, 1, 0, 0]) (f := fun n => fun (x : (List IField) × Int × Int × Unit) => L_heldFieldS_b0 k n x.1 x.2.1 x.2.2.1) (zgj k) (cutOK_of (l := []) (by kernel_rfl) trivial) (fun _ => rfl) (fun n x Q R h => by
    simp only [L_heldFieldS_b0, optK_bind, optK_bif, optK_pure, optK_none, optK_oc, optK_guardT, optK_map] at h
    refine hold_of h ?_
    kernel_rfl) (by kernel_rfl)
def zgo (k : Nat) : Cuts D := ⟨[(0, some (zgl k))], []⟩
def zgp : List Ar := [.c (.kl 33), .c (.ki .i64)]
def zgq (k : Nat) (x : TupA D zgp) : Option (Int) := L_heldFieldS k x.1 x.2.1
def zgr (r : Int) : VR D := .p (.c (.int .i64 r))
theorem zgs (k : Nat) : Does P X 18 zgp (zgq k) zgr :=
  does_of (body := bodyOf Go.Proofs.Tryd.f18) (pl := zgh) (k := k) (cu := zgo k) (tys := [[0]]) (zgj k) ctx mixed Go.Proofs.Tryd.func18 (by kernel_rfl) (by kernel_rfl) (cutOK_of (l := [(zgl k, sub (bodyOf Go.Proofs.Tryd.f18) [1, 0, 1])]) (by kernel_rfl) ⟨zgn k, trivial⟩) fun x R h => by
    simp only [zgq, L_heldFieldS, optK_bind, optK_bif, optK_pure, optK_none, optK_oc, optK_guardT, optK_map] at h
    refine hold_of h ?_
    kernel_rfl
def zgt (k : Nat) : Entry D := entS zgp (zgq k) zgr
theorem zgu (k : Nat) : EntryOK X 18 (zgt k) := (zgs k).en rfl
def zgv : Plan := ⟨[(0, [(1, none), (2, none)]), (1, [(1, none)]), (2, [(1, none), (10, none)]), (3, [(4, none)]), (4, [(4, none)])],
  [],
  [(10, ([], [(1, none)]))]⟩
def zgw (k : Nat) : Calls' D := ⟨[(18, zgt k)], [], [], [], []⟩
theorem zgx (k : Nat) : CallsOK X (zgw k) := .cons (zgu k) (.nil cod)
def zgy (k : Nat) : Cuts D := ⟨[], []⟩
def zgz : List Ar := [.a [.ks, .ks, .ks, .kl 33], .c (.ki .i64)]
def zh0 (k : Nat) (x : TupA D zgz) : Option (Int) := L_heldRequest k (⟨x.1.1, x.1.2.1, x.1.2.2.1, x.1.2.2.2.1⟩ : IRequest) x.2.1
def zh1 (r : Int) : VR D := .p (.c (.int .i64 r))
theorem zh2 (k : Nat) : Does P X 8 zgz (zh0 k) zh1 :=
  does_of (body := bodyOf Go.Proofs.Tryd.f8) (pl := zgv) (k := k) (cu := zgy k) (tys := [[0]]) (zgx k) ctx mixed Go.Proofs.Tryd.func8 (by kernel_rfl) (by kernel_rfl) (cutOK_of (l := []) (by kernel_rfl) trivial) fun x R h => by
    simp only [zh0, L_heldRequest, optK_bind, optK_bif, optK_pure, optK_none, optK_oc, optK_guardT, optK_map] at h
    refine hold_of h ?_
    kernel_rfl
def zh3 (k : Nat) : Entry D := entS zgz (zh0 k) zh1
theorem zh4 (k : Nat) : EntryOK X 8 (zh3 k) := (zh2 k).en rfl
def zh5 : Plan := ⟨[(0, [(0, none)]), (1, [(0, none), (13, none)]), (2, [(2, none)]), (3, [(0, none), (3, none), (4, none)]), (4, [(0, none), (3, none), (4, none), (5, none), (6, none)]), (5, [(0, none), (3, none), (4, none), (5, none), (32, none)]), (6, [(2, none)]), (7, [(0, none), (3, none), (4, none), (5, none), (7, none)]), (8, [(0, none), (3, none), (4, none), (5, none), (7, none)]), (9, [(0, none), (3, none), (4, none), (5, none), (7, none), (8, none)]), (10, [(0, none), (3, none), (4, none), (5, none), (7, none), (8, none)]), (11, [(0, none), (3, none), (4, none), (5, none), (7, none), (8, none), (40, none)]), (12, [(2, none)]), (13, [(0, none), (3, none), (4, none), (5, none), (7, none), (43, none)]), (14, [(2, none)]), (15, [(3, none), (4, none), (5, none), (7, none), (9, none), (10, none)]), (16, [(5, none), (7, none), (57, none)]), (17, [(2, none)]), (18, [(5, none), (7, none), (8, none)]), (19, [(7, none), (8, none)]), (20, [(7, none), (8, none), (62, none)]), (21, [(2, none)]), (22, [(65, none)]), (23, [(2, none)]), (24, [(2, none)])],
  [],
  [(13, ([], [(0, none)])), (32, ([], [(0, none), (3, none), (4, none), (5, none)])), (40, ([], [(0, none), (3, none), (4, none), (5, none), (7, none), (8, none)])), (43, ([], [(0, none), (3, none), (4, none), (5, none), (7, none)])), (57, ([], [(5, none), (7, none)])), (62, ([], [(7, none), (8, none)])), (65, ([], []))]⟩
def zh6 (k : Nat) : Calls' D := ⟨[(4, z7s k), (5, zek k), (6, zfi k), (8, zh3 k)], [(7, zgf k)], [], [], []⟩
theorem zh7 (k : Nat) : CallsOK X (zh6 k) := .cons (z7t k) (.cons (zel k) (.cons (zfj k) (.cons (zh4 k) (.consW (zgg k) (.nil cod)))))
def zh8 (k : Nat) : Cuts D := ⟨[], []⟩
def L_FnExactParseRequest_ar : List Ar := [.c (.ks)]
def L_FnExactParseRequest_f (k : Nat) (x : TupA D L_FnExactParseRequest_ar) : Option (Bool) := L_FnExactParseRequest k x.1
def L_FnExactParseRequest_vr (r : Bool) : VR D := .p (.c (.bool r))
theorem L_FnExactParseRequest_ok (k : Nat) : Does P X 3 L_FnExactParseRequest_ar (L_FnExactParseRequest_f k) L_FnExactParseRequest_vr :=
  does_of (body := bodyOf Go.Proofs.Tryd.f3) (pl := zh5) (k := k) (cu := zh8 k) (tys := [[0]]) (zh7 k) ctx mixed Go.Proofs.Tryd.func3 (by kernel_rfl) (by kernel_rfl) (cutOK_of (l := []) (by kernel_rfl) trivial) fun x R h => by
    simp only [L_FnExactParseRequest_f, L_FnExactParseRequest, optK_bind, optK_bif, optK_pure, optK_none, optK_oc, optK_guardT, optK_map] at h
    refine hold_of h ?_
    kernel_rfl
def zh9 (k : Nat) : Entry D := entS L_FnExactParseRequest_ar (L_FnExactParseRequest_f k) L_FnExactParseRequest_vr
theorem zha (k : Nat) : EntryOK X 3 (zh9 k) := (L_FnExactParseRequest_ok k).en rfl

end
end Go.YtolmhhnhmbiofaaDoor
