/- The machine computes the functions. Nothing is claimed here. -/
import Derived.Test.YtolmhhnhmbiofaaKf
set_option linter.unusedVariables false
set_option linter.unusedSimpArgs false
set_option maxRecDepth 100000
namespace Go.Ytolmhhnhmbiofaa
open Go Go.RowKit Go.Pv
noncomputable section

def z0 : Plan := ⟨[(0, [(0, some 5)]), (1, [(2, none)])],
  [],
  []⟩
def z1 (k : Nat) : Calls' D := ⟨[], [], [], [], []⟩
theorem z2 (k : Nat) : CallsOK X (z1 k) := .nil cod
def z3 (k : Nat) : Cuts D := ⟨[], []⟩
def z4 : List Ar := [.c (.kl 5)]
def z5 (k : Nat) (x : TupA D z4) : Option (Bool) := L_big k x.1
def z6 (r : Bool) : VR D := .p (.c (.bool r))
theorem z7 (k : Nat) : Does P X 6 z4 (z5 k) z6 :=
  does_of (body := bodyOf Go.Proofs.Try.f6) (pl := z0) (k := k) (cu := z3 k) (tys := [[0]]) (z2 k) ctx mixed Go.Proofs.Try.func6 (by kernel_rfl) (by kernel_rfl) (cutOK_of (l := []) (by kernel_rfl) trivial) fun x R h => by
    simp only [z5, L_big, optK_bind, optK_bif, optK_pure, optK_none, optK_oc, optK_guardT, optK_map] at h
    refine hold_of h ?_
    kernel_rfl
def z8 (k : Nat) : Entry D := entS z4 (z5 k) z6
theorem z9 (k : Nat) : EntryOK X 6 (z8 k) := (z7 k).en rfl
def za : Plan := ⟨[(0, [(0, some 5)]), (1, [(0, some 5), (3, none)]), (2, [(0, some 5), (3, none), (4, none)]), (3, [(0, some 5), (3, none), (4, none), (15, none)]), (4, [(0, some 5), (3, none), (4, none)]), (5, [(0, some 5), (3, none), (4, none)]), (6, [(2, none)])],
  [(0, [(0, some 5), (3, none)]), (1, [(0, some 5), (3, none), (4, none)])],
  [(15, ([(0, some 5), (3, none), (4, none)], [(0, some 5), (3, none)]))]⟩
def zb (k : Nat) : Calls' D := ⟨[], [], [], [], []⟩
theorem zc (k : Nat) : CallsOK X (zb k) := .nil cod
def zd (x : (List Int) × Int × Int × Unit) (o : Int) (Q : Ex → VSt D → Prop) (R : VR D → Prop) : Prop := Q .normal (mkSt ⟨[(0, .hole), (3, .hole)], []⟩ [.sl 5 x.1, .int .i64 o])
def ze (k : Nat) : Cut D := cutS ⟨[(0, .hole), (3, .hole), (4, .hole)], []⟩ [.kl 5, .ki .i64, .ki .i64] (fun (x : (List Int) × Int × Int × Unit) => S_l1New_b0 k k x.1 x.2.1 x.2.2.1) zd
def zf (k : Nat) : Cuts D := ⟨[], []⟩
theorem zg (k : Nat) : CutFor X za k [.cell 0 0, .cell 2 73] (ze k) (sub (bodyOf Go.Proofs.Try.f33) [1, 1, 0, 1]) :=
  loopCut_s (X := X) (sg := [.kl 5, .ki .i64, .ki .i64]) (cu := zf k) (cl := zb k) (tys := []) (id := 0) (c := sub (bodyOf Go.Proofs.Try.f33) [1, 1, 0, 1, 0, 0]) (f := fun n => fun (x : (List Int) × Int × Int × Unit) => S_l1New_b0 k n x.1 x.2.1 x.2.2.1) (zc k) (cutOK_of (l := []) (by kernel_rfl) trivial) (fun _ => rfl) (fun n x Q R h => by
    simp only [S_l1New_b0, optK_bind, optK_bif, optK_pure, optK_none, optK_oc, optK_guardT, optK_map] at h
    refine hold_of h ?_
    kernel_rfl) (by kernel_rfl)
def zh (k : Nat) : Cuts D := ⟨[(0, some (ze k))], []⟩
def zi : List Ar := [.c (.kl 5)]
def zj (k : Nat) (x : TupA D zi) : Option (Sl1Cur) := S_l1New k x.1
def zk (r : Sl1Cur) : Tup D [.kl 5, .ki .i64, .ki .i64] := (r.b, r.i, r.h, ())
theorem zl (k : Nat) : DoesB P X 33 [.kl 5, .ki .i64, .ki .i64] zi (zj k) zk :=
  doesB_of (r0 := 2) (pt := 73) (body := bodyOf Go.Proofs.Try.f33) (pl := za) (k := k) (cu := zh k) (tys := []) (zc k) ctx mixed Go.Proofs.Try.func33 (by kernel_rfl) (by kernel_rfl) (by kernel_rfl) (by kernel_rfl) (cutOK_of (l := [(ze k, sub (bodyOf Go.Proofs.Try.f33) [1, 1, 0, 1])]) (by kernel_rfl) ⟨zg k, trivial⟩) fun x R h => by
    simp only [zj, S_l1New, optK_bind, optK_bif, optK_pure, optK_none, optK_oc, optK_guardT, optK_map] at h
    refine hold_of h ?_
    kernel_rfl
def zm (k : Nat) : EntryB D := entB [.kl 5, .ki .i64, .ki .i64] zi (zj k) zk
theorem zn (k : Nat) : EntryBOK X 33 (zm k) := (zl k).en rfl
def zo : Plan := ⟨[(0, [(0, none)]), (1, [(0, none)]), (2, [(0, none), (3, none)]), (3, [(0, none), (3, none), (34, none)]), (4, [(0, none), (3, none)]), (5, [(0, none), (3, none)]), (6, [(0, none), (2, none)])],
  [],
  [(34, ([(0, none), (3, none)], [(0, none), (3, none)]))]⟩
def zp (k : Nat) : Calls' D := ⟨[], [], [], [], []⟩
theorem zq (k : Nat) : CallsOK X (zp k) := .nil cod
def zr (x : Int × Bool × (List Int) × Int × Int × Unit) (o : Int × Int) (Q : Ex → VSt D → Prop) (R : VR D → Prop) : Prop := Q .normal (mkSt ⟨[(0, .ptr 700000 0), (3, .hole)], [(700000, .var [.hole, .hole, .hole])]⟩ [.int .i64 o.1, .sl 5 x.2.2.1, .int .i64 o.2, .int .i64 x.2.2.2.2.1])
def zs (k : Nat) : Cut D := cutS ⟨[(0, .ptr 700000 0), (3, .hole), (34, .hole)], [(700000, .var [.hole, .hole, .hole])]⟩ [.ki .i64, .kb, .kl 5, .ki .i64, .ki .i64] (fun (x : Int × Bool × (List Int) × Int × Int × Unit) => S_l1Byte_c34 k x.1 x.2.1 x.2.2.1 x.2.2.2.1 x.2.2.2.2.1) zr
def zt (k : Nat) : Cuts D := ⟨[], []⟩
theorem zu (k : Nat) : CutFor X zo k (.cell 0 73 :: Go.Proofs.Try.f54.results.toList) (zs k) (sub (bodyOf Go.Proofs.Try.f54) [1, 1, 1, 0, 1]) :=
  joinCut_s (X := X) (sg := [.ki .i64, .kb, .kl 5, .ki .i64, .ki .i64]) (cu := zt k) (cl := zp k) (tys := [[0]]) (zq k) (cutOK_of (l := []) (by kernel_rfl) trivial) fun x Q R h => by
    simp only [S_l1Byte_c34, optK_bind, optK_bif, optK_pure, optK_none, optK_oc, optK_guardT, optK_map] at h
    refine hold_of h ?_
    kernel_rfl
def zv (k : Nat) : Cuts D := ⟨[], [(34, some (zs k))]⟩
def zw : List Ar := []
def zx (k : Nat) (c : Tup D [.kl 5, .ki .i64, .ki .i64]) (x : TupA D zw) : Option (Int × Sl1Cur) := S_l1Byte k (⟨c.1, c.2.1, c.2.2.1⟩ : Sl1Cur)
def zy (r : Int × Sl1Cur) : Tup D [.kl 5, .ki .i64, .ki .i64] := (r.2.b, r.2.i, r.2.h, ())
def zz (r : Int × Sl1Cur) : List (VP D) := [.c (.int .i64 r.1)]
theorem z10 (k : Nat) : DoesP P X 54 [.kl 5, .ki .i64, .ki .i64] zw (zx k) zz zy :=
  doesP_of (pt := 73) (body := bodyOf Go.Proofs.Try.f54) (pl := zo) (k := k) (cu := zv k) (tys := [[0]]) (zq k) ctx mixed Go.Proofs.Try.func54 (by kernel_rfl) (by kernel_rfl) (by kernel_rfl) (by kernel_rfl) (cutOK_of (l := [(zs k, sub (bodyOf Go.Proofs.Try.f54) [1, 1, 1, 0, 1])]) (by kernel_rfl) ⟨zu k, trivial⟩) fun c x R h => by
    simp only [zx, S_l1Byte, optK_bind, optK_bif, optK_pure, optK_none, optK_oc, optK_guardT, optK_map] at h
    refine hold_of h ?_
    kernel_rfl
def z11 (k : Nat) : EntryP D := entP [.kl 5, .ki .i64, .ki .i64] zw (zx k) zz zy
theorem z12 (k : Nat) : EntryPOK X 54 (z11 k) := (z10 k).en rfl
def z13 : Plan := ⟨[(0, [(0, none), (1, none)]), (1, [(0, none), (1, none), (9, none)]), (2, [(0, none), (4, none)]), (3, [(0, none), (1, none), (11, none)]), (4, [(0, none), (4, none)]), (5, [(0, none), (1, none), (5, none)]), (6, [(0, none), (1, none), (5, none), (6, none)]), (7, [(0, none), (1, none), (5, none), (6, none), (7, none)]), (8, [(0, none), (4, none)])],
  [],
  [(9, ([(0, none)], [(0, none), (1, none)])), (11, ([(0, none), (1, none)], [(0, none), (1, none)]))]⟩
def z14 (k : Nat) : Calls' D := ⟨[], [], [(54, z11 k)], [], []⟩
theorem z15 (k : Nat) : CallsOK X (z14 k) := .consP (z12 k) (.nil cod)
def z16 (k : Nat) : Cuts D := ⟨[], []⟩
def z17 : List Ar := [.c (.ki .i64)]
def z18 (k : Nat) (c : Tup D [.kl 5, .ki .i64, .ki .i64]) (x : TupA D z17) : Option (Int × Sl1Cur) := S_l1Below k (⟨c.1, c.2.1, c.2.2.1⟩ : Sl1Cur) x.1
def z19 (r : Int × Sl1Cur) : Tup D [.kl 5, .ki .i64, .ki .i64] := (r.2.b, r.2.i, r.2.h, ())
def z1a (r : Int × Sl1Cur) : List (VP D) := [.c (.int .i64 r.1)]
theorem z1b (k : Nat) : DoesP P X 41 [.kl 5, .ki .i64, .ki .i64] z17 (z18 k) z1a z19 :=
  doesP_of (pt := 73) (body := bodyOf Go.Proofs.Try.f41) (pl := z13) (k := k) (cu := z16 k) (tys := [[0]]) (z15 k) ctx mixed Go.Proofs.Try.func41 (by kernel_rfl) (by kernel_rfl) (by kernel_rfl) (by kernel_rfl) (cutOK_of (l := []) (by kernel_rfl) trivial) fun c x R h => by
    simp only [z18, S_l1Below, optK_bind, optK_bif, optK_pure, optK_none, optK_oc, optK_guardT, optK_map] at h
    refine hold_of h ?_
    kernel_rfl
def z1c (k : Nat) : EntryP D := entP [.kl 5, .ki .i64, .ki .i64] z17 (z18 k) z1a z19
theorem z1d (k : Nat) : EntryPOK X 41 (z1c k) := (z1b k).en rfl
def z1e : Plan := ⟨[(0, [(0, none), (1, none)]), (1, [(0, none), (1, none), (7, none)]), (2, [(4, none)]), (3, [(4, none)])],
  [],
  [(7, ([(1, none)], [(0, none)]))]⟩
def z1f (k : Nat) : Calls' D := ⟨[], [], [], [], []⟩
theorem z1g (k : Nat) : CallsOK X (z1f k) := .nil cod
def z1h (k : Nat) : Cuts D := ⟨[], []⟩
def z1i : List Ar := [.c (.ki .i64), .c (.ki .i64)]
def z1j (k : Nat) (x : TupA D z1i) : Option (Int) := S_Min k x.1 x.2.1
def z1k (r : Int) : VR D := .p (.c (.int .i64 r))
theorem z1l (k : Nat) : Does P X 55 z1i (z1j k) z1k :=
  does_of (body := bodyOf Go.Proofs.Try.f55) (pl := z1e) (k := k) (cu := z1h k) (tys := [[0]]) (z1g k) ctx mixed Go.Proofs.Try.func55 (by kernel_rfl) (by kernel_rfl) (cutOK_of (l := []) (by kernel_rfl) trivial) fun x R h => by
    simp only [z1j, S_Min, optK_bind, optK_bif, optK_pure, optK_none, optK_oc, optK_guardT, optK_map] at h
    refine hold_of h ?_
    kernel_rfl
def z1m (k : Nat) : Entry D := entS z1i (z1j k) z1k
theorem z1n (k : Nat) : EntryOK X 55 (z1m k) := (z1l k).en rfl
def z1o : Plan := ⟨[(0, [(0, none), (2, none)]), (1, [(0, none), (2, none), (3, none)]), (2, [(0, none), (2, none), (3, none), (4, none)]), (3, [(0, none), (2, none)])],
  [],
  []⟩
def z1p (k : Nat) : Calls' D := ⟨[(55, z1m k)], [], [(41, z1c k)], [], []⟩
theorem z1q (k : Nat) : CallsOK X (z1p k) := .cons (z1n k) (.consP (z1d k) (.nil cod))
def z1r (k : Nat) : Cuts D := ⟨[], []⟩
def z1s : List Ar := []
def z1t (k : Nat) (c : Tup D [.kl 5, .ki .i64, .ki .i64]) (x : TupA D z1s) : Option (IPiece × Sl1Cur) := S_l10Piece k (⟨c.1, c.2.1, c.2.2.1⟩ : Sl1Cur)
def z1u (r : IPiece × Sl1Cur) : Tup D [.kl 5, .ki .i64, .ki .i64] := (r.2.b, r.2.i, r.2.h, ())
def z1v (r : IPiece × Sl1Cur) : List (VP D) := [.agg [.int .i64 r.1.From, .str r.1.Data]]
theorem z1w (k : Nat) : DoesP P X 50 [.kl 5, .ki .i64, .ki .i64] z1s (z1t k) z1v z1u :=
  doesP_of (pt := 73) (body := bodyOf Go.Proofs.Try.f50) (pl := z1o) (k := k) (cu := z1r k) (tys := [[0, 0]]) (z1q k) ctx mixed Go.Proofs.Try.func50 (by kernel_rfl) (by kernel_rfl) (by kernel_rfl) (by kernel_rfl) (cutOK_of (l := []) (by kernel_rfl) trivial) fun c x R h => by
    simp only [z1t, S_l10Piece, optK_bind, optK_bif, optK_pure, optK_none, optK_oc, optK_guardT, optK_map] at h
    refine hold_of h ?_
    kernel_rfl
def z1x (k : Nat) : EntryP D := entP [.kl 5, .ki .i64, .ki .i64] z1s (z1t k) z1v z1u
theorem z1y (k : Nat) : EntryPOK X 50 (z1x k) := (z1w k).en rfl
def z1z : Plan := ⟨[(0, [(0, some 44)]), (1, [(0, some 44), (3, some 26)]), (2, [(0, some 44), (3, some 26), (4, none)]), (3, [(0, some 44), (3, some 26), (4, none), (9, none)]), (4, [(0, some 44), (3, some 26), (4, none)]), (5, [(0, some 44), (3, some 26), (4, none)]), (6, [(2, some 26)])],
  [(0, [(3, some 26)]), (1, [(0, some 44), (3, some 26), (4, none)])],
  [(9, ([(0, some 44), (3, some 26), (4, none)], [(3, some 26)]))]⟩
def z20 (k : Nat) : Calls' D := ⟨[], [], [], [], []⟩
theorem z21 (k : Nat) : CallsOK X (z20 k) := .nil cod
def z22 (x : (List IPiece) × Int × (List ISpan) × Unit) (o : (List ISpan)) (Q : Ex → VSt D → Prop) (R : VR D → Prop) : Prop := Q .normal (mkSt ⟨[(3, .ref 500003)], [(500003, .row)]⟩ [.sl 26 o])
def z23 (k : Nat) : Cut D := cutS ⟨[(0, .hole), (3, .ref 500003), (4, .hole)], [(500003, .row)]⟩ [.kl 44, .ki .i64, .kl 26] (fun (x : (List IPiece) × Int × (List ISpan) × Unit) => S_SpansOf_b0 k k x.1 x.2.1 x.2.2.1) z22
def z24 (k : Nat) : Cuts D := ⟨[], []⟩
theorem z25 (k : Nat) : CutFor X z1z k Go.Proofs.Try.f44.results.toList (z23 k) (sub (bodyOf Go.Proofs.Try.f44) [1, 1, 0, 1]) :=
  loopCut_s (X := X) (sg := [.kl 44, .ki .i64, .kl 26]) (cu := z24 k) (cl := z20 k) (tys := [[26]]) (id := 0) (c := sub (bodyOf Go.Proofs.Try.f44) [1, 1, 0, 1, 0, 0]) (f := fun n => fun (x : (List IPiece) × Int × (List ISpan) × Unit) => S_SpansOf_b0 k n x.1 x.2.1 x.2.2.1) (z21 k) (cutOK_of (l := []) (by kernel_rfl) trivial) (fun _ => rfl) (fun n x Q R h => by
    simp only [S_SpansOf_b0, optK_bind, optK_bif, optK_pure, optK_none, optK_oc, optK_guardT, optK_map] at h
    refine hold_of h ?_
    kernel_rfl) (by kernel_rfl)
def z26 (k : Nat) : Cuts D := ⟨[(0, some (z23 k))], []⟩
def z27 : List Ar := [.c (.kl 44)]
def z28 (k : Nat) (x : TupA D z27) : Option ((List ISpan)) := S_SpansOf k x.1
def z29 (r : (List ISpan)) : VR D := .p (.c (.sl 26 r))
theorem z2a (k : Nat) : Does P X 44 z27 (z28 k) z29 :=
  does_of (body := bodyOf Go.Proofs.Try.f44) (pl := z1z) (k := k) (cu := z26 k) (tys := [[26]]) (z21 k) ctx mixed Go.Proofs.Try.func44 (by kernel_rfl) (by kernel_rfl) (cutOK_of (l := [(z23 k, sub (bodyOf Go.Proofs.Try.f44) [1, 1, 0, 1])]) (by kernel_rfl) ⟨z25 k, trivial⟩) fun x R h => by
    simp only [z28, S_SpansOf, optK_bind, optK_bif, optK_pure, optK_none, optK_oc, optK_guardT, optK_map] at h
    refine hold_of h ?_
    kernel_rfl
def z2b (k : Nat) : Entry D := entS z27 (z28 k) z29
theorem z2c (k : Nat) : EntryOK X 44 (z2b k) := (z2a k).en rfl
def z2d : Plan := ⟨[(0, [(0, none), (1, none), (2, none)]), (1, [(6, none)])],
  [],
  []⟩
def z2e (k : Nat) : Calls' D := ⟨[], [], [], [], []⟩
theorem z2f (k : Nat) : CallsOK X (z2e k) := .nil cod
def z2g (k : Nat) : Cuts D := ⟨[], []⟩
def z2h : List Ar := [.c (.ki .i64), .c (.ki .i64), .c (.ki .i64)]
def z2i (k : Nat) (x : TupA D z2h) : Option (Bool) := S_l1In k x.1 x.2.1 x.2.2.1
def z2j (r : Bool) : VR D := .p (.c (.bool r))
theorem z2k (k : Nat) : Does P X 52 z2h (z2i k) z2j :=
  does_of (body := bodyOf Go.Proofs.Try.f52) (pl := z2d) (k := k) (cu := z2g k) (tys := [[0]]) (z2f k) ctx mixed Go.Proofs.Try.func52 (by kernel_rfl) (by kernel_rfl) (cutOK_of (l := []) (by kernel_rfl) trivial) fun x R h => by
    simp only [z2i, S_l1In, optK_bind, optK_bif, optK_pure, optK_none, optK_oc, optK_guardT, optK_map] at h
    refine hold_of h ?_
    kernel_rfl
def z2l (k : Nat) : Entry D := entS z2h (z2i k) z2j
theorem z2m (k : Nat) : EntryOK X 52 (z2l k) := (z2k k).en rfl
def z2n : Plan := ⟨[(0, [(0, some 26)]), (1, [(0, some 26), (3, none)]), (2, [(0, some 26), (3, none), (7, none)]), (3, [(0, some 26), (3, none)]), (4, [(0, some 26), (3, none), (54, none)]), (5, [(2, none)]), (6, [(2, none)])],
  [(0, []), (1, [(0, some 26), (3, none)])],
  [(7, ([(0, some 26), (3, none)], [])), (54, ([], [(0, some 26), (3, none)]))]⟩
def z2o (k : Nat) : Calls' D := ⟨[], [], [], [], []⟩
theorem z2p (k : Nat) : CallsOK X (z2o k) := .nil cod
def z2q (x : (List ISpan) × Int × Unit) (o : Oc (Unit) (Bool)) (Q : Ex → VSt D → Prop) (R : VR D → Prop) : Prop := ocP o (fun v0 => Q .normal (mkSt ⟨[], []⟩ [])) (fun w0 => R (.p (.c (.bool w0))))
def z2r (k : Nat) : Cut D := cutS ⟨[(0, .hole), (3, .hole)], []⟩ [.kl 26, .ki .i64] (fun (x : (List ISpan) × Int × Unit) => S_IsSpanSet_b0 k k x.1 x.2.1) z2q
def z2s (k : Nat) : Cuts D := ⟨[], []⟩
theorem z2t (k : Nat) : CutFor X z2n k Go.Proofs.Try.f11.results.toList (z2r k) (sub (bodyOf Go.Proofs.Try.f11) [1, 0, 1]) :=
  loopCut_s (X := X) (sg := [.kl 26, .ki .i64]) (cu := z2s k) (cl := z2o k) (tys := [[0]]) (id := 0) (c := sub (bodyOf Go.Proofs.Try.f11) [1, 0, 1, 0, 0]) (f := fun n => fun (x : (List ISpan) × Int × Unit) => S_IsSpanSet_b0 k n x.1 x.2.1) (z2p k) (cutOK_of (l := []) (by kernel_rfl) trivial) (fun _ => rfl) (fun n x Q R h => by
    simp only [S_IsSpanSet_b0, optK_bind, optK_bif, optK_pure, optK_none, optK_oc, optK_guardT, optK_map] at h
    refine hold_of h ?_
    kernel_rfl) (by kernel_rfl)
def z2u (k : Nat) : Cuts D := ⟨[(0, some (z2r k))], []⟩
def z2v : List Ar := [.c (.kl 26)]
def z2w (k : Nat) (x : TupA D z2v) : Option (Bool) := S_IsSpanSet k x.1
def z2x (r : Bool) : VR D := .p (.c (.bool r))
theorem z2y (k : Nat) : Does P X 11 z2v (z2w k) z2x :=
  does_of (body := bodyOf Go.Proofs.Try.f11) (pl := z2n) (k := k) (cu := z2u k) (tys := [[0]]) (z2p k) ctx mixed Go.Proofs.Try.func11 (by kernel_rfl) (by kernel_rfl) (cutOK_of (l := [(z2r k, sub (bodyOf Go.Proofs.Try.f11) [1, 0, 1])]) (by kernel_rfl) ⟨z2t k, trivial⟩) fun x R h => by
    simp only [z2w, S_IsSpanSet, optK_bind, optK_bif, optK_pure, optK_none, optK_oc, optK_guardT, optK_map] at h
    refine hold_of h ?_
    kernel_rfl
def z2z (k : Nat) : Entry D := entS z2v (z2w k) z2x
theorem z30 (k : Nat) : EntryOK X 11 (z2z k) := (z2y k).en rfl
def z31 : Plan := ⟨[(0, [(0, some 44), (1, none)]), (1, [(0, some 44), (1, none), (5, some 26)]), (2, [(4, none)])],
  [],
  []⟩
def z32 (k : Nat) : Calls' D := ⟨[(44, z2b k), (52, z2l k), (11, z2z k)], [], [], [], []⟩
theorem z33 (k : Nat) : CallsOK X (z32 k) := .cons (z2c k) (.cons (z2m k) (.cons (z30 k) (.nil cod)))
def z34 (k : Nat) : Cuts D := ⟨[], []⟩
def z35 : List Ar := [.c (.kl 44), .c (.ki .i64)]
def z36 (k : Nat) (x : TupA D z35) : Option (Bool) := S_ArePieces k x.1 x.2.1
def z37 (r : Bool) : VR D := .p (.c (.bool r))
theorem z38 (k : Nat) : Does P X 29 z35 (z36 k) z37 :=
  does_of (body := bodyOf Go.Proofs.Try.f29) (pl := z31) (k := k) (cu := z34 k) (tys := [[0]]) (z33 k) ctx mixed Go.Proofs.Try.func29 (by kernel_rfl) (by kernel_rfl) (cutOK_of (l := []) (by kernel_rfl) trivial) fun x R h => by
    simp only [z36, S_ArePieces, optK_bind, optK_bif, optK_pure, optK_none, optK_oc, optK_guardT, optK_map] at h
    refine hold_of h ?_
    kernel_rfl
def z39 (k : Nat) : Entry D := entS z35 (z36 k) z37
theorem z3a (k : Nat) : EntryOK X 29 (z39 k) := (z38 k).en rfl
def z3b : Plan := ⟨[(0, [(0, some 44), (1, none)]), (1, [(0, some 44), (1, none), (5, none)]), (2, [(0, some 44), (1, none), (5, none), (9, none)]), (3, [(0, some 44), (1, none), (5, none)]), (4, [(0, some 44), (1, none), (5, none), (34, none)]), (5, [(4, none)]), (6, [(4, none)])],
  [(0, []), (1, [(0, some 44), (1, none), (5, none)])],
  [(9, ([(0, some 44), (1, none), (5, none)], [])), (34, ([(0, some 44), (1, none), (5, none)], [(0, some 44), (1, none), (5, none)]))]⟩
def z3c (k : Nat) : Calls' D := ⟨[], [], [], [], []⟩
theorem z3d (k : Nat) : CallsOK X (z3c k) := .nil cod
def z3e (x : (List IPiece) × Int × Int × Unit) (o : Oc (Unit) (Int)) (Q : Ex → VSt D → Prop) (R : VR D → Prop) : Prop := ocP o (fun v0 => Q .normal (mkSt ⟨[], []⟩ [])) (fun w0 => R (.p (.c (.int .i64 w0))))
def z3f (k : Nat) : Cut D := cutS ⟨[(0, .hole), (1, .hole), (5, .hole)], []⟩ [.kl 44, .ki .i64, .ki .i64] (fun (x : (List IPiece) × Int × Int × Unit) => S_l10Byte_b0 k k x.1 x.2.1 x.2.2.1) z3e
def z3g (k : Nat) : Cuts D := ⟨[], []⟩
theorem z3h (k : Nat) : CutFor X z3b k Go.Proofs.Try.f42.results.toList (z3f k) (sub (bodyOf Go.Proofs.Try.f42) [1, 0, 1]) :=
  loopCut_s (X := X) (sg := [.kl 44, .ki .i64, .ki .i64]) (cu := z3g k) (cl := z3c k) (tys := [[0]]) (id := 0) (c := sub (bodyOf Go.Proofs.Try.f42) [1, 0, 1, 0, 0]) (f := fun n => fun (x : (List IPiece) × Int × Int × Unit) => S_l10Byte_b0 k n x.1 x.2.1 x.2.2.1) (z3d k) (cutOK_of (l := []) (by kernel_rfl) trivial) (fun _ => rfl) (fun n x Q R h => by
    simp only [S_l10Byte_b0, optK_bind, optK_bif, optK_pure, optK_none, optK_oc, optK_guardT, optK_map] at h
    refine hold_of h ?_
    kernel_rfl) (by kernel_rfl)
def z3i (k : Nat) : Cuts D := ⟨[(0, some (z3f k))], []⟩
def z3j : List Ar := [.c (.kl 44), .c (.ki .i64)]
def z3k (k : Nat) (x : TupA D z3j) : Option (Int) := S_l10Byte k x.1 x.2.1
def z3l (r : Int) : VR D := .p (.c (.int .i64 r))
theorem z3m (k : Nat) : Does P X 42 z3j (z3k k) z3l :=
  does_of (body := bodyOf Go.Proofs.Try.f42) (pl := z3b) (k := k) (cu := z3i k) (tys := [[0]]) (z3d k) ctx mixed Go.Proofs.Try.func42 (by kernel_rfl) (by kernel_rfl) (cutOK_of (l := [(z3f k, sub (bodyOf Go.Proofs.Try.f42) [1, 0, 1])]) (by kernel_rfl) ⟨z3h k, trivial⟩) fun x R h => by
    simp only [z3k, S_l10Byte, optK_bind, optK_bif, optK_pure, optK_none, optK_oc, optK_guardT, optK_map] at h
    refine hold_of h ?_
    kernel_rfl
def z3n (k : Nat) : Entry D := entS z3j (z3k k) z3l
theorem z3o (k : Nat) : EntryOK X 42 (z3n k) := (z3m k).en rfl
def z3p : Plan := ⟨[(0, [(0, none), (1, none)]), (1, [(0, none), (1, none), (7, none)]), (2, [(4, none)]), (3, [(4, none)])],
  [],
  [(7, ([(1, none)], [(0, none)]))]⟩
def z3q (k : Nat) : Calls' D := ⟨[], [], [], [], []⟩
theorem z3r (k : Nat) : CallsOK X (z3q k) := .nil cod
def z3s (k : Nat) : Cuts D := ⟨[], []⟩
def z3t : List Ar := [.c (.ki .i64), .c (.ki .i64)]
def z3u (k : Nat) (x : TupA D z3t) : Option (Int) := S_Max k x.1 x.2.1
def z3v (r : Int) : VR D := .p (.c (.int .i64 r))
theorem z3w (k : Nat) : Does P X 56 z3t (z3u k) z3v :=
  does_of (body := bodyOf Go.Proofs.Try.f56) (pl := z3p) (k := k) (cu := z3s k) (tys := [[0]]) (z3r k) ctx mixed Go.Proofs.Try.func56 (by kernel_rfl) (by kernel_rfl) (cutOK_of (l := []) (by kernel_rfl) trivial) fun x R h => by
    simp only [z3u, S_Max, optK_bind, optK_bif, optK_pure, optK_none, optK_oc, optK_guardT, optK_map] at h
    refine hold_of h ?_
    kernel_rfl
def z3x (k : Nat) : Entry D := entS z3t (z3u k) z3v
theorem z3y (k : Nat) : EntryOK X 56 (z3x k) := (z3w k).en rfl
def z3z : Plan := ⟨[(0, [(0, some 26), (3, none)]), (1, [(0, some 26), (3, none), (28, none)]), (2, [(4, some 26)]), (3, [(0, some 26), (3, none), (5, some 26)]), (4, [(0, some 26), (3, none), (5, some 26), (6, none)]), (5, [(0, some 26), (3, none), (5, some 26), (6, none), (36, none)]), (6, [(0, some 26), (3, none), (5, some 26), (6, none)]), (7, [(0, some 26), (3, none), (5, some 26), (6, none), (46, none)]), (8, [(0, some 26), (3, none), (5, some 26), (6, none)]), (9, [(0, some 26), (3, none), (5, some 26), (7, none)]), (10, [(0, some 26), (3, none), (5, some 26), (7, none), (57, none)]), (11, [(0, some 26), (3, none), (5, some 26), (7, none)]), (12, [(0, some 26), (3, none), (5, some 26), (7, none), (77, none)]), (13, [(0, some 26), (3, none), (5, some 26), (7, none)]), (14, [(0, some 26), (3, none), (5, some 26)]), (15, [(0, some 26), (3, none), (5, some 26), (8, none)]), (16, [(0, some 26), (3, none), (5, some 26), (8, none), (102, none)]), (17, [(0, some 26), (3, none), (5, some 26), (8, none)]), (18, [(0, some 26), (3, none), (5, some 26), (8, none), (112, none)]), (19, [(0, some 26), (3, none), (5, some 26), (8, none)]), (20, [(4, some 26)])],
  [(0, [(0, some 26), (3, none), (5, some 26)]), (1, [(0, some 26), (3, none), (5, some 26), (6, none)]), (2, [(0, some 26), (3, none), (5, some 26)]), (3, [(0, some 26), (3, none), (5, some 26), (7, none)]), (4, [(5, some 26)]), (5, [(0, some 26), (3, none), (5, some 26), (8, none)])],
  [(28, ([(0, some 26)], [(0, some 26), (3, none)])), (36, ([(0, some 26), (3, none), (5, some 26), (6, none)], [(0, some 26), (3, none), (5, some 26)])), (46, ([(0, some 26), (3, none), (5, some 26), (6, none)], [(0, some 26), (3, none), (5, some 26), (6, none)])), (57, ([(0, some 26), (3, none), (5, some 26), (7, none)], [(0, some 26), (3, none), (5, some 26)])), (77, ([(0, some 26), (3, none), (5, some 26), (7, none)], [(0, some 26), (3, none), (5, some 26), (7, none)])), (102, ([(0, some 26), (3, none), (5, some 26), (8, none)], [(5, some 26)])), (112, ([(0, some 26), (3, none), (5, some 26), (8, none)], [(0, some 26), (3, none), (5, some 26), (8, none)]))]⟩
def z40 (k : Nat) : Calls' D := ⟨[(11, z2z k), (55, z1m k), (56, z3x k)], [], [], [], []⟩
theorem z41 (k : Nat) : CallsOK X (z40 k) := .cons (z30 k) (.cons (z1n k) (.cons (z3y k) (.nil cod)))
def z42 (x : (List ISpan) × Int × Bool × Int × Int × (List ISpan) × Unit) (o : (List ISpan)) (Q : Ex → VSt D → Prop) (R : VR D → Prop) : Prop := Q .normal (mkSt ⟨[(0, .hole), (3, .ptr 3 0), (5, .ref 500005), (6, .hole)], [(3, .var [.hole, .hole]), (500005, .row)]⟩ [.sl 26 x.1, .int .i64 x.2.1, .int .i64 x.2.2.2.1, .int .i64 x.2.2.2.2.1, .sl 26 o])
def z43 (k : Nat) : Cut D := cutS ⟨[(0, .hole), (3, .ptr 3 0), (5, .ref 500005), (6, .hole), (46, .hole)], [(3, .var [.hole, .hole]), (500005, .row)]⟩ [.kl 26, .ki .i64, .kb, .ki .i64, .ki .i64, .kl 26] (fun (x : (List ISpan) × Int × Bool × Int × Int × (List ISpan) × Unit) => S_AddSpan_c46 k x.1 x.2.1 x.2.2.1 x.2.2.2.1 x.2.2.2.2.1 x.2.2.2.2.2.1) z42
def z44 (k : Nat) : Cuts D := ⟨[], []⟩
theorem z45 (k : Nat) : CutFor X z3z k Go.Proofs.Try.f43.results.toList (z43 k) (sub (bodyOf Go.Proofs.Try.f43) [1, 1, 1, 0, 1, 0, 0, 1, 0, 0, 1]) :=
  joinCut_s (X := X) (sg := [.kl 26, .ki .i64, .kb, .ki .i64, .ki .i64, .kl 26]) (cu := z44 k) (cl := z40 k) (tys := [[26]]) (z41 k) (cutOK_of (l := []) (by kernel_rfl) trivial) fun x Q R h => by
    simp only [S_AddSpan_c46, optK_bind, optK_bif, optK_pure, optK_none, optK_oc, optK_guardT, optK_map] at h
    refine hold_of h ?_
    kernel_rfl
def z46 (x : (List ISpan) × Int × Int × Int × (List ISpan) × Unit) (o : (List ISpan)) (Q : Ex → VSt D → Prop) (R : VR D → Prop) : Prop := Q .normal (mkSt ⟨[(0, .hole), (3, .ptr 3 0), (5, .ref 500005), (6, .hole)], [(3, .var [.hole, .hole]), (500005, .row)]⟩ [.sl 26 x.1, .int .i64 x.2.1, .int .i64 x.2.2.1, .int .i64 x.2.2.2.1, .sl 26 o])
def z47 (k : Nat) : Cut D := cutS ⟨[(0, .hole), (3, .ptr 3 0), (5, .ref 500005), (6, .hole)], [(3, .var [.hole, .hole]), (500005, .row)]⟩ [.kl 26, .ki .i64, .ki .i64, .ki .i64, .kl 26] (fun (x : (List ISpan) × Int × Int × Int × (List ISpan) × Unit) => S_AddSpan_b1 k x.1 x.2.1 x.2.2.1 x.2.2.2.1 x.2.2.2.2.1) z46
def z48 (k : Nat) : Cuts D := ⟨[], [(46, some (z43 k))]⟩
theorem z49 (k : Nat) : CutFor X z3z k Go.Proofs.Try.f43.results.toList (z47 k) (sub (bodyOf Go.Proofs.Try.f43) [1, 1, 1, 0, 1, 0, 0, 1, 0]) :=
  joinCut_s (X := X) (sg := [.kl 26, .ki .i64, .ki .i64, .ki .i64, .kl 26]) (cu := z48 k) (cl := z40 k) (tys := [[26]]) (z41 k) (cutOK_of (l := [(z43 k, sub (bodyOf Go.Proofs.Try.f43) [1, 1, 1, 0, 1, 0, 0, 1, 0, 0, 1])]) (by kernel_rfl) ⟨z45 k, trivial⟩) fun x Q R h => by
    simp only [S_AddSpan_b1, optK_bind, optK_bif, optK_pure, optK_none, optK_oc, optK_guardT, optK_map] at h
    refine hold_of h ?_
    kernel_rfl
def z4a (x : (List ISpan) × Int × Int × Int × (List ISpan) × Unit) (o : (List ISpan)) (Q : Ex → VSt D → Prop) (R : VR D → Prop) : Prop := Q .normal (mkSt ⟨[(0, .hole), (3, .ptr 3 0), (5, .ref 500005)], [(3, .var [.hole, .hole]), (500005, .row)]⟩ [.sl 26 x.1, .int .i64 x.2.2.1, .int .i64 x.2.2.2.1, .sl 26 o])
def z4b (k : Nat) : Cut D := cutS ⟨[(0, .hole), (3, .ptr 3 0), (5, .ref 500005), (6, .hole)], [(3, .var [.hole, .hole]), (500005, .row)]⟩ [.kl 26, .ki .i64, .ki .i64, .ki .i64, .kl 26] (fun (x : (List ISpan) × Int × Int × Int × (List ISpan) × Unit) => S_AddSpan_b0 k k x.1 x.2.1 x.2.2.1 x.2.2.2.1 x.2.2.2.2.1) z4a
def z4c (k : Nat) : Cuts D := ⟨[(1, some (z47 k))], []⟩
theorem z4d (k : Nat) : CutFor X z3z k Go.Proofs.Try.f43.results.toList (z4b k) (sub (bodyOf Go.Proofs.Try.f43) [1, 1, 1, 0, 1]) :=
  loopCut_s (X := X) (sg := [.kl 26, .ki .i64, .ki .i64, .ki .i64, .kl 26]) (cu := z4c k) (cl := z40 k) (tys := [[26]]) (id := 0) (c := sub (bodyOf Go.Proofs.Try.f43) [1, 1, 1, 0, 1, 0, 0]) (f := fun n => fun (x : (List ISpan) × Int × Int × Int × (List ISpan) × Unit) => S_AddSpan_b0 k n x.1 x.2.1 x.2.2.1 x.2.2.2.1 x.2.2.2.2.1) (z41 k) (cutOK_of (l := [(z47 k, sub (bodyOf Go.Proofs.Try.f43) [1, 1, 1, 0, 1, 0, 0, 1, 0])]) (by kernel_rfl) ⟨z49 k, trivial⟩) (fun _ => rfl) (fun n x Q R h => by
    simp only [S_AddSpan_b0, optK_bind, optK_bif, optK_pure, optK_none, optK_oc, optK_guardT, optK_map] at h
    refine hold_of h ?_
    kernel_rfl) (by kernel_rfl)
def z4e (x : (List ISpan) × Int × Bool × Int × Int × (List ISpan) × Unit) (o : Int × Int) (Q : Ex → VSt D → Prop) (R : VR D → Prop) : Prop := Q .normal (mkSt ⟨[(0, .hole), (3, .ptr 3 0), (5, .ref 500005), (7, .hole)], [(3, .var [.hole, .hole]), (500005, .row)]⟩ [.sl 26 x.1, .int .i64 x.2.1, .int .i64 o.1, .int .i64 o.2, .sl 26 x.2.2.2.2.2.1])
def z4f (k : Nat) : Cut D := cutS ⟨[(0, .hole), (3, .ptr 3 0), (5, .ref 500005), (7, .hole), (77, .hole)], [(3, .var [.hole, .hole]), (500005, .row)]⟩ [.kl 26, .ki .i64, .kb, .ki .i64, .ki .i64, .kl 26] (fun (x : (List ISpan) × Int × Bool × Int × Int × (List ISpan) × Unit) => S_AddSpan_c77 k x.1 x.2.1 x.2.2.1 x.2.2.2.1 x.2.2.2.2.1 x.2.2.2.2.2.1) z4e
def z4g (k : Nat) : Cuts D := ⟨[], []⟩
theorem z4h (k : Nat) : CutFor X z3z k Go.Proofs.Try.f43.results.toList (z4f k) (sub (bodyOf Go.Proofs.Try.f43) [1, 1, 1, 1, 0, 1, 0, 0, 1, 0, 0, 1]) :=
  joinCut_s (X := X) (sg := [.kl 26, .ki .i64, .kb, .ki .i64, .ki .i64, .kl 26]) (cu := z4g k) (cl := z40 k) (tys := [[26]]) (z41 k) (cutOK_of (l := []) (by kernel_rfl) trivial) fun x Q R h => by
    simp only [S_AddSpan_c77, optK_bind, optK_bif, optK_pure, optK_none, optK_oc, optK_guardT, optK_map] at h
    refine hold_of h ?_
    kernel_rfl
def z4i (x : (List ISpan) × Int × Int × Int × (List ISpan) × Unit) (o : Int × Int) (Q : Ex → VSt D → Prop) (R : VR D → Prop) : Prop := Q .normal (mkSt ⟨[(0, .hole), (3, .ptr 3 0), (5, .ref 500005), (7, .hole)], [(3, .var [.hole, .hole]), (500005, .row)]⟩ [.sl 26 x.1, .int .i64 x.2.1, .int .i64 o.1, .int .i64 o.2, .sl 26 x.2.2.2.2.1])
def z4j (k : Nat) : Cut D := cutS ⟨[(0, .hole), (3, .ptr 3 0), (5, .ref 500005), (7, .hole)], [(3, .var [.hole, .hole]), (500005, .row)]⟩ [.kl 26, .ki .i64, .ki .i64, .ki .i64, .kl 26] (fun (x : (List ISpan) × Int × Int × Int × (List ISpan) × Unit) => S_AddSpan_b3 k x.1 x.2.1 x.2.2.1 x.2.2.2.1 x.2.2.2.2.1) z4i
def z4k (k : Nat) : Cuts D := ⟨[], [(77, some (z4f k))]⟩
theorem z4l (k : Nat) : CutFor X z3z k Go.Proofs.Try.f43.results.toList (z4j k) (sub (bodyOf Go.Proofs.Try.f43) [1, 1, 1, 1, 0, 1, 0, 0, 1, 0]) :=
  joinCut_s (X := X) (sg := [.kl 26, .ki .i64, .ki .i64, .ki .i64, .kl 26]) (cu := z4k k) (cl := z40 k) (tys := [[26]]) (z41 k) (cutOK_of (l := [(z4f k, sub (bodyOf Go.Proofs.Try.f43) [1, 1, 1, 1, 0, 1, 0, 0, 1, 0, 0, 1])]) (by kernel_rfl) ⟨z4h k, trivial⟩) fun x Q R h => by
    simp only [S_AddSpan_b3, optK_bind, optK_bif, optK_pure, optK_none, optK_oc, optK_guardT, optK_map] at h
    refine hold_of h ?_
    kernel_rfl
def z4m (x : (List ISpan) × Int × Int × Int × (List ISpan) × Unit) (o : Int × Int) (Q : Ex → VSt D → Prop) (R : VR D → Prop) : Prop := Q .normal (mkSt ⟨[(0, .hole), (3, .ptr 3 0), (5, .ref 500005)], [(3, .var [.hole, .hole]), (500005, .row)]⟩ [.sl 26 x.1, .int .i64 o.1, .int .i64 o.2, .sl 26 x.2.2.2.2.1])
def z4n (k : Nat) : Cut D := cutS ⟨[(0, .hole), (3, .ptr 3 0), (5, .ref 500005), (7, .hole)], [(3, .var [.hole, .hole]), (500005, .row)]⟩ [.kl 26, .ki .i64, .ki .i64, .ki .i64, .kl 26] (fun (x : (List ISpan) × Int × Int × Int × (List ISpan) × Unit) => S_AddSpan_b2 k k x.1 x.2.1 x.2.2.1 x.2.2.2.1 x.2.2.2.2.1) z4m
def z4o (k : Nat) : Cuts D := ⟨[(3, some (z4j k))], []⟩
theorem z4p (k : Nat) : CutFor X z3z k Go.Proofs.Try.f43.results.toList (z4n k) (sub (bodyOf Go.Proofs.Try.f43) [1, 1, 1, 1, 0, 1]) :=
  loopCut_s (X := X) (sg := [.kl 26, .ki .i64, .ki .i64, .ki .i64, .kl 26]) (cu := z4o k) (cl := z40 k) (tys := [[26]]) (id := 2) (c := sub (bodyOf Go.Proofs.Try.f43) [1, 1, 1, 1, 0, 1, 0, 0]) (f := fun n => fun (x : (List ISpan) × Int × Int × Int × (List ISpan) × Unit) => S_AddSpan_b2 k n x.1 x.2.1 x.2.2.1 x.2.2.2.1 x.2.2.2.2.1) (z41 k) (cutOK_of (l := [(z4j k, sub (bodyOf Go.Proofs.Try.f43) [1, 1, 1, 1, 0, 1, 0, 0, 1, 0])]) (by kernel_rfl) ⟨z4l k, trivial⟩) (fun _ => rfl) (fun n x Q R h => by
    simp only [S_AddSpan_b2, optK_bind, optK_bif, optK_pure, optK_none, optK_oc, optK_guardT, optK_map] at h
    refine hold_of h ?_
    kernel_rfl) (by kernel_rfl)
def z4q (x : (List ISpan) × Int × Bool × Int × Int × (List ISpan) × Unit) (o : (List ISpan)) (Q : Ex → VSt D → Prop) (R : VR D → Prop) : Prop := Q .normal (mkSt ⟨[(0, .hole), (3, .ptr 3 0), (5, .ref 500005), (8, .hole)], [(3, .var [.hole, .hole]), (500005, .row)]⟩ [.sl 26 x.1, .int .i64 x.2.1, .int .i64 x.2.2.2.1, .int .i64 x.2.2.2.2.1, .sl 26 o])
def z4r (k : Nat) : Cut D := cutS ⟨[(0, .hole), (3, .ptr 3 0), (5, .ref 500005), (8, .hole), (112, .hole)], [(3, .var [.hole, .hole]), (500005, .row)]⟩ [.kl 26, .ki .i64, .kb, .ki .i64, .ki .i64, .kl 26] (fun (x : (List ISpan) × Int × Bool × Int × Int × (List ISpan) × Unit) => S_AddSpan_c112 k x.1 x.2.1 x.2.2.1 x.2.2.2.1 x.2.2.2.2.1 x.2.2.2.2.2.1) z4q
def z4s (k : Nat) : Cuts D := ⟨[], []⟩
theorem z4t (k : Nat) : CutFor X z3z k Go.Proofs.Try.f43.results.toList (z4r k) (sub (bodyOf Go.Proofs.Try.f43) [1, 1, 1, 1, 1, 1, 0, 1, 0, 0, 1, 0, 0, 1]) :=
  joinCut_s (X := X) (sg := [.kl 26, .ki .i64, .kb, .ki .i64, .ki .i64, .kl 26]) (cu := z4s k) (cl := z40 k) (tys := [[26]]) (z41 k) (cutOK_of (l := []) (by kernel_rfl) trivial) fun x Q R h => by
    simp only [S_AddSpan_c112, optK_bind, optK_bif, optK_pure, optK_none, optK_oc, optK_guardT, optK_map] at h
    refine hold_of h ?_
    kernel_rfl
def z4u (x : (List ISpan) × Int × Int × Int × (List ISpan) × Unit) (o : (List ISpan)) (Q : Ex → VSt D → Prop) (R : VR D → Prop) : Prop := Q .normal (mkSt ⟨[(0, .hole), (3, .ptr 3 0), (5, .ref 500005), (8, .hole)], [(3, .var [.hole, .hole]), (500005, .row)]⟩ [.sl 26 x.1, .int .i64 x.2.1, .int .i64 x.2.2.1, .int .i64 x.2.2.2.1, .sl 26 o])
def z4v (k : Nat) : Cut D := cutS ⟨[(0, .hole), (3, .ptr 3 0), (5, .ref 500005), (8, .hole)], [(3, .var [.hole, .hole]), (500005, .row)]⟩ [.kl 26, .ki .i64, .ki .i64, .ki .i64, .kl 26] (fun (x : (List ISpan) × Int × Int × Int × (List ISpan) × Unit) => S_AddSpan_b5 k x.1 x.2.1 x.2.2.1 x.2.2.2.1 x.2.2.2.2.1) z4u
def z4w (k : Nat) : Cuts D := ⟨[], [(112, some (z4r k))]⟩
theorem z4x (k : Nat) : CutFor X z3z k Go.Proofs.Try.f43.results.toList (z4v k) (sub (bodyOf Go.Proofs.Try.f43) [1, 1, 1, 1, 1, 1, 0, 1, 0, 0, 1, 0]) :=
  joinCut_s (X := X) (sg := [.kl 26, .ki .i64, .ki .i64, .ki .i64, .kl 26]) (cu := z4w k) (cl := z40 k) (tys := [[26]]) (z41 k) (cutOK_of (l := [(z4r k, sub (bodyOf Go.Proofs.Try.f43) [1, 1, 1, 1, 1, 1, 0, 1, 0, 0, 1, 0, 0, 1])]) (by kernel_rfl) ⟨z4t k, trivial⟩) fun x Q R h => by
    simp only [S_AddSpan_b5, optK_bind, optK_bif, optK_pure, optK_none, optK_oc, optK_guardT, optK_map] at h
    refine hold_of h ?_
    kernel_rfl
def z4y (x : (List ISpan) × Int × Int × Int × (List ISpan) × Unit) (o : (List ISpan)) (Q : Ex → VSt D → Prop) (R : VR D → Prop) : Prop := Q .normal (mkSt ⟨[(5, .ref 500005)], [(500005, .row)]⟩ [.sl 26 o])
def z4z (k : Nat) : Cut D := cutS ⟨[(0, .hole), (3, .ptr 3 0), (5, .ref 500005), (8, .hole)], [(3, .var [.hole, .hole]), (500005, .row)]⟩ [.kl 26, .ki .i64, .ki .i64, .ki .i64, .kl 26] (fun (x : (List ISpan) × Int × Int × Int × (List ISpan) × Unit) => S_AddSpan_b4 k k x.1 x.2.1 x.2.2.1 x.2.2.2.1 x.2.2.2.2.1) z4y
def z50 (k : Nat) : Cuts D := ⟨[(5, some (z4v k))], []⟩
theorem z51 (k : Nat) : CutFor X z3z k Go.Proofs.Try.f43.results.toList (z4z k) (sub (bodyOf Go.Proofs.Try.f43) [1, 1, 1, 1, 1, 1, 0, 1]) :=
  loopCut_s (X := X) (sg := [.kl 26, .ki .i64, .ki .i64, .ki .i64, .kl 26]) (cu := z50 k) (cl := z40 k) (tys := [[26]]) (id := 4) (c := sub (bodyOf Go.Proofs.Try.f43) [1, 1, 1, 1, 1, 1, 0, 1, 0, 0]) (f := fun n => fun (x : (List ISpan) × Int × Int × Int × (List ISpan) × Unit) => S_AddSpan_b4 k n x.1 x.2.1 x.2.2.1 x.2.2.2.1 x.2.2.2.2.1) (z41 k) (cutOK_of (l := [(z4v k, sub (bodyOf Go.Proofs.Try.f43) [1, 1, 1, 1, 1, 1, 0, 1, 0, 0, 1, 0])]) (by kernel_rfl) ⟨z4x k, trivial⟩) (fun _ => rfl) (fun n x Q R h => by
    simp only [S_AddSpan_b4, optK_bind, optK_bif, optK_pure, optK_none, optK_oc, optK_guardT, optK_map] at h
    refine hold_of h ?_
    kernel_rfl) (by kernel_rfl)
def z52 (k : Nat) : Cuts D := ⟨[(0, some (z4b k)), (2, some (z4n k)), (4, some (z4z k))], []⟩
def z53 : List Ar := [.c (.kl 26), .a [.ki .i64, .ki .i64]]
def z54 (k : Nat) (x : TupA D z53) : Option ((List ISpan)) := S_AddSpan k x.1 (⟨x.2.1.1, x.2.1.2.1⟩ : ISpan)
def z55 (r : (List ISpan)) : VR D := .p (.c (.sl 26 r))
theorem z56 (k : Nat) : Does P X 43 z53 (z54 k) z55 :=
  does_of (body := bodyOf Go.Proofs.Try.f43) (pl := z3z) (k := k) (cu := z52 k) (tys := [[26]]) (z41 k) ctx mixed Go.Proofs.Try.func43 (by kernel_rfl) (by kernel_rfl) (cutOK_of (l := [(z4b k, sub (bodyOf Go.Proofs.Try.f43) [1, 1, 1, 0, 1]), (z4n k, sub (bodyOf Go.Proofs.Try.f43) [1, 1, 1, 1, 0, 1]), (z4z k, sub (bodyOf Go.Proofs.Try.f43) [1, 1, 1, 1, 1, 1, 0, 1])]) (by kernel_rfl) ⟨z4d k, z4p k, z51 k, trivial⟩) fun x R h => by
    simp only [z54, S_AddSpan, optK_bind, optK_bif, optK_pure, optK_none, optK_oc, optK_guardT, optK_map] at h
    refine hold_of h ?_
    kernel_rfl
def z57 (k : Nat) : Entry D := entS z53 (z54 k) z55
theorem z58 (k : Nat) : EntryOK X 43 (z57 k) := (z56 k).en rfl
def z59 : Plan := ⟨[(0, [(0, some 44), (1, none), (5, none)]), (1, [(0, some 44), (1, none), (5, none), (8, some 44)]), (2, [(0, some 44), (1, none), (5, none), (8, some 44), (9, none)]), (3, [(0, some 44), (5, none), (8, some 44), (9, none), (58, none)]), (4, [(6, some 44), (7, none)]), (5, [(0, some 44), (5, none), (8, some 44), (9, none), (10, none)]), (6, [(0, some 44), (5, none), (8, some 44), (9, none), (10, none), (64, none)]), (7, [(0, some 44), (5, none), (8, some 44), (9, none), (10, none)]), (8, [(0, some 44), (5, none), (8, some 44), (9, none), (10, none), (11, none)]), (9, [(0, some 44), (5, none), (8, some 44), (9, none), (10, none), (83, none)]), (10, [(6, some 44), (7, none)]), (11, [(0, some 44), (5, none), (8, some 44), (12, some 26)]), (12, [(0, some 44), (5, none), (8, some 44), (12, some 26), (94, none)]), (13, [(6, some 44), (7, none)]), (14, [(0, some 44), (5, none), (12, some 26), (13, some 44)]), (15, [(0, some 44), (5, none), (12, some 26), (13, some 44), (14, none)]), (16, [(0, some 44), (5, none), (12, some 26), (13, some 44), (14, none), (100, none)]), (17, [(0, some 44), (5, none), (12, some 26), (13, some 44), (14, none)]), (18, [(0, some 44), (5, none), (12, some 26), (13, some 44), (14, none), (15, some 5)]), (19, [(0, some 44), (5, none), (12, some 26), (13, some 44), (14, none), (15, some 5), (16, none)]), (20, [(0, some 44), (5, none), (12, some 26), (13, some 44), (14, none), (15, some 5), (16, none), (115, none)]), (21, [(0, some 44), (5, none), (12, some 26), (13, some 44), (14, none), (15, some 5), (16, none)]), (22, [(0, some 44), (5, none), (12, some 26), (13, some 44), (14, none), (15, some 5), (16, none), (17, none)]), (23, [(0, some 44), (5, none), (12, some 26), (13, some 44), (14, none), (15, some 5), (16, none), (17, none), (122, none)]), (24, [(0, some 44), (5, none), (12, some 26), (13, some 44), (14, none), (15, some 5), (16, none), (17, none)]), (25, [(0, some 44), (5, none), (12, some 26), (13, some 44), (14, none), (15, some 5), (16, none)]), (26, [(0, some 44), (5, none), (12, some 26), (13, some 44), (14, none)]), (27, [(6, some 44), (7, none)])],
  [(0, [(0, some 44), (5, none), (8, some 44), (9, none)]), (1, [(0, some 44), (5, none), (8, some 44), (9, none), (10, none)]), (2, [(13, some 44)]), (3, [(0, some 44), (5, none), (12, some 26), (13, some 44), (14, none)]), (4, [(0, some 44), (5, none), (12, some 26), (13, some 44), (14, none), (15, some 5)]), (5, [(0, some 44), (5, none), (12, some 26), (13, some 44), (14, none), (15, some 5), (16, none)])],
  [(58, ([(8, some 44)], [(0, some 44), (5, none), (8, some 44), (9, none)])), (64, ([(0, some 44), (5, none), (8, some 44), (9, none), (10, none)], [(0, some 44), (5, none), (8, some 44), (9, none)])), (83, ([(8, some 44)], [(0, some 44), (5, none), (8, some 44), (9, none), (10, none)])), (94, ([(8, some 44)], [(0, some 44), (5, none), (12, some 26)])), (100, ([(0, some 44), (5, none), (12, some 26), (13, some 44), (14, none)], [(13, some 44)])), (115, ([(0, some 44), (5, none), (12, some 26), (13, some 44), (14, none), (15, some 5), (16, none)], [(0, some 44), (5, none), (12, some 26), (13, some 44), (14, none), (15, some 5)])), (122, ([(0, some 44), (5, none), (12, some 26), (13, some 44), (14, none), (15, some 5), (16, none)], [(0, some 44), (5, none), (12, some 26), (13, some 44), (14, none), (15, some 5), (16, none), (17, none)]))]⟩
def z5a (k : Nat) : Calls' D := ⟨[(29, z39 k), (42, z3n k), (44, z2b k), (43, z57 k)], [], [], [], []⟩
theorem z5b (k : Nat) : CallsOK X (z5a k) := .cons (z3a k) (.cons (z3o k) (.cons (z2c k) (.cons (z58 k) (.nil cod))))
def z5c (x : (List IPiece) × Int × Int × Int × (List UInt8) × (List IPiece) × Unit) (o : Oc (Unit) ((List IPiece) × Bool)) (Q : Ex → VSt D → Prop) (R : VR D → Prop) : Prop := ocP o (fun v0 => Q .normal (mkSt ⟨[(0, .hole), (5, .ptr 5 0), (8, .ref 500008), (9, .hole)], [(5, .var [.hole, .hole]), (500008, .row)]⟩ [.sl 44 x.1, .int .i64 x.2.1, .int .i64 x.2.2.2.1, .str x.2.2.2.2.1, .sl 44 x.2.2.2.2.2.1])) (fun w0 => R (.tup [.c (.sl 44 w0.1), .c (.bool w0.2)]))
def z5d (k : Nat) : Cut D := cutS ⟨[(0, .hole), (5, .ptr 5 0), (8, .ref 500008), (9, .hole), (10, .hole)], [(5, .var [.hole, .hole]), (500008, .row)]⟩ [.kl 44, .ki .i64, .ki .i64, .ki .i64, .ks, .kl 44] (fun (x : (List IPiece) × Int × Int × Int × (List UInt8) × (List IPiece) × Unit) => S_AddPiece_b0 k k x.1 x.2.1 x.2.2.1 x.2.2.2.1 x.2.2.2.2.1 x.2.2.2.2.2.1) z5c
def z5e (k : Nat) : Cuts D := ⟨[], []⟩
theorem z5f (k : Nat) : CutFor X z59 k Go.Proofs.Try.f20.results.toList (z5d k) (sub (bodyOf Go.Proofs.Try.f20) [1, 1, 1, 1, 0, 1]) :=
  loopCut_s (X := X) (sg := [.kl 44, .ki .i64, .ki .i64, .ki .i64, .ks, .kl 44]) (cu := z5e k) (cl := z5a k) (tys := [[44], [0]]) (id := 0) (c := sub (bodyOf Go.Proofs.Try.f20) [1, 1, 1, 1, 0, 1, 0, 0]) (f := fun n => fun (x : (List IPiece) × Int × Int × Int × (List UInt8) × (List IPiece) × Unit) => S_AddPiece_b0 k n x.1 x.2.1 x.2.2.1 x.2.2.2.1 x.2.2.2.2.1 x.2.2.2.2.2.1) (z5b k) (cutOK_of (l := []) (by kernel_rfl) trivial) (fun _ => rfl) (fun n x Q R h => by
    simp only [S_AddPiece_b0, optK_bind, optK_bif, optK_pure, optK_none, optK_oc, optK_guardT, optK_map] at h
    refine hold_of h ?_
    kernel_rfl) (by kernel_rfl)
def z5g (x : (List IPiece) × Int × Int × Int × Bool × Int × (List UInt8) × (List ISpan) × (List IPiece) × (List Int) × Unit) (o : Int) (Q : Ex → VSt D → Prop) (R : VR D → Prop) : Prop := Q .normal (mkSt ⟨[(0, .hole), (5, .ptr 5 0), (12, .ref 500012), (13, .ref 500013), (14, .hole), (15, .ref 500015), (16, .hole), (17, .hole)], [(5, .var [.hole, .hole]), (500012, .row), (500013, .row), (500015, .row)]⟩ [.sl 44 x.1, .int .i64 x.2.1, .int .i64 x.2.2.1, .int .i64 o, .int .i64 x.2.2.2.2.2.1, .str x.2.2.2.2.2.2.1, .sl 26 x.2.2.2.2.2.2.2.1, .sl 44 x.2.2.2.2.2.2.2.2.1, .sl 5 x.2.2.2.2.2.2.2.2.2.1])
def z5h (k : Nat) : Cut D := cutS ⟨[(0, .hole), (5, .ptr 5 0), (12, .ref 500012), (13, .ref 500013), (14, .hole), (15, .ref 500015), (16, .hole), (17, .hole), (122, .hole)], [(5, .var [.hole, .hole]), (500012, .row), (500013, .row), (500015, .row)]⟩ [.kl 44, .ki .i64, .ki .i64, .ki .i64, .kb, .ki .i64, .ks, .kl 26, .kl 44, .kl 5] (fun (x : (List IPiece) × Int × Int × Int × Bool × Int × (List UInt8) × (List ISpan) × (List IPiece) × (List Int) × Unit) => S_AddPiece_c122 k x.1 x.2.1 x.2.2.1 x.2.2.2.1 x.2.2.2.2.1 x.2.2.2.2.2.1 x.2.2.2.2.2.2.1 x.2.2.2.2.2.2.2.1 x.2.2.2.2.2.2.2.2.1 x.2.2.2.2.2.2.2.2.2.1) z5g
def z5i (k : Nat) : Cuts D := ⟨[], []⟩
theorem z5j (k : Nat) : CutFor X z59 k Go.Proofs.Try.f20.results.toList (z5h k) (sub (bodyOf Go.Proofs.Try.f20) [1, 1, 1, 1, 1, 1, 1, 1, 0, 1, 0, 0, 1, 0, 0, 1, 0, 1, 0, 0, 1, 0, 0, 1, 0, 1]) :=
  joinCut_s (X := X) (sg := [.kl 44, .ki .i64, .ki .i64, .ki .i64, .kb, .ki .i64, .ks, .kl 26, .kl 44, .kl 5]) (cu := z5i k) (cl := z5a k) (tys := [[44], [0]]) (z5b k) (cutOK_of (l := []) (by kernel_rfl) trivial) fun x Q R h => by
    simp only [S_AddPiece_c122, optK_bind, optK_bif, optK_pure, optK_none, optK_oc, optK_guardT, optK_map] at h
    refine hold_of h ?_
    kernel_rfl
def z5k (x : (List IPiece) × Int × Int × Int × (List UInt8) × (List ISpan) × (List IPiece) × (List Int) × Unit) (o : (List Int)) (Q : Ex → VSt D → Prop) (R : VR D → Prop) : Prop := Q .normal (mkSt ⟨[(0, .hole), (5, .ptr 5 0), (12, .ref 500012), (13, .ref 500013), (14, .hole), (15, .ref 500015), (16, .hole)], [(5, .var [.hole, .hole]), (500012, .row), (500013, .row), (500015, .row)]⟩ [.sl 44 x.1, .int .i64 x.2.1, .int .i64 x.2.2.1, .int .i64 x.2.2.2.1, .str x.2.2.2.2.1, .sl 26 x.2.2.2.2.2.1, .sl 44 x.2.2.2.2.2.2.1, .sl 5 o])
def z5l (k : Nat) : Cut D := cutS ⟨[(0, .hole), (5, .ptr 5 0), (12, .ref 500012), (13, .ref 500013), (14, .hole), (15, .ref 500015), (16, .hole)], [(5, .var [.hole, .hole]), (500012, .row), (500013, .row), (500015, .row)]⟩ [.kl 44, .ki .i64, .ki .i64, .ki .i64, .ks, .kl 26, .kl 44, .kl 5] (fun (x : (List IPiece) × Int × Int × Int × (List UInt8) × (List ISpan) × (List IPiece) × (List Int) × Unit) => S_AddPiece_b5 k x.1 x.2.1 x.2.2.1 x.2.2.2.1 x.2.2.2.2.1 x.2.2.2.2.2.1 x.2.2.2.2.2.2.1 x.2.2.2.2.2.2.2.1) z5k
def z5m (k : Nat) : Cuts D := ⟨[], [(122, some (z5h k))]⟩
theorem z5n (k : Nat) : CutFor X z59 k Go.Proofs.Try.f20.results.toList (z5l k) (sub (bodyOf Go.Proofs.Try.f20) [1, 1, 1, 1, 1, 1, 1, 1, 0, 1, 0, 0, 1, 0, 0, 1, 0, 1, 0, 0, 1, 0]) :=
  joinCut_s (X := X) (sg := [.kl 44, .ki .i64, .ki .i64, .ki .i64, .ks, .kl 26, .kl 44, .kl 5]) (cu := z5m k) (cl := z5a k) (tys := [[44], [0]]) (z5b k) (cutOK_of (l := [(z5h k, sub (bodyOf Go.Proofs.Try.f20) [1, 1, 1, 1, 1, 1, 1, 1, 0, 1, 0, 0, 1, 0, 0, 1, 0, 1, 0, 0, 1, 0, 0, 1, 0, 1])]) (by kernel_rfl) ⟨z5j k, trivial⟩) fun x Q R h => by
    simp only [S_AddPiece_b5, optK_bind, optK_bif, optK_pure, optK_none, optK_oc, optK_guardT, optK_map] at h
    refine hold_of h ?_
    kernel_rfl
def z5o (x : (List IPiece) × Int × Int × Int × (List UInt8) × (List ISpan) × (List IPiece) × (List Int) × Unit) (o : (List Int)) (Q : Ex → VSt D → Prop) (R : VR D → Prop) : Prop := Q .normal (mkSt ⟨[(0, .hole), (5, .ptr 5 0), (12, .ref 500012), (13, .ref 500013), (14, .hole), (15, .ref 500015)], [(5, .var [.hole, .hole]), (500012, .row), (500013, .row), (500015, .row)]⟩ [.sl 44 x.1, .int .i64 x.2.1, .int .i64 x.2.2.2.1, .str x.2.2.2.2.1, .sl 26 x.2.2.2.2.2.1, .sl 44 x.2.2.2.2.2.2.1, .sl 5 o])
def z5p (k : Nat) : Cut D := cutS ⟨[(0, .hole), (5, .ptr 5 0), (12, .ref 500012), (13, .ref 500013), (14, .hole), (15, .ref 500015), (16, .hole)], [(5, .var [.hole, .hole]), (500012, .row), (500013, .row), (500015, .row)]⟩ [.kl 44, .ki .i64, .ki .i64, .ki .i64, .ks, .kl 26, .kl 44, .kl 5] (fun (x : (List IPiece) × Int × Int × Int × (List UInt8) × (List ISpan) × (List IPiece) × (List Int) × Unit) => S_AddPiece_b4 k k x.1 x.2.1 x.2.2.1 x.2.2.2.1 x.2.2.2.2.1 x.2.2.2.2.2.1 x.2.2.2.2.2.2.1 x.2.2.2.2.2.2.2.1) z5o
def z5q (k : Nat) : Cuts D := ⟨[(5, some (z5l k))], []⟩
theorem z5r (k : Nat) : CutFor X z59 k Go.Proofs.Try.f20.results.toList (z5p k) (sub (bodyOf Go.Proofs.Try.f20) [1, 1, 1, 1, 1, 1, 1, 1, 0, 1, 0, 0, 1, 0, 0, 1, 0, 1]) :=
  loopCut_s (X := X) (sg := [.kl 44, .ki .i64, .ki .i64, .ki .i64, .ks, .kl 26, .kl 44, .kl 5]) (cu := z5q k) (cl := z5a k) (tys := [[44], [0]]) (id := 4) (c := sub (bodyOf Go.Proofs.Try.f20) [1, 1, 1, 1, 1, 1, 1, 1, 0, 1, 0, 0, 1, 0, 0, 1, 0, 1, 0, 0]) (f := fun n => fun (x : (List IPiece) × Int × Int × Int × (List UInt8) × (List ISpan) × (List IPiece) × (List Int) × Unit) => S_AddPiece_b4 k n x.1 x.2.1 x.2.2.1 x.2.2.2.1 x.2.2.2.2.1 x.2.2.2.2.2.1 x.2.2.2.2.2.2.1 x.2.2.2.2.2.2.2.1) (z5b k) (cutOK_of (l := [(z5l k, sub (bodyOf Go.Proofs.Try.f20) [1, 1, 1, 1, 1, 1, 1, 1, 0, 1, 0, 0, 1, 0, 0, 1, 0, 1, 0, 0, 1, 0])]) (by kernel_rfl) ⟨z5n k, trivial⟩) (fun _ => rfl) (fun n x Q R h => by
    simp only [S_AddPiece_b4, optK_bind, optK_bif, optK_pure, optK_none, optK_oc, optK_guardT, optK_map] at h
    refine hold_of h ?_
    kernel_rfl) (by kernel_rfl)
def z5s (x : (List IPiece) × Int × Int × (List UInt8) × (List ISpan) × (List IPiece) × Unit) (o : (List IPiece)) (Q : Ex → VSt D → Prop) (R : VR D → Prop) : Prop := Q .normal (mkSt ⟨[(13, .ref 500013)], [(500013, .row)]⟩ [.sl 44 o])
def z5t (k : Nat) : Cut D := cutS ⟨[(0, .hole), (5, .ptr 5 0), (12, .ref 500012), (13, .ref 500013), (14, .hole)], [(5, .var [.hole, .hole]), (500012, .row), (500013, .row)]⟩ [.kl 44, .ki .i64, .ki .i64, .ks, .kl 26, .kl 44] (fun (x : (List IPiece) × Int × Int × (List UInt8) × (List ISpan) × (List IPiece) × Unit) => S_AddPiece_b2 k k x.1 x.2.1 x.2.2.1 x.2.2.2.1 x.2.2.2.2.1 x.2.2.2.2.2.1) z5s
def z5u (k : Nat) : Cuts D := ⟨[(4, some (z5p k))], []⟩
theorem z5v (k : Nat) : CutFor X z59 k Go.Proofs.Try.f20.results.toList (z5t k) (sub (bodyOf Go.Proofs.Try.f20) [1, 1, 1, 1, 1, 1, 1, 1, 0, 1]) :=
  loopCut_s (X := X) (sg := [.kl 44, .ki .i64, .ki .i64, .ks, .kl 26, .kl 44]) (cu := z5u k) (cl := z5a k) (tys := [[44], [0]]) (id := 2) (c := sub (bodyOf Go.Proofs.Try.f20) [1, 1, 1, 1, 1, 1, 1, 1, 0, 1, 0, 0]) (f := fun n => fun (x : (List IPiece) × Int × Int × (List UInt8) × (List ISpan) × (List IPiece) × Unit) => S_AddPiece_b2 k n x.1 x.2.1 x.2.2.1 x.2.2.2.1 x.2.2.2.2.1 x.2.2.2.2.2.1) (z5b k) (cutOK_of (l := [(z5p k, sub (bodyOf Go.Proofs.Try.f20) [1, 1, 1, 1, 1, 1, 1, 1, 0, 1, 0, 0, 1, 0, 0, 1, 0, 1])]) (by kernel_rfl) ⟨z5r k, trivial⟩) (fun _ => rfl) (fun n x Q R h => by
    simp only [S_AddPiece_b2, optK_bind, optK_bif, optK_pure, optK_none, optK_oc, optK_guardT, optK_map] at h
    refine hold_of h ?_
    kernel_rfl) (by kernel_rfl)
def z5w (k : Nat) : Cuts D := ⟨[(0, some (z5d k)), (2, some (z5t k))], []⟩
def z5x : List Ar := [.c (.kl 44), .c (.ki .i64), .a [.ki .i64, .ks]]
def z5y (k : Nat) (x : TupA D z5x) : Option ((List IPiece) × Bool) := S_AddPiece k x.1 x.2.1 (⟨x.2.2.1.1, x.2.2.1.2.1⟩ : IPiece)
def z5z (r : (List IPiece) × Bool) : VR D := .tup [.c (.sl 44 r.1), .c (.bool r.2)]
theorem z60 (k : Nat) : Does P X 20 z5x (z5y k) z5z :=
  does_of (body := bodyOf Go.Proofs.Try.f20) (pl := z59) (k := k) (cu := z5w k) (tys := [[44], [0]]) (z5b k) ctx mixed Go.Proofs.Try.func20 (by kernel_rfl) (by kernel_rfl) (cutOK_of (l := [(z5d k, sub (bodyOf Go.Proofs.Try.f20) [1, 1, 1, 1, 0, 1]), (z5t k, sub (bodyOf Go.Proofs.Try.f20) [1, 1, 1, 1, 1, 1, 1, 1, 0, 1])]) (by kernel_rfl) ⟨z5f k, z5v k, trivial⟩) fun x R h => by
    simp only [z5y, S_AddPiece, optK_bind, optK_bif, optK_pure, optK_none, optK_oc, optK_guardT, optK_map] at h
    refine hold_of h ?_
    kernel_rfl
def z61 (k : Nat) : Entry D := entS z5x (z5y k) z5z
theorem z62 (k : Nat) : EntryOK X 20 (z61 k) := (z60 k).en rfl
def z63 : Plan := ⟨[(0, [(0, none), (1, none)]), (1, [(0, none), (4, none)])],
  [],
  []⟩
def z64 (k : Nat) : Calls' D := ⟨[], [], [(41, z1c k)], [], []⟩
theorem z65 (k : Nat) : CallsOK X (z64 k) := .consP (z1d k) (.nil cod)
def z66 (k : Nat) : Cuts D := ⟨[], []⟩
def z67 : List Ar := [.c (.ki .i64)]
def z68 (k : Nat) (c : Tup D [.kl 5, .ki .i64, .ki .i64]) (x : TupA D z67) : Option (Bool × Sl1Cur) := S_l1Once k (⟨c.1, c.2.1, c.2.2.1⟩ : Sl1Cur) x.1
def z69 (r : Bool × Sl1Cur) : Tup D [.kl 5, .ki .i64, .ki .i64] := (r.2.b, r.2.i, r.2.h, ())
def z6a (r : Bool × Sl1Cur) : List (VP D) := [.c (.bool r.1)]
theorem z6b (k : Nat) : DoesP P X 36 [.kl 5, .ki .i64, .ki .i64] z67 (z68 k) z6a z69 :=
  doesP_of (pt := 73) (body := bodyOf Go.Proofs.Try.f36) (pl := z63) (k := k) (cu := z66 k) (tys := [[0]]) (z65 k) ctx mixed Go.Proofs.Try.func36 (by kernel_rfl) (by kernel_rfl) (by kernel_rfl) (by kernel_rfl) (cutOK_of (l := []) (by kernel_rfl) trivial) fun c x R h => by
    simp only [z68, S_l1Once, optK_bind, optK_bif, optK_pure, optK_none, optK_oc, optK_guardT, optK_map] at h
    refine hold_of h ?_
    kernel_rfl
def z6c (k : Nat) : EntryP D := entP [.kl 5, .ki .i64, .ki .i64] z67 (z68 k) z6a z69
theorem z6d (k : Nat) : EntryPOK X 36 (z6c k) := (z6b k).en rfl
def z6e : Plan := ⟨[(0, [(0, none)]), (1, [(0, none), (3, some 44)]), (2, [(0, none), (3, some 44), (4, none)]), (3, [(0, none), (3, some 44), (4, none), (9, none)]), (4, [(0, none), (3, some 44), (4, none)]), (5, [(0, none), (3, some 44), (4, none)]), (6, [(0, none), (3, some 44), (20, none)]), (7, [(0, none), (3, some 44)]), (8, [(0, none), (2, some 44)])],
  [(0, [(0, none), (3, some 44)]), (1, [(0, none), (3, some 44), (4, none)])],
  [(9, ([(0, none), (3, some 44), (4, none)], [(0, none), (3, some 44)])), (20, ([(0, none), (3, some 44)], [(0, none), (3, some 44)]))]⟩
def z6f (k : Nat) : Calls' D := ⟨[(20, z61 k)], [], [(41, z1c k), (50, z1x k), (36, z6c k)], [], []⟩
theorem z6g (k : Nat) : CallsOK X (z6f k) := .cons (z62 k) (.consP (z1d k) (.consP (z1y k) (.consP (z6d k) (.nil cod))))
def z6h (x : Int × (List Int) × Int × Int × (List IPiece) × Unit) (o : (List Int) × Int × Int × (List IPiece)) (Q : Ex → VSt D → Prop) (R : VR D → Prop) : Prop := Q .normal (mkSt ⟨[(0, .ptr 700000 0), (3, .ref 500003)], [(700000, .var [.hole, .hole, .hole]), (500003, .row)]⟩ [.sl 5 o.1, .int .i64 o.2.1, .int .i64 o.2.2.1, .sl 44 o.2.2.2])
def z6i (k : Nat) : Cut D := cutS ⟨[(0, .ptr 700000 0), (3, .ref 500003), (4, .hole)], [(700000, .var [.hole, .hole, .hole]), (500003, .row)]⟩ [.ki .i64, .kl 5, .ki .i64, .ki .i64, .kl 44] (fun (x : Int × (List Int) × Int × Int × (List IPiece) × Unit) => S_l10Draw_b0 k k x.1 x.2.1 x.2.2.1 x.2.2.2.1 x.2.2.2.2.1) z6h
def z6j (k : Nat) : Cuts D := ⟨[], []⟩
theorem z6k (k : Nat) : CutFor X z6e k (.cell 0 73 :: Go.Proofs.Try.f49.results.toList) (z6i k) (sub (bodyOf Go.Proofs.Try.f49) [1, 1, 0, 1]) :=
  loopCut_s (X := X) (sg := [.ki .i64, .kl 5, .ki .i64, .ki .i64, .kl 44]) (cu := z6j k) (cl := z6f k) (tys := [[44]]) (id := 0) (c := sub (bodyOf Go.Proofs.Try.f49) [1, 1, 0, 1, 0, 0]) (f := fun n => fun (x : Int × (List Int) × Int × Int × (List IPiece) × Unit) => S_l10Draw_b0 k n x.1 x.2.1 x.2.2.1 x.2.2.2.1 x.2.2.2.2.1) (z6g k) (cutOK_of (l := []) (by kernel_rfl) trivial) (fun _ => rfl) (fun n x Q R h => by
    simp only [S_l10Draw_b0, optK_bind, optK_bif, optK_pure, optK_none, optK_oc, optK_guardT, optK_map] at h
    refine hold_of h ?_
    kernel_rfl) (by kernel_rfl)
def z6l (x : Bool × (List Int) × Int × Int × (List IPiece) × Unit) (o : (List Int) × Int × Int × (List IPiece)) (Q : Ex → VSt D → Prop) (R : VR D → Prop) : Prop := Q .normal (mkSt ⟨[(0, .ptr 700000 0), (3, .ref 500003)], [(700000, .var [.hole, .hole, .hole]), (500003, .row)]⟩ [.sl 5 o.1, .int .i64 o.2.1, .int .i64 o.2.2.1, .sl 44 o.2.2.2])
def z6m (k : Nat) : Cut D := cutS ⟨[(0, .ptr 700000 0), (3, .ref 500003), (20, .hole)], [(700000, .var [.hole, .hole, .hole]), (500003, .row)]⟩ [.kb, .kl 5, .ki .i64, .ki .i64, .kl 44] (fun (x : Bool × (List Int) × Int × Int × (List IPiece) × Unit) => S_l10Draw_c20 k x.1 x.2.1 x.2.2.1 x.2.2.2.1 x.2.2.2.2.1) z6l
def z6n (k : Nat) : Cuts D := ⟨[], []⟩
theorem z6o (k : Nat) : CutFor X z6e k (.cell 0 73 :: Go.Proofs.Try.f49.results.toList) (z6m k) (sub (bodyOf Go.Proofs.Try.f49) [1, 1, 1, 0, 1]) :=
  joinCut_s (X := X) (sg := [.kb, .kl 5, .ki .i64, .ki .i64, .kl 44]) (cu := z6n k) (cl := z6f k) (tys := [[44]]) (z6g k) (cutOK_of (l := []) (by kernel_rfl) trivial) fun x Q R h => by
    simp only [S_l10Draw_c20, optK_bind, optK_bif, optK_pure, optK_none, optK_oc, optK_guardT, optK_map] at h
    refine hold_of h ?_
    kernel_rfl
def z6p (k : Nat) : Cuts D := ⟨[(0, some (z6i k))], [(20, some (z6m k))]⟩
def z6q : List Ar := []
def z6r (k : Nat) (c : Tup D [.kl 5, .ki .i64, .ki .i64]) (x : TupA D z6q) : Option ((List IPiece) × Sl1Cur) := S_l10Draw k (⟨c.1, c.2.1, c.2.2.1⟩ : Sl1Cur)
def z6s (r : (List IPiece) × Sl1Cur) : Tup D [.kl 5, .ki .i64, .ki .i64] := (r.2.b, r.2.i, r.2.h, ())
def z6t (r : (List IPiece) × Sl1Cur) : List (VP D) := [.c (.sl 44 r.1)]
theorem z6u (k : Nat) : DoesP P X 49 [.kl 5, .ki .i64, .ki .i64] z6q (z6r k) z6t z6s :=
  doesP_of (pt := 73) (body := bodyOf Go.Proofs.Try.f49) (pl := z6e) (k := k) (cu := z6p k) (tys := [[44]]) (z6g k) ctx mixed Go.Proofs.Try.func49 (by kernel_rfl) (by kernel_rfl) (by kernel_rfl) (by kernel_rfl) (cutOK_of (l := [(z6i k, sub (bodyOf Go.Proofs.Try.f49) [1, 1, 0, 1]), (z6m k, sub (bodyOf Go.Proofs.Try.f49) [1, 1, 1, 0, 1])]) (by kernel_rfl) ⟨z6k k, z6o k, trivial⟩) fun c x R h => by
    simp only [z6r, S_l10Draw, optK_bind, optK_bif, optK_pure, optK_none, optK_oc, optK_guardT, optK_map] at h
    refine hold_of h ?_
    kernel_rfl
def z6v (k : Nat) : EntryP D := entP [.kl 5, .ki .i64, .ki .i64] z6q (z6r k) z6t z6s
theorem z6w (k : Nat) : EntryPOK X 49 (z6v k) := (z6u k).en rfl
def z6x : Plan := ⟨[(0, [(0, none), (1, some 3)]), (1, [(0, none), (4, none)])],
  [],
  []⟩
def z6y (k : Nat) : Calls' D := ⟨[], [], [(41, z1c k)], [], []⟩
theorem z6z (k : Nat) : CallsOK X (z6y k) := .consP (z1d k) (.nil cod)
def z70 (k : Nat) : Cuts D := ⟨[], []⟩
def z71 : List Ar := [.c (.kl 3)]
def z72 (k : Nat) (c : Tup D [.kl 5, .ki .i64, .ki .i64]) (x : TupA D z71) : Option (Int × Sl1Cur) := S_l1Int k (⟨c.1, c.2.1, c.2.2.1⟩ : Sl1Cur) x.1
def z73 (r : Int × Sl1Cur) : Tup D [.kl 5, .ki .i64, .ki .i64] := (r.2.b, r.2.i, r.2.h, ())
def z74 (r : Int × Sl1Cur) : List (VP D) := [.c (.int .i64 r.1)]
theorem z75 (k : Nat) : DoesP P X 51 [.kl 5, .ki .i64, .ki .i64] z71 (z72 k) z74 z73 :=
  doesP_of (pt := 73) (body := bodyOf Go.Proofs.Try.f51) (pl := z6x) (k := k) (cu := z70 k) (tys := [[0]]) (z6z k) ctx mixed Go.Proofs.Try.func51 (by kernel_rfl) (by kernel_rfl) (by kernel_rfl) (by kernel_rfl) (cutOK_of (l := []) (by kernel_rfl) trivial) fun c x R h => by
    simp only [z72, S_l1Int, optK_bind, optK_bif, optK_pure, optK_none, optK_oc, optK_guardT, optK_map] at h
    refine hold_of h ?_
    kernel_rfl
def z76 (k : Nat) : EntryP D := entP [.kl 5, .ki .i64, .ki .i64] z71 (z72 k) z74 z73
theorem z77 (k : Nat) : EntryPOK X 51 (z76 k) := (z75 k).en rfl
def z78 : Plan := ⟨[(0, [(0, none)]), (1, [(0, none), (2, none)])],
  [],
  []⟩
def z79 (k : Nat) : Calls' D := ⟨[], [], [(51, z76 k)], [], []⟩
theorem z7a (k : Nat) : CallsOK X (z79 k) := .consP (z77 k) (.nil cod)
def z7b (k : Nat) : Cuts D := ⟨[], []⟩
def z7c : List Ar := []
def z7d (k : Nat) (c : Tup D [.kl 5, .ki .i64, .ki .i64]) (x : TupA D z7c) : Option (Int × Sl1Cur) := S_l1Odd k (⟨c.1, c.2.1, c.2.2.1⟩ : Sl1Cur)
def z7e (r : Int × Sl1Cur) : Tup D [.kl 5, .ki .i64, .ki .i64] := (r.2.b, r.2.i, r.2.h, ())
def z7f (r : Int × Sl1Cur) : List (VP D) := [.c (.int .i64 r.1)]
theorem z7g (k : Nat) : DoesP P X 37 [.kl 5, .ki .i64, .ki .i64] z7c (z7d k) z7f z7e :=
  doesP_of (pt := 73) (body := bodyOf Go.Proofs.Try.f37) (pl := z78) (k := k) (cu := z7b k) (tys := [[0]]) (z7a k) ctx mixed Go.Proofs.Try.func37 (by kernel_rfl) (by kernel_rfl) (by kernel_rfl) (by kernel_rfl) (cutOK_of (l := []) (by kernel_rfl) trivial) fun c x R h => by
    simp only [z7d, S_l1Odd, optK_bind, optK_bif, optK_pure, optK_none, optK_oc, optK_guardT, optK_map] at h
    refine hold_of h ?_
    kernel_rfl
def z7h (k : Nat) : EntryP D := entP [.kl 5, .ki .i64, .ki .i64] z7c (z7d k) z7f z7e
theorem z7i (k : Nat) : EntryPOK X 37 (z7h k) := (z7g k).en rfl
def z7j : Plan := ⟨[(0, [(0, some 5), (4, none)]), (1, [(4, none), (5, none)]), (2, [(4, none), (5, none), (6, some 44)]), (3, [(4, none), (5, none), (6, some 44), (7, none)]), (4, [(4, none), (5, none), (6, some 44), (7, none), (15, none)]), (5, [(4, none), (5, none), (6, some 44), (7, none), (15, none), (16, none)]), (6, [(4, none), (5, none), (6, some 44), (7, none)]), (7, [(4, none), (5, none), (6, some 44), (7, none), (19, none)]), (8, [(4, none), (5, none), (6, some 44), (7, none)]), (9, [(2, some 44), (3, none), (4, none)])],
  [(0, [(4, none), (5, none), (6, some 44), (7, none)])],
  [(16, ([(4, none), (5, none), (6, some 44), (7, none)], [(4, none), (5, none), (6, some 44), (7, none), (15, none)])), (19, ([(4, none), (5, none), (6, some 44), (7, none)], [(4, none), (5, none), (6, some 44), (7, none)]))]⟩
def z7k (k : Nat) : Calls' D := ⟨[], [], [(49, z6v k), (50, z1x k), (41, z1c k), (37, z7h k), (51, z76 k)], [(33, zm k)], []⟩
theorem z7l (k : Nat) : CallsOK X (z7k k) := .consP (z6w k) (.consP (z1y k) (.consP (z1d k) (.consP (z7i k) (.consP (z77 k) (.consB (zn k) (.nil cod))))))
def z7m (x : Bool × Int × (List UInt8) × (List Int) × Int × Int × (List IPiece) × Int × (List UInt8) × Unit) (o : (List Int) × Int × Int × Int) (Q : Ex → VSt D → Prop) (R : VR D → Prop) : Prop := Q .normal (mkSt ⟨[(4, .ptr 4 0), (5, .ptr 9 0), (6, .ref 500006), (7, .ptr 7 0)], [(4, .var [.hole, .hole]), (9, .var [.hole, .hole, .hole]), (500006, .row), (7, .var [.hole, .hole])]⟩ [.int .i64 x.2.1, .str x.2.2.1, .sl 5 o.1, .int .i64 o.2.1, .int .i64 o.2.2.1, .sl 44 x.2.2.2.2.2.2.1, .int .i64 o.2.2.2, .str x.2.2.2.2.2.2.2.2.1])
def z7n (k : Nat) : Cut D := cutS ⟨[(4, .ptr 4 0), (5, .ptr 9 0), (6, .ref 500006), (7, .ptr 7 0), (19, .hole)], [(4, .var [.hole, .hole]), (9, .var [.hole, .hole, .hole]), (500006, .row), (7, .var [.hole, .hole])]⟩ [.kb, .ki .i64, .ks, .kl 5, .ki .i64, .ki .i64, .kl 44, .ki .i64, .ks] (fun (x : Bool × Int × (List UInt8) × (List Int) × Int × Int × (List IPiece) × Int × (List UInt8) × Unit) => S_DrawAddPiece_c19 k x.1 x.2.1 x.2.2.1 x.2.2.2.1 x.2.2.2.2.1 x.2.2.2.2.2.1 x.2.2.2.2.2.2.1 x.2.2.2.2.2.2.2.1 x.2.2.2.2.2.2.2.2.1) z7m
def z7o (k : Nat) : Cuts D := ⟨[], []⟩
theorem z7p (k : Nat) : CutFor X z7j k Go.Proofs.Try.f27.results.toList (z7n k) (sub (bodyOf Go.Proofs.Try.f27) [1, 1, 1, 1, 0, 1, 0, 1, 1, 1]) :=
  joinCut_s (X := X) (sg := [.kb, .ki .i64, .ks, .kl 5, .ki .i64, .ki .i64, .kl 44, .ki .i64, .ks]) (cu := z7o k) (cl := z7k k) (tys := [[44], [0], [0, 0]]) (z7l k) (cutOK_of (l := []) (by kernel_rfl) trivial) fun x Q R h => by
    simp only [S_DrawAddPiece_c19, optK_bind, optK_bif, optK_pure, optK_none, optK_oc, optK_guardT, optK_map] at h
    refine hold_of h ?_
    kernel_rfl
def z7q (x : Int × Bool × Int × (List UInt8) × (List Int) × Int × Int × (List IPiece) × Int × (List UInt8) × Unit) (o : (List Int) × Int × Int × Int × (List UInt8)) (Q : Ex → VSt D → Prop) (R : VR D → Prop) : Prop := Q .normal (mkSt ⟨[(4, .ptr 4 0), (5, .ptr 9 0), (6, .ref 500006), (7, .ptr 7 0)], [(4, .var [.hole, .hole]), (9, .var [.hole, .hole, .hole]), (500006, .row), (7, .var [.hole, .hole])]⟩ [.int .i64 x.2.2.1, .str x.2.2.2.1, .sl 5 o.1, .int .i64 o.2.1, .int .i64 o.2.2.1, .sl 44 x.2.2.2.2.2.2.2.1, .int .i64 o.2.2.2.1, .str o.2.2.2.2])
def z7r (k : Nat) : Cut D := cutS ⟨[(4, .ptr 4 0), (5, .ptr 9 0), (6, .ref 500006), (7, .ptr 7 0), (15, .hole), (16, .hole)], [(4, .var [.hole, .hole]), (9, .var [.hole, .hole, .hole]), (500006, .row), (7, .var [.hole, .hole])]⟩ [.ki .i64, .kb, .ki .i64, .ks, .kl 5, .ki .i64, .ki .i64, .kl 44, .ki .i64, .ks] (fun (x : Int × Bool × Int × (List UInt8) × (List Int) × Int × Int × (List IPiece) × Int × (List UInt8) × Unit) => S_DrawAddPiece_c16 k x.1 x.2.1 x.2.2.1 x.2.2.2.1 x.2.2.2.2.1 x.2.2.2.2.2.1 x.2.2.2.2.2.2.1 x.2.2.2.2.2.2.2.1 x.2.2.2.2.2.2.2.2.1 x.2.2.2.2.2.2.2.2.2.1) z7q
def z7s (k : Nat) : Cuts D := ⟨[], [(19, some (z7n k))]⟩
theorem z7t (k : Nat) : CutFor X z7j k Go.Proofs.Try.f27.results.toList (z7r k) (sub (bodyOf Go.Proofs.Try.f27) [1, 1, 1, 1, 0, 1, 0, 1]) :=
  joinCut_s (X := X) (sg := [.ki .i64, .kb, .ki .i64, .ks, .kl 5, .ki .i64, .ki .i64, .kl 44, .ki .i64, .ks]) (cu := z7s k) (cl := z7k k) (tys := [[44], [0], [0, 0]]) (z7l k) (cutOK_of (l := [(z7n k, sub (bodyOf Go.Proofs.Try.f27) [1, 1, 1, 1, 0, 1, 0, 1, 1, 1])]) (by kernel_rfl) ⟨z7p k, trivial⟩) fun x Q R h => by
    simp only [S_DrawAddPiece_c16, optK_bind, optK_bif, optK_pure, optK_none, optK_oc, optK_guardT, optK_map] at h
    refine hold_of h ?_
    kernel_rfl
def z7u (x : Int × Int × (List UInt8) × (List Int) × Int × Int × (List IPiece) × Int × (List UInt8) × Unit) (o : (List Int) × Int × Int × Int × (List UInt8)) (Q : Ex → VSt D → Prop) (R : VR D → Prop) : Prop := Q .normal (mkSt ⟨[(4, .ptr 4 0), (5, .ptr 9 0), (6, .ref 500006), (7, .ptr 7 0)], [(4, .var [.hole, .hole]), (9, .var [.hole, .hole, .hole]), (500006, .row), (7, .var [.hole, .hole])]⟩ [.int .i64 x.2.1, .str x.2.2.1, .sl 5 o.1, .int .i64 o.2.1, .int .i64 o.2.2.1, .sl 44 x.2.2.2.2.2.2.1, .int .i64 o.2.2.2.1, .str o.2.2.2.2])
def z7v (k : Nat) : Cut D := cutS ⟨[(4, .ptr 4 0), (5, .ptr 9 0), (6, .ref 500006), (7, .ptr 7 0), (15, .hole)], [(4, .var [.hole, .hole]), (9, .var [.hole, .hole, .hole]), (500006, .row), (7, .var [.hole, .hole])]⟩ [.ki .i64, .ki .i64, .ks, .kl 5, .ki .i64, .ki .i64, .kl 44, .ki .i64, .ks] (fun (x : Int × Int × (List UInt8) × (List Int) × Int × Int × (List IPiece) × Int × (List UInt8) × Unit) => S_DrawAddPiece_b0 k x.1 x.2.1 x.2.2.1 x.2.2.2.1 x.2.2.2.2.1 x.2.2.2.2.2.1 x.2.2.2.2.2.2.1 x.2.2.2.2.2.2.2.1 x.2.2.2.2.2.2.2.2.1) z7u
def z7w (k : Nat) : Cuts D := ⟨[], [(16, some (z7r k))]⟩
theorem z7x (k : Nat) : CutFor X z7j k Go.Proofs.Try.f27.results.toList (z7v k) (sub (bodyOf Go.Proofs.Try.f27) [1, 1, 1, 1, 0, 1]) :=
  joinCut_s (X := X) (sg := [.ki .i64, .ki .i64, .ks, .kl 5, .ki .i64, .ki .i64, .kl 44, .ki .i64, .ks]) (cu := z7w k) (cl := z7k k) (tys := [[44], [0], [0, 0]]) (z7l k) (cutOK_of (l := [(z7r k, sub (bodyOf Go.Proofs.Try.f27) [1, 1, 1, 1, 0, 1, 0, 1])]) (by kernel_rfl) ⟨z7t k, trivial⟩) fun x Q R h => by
    simp only [S_DrawAddPiece_b0, optK_bind, optK_bif, optK_pure, optK_none, optK_oc, optK_guardT, optK_map] at h
    refine hold_of h ?_
    kernel_rfl
def z7y (k : Nat) : Cuts D := ⟨[(0, some (z7v k))], []⟩
def z7z : List Ar := [.c (.kl 5)]
def z80 (k : Nat) (x : TupA D z7z) : Option ((List IPiece) × Int × IPiece) := S_DrawAddPiece k x.1
def z81 (r : (List IPiece) × Int × IPiece) : VR D := .tup [.c (.sl 44 r.1), .c (.int .i64 r.2.1), .agg [.int .i64 r.2.2.From, .str r.2.2.Data]]
theorem z82 (k : Nat) : Does P X 27 z7z (z80 k) z81 :=
  does_of (body := bodyOf Go.Proofs.Try.f27) (pl := z7j) (k := k) (cu := z7y k) (tys := [[44], [0], [0, 0]]) (z7l k) ctx mixed Go.Proofs.Try.func27 (by kernel_rfl) (by kernel_rfl) (cutOK_of (l := [(z7v k, sub (bodyOf Go.Proofs.Try.f27) [1, 1, 1, 1, 0, 1])]) (by kernel_rfl) ⟨z7x k, trivial⟩) fun x R h => by
    simp only [z80, S_DrawAddPiece, optK_bind, optK_bif, optK_pure, optK_none, optK_oc, optK_guardT, optK_map] at h
    refine hold_of h ?_
    kernel_rfl
def z83 (k : Nat) : Entry D := entS z7z (z80 k) z81
theorem z84 (k : Nat) : EntryOK X 27 (z83 k) := (z82 k).en rfl
def z85 : Plan := ⟨[(0, [(0, some 44)]), (1, [(0, some 44), (3, some 26)]), (2, [(3, some 26), (7, some 44), (8, none), (9, none)]), (3, [(3, some 26), (7, some 44), (8, none), (9, none), (10, none)]), (4, [(3, some 26), (5, none), (7, some 44), (8, none), (9, none)]), (5, [(3, some 26), (7, some 44), (8, none), (9, none)]), (6, [(3, some 26), (7, some 44), (8, none), (9, none)]), (7, [(2, some 26)])],
  [(0, [(3, some 26)]), (1, [(3, some 26), (7, some 44), (8, none), (9, none)])],
  [(10, ([(3, some 26), (7, some 44), (8, none), (9, none)], [(3, some 26)]))]⟩
def z86 (k : Nat) : Calls' D := ⟨[], [], [], [], []⟩
theorem z87 (k : Nat) : CallsOK X (z86 k) := .nil cod
def z88 (x : (List IPiece) × Int × Int × (List ISpan) × Unit) (o : (List ISpan)) (Q : Ex → VSt D → Prop) (R : VR D → Prop) : Prop := Q .normal (mkSt ⟨[(3, .ref 500003)], [(500003, .row)]⟩ [.sl 26 o])
def z89 (k : Nat) : Cut D := cutS ⟨[(3, .ref 500003), (7, .hole), (8, .hole), (9, .hole)], [(500003, .row)]⟩ [.kl 44, .ki .i64, .ki .i64, .kl 26] (fun (x : (List IPiece) × Int × Int × (List ISpan) × Unit) => I_SpansOf_b0 k k x.1 x.2.1 x.2.2.1 x.2.2.2.1) z88
def z8a (k : Nat) : Cuts D := ⟨[], []⟩
theorem z8b (k : Nat) : CutFor X z85 k Go.Proofs.Try.f30.results.toList (z89 k) (sub (bodyOf Go.Proofs.Try.f30) [1, 1, 0, 1]) :=
  loopCut_s (X := X) (sg := [.kl 44, .ki .i64, .ki .i64, .kl 26]) (cu := z8a k) (cl := z86 k) (tys := [[26]]) (id := 0) (c := sub (bodyOf Go.Proofs.Try.f30) [1, 1, 0, 1, 0, 0]) (f := fun n => fun (x : (List IPiece) × Int × Int × (List ISpan) × Unit) => I_SpansOf_b0 k n x.1 x.2.1 x.2.2.1 x.2.2.2.1) (z87 k) (cutOK_of (l := []) (by kernel_rfl) trivial) (fun _ => rfl) (fun n x Q R h => by
    simp only [I_SpansOf_b0, optK_bind, optK_bif, optK_pure, optK_none, optK_oc, optK_guardT, optK_map] at h
    refine hold_of h ?_
    kernel_rfl) (by kernel_rfl)
def z8c (k : Nat) : Cuts D := ⟨[(0, some (z89 k))], []⟩
def z8d : List Ar := [.c (.kl 44)]
def z8e (k : Nat) (x : TupA D z8d) : Option ((List ISpan)) := I_SpansOf k x.1
def z8f (r : (List ISpan)) : VR D := .p (.c (.sl 26 r))
theorem z8g (k : Nat) : Does P X 30 z8d (z8e k) z8f :=
  does_of (body := bodyOf Go.Proofs.Try.f30) (pl := z85) (k := k) (cu := z8c k) (tys := [[26]]) (z87 k) ctx mixed Go.Proofs.Try.func30 (by kernel_rfl) (by kernel_rfl) (cutOK_of (l := [(z89 k, sub (bodyOf Go.Proofs.Try.f30) [1, 1, 0, 1])]) (by kernel_rfl) ⟨z8b k, trivial⟩) fun x R h => by
    simp only [z8e, I_SpansOf, optK_bind, optK_bif, optK_pure, optK_none, optK_oc, optK_guardT, optK_map] at h
    refine hold_of h ?_
    kernel_rfl
def z8h (k : Nat) : Entry D := entS z8d (z8e k) z8f
theorem z8i (k : Nat) : EntryOK X 30 (z8h k) := (z8g k).en rfl
def z8j : Plan := ⟨[(0, [(0, none), (1, none), (2, none)]), (1, [(6, none)])],
  [],
  []⟩
def z8k (k : Nat) : Calls' D := ⟨[], [], [], [], []⟩
theorem z8l (k : Nat) : CallsOK X (z8k k) := .nil cod
def z8m (k : Nat) : Cuts D := ⟨[], []⟩
def z8n : List Ar := [.c (.ki .i64), .c (.ki .i64), .c (.ki .i64)]
def z8o (k : Nat) (x : TupA D z8n) : Option (Bool) := I_inRange k x.1 x.2.1 x.2.2.1
def z8p (r : Bool) : VR D := .p (.c (.bool r))
theorem z8q (k : Nat) : Does P X 57 z8n (z8o k) z8p :=
  does_of (body := bodyOf Go.Proofs.Try.f57) (pl := z8j) (k := k) (cu := z8m k) (tys := [[0]]) (z8l k) ctx mixed Go.Proofs.Try.func57 (by kernel_rfl) (by kernel_rfl) (cutOK_of (l := []) (by kernel_rfl) trivial) fun x R h => by
    simp only [z8o, I_inRange, optK_bind, optK_bif, optK_pure, optK_none, optK_oc, optK_guardT, optK_map] at h
    refine hold_of h ?_
    kernel_rfl
def z8r (k : Nat) : Entry D := entS z8n (z8o k) z8p
theorem z8s (k : Nat) : EntryOK X 57 (z8r k) := (z8q k).en rfl
def z8t : Plan := ⟨[(0, [(0, some 26)]), (1, [(0, some 26), (5, some 26), (6, none), (7, none)]), (2, [(0, some 26), (5, some 26), (6, none), (7, none), (8, none)]), (3, [(0, some 26), (3, none), (4, none), (5, some 26), (6, none), (7, none)]), (4, [(0, some 26), (5, some 26), (6, none), (7, none), (41, none)]), (5, [(2, none)]), (6, [(0, some 26), (5, some 26), (6, none), (7, none)]), (7, [(2, none)])],
  [(0, []), (1, [(0, some 26), (5, some 26), (6, none), (7, none)])],
  [(8, ([(0, some 26), (5, some 26), (6, none), (7, none)], [])), (41, ([], [(0, some 26), (5, some 26), (6, none), (7, none)]))]⟩
def z8u (k : Nat) : Calls' D := ⟨[], [], [], [], []⟩
theorem z8v (k : Nat) : CallsOK X (z8u k) := .nil cod
def z8w (x : (List ISpan) × (List ISpan) × Int × Int × Unit) (o : Oc (Unit) (Bool)) (Q : Ex → VSt D → Prop) (R : VR D → Prop) : Prop := ocP o (fun v0 => Q .normal (mkSt ⟨[], []⟩ [])) (fun w0 => R (.p (.c (.bool w0))))
def z8x (k : Nat) : Cut D := cutS ⟨[(0, .hole), (5, .hole), (6, .hole), (7, .hole)], []⟩ [.kl 26, .kl 26, .ki .i64, .ki .i64] (fun (x : (List ISpan) × (List ISpan) × Int × Int × Unit) => I_IsSpanSet_b0 k k x.1 x.2.1 x.2.2.1 x.2.2.2.1) z8w
def z8y (k : Nat) : Cuts D := ⟨[], []⟩
theorem z8z (k : Nat) : CutFor X z8t k Go.Proofs.Try.f16.results.toList (z8x k) (sub (bodyOf Go.Proofs.Try.f16) [1, 0, 1]) :=
  loopCut_s (X := X) (sg := [.kl 26, .kl 26, .ki .i64, .ki .i64]) (cu := z8y k) (cl := z8u k) (tys := [[0]]) (id := 0) (c := sub (bodyOf Go.Proofs.Try.f16) [1, 0, 1, 0, 0]) (f := fun n => fun (x : (List ISpan) × (List ISpan) × Int × Int × Unit) => I_IsSpanSet_b0 k n x.1 x.2.1 x.2.2.1 x.2.2.2.1) (z8v k) (cutOK_of (l := []) (by kernel_rfl) trivial) (fun _ => rfl) (fun n x Q R h => by
    simp only [I_IsSpanSet_b0, optK_bind, optK_bif, optK_pure, optK_none, optK_oc, optK_guardT, optK_map] at h
    refine hold_of h ?_
    kernel_rfl) (by kernel_rfl)
def z90 (k : Nat) : Cuts D := ⟨[(0, some (z8x k))], []⟩
def z91 : List Ar := [.c (.kl 26)]
def z92 (k : Nat) (x : TupA D z91) : Option (Bool) := I_IsSpanSet k x.1
def z93 (r : Bool) : VR D := .p (.c (.bool r))
theorem z94 (k : Nat) : Does P X 16 z91 (z92 k) z93 :=
  does_of (body := bodyOf Go.Proofs.Try.f16) (pl := z8t) (k := k) (cu := z90 k) (tys := [[0]]) (z8v k) ctx mixed Go.Proofs.Try.func16 (by kernel_rfl) (by kernel_rfl) (cutOK_of (l := [(z8x k, sub (bodyOf Go.Proofs.Try.f16) [1, 0, 1])]) (by kernel_rfl) ⟨z8z k, trivial⟩) fun x R h => by
    simp only [z92, I_IsSpanSet, optK_bind, optK_bif, optK_pure, optK_none, optK_oc, optK_guardT, optK_map] at h
    refine hold_of h ?_
    kernel_rfl
def z95 (k : Nat) : Entry D := entS z91 (z92 k) z93
theorem z96 (k : Nat) : EntryOK X 16 (z95 k) := (z94 k).en rfl
def z97 : Plan := ⟨[(0, [(0, some 44), (1, none)]), (1, [(0, some 44), (1, none), (5, some 26)]), (2, [(1, none), (5, some 26), (20, none)]), (3, [(4, none)]), (4, [(4, none)])],
  [],
  [(20, ([], [(1, none), (5, some 26)]))]⟩
def z98 (k : Nat) : Calls' D := ⟨[(30, z8h k), (57, z8r k), (16, z95 k)], [], [], [], []⟩
theorem z99 (k : Nat) : CallsOK X (z98 k) := .cons (z8i k) (.cons (z8s k) (.cons (z96 k) (.nil cod)))
def z9a (k : Nat) : Cuts D := ⟨[], []⟩
def z9b : List Ar := [.c (.kl 44), .c (.ki .i64)]
def z9c (k : Nat) (x : TupA D z9b) : Option (Bool) := I_ArePieces k x.1 x.2.1
def z9d (r : Bool) : VR D := .p (.c (.bool r))
theorem z9e (k : Nat) : Does P X 45 z9b (z9c k) z9d :=
  does_of (body := bodyOf Go.Proofs.Try.f45) (pl := z97) (k := k) (cu := z9a k) (tys := [[0]]) (z99 k) ctx mixed Go.Proofs.Try.func45 (by kernel_rfl) (by kernel_rfl) (cutOK_of (l := []) (by kernel_rfl) trivial) fun x R h => by
    simp only [z9c, I_ArePieces, optK_bind, optK_bif, optK_pure, optK_none, optK_oc, optK_guardT, optK_map] at h
    refine hold_of h ?_
    kernel_rfl
def z9f (k : Nat) : Entry D := entS z9b (z9c k) z9d
theorem z9g (k : Nat) : EntryOK X 45 (z9f k) := (z9e k).en rfl
def z9h : Plan := ⟨[(0, [(0, some 44)]), (1, [(0, some 44), (4, none)]), (2, [(2, some 44)]), (3, [(2, some 44)])],
  [],
  [(4, ([], [(0, some 44)]))]⟩
def z9i (k : Nat) : Calls' D := ⟨[], [], [], [], []⟩
theorem z9j (k : Nat) : CallsOK X (z9i k) := .nil cod
def z9k (k : Nat) : Cuts D := ⟨[], []⟩
def z9l : List Ar := [.c (.kl 44)]
def z9m (k : Nat) (x : TupA D z9l) : Option ((List IPiece)) := slices_Clone_IPiece k x.1
def z9n (r : (List IPiece)) : VR D := .p (.c (.sl 44 r))
theorem z9o (k : Nat) : Does P X 46 z9l (z9m k) z9n :=
  doesClone_of (body := bodyOf Go.Proofs.Try.f46) (el := 44) (by' := 24) (pl := z9h) (k := k) (cu := z9k k) (tys := [[44]]) (z9j k) ctx mixed Go.Proofs.Try.func46 (by kernel_rfl) (by kernel_rfl) (by kernel_rfl) (cutOK_of (l := []) (by kernel_rfl) trivial) (cutOK_of (l := []) (by kernel_rfl) trivial) (fun R h => by
    refine hold_of h ?_
    kernel_rfl) fun x R h => by
    refine hold_of h ?_
    kernel_rfl
def z9p (k : Nat) : Entry D := entS z9l (z9m k) z9n
theorem z9q (k : Nat) : EntryOK X 46 (z9p k) := (z9o k).en rfl
def z9r : Plan := ⟨[(0, [(1, none), (2, none)]), (1, [(3, none)])],
  [],
  []⟩
def z9s (k : Nat) : Calls' D := ⟨[], [], [], [], []⟩
theorem z9t (k : Nat) : CallsOK X (z9s k) := .nil cod
def z9u (k : Nat) : Cuts D := ⟨[], []⟩
def z9v : List Ar := [.a [.ki .i64, .ki .i64], .x [.ki .i64, .ki .i64]]
def z9w (k : Nat) (x : TupA D z9v) : Option (Bool) := I_CoversSpan_1 k (⟨x.1.1, x.1.2.1⟩ : ISpan) x.2.1.1 x.2.1.2.1
def z9x (r : Bool) : VR D := .p (.c (.bool r))
theorem z9y (k : Nat) : Does P X 40 z9v (z9w k) z9x :=
  does_of (body := bodyOf Go.Proofs.Try.f40) (pl := z9r) (k := k) (cu := z9u k) (tys := [[0]]) (z9t k) ctx mixed Go.Proofs.Try.func40 (by kernel_rfl) (by kernel_rfl) (cutOK_of (l := []) (by kernel_rfl) trivial) fun x R h => by
    simp only [z9w, I_CoversSpan_1, optK_bind, optK_bif, optK_pure, optK_none, optK_oc, optK_guardT, optK_map] at h
    refine hold_of h ?_
    kernel_rfl
def z9z (k : Nat) : Entry D := entS z9v (z9w k) z9x
theorem za0 (k : Nat) : EntryOK X 40 (z9z k) := (z9y k).en rfl
def za1 : Plan := ⟨[(0, [(0, some 26), (1, none)]), (1, [(0, some 26), (1, none), (7, none), (8, none)]), (2, [(0, some 26), (1, none), (7, none), (8, none), (9, none)]), (3, [(0, some 26), (1, none), (5, none), (7, none), (8, none)]), (4, [(0, some 26), (1, none), (5, none), (7, none), (8, none), (16, none)]), (5, [(4, none)]), (6, [(0, some 26), (1, none), (7, none), (8, none)]), (7, [(4, none)])],
  [(0, []), (1, [(0, some 26), (1, none), (7, none), (8, none)])],
  [(9, ([(0, some 26), (1, none), (7, none), (8, none)], [])), (16, ([(5, none)], [(0, some 26), (1, none), (7, none), (8, none)]))]⟩
def za2 (k : Nat) : Calls' D := ⟨[(40, z9z k)], [], [], [], []⟩
theorem za3 (k : Nat) : CallsOK X (za2 k) := .cons (za0 k) (.nil cod)
def za4 (x : (List ISpan) × Int × Int × Int × Int × Unit) (o : Oc (Unit) (Int)) (Q : Ex → VSt D → Prop) (R : VR D → Prop) : Prop := ocP o (fun v0 => Q .normal (mkSt ⟨[], []⟩ [])) (fun w0 => R (.p (.c (.int .i64 w0))))
def za5 (k : Nat) : Cut D := cutS ⟨[(0, .hole), (1, .clo 40 [.rptr 2]), (7, .hole), (8, .hole)], []⟩ [.kl 26, .ki .i64, .ki .i64, .ki .i64, .ki .i64] (fun (x : (List ISpan) × Int × Int × Int × Int × Unit) => slices_IndexFunc_ISpan_at_I_CoversSpan_1_b0 k k x.1 x.2.1 x.2.2.1 x.2.2.2.1 x.2.2.2.2.1) za4
def za6 (k : Nat) : Cuts D := ⟨[], []⟩
theorem za7 (k : Nat) : CutFor X za1 k Go.Proofs.Try.f53.results.toList (za5 k) (sub (bodyOf Go.Proofs.Try.f53) [1, 0, 1]) :=
  loopCut_s (X := X) (sg := [.kl 26, .ki .i64, .ki .i64, .ki .i64, .ki .i64]) (cu := za6 k) (cl := za2 k) (tys := [[0]]) (id := 0) (c := sub (bodyOf Go.Proofs.Try.f53) [1, 0, 1, 0, 0]) (f := fun n => fun (x : (List ISpan) × Int × Int × Int × Int × Unit) => slices_IndexFunc_ISpan_at_I_CoversSpan_1_b0 k n x.1 x.2.1 x.2.2.1 x.2.2.2.1 x.2.2.2.2.1) (za3 k) (cutOK_of (l := []) (by kernel_rfl) trivial) (fun _ => rfl) (fun n x Q R h => by
    simp only [slices_IndexFunc_ISpan_at_I_CoversSpan_1_b0, optK_bind, optK_bif, optK_pure, optK_none, optK_oc, optK_guardT, optK_map] at h
    refine hold_of h ?_
    kernel_rfl) (by kernel_rfl)
def za8 (k : Nat) : Cuts D := ⟨[(0, some (za5 k))], []⟩
def za9 : List Ar := [.c (.kl 26), .f 40 [[.ki .i64, .ki .i64]]]
def zaa (k : Nat) (x : TupA D za9) : Option (Int) := slices_IndexFunc_ISpan_at_I_CoversSpan_1 k x.1 x.2.1.1.1 x.2.1.1.2.1
def zab (r : Int) : VR D := .p (.c (.int .i64 r))
theorem zac (k : Nat) : Does P X 53 za9 (zaa k) zab :=
  does_of (body := bodyOf Go.Proofs.Try.f53) (pl := za1) (k := k) (cu := za8 k) (tys := [[0]]) (za3 k) ctx mixed Go.Proofs.Try.func53 (by kernel_rfl) (by kernel_rfl) (cutOK_of (l := [(za5 k, sub (bodyOf Go.Proofs.Try.f53) [1, 0, 1])]) (by kernel_rfl) ⟨za7 k, trivial⟩) fun x R h => by
    simp only [zaa, slices_IndexFunc_ISpan_at_I_CoversSpan_1, optK_bind, optK_bif, optK_pure, optK_none, optK_oc, optK_guardT, optK_map] at h
    refine hold_of h ?_
    kernel_rfl
def zad (k : Nat) : Entry D := entS za9 (zaa k) zab
theorem zae (k : Nat) : EntryOK X 53 (zad k) := (zac k).en rfl
def zaf : Plan := ⟨[(0, [(0, some 26), (1, none)]), (1, [(4, none)])],
  [],
  []⟩
def zag (k : Nat) : Calls' D := ⟨[(53, zad k)], [], [], [], []⟩
theorem zah (k : Nat) : CallsOK X (zag k) := .cons (zae k) (.nil cod)
def zai (k : Nat) : Cuts D := ⟨[], []⟩
def zaj : List Ar := [.c (.kl 26), .f 40 [[.ki .i64, .ki .i64]]]
def zak (k : Nat) (x : TupA D zaj) : Option (Bool) := slices_ContainsFunc_ISpan_at_I_CoversSpan_1 k x.1 x.2.1.1.1 x.2.1.1.2.1
def zal (r : Bool) : VR D := .p (.c (.bool r))
theorem zam (k : Nat) : Does P X 39 zaj (zak k) zal :=
  does_of (body := bodyOf Go.Proofs.Try.f39) (pl := zaf) (k := k) (cu := zai k) (tys := [[0]]) (zah k) ctx mixed Go.Proofs.Try.func39 (by kernel_rfl) (by kernel_rfl) (cutOK_of (l := []) (by kernel_rfl) trivial) fun x R h => by
    simp only [zak, slices_ContainsFunc_ISpan_at_I_CoversSpan_1, optK_bind, optK_bif, optK_pure, optK_none, optK_oc, optK_guardT, optK_map] at h
    refine hold_of h ?_
    kernel_rfl
def zan (k : Nat) : Entry D := entS zaj (zak k) zal
theorem zao (k : Nat) : EntryOK X 39 (zan k) := (zam k).en rfl
def zap : Plan := ⟨[(0, [(0, some 26), (3, none)]), (1, [(0, some 26), (3, none), (9, none)]), (2, [(4, none)]), (3, [(4, none)])],
  [],
  [(9, ([], [(0, some 26), (3, none)]))]⟩
def zaq (k : Nat) : Calls' D := ⟨[(39, zan k)], [], [], [], []⟩
theorem zar (k : Nat) : CallsOK X (zaq k) := .cons (zao k) (.nil cod)
def zas (k : Nat) : Cuts D := ⟨[], []⟩
def zat : List Ar := [.c (.kl 26), .a [.ki .i64, .ki .i64]]
def zau (k : Nat) (x : TupA D zat) : Option (Bool) := I_CoversSpan k x.1 (⟨x.2.1.1, x.2.1.2.1⟩ : ISpan)
def zav (r : Bool) : VR D := .p (.c (.bool r))
theorem zaw (k : Nat) : Does P X 12 zat (zau k) zav :=
  does_of (body := bodyOf Go.Proofs.Try.f12) (pl := zap) (k := k) (cu := zas k) (tys := [[0]]) (zar k) ctx mixed Go.Proofs.Try.func12 (by kernel_rfl) (by kernel_rfl) (cutOK_of (l := []) (by kernel_rfl) trivial) fun x R h => by
    simp only [zau, I_CoversSpan, optK_bind, optK_bif, optK_pure, optK_none, optK_oc, optK_guardT, optK_map] at h
    refine hold_of h ?_
    kernel_rfl
def zax (k : Nat) : Entry D := entS zat (zau k) zav
theorem zay (k : Nat) : EntryOK X 12 (zax k) := (zaw k).en rfl
def zaz : Plan := ⟨[(0, [(0, some 26)]), (1, [(0, some 26), (4, none)]), (2, [(2, some 26)]), (3, [(2, some 26)])],
  [],
  [(4, ([], [(0, some 26)]))]⟩
def zb0 (k : Nat) : Calls' D := ⟨[], [], [], [], []⟩
theorem zb1 (k : Nat) : CallsOK X (zb0 k) := .nil cod
def zb2 (k : Nat) : Cuts D := ⟨[], []⟩
def zb3 : List Ar := [.c (.kl 26)]
def zb4 (k : Nat) (x : TupA D zb3) : Option ((List ISpan)) := slices_Clone_ISpan k x.1
def zb5 (r : (List ISpan)) : VR D := .p (.c (.sl 26 r))
theorem zb6 (k : Nat) : Does P X 38 zb3 (zb4 k) zb5 :=
  doesClone_of (body := bodyOf Go.Proofs.Try.f38) (el := 26) (by' := 16) (pl := zaz) (k := k) (cu := zb2 k) (tys := [[26]]) (zb1 k) ctx mixed Go.Proofs.Try.func38 (by kernel_rfl) (by kernel_rfl) (by kernel_rfl) (cutOK_of (l := []) (by kernel_rfl) trivial) (cutOK_of (l := []) (by kernel_rfl) trivial) (fun R h => by
    refine hold_of h ?_
    kernel_rfl) fun x R h => by
    refine hold_of h ?_
    kernel_rfl
def zb7 (k : Nat) : Entry D := entS zb3 (zb4 k) zb5
theorem zb8 (k : Nat) : EntryOK X 38 (zb7 k) := (zb6 k).en rfl
def zb9 : Plan := ⟨[(0, [(0, some 26), (3, none)]), (1, [(0, some 26), (3, none), (26, none)]), (2, [(4, some 26)]), (3, [(0, some 26), (3, none), (5, some 26)]), (4, [(0, some 26), (3, none), (5, some 26), (6, none)]), (5, [(0, some 26), (3, none), (5, some 26), (6, none), (43, none)]), (6, [(0, some 26), (3, none), (5, some 26), (6, none)]), (7, [(0, some 26), (3, none), (5, some 26), (6, none)]), (8, [(0, some 26), (3, none), (5, some 26), (6, none), (66, none)]), (9, [(0, some 26), (3, none), (5, some 26), (6, none)]), (10, [(0, some 26), (3, none), (5, some 26), (6, none)]), (11, [(4, some 26)])],
  [(0, [(0, some 26), (3, none), (5, some 26), (6, none)]), (1, [(0, some 26), (3, none), (5, some 26), (6, none)]), (2, [(0, some 26), (3, none), (5, some 26), (6, none)]), (3, [(0, some 26), (3, none), (5, some 26), (6, none)])],
  [(26, ([(0, some 26)], [(0, some 26), (3, none)])), (43, ([(0, some 26), (3, none), (5, some 26), (6, none)], [(0, some 26), (3, none), (5, some 26), (6, none)])), (66, ([(0, some 26), (3, none), (5, some 26), (6, none)], [(0, some 26), (3, none), (5, some 26), (6, none)]))]⟩
def zba (k : Nat) : Calls' D := ⟨[(16, z95 k), (38, zb7 k)], [], [], [], []⟩
theorem zbb (k : Nat) : CallsOK X (zba k) := .cons (z96 k) (.cons (zb8 k) (.nil cod))
def zbc (x : (List ISpan) × Int × Int × Int × (List ISpan) × Unit) (o : Int × (List ISpan)) (Q : Ex → VSt D → Prop) (R : VR D → Prop) : Prop := Q .normal (mkSt ⟨[(0, .hole), (3, .ptr 3 0), (5, .ref 500005), (6, .hole)], [(3, .var [.hole, .hole]), (500005, .row)]⟩ [.sl 26 x.1, .int .i64 o.1, .int .i64 x.2.2.1, .int .i64 x.2.2.2.1, .sl 26 o.2])
def zbd (k : Nat) : Cut D := cutS ⟨[(0, .hole), (3, .ptr 3 0), (5, .ref 500005), (6, .hole)], [(3, .var [.hole, .hole]), (500005, .row)]⟩ [.kl 26, .ki .i64, .ki .i64, .ki .i64, .kl 26] (fun (x : (List ISpan) × Int × Int × Int × (List ISpan) × Unit) => I_AddSpan_b0 k k x.1 x.2.1 x.2.2.1 x.2.2.2.1 x.2.2.2.2.1) zbc
def zbe (k : Nat) : Cuts D := ⟨[], []⟩
theorem zbf (k : Nat) : CutFor X zb9 k Go.Proofs.Try.f8.results.toList (zbd k) (sub (bodyOf Go.Proofs.Try.f8) [1, 1, 1, 1, 0]) :=
  loopCut_s (X := X) (sg := [.kl 26, .ki .i64, .ki .i64, .ki .i64, .kl 26]) (cu := zbe k) (cl := zba k) (tys := [[26]]) (id := 0) (c := sub (bodyOf Go.Proofs.Try.f8) [1, 1, 1, 1, 0, 0, 0]) (f := fun n => fun (x : (List ISpan) × Int × Int × Int × (List ISpan) × Unit) => I_AddSpan_b0 k n x.1 x.2.1 x.2.2.1 x.2.2.2.1 x.2.2.2.2.1) (zbb k) (cutOK_of (l := []) (by kernel_rfl) trivial) (fun _ => rfl) (fun n x Q R h => by
    simp only [I_AddSpan_b0, optK_bind, optK_bif, optK_pure, optK_none, optK_oc, optK_guardT, optK_map] at h
    refine hold_of h ?_
    kernel_rfl) (by kernel_rfl)
def zbg (x : (List ISpan) × Int × Int × Int × (List ISpan) × Unit) (o : Int × Int × Int) (Q : Ex → VSt D → Prop) (R : VR D → Prop) : Prop := Q .normal (mkSt ⟨[(0, .hole), (3, .ptr 3 0), (5, .ref 500005), (6, .hole)], [(3, .var [.hole, .hole]), (500005, .row)]⟩ [.sl 26 x.1, .int .i64 o.1, .int .i64 o.2.1, .int .i64 o.2.2, .sl 26 x.2.2.2.2.1])
def zbh (k : Nat) : Cut D := cutS ⟨[(0, .hole), (3, .ptr 3 0), (5, .ref 500005), (6, .hole)], [(3, .var [.hole, .hole]), (500005, .row)]⟩ [.kl 26, .ki .i64, .ki .i64, .ki .i64, .kl 26] (fun (x : (List ISpan) × Int × Int × Int × (List ISpan) × Unit) => I_AddSpan_b2 k k x.1 x.2.1 x.2.2.1 x.2.2.2.1 x.2.2.2.2.1) zbg
def zbi (k : Nat) : Cuts D := ⟨[], []⟩
theorem zbj (k : Nat) : CutFor X zb9 k Go.Proofs.Try.f8.results.toList (zbh k) (sub (bodyOf Go.Proofs.Try.f8) [1, 1, 1, 1, 1, 0]) :=
  loopCut_s (X := X) (sg := [.kl 26, .ki .i64, .ki .i64, .ki .i64, .kl 26]) (cu := zbi k) (cl := zba k) (tys := [[26]]) (id := 2) (c := sub (bodyOf Go.Proofs.Try.f8) [1, 1, 1, 1, 1, 0, 0, 0]) (f := fun n => fun (x : (List ISpan) × Int × Int × Int × (List ISpan) × Unit) => I_AddSpan_b2 k n x.1 x.2.1 x.2.2.1 x.2.2.2.1 x.2.2.2.2.1) (zbb k) (cutOK_of (l := []) (by kernel_rfl) trivial) (fun _ => rfl) (fun n x Q R h => by
    simp only [I_AddSpan_b2, optK_bind, optK_bif, optK_pure, optK_none, optK_oc, optK_guardT, optK_map] at h
    refine hold_of h ?_
    kernel_rfl) (by kernel_rfl)
def zbk (k : Nat) : Cuts D := ⟨[(0, some (zbd k)), (2, some (zbh k))], []⟩
def zbl : List Ar := [.c (.kl 26), .a [.ki .i64, .ki .i64]]
def zbm (k : Nat) (x : TupA D zbl) : Option ((List ISpan)) := I_AddSpan k x.1 (⟨x.2.1.1, x.2.1.2.1⟩ : ISpan)
def zbn (r : (List ISpan)) : VR D := .p (.c (.sl 26 r))
theorem zbo (k : Nat) : Does P X 8 zbl (zbm k) zbn :=
  does_of (body := bodyOf Go.Proofs.Try.f8) (pl := zb9) (k := k) (cu := zbk k) (tys := [[26]]) (zbb k) ctx mixed Go.Proofs.Try.func8 (by kernel_rfl) (by kernel_rfl) (cutOK_of (l := [(zbd k, sub (bodyOf Go.Proofs.Try.f8) [1, 1, 1, 1, 0]), (zbh k, sub (bodyOf Go.Proofs.Try.f8) [1, 1, 1, 1, 1, 0])]) (by kernel_rfl) ⟨zbf k, zbj k, trivial⟩) fun x R h => by
    simp only [zbm, I_AddSpan, optK_bind, optK_bif, optK_pure, optK_none, optK_oc, optK_guardT, optK_map] at h
    refine hold_of h ?_
    kernel_rfl
def zbp (k : Nat) : Entry D := entS zbl (zbm k) zbn
theorem zbq (k : Nat) : EntryOK X 8 (zbp k) := (zbo k).en rfl
def zbr : Plan := ⟨[(0, [(0, some 44), (1, none), (5, none)]), (1, [(0, some 44), (1, none), (5, none), (39, none)]), (2, [(6, some 44), (7, none)]), (3, [(0, some 44), (5, none), (8, some 5)]), (4, [(0, some 44), (5, none), (8, some 5), (44, some 44), (45, none), (46, none)]), (5, [(0, some 44), (5, none), (8, some 5), (44, some 44), (45, none), (46, none), (47, none)]), (6, [(0, some 44), (5, none), (8, some 5), (10, none), (44, some 44), (45, none), (46, none)]), (7, [(0, some 44), (5, none), (8, some 5), (44, some 44), (45, none), (46, none)]), (8, [(0, some 44), (5, none), (8, some 5), (44, some 44), (45, none), (46, none)]), (9, [(0, some 44), (5, none), (8, some 5), (60, none), (61, none)]), (10, [(0, some 44), (5, none), (8, some 5), (60, none), (61, none), (62, none)]), (11, [(0, some 44), (5, none), (8, some 5), (11, none), (60, none), (61, none)]), (12, [(0, some 44), (5, none), (8, some 5), (11, none), (12, none), (60, none), (61, none)]), (13, [(0, some 44), (5, none), (8, some 5), (11, none), (12, none), (60, none), (61, none), (85, none)]), (14, [(6, some 44), (7, none)]), (15, [(0, some 44), (5, none), (8, some 5), (60, none), (61, none)]), (16, [(0, some 44), (5, none), (8, some 5), (60, none), (61, none)]), (17, [(0, some 44), (5, none), (8, some 5), (13, some 44)]), (18, [(0, some 44), (8, some 5), (13, some 44), (108, some 26), (109, none), (110, none), (1000008, some 5)]), (19, [(0, some 44), (8, some 5), (13, some 44), (108, some 26), (109, none), (110, none), (111, none)]), (20, [(0, some 44), (8, some 5), (13, some 44), (15, none), (108, some 26), (109, none), (110, none), (1000008, some 5)]), (21, [(0, some 44), (8, some 5), (13, some 44), (108, some 26), (109, none), (110, none)]), (22, [(0, some 44), (8, some 5), (13, some 44), (108, some 26), (109, none), (110, none), (1000008, some 5)]), (23, [(0, some 44), (13, some 44), (130, none)]), (24, [(6, some 44), (7, none)]), (25, [(6, some 44), (7, none)])],
  [(0, [(0, some 44), (5, none), (8, some 5)]), (1, [(0, some 44), (5, none), (8, some 5), (44, some 44), (45, none), (46, none)]), (2, [(0, some 44), (5, none), (8, some 5)]), (3, [(0, some 44), (5, none), (8, some 5), (60, none), (61, none)]), (4, [(0, some 44), (13, some 44)]), (5, [(0, some 44), (8, some 5), (13, some 44), (108, some 26), (109, none), (110, none)])],
  [(39, ([(0, some 44)], [(0, some 44), (1, none), (5, none)])), (47, ([(0, some 44), (5, none), (8, some 5), (44, some 44), (45, none), (46, none)], [(0, some 44), (5, none), (8, some 5)])), (62, ([(0, some 44), (5, none), (8, some 5), (60, none), (61, none)], [(0, some 44), (5, none), (8, some 5)])), (85, ([(0, some 44)], [(0, some 44), (5, none), (8, some 5), (11, none), (12, none), (60, none), (61, none)])), (111, ([(0, some 44), (8, some 5), (13, some 44), (108, some 26), (109, none), (110, none)], [(0, some 44), (13, some 44)])), (130, ([(0, some 44)], [(13, some 44)]))]⟩
def zbs (k : Nat) : Calls' D := ⟨[(45, z9f k), (46, z9p k), (30, z8h k), (12, zax k), (8, zbp k)], [], [], [], []⟩
theorem zbt (k : Nat) : CallsOK X (zbs k) := .cons (z9g k) (.cons (z9q k) (.cons (z8i k) (.cons (zay k) (.cons (zbq k) (.nil cod)))))
def zbu (x : (List IPiece) × (List IPiece) × Int × Int × Int × (List UInt8) × (List Int) × Unit) (o : (List Int)) (Q : Ex → VSt D → Prop) (R : VR D → Prop) : Prop := Q .normal (mkSt ⟨[(0, .hole), (5, .ptr 5 0), (8, .ref 500008)], [(5, .var [.hole, .hole]), (500008, .row)]⟩ [.sl 44 x.1, .int .i64 x.2.2.2.2.1, .str x.2.2.2.2.2.1, .sl 5 o])
def zbv (k : Nat) : Cut D := cutS ⟨[(0, .hole), (5, .ptr 5 0), (8, .ref 500008), (44, .hole), (45, .hole), (46, .hole)], [(5, .var [.hole, .hole]), (500008, .row)]⟩ [.kl 44, .kl 44, .ki .i64, .ki .i64, .ki .i64, .ks, .kl 5] (fun (x : (List IPiece) × (List IPiece) × Int × Int × Int × (List UInt8) × (List Int) × Unit) => I_AddPiece_b0 k k x.1 x.2.1 x.2.2.1 x.2.2.2.1 x.2.2.2.2.1 x.2.2.2.2.2.1 x.2.2.2.2.2.2.1) zbu
def zbw (k : Nat) : Cuts D := ⟨[], []⟩
theorem zbx (k : Nat) : CutFor X zbr k Go.Proofs.Try.f23.results.toList (zbv k) (sub (bodyOf Go.Proofs.Try.f23) [1, 1, 1, 0, 1]) :=
  loopCut_s (X := X) (sg := [.kl 44, .kl 44, .ki .i64, .ki .i64, .ki .i64, .ks, .kl 5]) (cu := zbw k) (cl := zbs k) (tys := [[44], [0]]) (id := 0) (c := sub (bodyOf Go.Proofs.Try.f23) [1, 1, 1, 0, 1, 0, 0]) (f := fun n => fun (x : (List IPiece) × (List IPiece) × Int × Int × Int × (List UInt8) × (List Int) × Unit) => I_AddPiece_b0 k n x.1 x.2.1 x.2.2.1 x.2.2.2.1 x.2.2.2.2.1 x.2.2.2.2.2.1 x.2.2.2.2.2.2.1) (zbt k) (cutOK_of (l := []) (by kernel_rfl) trivial) (fun _ => rfl) (fun n x Q R h => by
    simp only [I_AddPiece_b0, optK_bind, optK_bif, optK_pure, optK_none, optK_oc, optK_guardT, optK_map] at h
    refine hold_of h ?_
    kernel_rfl) (by kernel_rfl)
def zby (x : (List IPiece) × Int × Int × Int × (List UInt8) × (List Int) × Unit) (o : Oc ((List Int)) ((List IPiece) × Bool)) (Q : Ex → VSt D → Prop) (R : VR D → Prop) : Prop := ocP o (fun v0 => Q .normal (mkSt ⟨[(0, .hole), (5, .ptr 5 0), (8, .ref 500008)], [(5, .var [.hole, .hole]), (500008, .row)]⟩ [.sl 44 x.1, .int .i64 x.2.2.2.1, .str x.2.2.2.2.1, .sl 5 v0])) (fun w0 => R (.tup [.c (.sl 44 w0.1), .c (.bool w0.2)]))
def zbz (k : Nat) : Cut D := cutS ⟨[(0, .hole), (5, .ptr 5 0), (8, .ref 500008), (60, .hole), (61, .hole)], [(5, .var [.hole, .hole]), (500008, .row)]⟩ [.kl 44, .ki .i64, .ki .i64, .ki .i64, .ks, .kl 5] (fun (x : (List IPiece) × Int × Int × Int × (List UInt8) × (List Int) × Unit) => I_AddPiece_b2 k k x.1 x.2.1 x.2.2.1 x.2.2.2.1 x.2.2.2.2.1 x.2.2.2.2.2.1) zby
def zc0 (k : Nat) : Cuts D := ⟨[], []⟩
theorem zc1 (k : Nat) : CutFor X zbr k Go.Proofs.Try.f23.results.toList (zbz k) (sub (bodyOf Go.Proofs.Try.f23) [1, 1, 1, 1, 0, 1]) :=
  loopCut_s (X := X) (sg := [.kl 44, .ki .i64, .ki .i64, .ki .i64, .ks, .kl 5]) (cu := zc0 k) (cl := zbs k) (tys := [[44], [0]]) (id := 2) (c := sub (bodyOf Go.Proofs.Try.f23) [1, 1, 1, 1, 0, 1, 0, 0]) (f := fun n => fun (x : (List IPiece) × Int × Int × Int × (List UInt8) × (List Int) × Unit) => I_AddPiece_b2 k n x.1 x.2.1 x.2.2.1 x.2.2.2.1 x.2.2.2.2.1 x.2.2.2.2.2.1) (zbt k) (cutOK_of (l := []) (by kernel_rfl) trivial) (fun _ => rfl) (fun n x Q R h => by
    simp only [I_AddPiece_b2, optK_bind, optK_bif, optK_pure, optK_none, optK_oc, optK_guardT, optK_map] at h
    refine hold_of h ?_
    kernel_rfl) (by kernel_rfl)
def zc2 (x : (List IPiece) × (List Int) × Int × Int × (List IPiece) × (List ISpan) × Unit) (o : (List IPiece)) (Q : Ex → VSt D → Prop) (R : VR D → Prop) : Prop := Q .normal (mkSt ⟨[(0, .hole), (13, .ref 500013)], [(500013, .row)]⟩ [.sl 44 x.1, .sl 44 o])
def zc3 (k : Nat) : Cut D := cutS ⟨[(0, .hole), (8, .hole), (13, .ref 500013), (108, .ref 500108), (109, .hole), (110, .hole), (1000008, .gone)], [(500013, .row), (500108, .row)]⟩ [.kl 44, .kl 5, .ki .i64, .ki .i64, .kl 44, .kl 26] (fun (x : (List IPiece) × (List Int) × Int × Int × (List IPiece) × (List ISpan) × Unit) => I_AddPiece_b4 k k x.1 x.2.1 x.2.2.1 x.2.2.2.1 x.2.2.2.2.1 x.2.2.2.2.2.1) zc2
def zc4 (k : Nat) : Cuts D := ⟨[], []⟩
theorem zc5 (k : Nat) : CutFor X zbr k Go.Proofs.Try.f23.results.toList (zc3 k) (sub (bodyOf Go.Proofs.Try.f23) [1, 1, 1, 1, 1, 1, 0, 1]) :=
  loopCut_s (X := X) (sg := [.kl 44, .kl 5, .ki .i64, .ki .i64, .kl 44, .kl 26]) (cu := zc4 k) (cl := zbs k) (tys := [[44], [0]]) (id := 4) (c := sub (bodyOf Go.Proofs.Try.f23) [1, 1, 1, 1, 1, 1, 0, 1, 0, 0]) (f := fun n => fun (x : (List IPiece) × (List Int) × Int × Int × (List IPiece) × (List ISpan) × Unit) => I_AddPiece_b4 k n x.1 x.2.1 x.2.2.1 x.2.2.2.1 x.2.2.2.2.1 x.2.2.2.2.2.1) (zbt k) (cutOK_of (l := []) (by kernel_rfl) trivial) (fun _ => rfl) (fun n x Q R h => by
    simp only [I_AddPiece_b4, optK_bind, optK_bif, optK_pure, optK_none, optK_oc, optK_guardT, optK_map] at h
    refine hold_of h ?_
    kernel_rfl) (by kernel_rfl)
def zc6 (k : Nat) : Cuts D := ⟨[(0, some (zbv k)), (2, some (zbz k)), (4, some (zc3 k))], []⟩
def zc7 : List Ar := [.c (.kl 44), .c (.ki .i64), .a [.ki .i64, .ks]]
def zc8 (k : Nat) (x : TupA D zc7) : Option ((List IPiece) × Bool) := I_AddPiece k x.1 x.2.1 (⟨x.2.2.1.1, x.2.2.1.2.1⟩ : IPiece)
def zc9 (r : (List IPiece) × Bool) : VR D := .tup [.c (.sl 44 r.1), .c (.bool r.2)]
theorem zca (k : Nat) : Does P X 23 zc7 (zc8 k) zc9 :=
  does_of (body := bodyOf Go.Proofs.Try.f23) (pl := zbr) (k := k) (cu := zc6 k) (tys := [[44], [0]]) (zbt k) ctx mixed Go.Proofs.Try.func23 (by kernel_rfl) (by kernel_rfl) (cutOK_of (l := [(zbv k, sub (bodyOf Go.Proofs.Try.f23) [1, 1, 1, 0, 1]), (zbz k, sub (bodyOf Go.Proofs.Try.f23) [1, 1, 1, 1, 0, 1]), (zc3 k, sub (bodyOf Go.Proofs.Try.f23) [1, 1, 1, 1, 1, 1, 0, 1])]) (by kernel_rfl) ⟨zbx k, zc1 k, zc5 k, trivial⟩) fun x R h => by
    simp only [zc8, I_AddPiece, optK_bind, optK_bif, optK_pure, optK_none, optK_oc, optK_guardT, optK_map] at h
    refine hold_of h ?_
    kernel_rfl
def zcb (k : Nat) : Entry D := entS zc7 (zc8 k) zc9
theorem zcc (k : Nat) : EntryOK X 23 (zcb k) := (zca k).en rfl
def zcd : Plan := ⟨[(0, [(0, some 44), (3, none)]), (1, [(0, some 44), (3, none), (12, none)]), (2, [(4, none), (5, none)]), (3, [(3, none), (13, some 44), (14, none), (15, none)]), (4, [(3, none), (13, some 44), (14, none), (15, none), (16, none)]), (5, [(3, none), (7, none), (13, some 44), (14, none), (15, none)]), (6, [(3, none), (7, none), (13, some 44), (14, none), (15, none), (34, none)]), (7, [(4, none), (5, none)]), (8, [(3, none), (13, some 44), (14, none), (15, none)]), (9, [(4, none), (5, none)])],
  [(0, []), (1, [(3, none), (13, some 44), (14, none), (15, none)])],
  [(12, ([], [(0, some 44), (3, none)])), (16, ([(3, none), (13, some 44), (14, none), (15, none)], [])), (34, ([(3, none), (7, none)], [(3, none), (13, some 44), (14, none), (15, none)]))]⟩
def zce (k : Nat) : Calls' D := ⟨[], [], [], [], []⟩
theorem zcf (k : Nat) : CallsOK X (zce k) := .nil cod
def zcg (x : (List IPiece) × Int × Int × Int × Int × Unit) (o : Oc (Unit) ((List UInt8) × Bool)) (Q : Ex → VSt D → Prop) (R : VR D → Prop) : Prop := ocP o (fun v0 => Q .normal (mkSt ⟨[], []⟩ [])) (fun w0 => R (.tup [.c (.str w0.1), .c (.bool w0.2)]))
def zch (k : Nat) : Cut D := cutS ⟨[(3, .ptr 3 0), (13, .hole), (14, .hole), (15, .hole)], [(3, .var [.hole, .hole])]⟩ [.kl 44, .ki .i64, .ki .i64, .ki .i64, .ki .i64] (fun (x : (List IPiece) × Int × Int × Int × Int × Unit) => I_ReadPieces_b0 k k x.1 x.2.1 x.2.2.1 x.2.2.2.1 x.2.2.2.2.1) zcg
def zci (k : Nat) : Cuts D := ⟨[], []⟩
theorem zcj (k : Nat) : CutFor X zcd k Go.Proofs.Try.f28.results.toList (zch k) (sub (bodyOf Go.Proofs.Try.f28) [1, 1, 0, 1]) :=
  loopCut_s (X := X) (sg := [.kl 44, .ki .i64, .ki .i64, .ki .i64, .ki .i64]) (cu := zci k) (cl := zce k) (tys := [[0], [0]]) (id := 0) (c := sub (bodyOf Go.Proofs.Try.f28) [1, 1, 0, 1, 0, 0]) (f := fun n => fun (x : (List IPiece) × Int × Int × Int × Int × Unit) => I_ReadPieces_b0 k n x.1 x.2.1 x.2.2.1 x.2.2.2.1 x.2.2.2.2.1) (zcf k) (cutOK_of (l := []) (by kernel_rfl) trivial) (fun _ => rfl) (fun n x Q R h => by
    simp only [I_ReadPieces_b0, optK_bind, optK_bif, optK_pure, optK_none, optK_oc, optK_guardT, optK_map] at h
    refine hold_of h ?_
    kernel_rfl) (by kernel_rfl)
def zck (k : Nat) : Cuts D := ⟨[(0, some (zch k))], []⟩
def zcl : List Ar := [.c (.kl 44), .a [.ki .i64, .ki .i64]]
def zcm (k : Nat) (x : TupA D zcl) : Option ((List UInt8) × Bool) := I_ReadPieces k x.1 (⟨x.2.1.1, x.2.1.2.1⟩ : ISpan)
def zcn (r : (List UInt8) × Bool) : VR D := .tup [.c (.str r.1), .c (.bool r.2)]
theorem zco (k : Nat) : Does P X 28 zcl (zcm k) zcn :=
  does_of (body := bodyOf Go.Proofs.Try.f28) (pl := zcd) (k := k) (cu := zck k) (tys := [[0], [0]]) (zcf k) ctx mixed Go.Proofs.Try.func28 (by kernel_rfl) (by kernel_rfl) (cutOK_of (l := [(zch k, sub (bodyOf Go.Proofs.Try.f28) [1, 1, 0, 1])]) (by kernel_rfl) ⟨zcj k, trivial⟩) fun x R h => by
    simp only [zcm, I_ReadPieces, optK_bind, optK_bif, optK_pure, optK_none, optK_oc, optK_guardT, optK_map] at h
    refine hold_of h ?_
    kernel_rfl
def zcp (k : Nat) : Entry D := entS zcl (zcm k) zcn
theorem zcq (k : Nat) : EntryOK X 28 (zcp k) := (zco k).en rfl
def zcr : Plan := ⟨[(0, [(0, some 26)]), (1, [(0, some 26), (3, none)]), (2, [(3, none), (6, some 26), (7, none), (8, none)]), (3, [(3, none), (6, some 26), (7, none), (8, none), (9, none)]), (4, [(3, none), (5, none), (6, some 26), (7, none), (8, none)]), (5, [(3, none), (6, some 26), (7, none), (8, none)]), (6, [(3, none), (6, some 26), (7, none), (8, none)]), (7, [(2, none)])],
  [(0, [(3, none)]), (1, [(3, none), (6, some 26), (7, none), (8, none)])],
  [(9, ([(3, none), (6, some 26), (7, none), (8, none)], [(3, none)]))]⟩
def zcs (k : Nat) : Calls' D := ⟨[], [], [], [], []⟩
theorem zct (k : Nat) : CallsOK X (zcs k) := .nil cod
def zcu (x : Int × (List ISpan) × Int × Int × Unit) (o : Int) (Q : Ex → VSt D → Prop) (R : VR D → Prop) : Prop := Q .normal (mkSt ⟨[(3, .hole)], []⟩ [.int .i64 o])
def zcv (k : Nat) : Cut D := cutS ⟨[(3, .hole), (6, .hole), (7, .hole), (8, .hole)], []⟩ [.ki .i64, .kl 26, .ki .i64, .ki .i64] (fun (x : Int × (List ISpan) × Int × Int × Unit) => I_SpanSize_b0 k k x.1 x.2.1 x.2.2.1 x.2.2.2.1) zcu
def zcw (k : Nat) : Cuts D := ⟨[], []⟩
theorem zcx (k : Nat) : CutFor X zcr k Go.Proofs.Try.f17.results.toList (zcv k) (sub (bodyOf Go.Proofs.Try.f17) [1, 1, 0, 1]) :=
  loopCut_s (X := X) (sg := [.ki .i64, .kl 26, .ki .i64, .ki .i64]) (cu := zcw k) (cl := zcs k) (tys := [[0]]) (id := 0) (c := sub (bodyOf Go.Proofs.Try.f17) [1, 1, 0, 1, 0, 0]) (f := fun n => fun (x : Int × (List ISpan) × Int × Int × Unit) => I_SpanSize_b0 k n x.1 x.2.1 x.2.2.1 x.2.2.2.1) (zct k) (cutOK_of (l := []) (by kernel_rfl) trivial) (fun _ => rfl) (fun n x Q R h => by
    simp only [I_SpanSize_b0, optK_bind, optK_bif, optK_pure, optK_none, optK_oc, optK_guardT, optK_map] at h
    refine hold_of h ?_
    kernel_rfl) (by kernel_rfl)
def zcy (k : Nat) : Cuts D := ⟨[(0, some (zcv k))], []⟩
def zcz : List Ar := [.c (.kl 26)]
def zd0 (k : Nat) (x : TupA D zcz) : Option (Int) := I_SpanSize k x.1
def zd1 (r : Int) : VR D := .p (.c (.int .i64 r))
theorem zd2 (k : Nat) : Does P X 17 zcz (zd0 k) zd1 :=
  does_of (body := bodyOf Go.Proofs.Try.f17) (pl := zcr) (k := k) (cu := zcy k) (tys := [[0]]) (zct k) ctx mixed Go.Proofs.Try.func17 (by kernel_rfl) (by kernel_rfl) (cutOK_of (l := [(zcv k, sub (bodyOf Go.Proofs.Try.f17) [1, 1, 0, 1])]) (by kernel_rfl) ⟨zcx k, trivial⟩) fun x R h => by
    simp only [zd0, I_SpanSize, optK_bind, optK_bif, optK_pure, optK_none, optK_oc, optK_guardT, optK_map] at h
    refine hold_of h ?_
    kernel_rfl
def zd3 (k : Nat) : Entry D := entS zcz (zd0 k) zd1
theorem zd4 (k : Nat) : EntryOK X 17 (zd3 k) := (zd2 k).en rfl
def zd5 : Plan := ⟨[(0, [(0, some 44), (1, some 44)]), (1, [(0, some 44), (1, some 44), (10, none)]), (2, [(4, none)]), (3, [(0, some 44), (1, some 44), (5, none)]), (4, [(0, some 44), (1, some 44), (5, none), (14, none)]), (5, [(0, some 44), (1, some 44), (5, none)]), (6, [(0, some 44), (1, some 44), (5, none), (25, none)]), (7, [(4, none)]), (8, [(4, none)])],
  [(0, []), (1, [(0, some 44), (1, some 44), (5, none)])],
  [(10, ([], [(0, some 44), (1, some 44)])), (14, ([(0, some 44), (1, some 44), (5, none)], [])), (25, ([], [(0, some 44), (1, some 44), (5, none)]))]⟩
def zd6 (k : Nat) : Calls' D := ⟨[], [], [], [], []⟩
theorem zd7 (k : Nat) : CallsOK X (zd6 k) := .nil cod
def zd8 (x : (List IPiece) × (List IPiece) × Int × Unit) (o : Oc (Unit) (Bool)) (Q : Ex → VSt D → Prop) (R : VR D → Prop) : Prop := ocP o (fun v0 => Q .normal (mkSt ⟨[], []⟩ [])) (fun w0 => R (.p (.c (.bool w0))))
def zd9 (k : Nat) : Cut D := cutS ⟨[(0, .hole), (1, .hole), (5, .hole)], []⟩ [.kl 44, .kl 44, .ki .i64] (fun (x : (List IPiece) × (List IPiece) × Int × Unit) => L_samePieces_b0 k k x.1 x.2.1 x.2.2.1) zd8
def zda (k : Nat) : Cuts D := ⟨[], []⟩
theorem zdb (k : Nat) : CutFor X zd5 k Go.Proofs.Try.f31.results.toList (zd9 k) (sub (bodyOf Go.Proofs.Try.f31) [1, 1, 0, 1]) :=
  loopCut_s (X := X) (sg := [.kl 44, .kl 44, .ki .i64]) (cu := zda k) (cl := zd6 k) (tys := [[0]]) (id := 0) (c := sub (bodyOf Go.Proofs.Try.f31) [1, 1, 0, 1, 0, 0]) (f := fun n => fun (x : (List IPiece) × (List IPiece) × Int × Unit) => L_samePieces_b0 k n x.1 x.2.1 x.2.2.1) (zd7 k) (cutOK_of (l := []) (by kernel_rfl) trivial) (fun _ => rfl) (fun n x Q R h => by
    simp only [L_samePieces_b0, optK_bind, optK_bif, optK_pure, optK_none, optK_oc, optK_guardT, optK_map] at h
    refine hold_of h ?_
    kernel_rfl) (by kernel_rfl)
def zdc (k : Nat) : Cuts D := ⟨[(0, some (zd9 k))], []⟩
def zdd : List Ar := [.c (.kl 44), .c (.kl 44)]
def zde (k : Nat) (x : TupA D zdd) : Option (Bool) := L_samePieces k x.1 x.2.1
def zdf (r : Bool) : VR D := .p (.c (.bool r))
theorem zdg (k : Nat) : Does P X 31 zdd (zde k) zdf :=
  does_of (body := bodyOf Go.Proofs.Try.f31) (pl := zd5) (k := k) (cu := zdc k) (tys := [[0]]) (zd7 k) ctx mixed Go.Proofs.Try.func31 (by kernel_rfl) (by kernel_rfl) (cutOK_of (l := [(zd9 k, sub (bodyOf Go.Proofs.Try.f31) [1, 1, 0, 1])]) (by kernel_rfl) ⟨zdb k, trivial⟩) fun x R h => by
    simp only [zde, L_samePieces, optK_bind, optK_bif, optK_pure, optK_none, optK_oc, optK_guardT, optK_map] at h
    refine hold_of h ?_
    kernel_rfl
def zdh (k : Nat) : Entry D := entS zdd (zde k) zdf
theorem zdi (k : Nat) : EntryOK X 31 (zdh k) := (zdg k).en rfl
def zdj : Plan := ⟨[(0, [(0, some 44), (1, none)]), (1, [(4, none)])],
  [],
  []⟩
def zdk (k : Nat) : Calls' D := ⟨[(30, z8h k), (12, zax k)], [], [], [], []⟩
theorem zdl (k : Nat) : CallsOK X (zdk k) := .cons (z8i k) (.cons (zay k) (.nil cod))
def zdm (k : Nat) : Cuts D := ⟨[], []⟩
def zdn : List Ar := [.c (.kl 44), .c (.ki .i64)]
def zdo (k : Nat) (x : TupA D zdn) : Option (Bool) := I_IsWhole k x.1 x.2.1
def zdp (r : Bool) : VR D := .p (.c (.bool r))
theorem zdq (k : Nat) : Does P X 32 zdn (zdo k) zdp :=
  does_of (body := bodyOf Go.Proofs.Try.f32) (pl := zdj) (k := k) (cu := zdm k) (tys := [[0]]) (zdl k) ctx mixed Go.Proofs.Try.func32 (by kernel_rfl) (by kernel_rfl) (cutOK_of (l := []) (by kernel_rfl) trivial) fun x R h => by
    simp only [zdo, I_IsWhole, optK_bind, optK_bif, optK_pure, optK_none, optK_oc, optK_guardT, optK_map] at h
    refine hold_of h ?_
    kernel_rfl
def zdr (k : Nat) : Entry D := entS zdn (zdo k) zdp
theorem zds (k : Nat) : EntryOK X 32 (zdr k) := (zdq k).en rfl
def zdt : Plan := ⟨[(0, [(0, some 5)]), (1, [(0, some 5), (17, none)]), (2, [(2, none)]), (3, [(3, some 44), (4, none), (5, none)]), (4, [(3, some 44), (4, none), (5, none), (6, some 44), (7, none)]), (5, [(3, some 44), (4, none), (5, none), (6, some 44), (32, none)]), (6, [(2, none)]), (7, [(3, some 44), (4, none), (5, none), (6, some 44), (8, none), (9, none)]), (8, [(3, some 44), (4, none), (5, none), (6, some 44), (72, none)]), (9, [(2, none)]), (10, [(3, some 44), (4, none), (5, none), (6, some 44), (10, none)]), (11, [(3, some 44), (4, none), (5, none), (6, some 44), (10, none), (76, none)]), (12, [(3, some 44), (4, none), (5, none), (6, some 44), (10, none)]), (13, [(3, some 44), (4, none), (5, none), (6, some 44), (10, none), (11, none), (12, none)]), (14, [(3, some 44), (4, none), (5, none), (6, some 44), (10, none), (112, none)]), (15, [(2, none)]), (16, [(3, some 44), (4, none), (6, some 44), (13, some 44), (14, none)]), (17, [(3, some 44), (4, none), (6, some 44), (13, some 44), (14, none), (15, none)]), (18, [(3, some 44), (4, none), (6, some 44), (13, some 44), (14, none), (15, none), (125, none)]), (19, [(3, some 44), (4, none), (6, some 44), (13, some 44), (14, none), (15, none)]), (20, [(3, some 44), (4, none), (6, some 44), (13, some 44), (14, none), (15, none)]), (21, [(4, none), (6, some 44), (144, none)]), (22, [(2, none)]), (23, [(2, none)])],
  [(0, [(3, some 44), (4, none), (5, none), (6, some 44)]), (1, [(3, some 44), (4, none), (5, none), (6, some 44), (10, none)]), (2, [(4, none), (6, some 44), (13, some 44), (14, none)]), (3, [(3, some 44), (4, none), (6, some 44), (13, some 44), (14, none), (15, none)])],
  [(17, ([], [(0, some 5)])), (32, ([(3, some 44), (6, some 44)], [(3, some 44), (4, none), (5, none), (6, some 44)])), (72, ([], [(3, some 44), (4, none), (5, none), (6, some 44)])), (76, ([(3, some 44), (4, none), (5, none), (6, some 44), (10, none)], [(3, some 44), (4, none), (5, none), (6, some 44)])), (112, ([], [(3, some 44), (4, none), (5, none), (6, some 44), (10, none)])), (125, ([(3, some 44), (4, none), (6, some 44), (13, some 44), (15, none)], [(4, none), (6, some 44), (13, some 44), (14, none)])), (144, ([], [(4, none), (6, some 44)]))]⟩
def zdu (k : Nat) : Calls' D := ⟨[(6, z8 k), (27, z83 k), (23, zcb k), (28, zcp k), (29, z39 k), (30, z8h k), (17, zd3 k), (31, zdh k), (32, zdr k)], [], [], [], []⟩
theorem zdv (k : Nat) : CallsOK X (zdu k) := .cons (z9 k) (.cons (z84 k) (.cons (zcc k) (.cons (zcq k) (.cons (z3a k) (.cons (z8i k) (.cons (zd4 k) (.cons (zdi k) (.cons (zds k) (.nil cod)))))))))
def zdw (x : Int × Int × (List IPiece) × Int × (List UInt8) × (List IPiece) × Unit) (o : Oc (Unit) (Bool)) (Q : Ex → VSt D → Prop) (R : VR D → Prop) : Prop := ocP o (fun v0 => Q .normal (mkSt ⟨[(3, .ref 500003), (4, .hole), (5, .ptr 5 0), (6, .ref 500006)], [(500003, .row), (5, .var [.hole, .hole]), (500006, .row)]⟩ [.int .i64 x.1, .sl 44 x.2.2.1, .int .i64 x.2.2.2.1, .str x.2.2.2.2.1, .sl 44 x.2.2.2.2.2.1])) (fun w0 => R (.p (.c (.bool w0))))
def zdx (k : Nat) : Cut D := cutS ⟨[(3, .ref 500003), (4, .hole), (5, .ptr 5 0), (6, .ref 500006), (10, .hole)], [(500003, .row), (5, .var [.hole, .hole]), (500006, .row)]⟩ [.ki .i64, .ki .i64, .kl 44, .ki .i64, .ks, .kl 44] (fun (x : Int × Int × (List IPiece) × Int × (List UInt8) × (List IPiece) × Unit) => L_FnPieces_b0 k k x.1 x.2.1 x.2.2.1 x.2.2.2.1 x.2.2.2.2.1 x.2.2.2.2.2.1) zdw
def zdy (k : Nat) : Cuts D := ⟨[], []⟩
theorem zdz (k : Nat) : CutFor X zdt k Go.Proofs.Try.f5.results.toList (zdx k) (sub (bodyOf Go.Proofs.Try.f5) [1, 1, 1, 1, 1, 1, 1, 0, 1]) :=
  loopCut_s (X := X) (sg := [.ki .i64, .ki .i64, .kl 44, .ki .i64, .ks, .kl 44]) (cu := zdy k) (cl := zdu k) (tys := [[0]]) (id := 0) (c := sub (bodyOf Go.Proofs.Try.f5) [1, 1, 1, 1, 1, 1, 1, 0, 1, 0, 0]) (f := fun n => fun (x : Int × Int × (List IPiece) × Int × (List UInt8) × (List IPiece) × Unit) => L_FnPieces_b0 k n x.1 x.2.1 x.2.2.1 x.2.2.2.1 x.2.2.2.2.1 x.2.2.2.2.2.1) (zdv k) (cutOK_of (l := []) (by kernel_rfl) trivial) (fun _ => rfl) (fun n x Q R h => by
    simp only [L_FnPieces_b0, optK_bind, optK_bif, optK_pure, optK_none, optK_oc, optK_guardT, optK_map] at h
    refine hold_of h ?_
    kernel_rfl) (by kernel_rfl)
def ze0 (x : Int × Bool × Int × (List IPiece) × (List IPiece) × (List IPiece) × Unit) (o : Bool × (List IPiece)) (Q : Ex → VSt D → Prop) (R : VR D → Prop) : Prop := Q .normal (mkSt ⟨[(4, .hole), (6, .ref 500006), (13, .ref 500013), (14, .hole)], [(500006, .row), (500013, .row)]⟩ [.int .i64 x.1, .bool o.1, .sl 44 x.2.2.2.2.1, .sl 44 o.2])
def ze1 (k : Nat) : Cut D := cutS ⟨[(3, .ref 500003), (4, .hole), (6, .ref 500006), (13, .ref 500013), (14, .hole), (15, .hole)], [(500003, .row), (500006, .row), (500013, .row)]⟩ [.ki .i64, .kb, .ki .i64, .kl 44, .kl 44, .kl 44] (fun (x : Int × Bool × Int × (List IPiece) × (List IPiece) × (List IPiece) × Unit) => L_FnPieces_b2 k k x.1 x.2.1 x.2.2.1 x.2.2.2.1 x.2.2.2.2.1 x.2.2.2.2.2.1) ze0
def ze2 (k : Nat) : Cuts D := ⟨[], []⟩
theorem ze3 (k : Nat) : CutFor X zdt k Go.Proofs.Try.f5.results.toList (ze1 k) (sub (bodyOf Go.Proofs.Try.f5) [1, 1, 1, 1, 1, 1, 1, 1, 1, 0, 1]) :=
  loopCut_s (X := X) (sg := [.ki .i64, .kb, .ki .i64, .kl 44, .kl 44, .kl 44]) (cu := ze2 k) (cl := zdu k) (tys := [[0]]) (id := 2) (c := sub (bodyOf Go.Proofs.Try.f5) [1, 1, 1, 1, 1, 1, 1, 1, 1, 0, 1, 0, 0]) (f := fun n => fun (x : Int × Bool × Int × (List IPiece) × (List IPiece) × (List IPiece) × Unit) => L_FnPieces_b2 k n x.1 x.2.1 x.2.2.1 x.2.2.2.1 x.2.2.2.2.1 x.2.2.2.2.2.1) (zdv k) (cutOK_of (l := []) (by kernel_rfl) trivial) (fun _ => rfl) (fun n x Q R h => by
    simp only [L_FnPieces_b2, optK_bind, optK_bif, optK_pure, optK_none, optK_oc, optK_guardT, optK_map] at h
    refine hold_of h ?_
    kernel_rfl) (by kernel_rfl)
def ze4 (k : Nat) : Cuts D := ⟨[(0, some (zdx k)), (2, some (ze1 k))], []⟩
def L_FnPieces_ar : List Ar := [.c (.kl 5)]
def L_FnPieces_f (k : Nat) (x : TupA D L_FnPieces_ar) : Option (Bool) := L_FnPieces k x.1
def L_FnPieces_vr (r : Bool) : VR D := .p (.c (.bool r))
theorem L_FnPieces_ok (k : Nat) : Does P X 5 L_FnPieces_ar (L_FnPieces_f k) L_FnPieces_vr :=
  does_of (body := bodyOf Go.Proofs.Try.f5) (pl := zdt) (k := k) (cu := ze4 k) (tys := [[0]]) (zdv k) ctx mixed Go.Proofs.Try.func5 (by kernel_rfl) (by kernel_rfl) (cutOK_of (l := [(zdx k, sub (bodyOf Go.Proofs.Try.f5) [1, 1, 1, 1, 1, 1, 1, 0, 1]), (ze1 k, sub (bodyOf Go.Proofs.Try.f5) [1, 1, 1, 1, 1, 1, 1, 1, 1, 0, 1])]) (by kernel_rfl) ⟨zdz k, ze3 k, trivial⟩) fun x R h => by
    simp only [L_FnPieces_f, L_FnPieces, optK_bind, optK_bif, optK_pure, optK_none, optK_oc, optK_guardT, optK_map] at h
    refine hold_of h ?_
    kernel_rfl
def ze5 (k : Nat) : Entry D := entS L_FnPieces_ar (L_FnPieces_f k) L_FnPieces_vr
theorem ze6 (k : Nat) : EntryOK X 5 (ze5 k) := (L_FnPieces_ok k).en rfl

end
end Go.Ytolmhhnhmbiofaa
