/- The machine computes the functions. Nothing is claimed here. -/
import Derived.Test.YtolmhhnhmbiofaaKf
set_option linter.unusedVariables false
set_option linter.unusedSimpArgs false
set_option maxRecDepth 100000
namespace Go.Ytolmhhnhmbiofaa
open Go Go.RowKit Go.Pv
noncomputable section

def z0 : Plan := ⟨[(0, [(0, some 5)]), (1, [(2, none)])],
  [],
  []⟩
def z1 (k : Nat) : Calls' D := ⟨[], [], [], [], []⟩
theorem z2 (k : Nat) : CallsOK X (z1 k) := .nil cod
def z3 (k : Nat) : Cuts D := ⟨[], []⟩
def z4 : List Ar := [.c (.kl 5)]
def z5 (k : Nat) (x : TupA D z4) : Option (Bool) := L_big k x.1
def z6 (r : Bool) : VR D := .p (.c (.bool r))
theorem z7 (k : Nat) : Does P X 6 z4 (z5 k) z6 :=
  does_of (body := bodyOf Go.Proofs.Try.f6) (pl := z0) (k := k) (cu := z3 k) (tys := [[0]]) (z2 k) ctx mixed Go.Proofs.Try.func6 (by kernel_rfl) (by kernel_rfl) (cutOK_of (l := []) (by kernel_rfl) trivial) fun x R h => by
    simp only [z5, L_big, optK_bind, optK_bif, optK_pure, optK_none, optK_oc, optK_guardT, optK_map] at h
    refine hold_of h ?_
    kernel_rfl
def z8 (k : Nat) : Entry D := entS z4 (z5 k) z6
theorem z9 (k : Nat) : EntryOK X 6 (z8 k) := (z7 k).en rfl
def za : Plan := ⟨[(0, [(0, some 5)]), (1, [(0, some 5), (3, none)]), (2, [(0, some 5), (3, none), (4, none)]), (3, [(0, some 5), (3, none), (4, none), (15, none)]), (4, [(0, some 5), (3, none), (4, none)]), (5, [(0, some 5), (3, none), (4, none)]), (6, [(2, none)])],
  [(0, [(0, some 5), (3, none)]), (1, [(0, some 5), (3, none), (4, none)])],
  [(15, ([(0, some 5), (3, none), (4, none)], [(0, some 5), (3, none)]))]⟩
def zb (k : Nat) : Calls' D := ⟨[], [], [], [], []⟩
theorem zc (k : Nat) : CallsOK X (zb k) := .nil cod
def zd (x : (List Int) × Int × Int × Unit) (o : Int) (Q : Ex → VSt D → Prop) (R : VR D → Prop) : Prop := Q .normal (mkSt ⟨[(0, .hole), (3, .hole)], []⟩ [.sl 5 x.1, .int .i64 o])
def ze (k : Nat) : Cut D := cutS ⟨[(0, .hole), (3, .hole), (4, .hole)], []⟩ [.kl 5, .ki .i64, .ki .i64] (fun (x : (List Int) × Int × Int × Unit) => S_l1New_b0 k k x.1 x.2.1 x.2.2.1) zd
def zf (k : Nat) : Cuts D := ⟨[], []⟩
theorem zg (k : Nat) : CutFor X za k [.cell 0 0, .cell 2 73] (ze k) (sub (bodyOf Go.Proofs.Try.f33) [1, 1, 0, 1]) :=
  loopCut_s (X := X) (sg := [.kl 5, .ki .i64, .ki .i64]) (cu := zf k) (cl := zb k) (tys := []) (id := 0) (c := sub (bodyOf Go.Proofs.Try.f33) [1, 1, 0, 1, 0, 0]) (f := fun n => fun (x : (List Int) × Int × Int × Unit) => S_l1New_b0 k n x.1 x.2.1 x.2.2.1) (zc k) (cutOK_of (l := []) (by kernel_rfl) trivial) (fun _ => rfl) (fun n x Q R h => by
    simp only [S_l1New_b0, optK_bind, optK_bif, optK_pure, optK_none, optK_oc, optK_guardT, optK_map] at h
    refine hold_of h ?_
    kernel_rfl) (by kernel_rfl)
def zh (k : Nat) : Cuts D := ⟨[(0, some (ze k))], []⟩
def zi : List Ar := [.c (.kl 5)]
def zj (k : Nat) (x : TupA D zi) : Option (Sl1Cur) := S_l1New k x.1
def zk (r : Sl1Cur) : Tup D [.kl 5, .ki .i64, .ki .i64] := (r.b, r.i, r.h, ())
theorem zl (k : Nat) : DoesB P X 33 [.kl 5, .ki .i64, .ki .i64] zi (zj k) zk :=
  doesB_of (r0 := 2) (pt := 73) (body := bodyOf Go.Proofs.Try.f33) (pl := za) (k := k) (cu := zh k) (tys := []) (zc k) ctx mixed Go.Proofs.Try.func33 (by kernel_rfl) (by kernel_rfl) (by kernel_rfl) (by kernel_rfl) (cutOK_of (l := [(ze k, sub (bodyOf Go.Proofs.Try.f33) [1, 1, 0, 1])]) (by kernel_rfl) ⟨zg k, trivial⟩) fun x R h => by
    simp only [zj, S_l1New, optK_bind, optK_bif, optK_pure, optK_none, optK_oc, optK_guardT, optK_map] at h
    refine hold_of h ?_
    kernel_rfl
def zm (k : Nat) : EntryB D := entB [.kl 5, .ki .i64, .ki .i64] zi (zj k) zk
theorem zn (k : Nat) : EntryBOK X 33 (zm k) := (zl k).en rfl
def zo : Plan := ⟨[(0, [(0, none)]), (1, [(0, none)]), (2, [(0, none), (3, none)]), (3, [(0, none), (3, none), (34, none)]), (4, [(0, none), (3, none)]), (5, [(0, none), (3, none)]), (6, [(0, none), (2, none)])],
  [],
  [(34, ([(0, none), (3, none)], [(0, none), (3, none)]))]⟩
def zp (k : Nat) : Calls' D := ⟨[], [], [], [], []⟩
theorem zq (k : Nat) : CallsOK X (zp k) := .nil cod
def zr (x : Int × Bool × (List Int) × Int × Int × Unit) (o : Int × Int) (Q : Ex → VSt D → Prop) (R : VR D → Prop) : Prop := Q .normal (mkSt ⟨[(0, .ptr 700000 0), (3, .hole)], [(700000, .var [.hole, .hole, .hole])]⟩ [.int .i64 o.1, .sl 5 x.2.2.1, .int .i64 o.2, .int .i64 x.2.2.2.2.1])
def zs (k : Nat) : Cut D := cutS ⟨[(0, .ptr 700000 0), (3, .hole), (34, .hole)], [(700000, .var [.hole, .hole, .hole])]⟩ [.ki .i64, .kb, .kl 5, .ki .i64, .ki .i64] (fun (x : Int × Bool × (List Int) × Int × Int × Unit) => S_l1Byte_c34 k x.1 x.2.1 x.2.2.1 x.2.2.2.1 x.2.2.2.2.1) zr
def zt (k : Nat) : Cuts D := ⟨[], []⟩
theorem zu (k : Nat) : CutFor X zo k (.cell 0 73 :: Go.Proofs.Try.f54.results.toList) (zs k) (sub (bodyOf Go.Proofs.Try.f54) [1, 1, 1, 0, 1]) :=
  joinCut_s (X := X) (sg := [.ki .i64, .kb, .kl 5, .ki .i64, .ki .i64]) (cu := zt k) (cl := zp k) (tys := [[0]]) (zq k) (cutOK_of (l := []) (by kernel_rfl) trivial) fun x Q R h => by
    simp only [S_l1Byte_c34, optK_bind, optK_bif, optK_pure, optK_none, optK_oc, optK_guardT, optK_map] at h
    refine hold_of h ?_
    kernel_rfl
def zv (k : Nat) : Cuts D := ⟨[], [(34, some (zs k))]⟩
def zw : List Ar := []
def zx (k : Nat) (c : Tup D [.kl 5, .ki .i64, .ki .i64]) (x : TupA D zw) : Option (Int × Sl1Cur) := S_l1Byte k (⟨c.1, c.2.1, c.2.2.1⟩ : Sl1Cur)
def zy (r : Int × Sl1Cur) : Tup D [.kl 5, .ki .i64, .ki .i64] := (r.2.b, r.2.i, r.2.h, ())
def zz (r : Int × Sl1Cur) : List (VP D) := [.c (.int .i64 r.1)]
theorem z10 (k : Nat) : DoesP P X 54 [.kl 5, .ki .i64, .ki .i64] zw (zx k) zz zy :=
  doesP_of (pt := 73) (body := bodyOf Go.Proofs.Try.f54) (pl := zo) (k := k) (cu := zv k) (tys := [[0]]) (zq k) ctx mixed Go.Proofs.Try.func54 (by kernel_rfl) (by kernel_rfl) (by kernel_rfl) (by kernel_rfl) (cutOK_of (l := [(zs k, sub (bodyOf Go.Proofs.Try.f54) [1, 1, 1, 0, 1])]) (by kernel_rfl) ⟨zu k, trivial⟩) fun c x R h => by
    simp only [zx, S_l1Byte, optK_bind, optK_bif, optK_pure, optK_none, optK_oc, optK_guardT, optK_map] at h
    refine hold_of h ?_
    kernel_rfl
def z11 (k : Nat) : EntryP D := entP [.kl 5, .ki .i64, .ki .i64] zw (zx k) zz zy
theorem z12 (k : Nat) : EntryPOK X 54 (z11 k) := (z10 k).en rfl
def z13 : Plan := ⟨[(0, [(0, none), (1, none)]), (1, [(0, none), (1, none), (9, none)]), (2, [(0, none), (4, none)]), (3, [(0, none), (1, none), (11, none)]), (4, [(0, none), (4, none)]), (5, [(0, none), (1, none), (5, none)]), (6, [(0, none), (1, none), (5, none), (6, none)]), (7, [(0, none), (1, none), (5, none), (6, none), (7, none)]), (8, [(0, none), (4, none)])],
  [],
  [(9, ([(0, none)], [(0, none), (1, none)])), (11, ([(0, none), (1, none)], [(0, none), (1, none)]))]⟩
def z14 (k : Nat) : Calls' D := ⟨[], [], [(54, z11 k)], [], []⟩
theorem z15 (k : Nat) : CallsOK X (z14 k) := .consP (z12 k) (.nil cod)
def z16 (k : Nat) : Cuts D := ⟨[], []⟩
def z17 : List Ar := [.c (.ki .i64)]
def z18 (k : Nat) (c : Tup D [.kl 5, .ki .i64, .ki .i64]) (x : TupA D z17) : Option (Int × Sl1Cur) := S_l1Below k (⟨c.1, c.2.1, c.2.2.1⟩ : Sl1Cur) x.1
def z19 (r : Int × Sl1Cur) : Tup D [.kl 5, .ki .i64, .ki .i64] := (r.2.b, r.2.i, r.2.h, ())
def z1a (r : Int × Sl1Cur) : List (VP D) := [.c (.int .i64 r.1)]
theorem z1b (k : Nat) : DoesP P X 41 [.kl 5, .ki .i64, .ki .i64] z17 (z18 k) z1a z19 :=
  doesP_of (pt := 73) (body := bodyOf Go.Proofs.Try.f41) (pl := z13) (k := k) (cu := z16 k) (tys := [[0]]) (z15 k) ctx mixed Go.Proofs.Try.func41 (by kernel_rfl) (by kernel_rfl) (by kernel_rfl) (by kernel_rfl) (cutOK_of (l := []) (by kernel_rfl) trivial) fun c x R h => by
    simp only [z18, S_l1Below, optK_bind, optK_bif, optK_pure, optK_none, optK_oc, optK_guardT, optK_map] at h
    refine hold_of h ?_
    kernel_rfl
def z1c (k : Nat) : EntryP D := entP [.kl 5, .ki .i64, .ki .i64] z17 (z18 k) z1a z19
theorem z1d (k : Nat) : EntryPOK X 41 (z1c k) := (z1b k).en rfl
def z1e : Plan := ⟨[(0, [(0, none), (2, none)]), (1, [(0, none), (2, none), (3, none)]), (2, [(0, none), (2, none)])],
  [],
  []⟩
def z1f (k : Nat) : Calls' D := ⟨[], [], [(41, z1c k)], [], []⟩
theorem z1g (k : Nat) : CallsOK X (z1f k) := .consP (z1d k) (.nil cod)
def z1h (k : Nat) : Cuts D := ⟨[], []⟩
def z1i : List Ar := []
def z1j (k : Nat) (c : Tup D [.kl 5, .ki .i64, .ki .i64]) (x : TupA D z1i) : Option (ISpan × Sl1Cur) := S_l9Span k (⟨c.1, c.2.1, c.2.2.1⟩ : Sl1Cur)
def z1k (r : ISpan × Sl1Cur) : Tup D [.kl 5, .ki .i64, .ki .i64] := (r.2.b, r.2.i, r.2.h, ())
def z1l (r : ISpan × Sl1Cur) : List (VP D) := [.agg [.int .i64 r.1.From, .int .i64 r.1.To]]
theorem z1m (k : Nat) : DoesP P X 35 [.kl 5, .ki .i64, .ki .i64] z1i (z1j k) z1l z1k :=
  doesP_of (pt := 73) (body := bodyOf Go.Proofs.Try.f35) (pl := z1e) (k := k) (cu := z1h k) (tys := [[0, 0]]) (z1g k) ctx mixed Go.Proofs.Try.func35 (by kernel_rfl) (by kernel_rfl) (by kernel_rfl) (by kernel_rfl) (cutOK_of (l := []) (by kernel_rfl) trivial) fun c x R h => by
    simp only [z1j, S_l9Span, optK_bind, optK_bif, optK_pure, optK_none, optK_oc, optK_guardT, optK_map] at h
    refine hold_of h ?_
    kernel_rfl
def z1n (k : Nat) : EntryP D := entP [.kl 5, .ki .i64, .ki .i64] z1i (z1j k) z1l z1k
theorem z1o (k : Nat) : EntryPOK X 35 (z1n k) := (z1m k).en rfl
def z1p : Plan := ⟨[(0, [(0, some 26)]), (1, [(0, some 26), (3, none)]), (2, [(0, some 26), (3, none), (7, none)]), (3, [(0, some 26), (3, none)]), (4, [(0, some 26), (3, none), (54, none)]), (5, [(2, none)]), (6, [(2, none)])],
  [(0, []), (1, [(0, some 26), (3, none)])],
  [(7, ([(0, some 26), (3, none)], [])), (54, ([], [(0, some 26), (3, none)]))]⟩
def z1q (k : Nat) : Calls' D := ⟨[], [], [], [], []⟩
theorem z1r (k : Nat) : CallsOK X (z1q k) := .nil cod
def z1s (x : (List ISpan) × Int × Unit) (o : Oc (Unit) (Bool)) (Q : Ex → VSt D → Prop) (R : VR D → Prop) : Prop := ocP o (fun v0 => Q .normal (mkSt ⟨[], []⟩ [])) (fun w0 => R (.p (.c (.bool w0))))
def z1t (k : Nat) : Cut D := cutS ⟨[(0, .hole), (3, .hole)], []⟩ [.kl 26, .ki .i64] (fun (x : (List ISpan) × Int × Unit) => S_IsSpanSet_b0 k k x.1 x.2.1) z1s
def z1u (k : Nat) : Cuts D := ⟨[], []⟩
theorem z1v (k : Nat) : CutFor X z1p k Go.Proofs.Try.f11.results.toList (z1t k) (sub (bodyOf Go.Proofs.Try.f11) [1, 0, 1]) :=
  loopCut_s (X := X) (sg := [.kl 26, .ki .i64]) (cu := z1u k) (cl := z1q k) (tys := [[0]]) (id := 0) (c := sub (bodyOf Go.Proofs.Try.f11) [1, 0, 1, 0, 0]) (f := fun n => fun (x : (List ISpan) × Int × Unit) => S_IsSpanSet_b0 k n x.1 x.2.1) (z1r k) (cutOK_of (l := []) (by kernel_rfl) trivial) (fun _ => rfl) (fun n x Q R h => by
    simp only [S_IsSpanSet_b0, optK_bind, optK_bif, optK_pure, optK_none, optK_oc, optK_guardT, optK_map] at h
    refine hold_of h ?_
    kernel_rfl) (by kernel_rfl)
def z1w (k : Nat) : Cuts D := ⟨[(0, some (z1t k))], []⟩
def z1x : List Ar := [.c (.kl 26)]
def z1y (k : Nat) (x : TupA D z1x) : Option (Bool) := S_IsSpanSet k x.1
def z1z (r : Bool) : VR D := .p (.c (.bool r))
theorem z20 (k : Nat) : Does P X 11 z1x (z1y k) z1z :=
  does_of (body := bodyOf Go.Proofs.Try.f11) (pl := z1p) (k := k) (cu := z1w k) (tys := [[0]]) (z1r k) ctx mixed Go.Proofs.Try.func11 (by kernel_rfl) (by kernel_rfl) (cutOK_of (l := [(z1t k, sub (bodyOf Go.Proofs.Try.f11) [1, 0, 1])]) (by kernel_rfl) ⟨z1v k, trivial⟩) fun x R h => by
    simp only [z1y, S_IsSpanSet, optK_bind, optK_bif, optK_pure, optK_none, optK_oc, optK_guardT, optK_map] at h
    refine hold_of h ?_
    kernel_rfl
def z21 (k : Nat) : Entry D := entS z1x (z1y k) z1z
theorem z22 (k : Nat) : EntryOK X 11 (z21 k) := (z20 k).en rfl
def z23 : Plan := ⟨[(0, [(0, none), (1, none)]), (1, [(0, none), (1, none), (7, none)]), (2, [(4, none)]), (3, [(4, none)])],
  [],
  [(7, ([(1, none)], [(0, none)]))]⟩
def z24 (k : Nat) : Calls' D := ⟨[], [], [], [], []⟩
theorem z25 (k : Nat) : CallsOK X (z24 k) := .nil cod
def z26 (k : Nat) : Cuts D := ⟨[], []⟩
def z27 : List Ar := [.c (.ki .i64), .c (.ki .i64)]
def z28 (k : Nat) (x : TupA D z27) : Option (Int) := S_Min k x.1 x.2.1
def z29 (r : Int) : VR D := .p (.c (.int .i64 r))
theorem z2a (k : Nat) : Does P X 55 z27 (z28 k) z29 :=
  does_of (body := bodyOf Go.Proofs.Try.f55) (pl := z23) (k := k) (cu := z26 k) (tys := [[0]]) (z25 k) ctx mixed Go.Proofs.Try.func55 (by kernel_rfl) (by kernel_rfl) (cutOK_of (l := []) (by kernel_rfl) trivial) fun x R h => by
    simp only [z28, S_Min, optK_bind, optK_bif, optK_pure, optK_none, optK_oc, optK_guardT, optK_map] at h
    refine hold_of h ?_
    kernel_rfl
def z2b (k : Nat) : Entry D := entS z27 (z28 k) z29
theorem z2c (k : Nat) : EntryOK X 55 (z2b k) := (z2a k).en rfl
def z2d : Plan := ⟨[(0, [(0, none), (1, none)]), (1, [(0, none), (1, none), (7, none)]), (2, [(4, none)]), (3, [(4, none)])],
  [],
  [(7, ([(1, none)], [(0, none)]))]⟩
def z2e (k : Nat) : Calls' D := ⟨[], [], [], [], []⟩
theorem z2f (k : Nat) : CallsOK X (z2e k) := .nil cod
def z2g (k : Nat) : Cuts D := ⟨[], []⟩
def z2h : List Ar := [.c (.ki .i64), .c (.ki .i64)]
def z2i (k : Nat) (x : TupA D z2h) : Option (Int) := S_Max k x.1 x.2.1
def z2j (r : Int) : VR D := .p (.c (.int .i64 r))
theorem z2k (k : Nat) : Does P X 56 z2h (z2i k) z2j :=
  does_of (body := bodyOf Go.Proofs.Try.f56) (pl := z2d) (k := k) (cu := z2g k) (tys := [[0]]) (z2f k) ctx mixed Go.Proofs.Try.func56 (by kernel_rfl) (by kernel_rfl) (cutOK_of (l := []) (by kernel_rfl) trivial) fun x R h => by
    simp only [z2i, S_Max, optK_bind, optK_bif, optK_pure, optK_none, optK_oc, optK_guardT, optK_map] at h
    refine hold_of h ?_
    kernel_rfl
def z2l (k : Nat) : Entry D := entS z2h (z2i k) z2j
theorem z2m (k : Nat) : EntryOK X 56 (z2l k) := (z2k k).en rfl
def z2n : Plan := ⟨[(0, [(0, some 26), (3, none)]), (1, [(0, some 26), (3, none), (28, none)]), (2, [(4, some 26)]), (3, [(0, some 26), (3, none), (5, some 26)]), (4, [(0, some 26), (3, none), (5, some 26), (6, none)]), (5, [(0, some 26), (3, none), (5, some 26), (6, none), (36, none)]), (6, [(0, some 26), (3, none), (5, some 26), (6, none)]), (7, [(0, some 26), (3, none), (5, some 26), (6, none), (46, none)]), (8, [(0, some 26), (3, none), (5, some 26), (6, none)]), (9, [(0, some 26), (3, none), (5, some 26), (7, none)]), (10, [(0, some 26), (3, none), (5, some 26), (7, none), (57, none)]), (11, [(0, some 26), (3, none), (5, some 26), (7, none)]), (12, [(0, some 26), (3, none), (5, some 26), (7, none), (77, none)]), (13, [(0, some 26), (3, none), (5, some 26), (7, none)]), (14, [(0, some 26), (3, none), (5, some 26)]), (15, [(0, some 26), (3, none), (5, some 26), (8, none)]), (16, [(0, some 26), (3, none), (5, some 26), (8, none), (102, none)]), (17, [(0, some 26), (3, none), (5, some 26), (8, none)]), (18, [(0, some 26), (3, none), (5, some 26), (8, none), (112, none)]), (19, [(0, some 26), (3, none), (5, some 26), (8, none)]), (20, [(4, some 26)])],
  [(0, [(0, some 26), (3, none), (5, some 26)]), (1, [(0, some 26), (3, none), (5, some 26), (6, none)]), (2, [(0, some 26), (3, none), (5, some 26)]), (3, [(0, some 26), (3, none), (5, some 26), (7, none)]), (4, [(5, some 26)]), (5, [(0, some 26), (3, none), (5, some 26), (8, none)])],
  [(28, ([(0, some 26)], [(0, some 26), (3, none)])), (36, ([(0, some 26), (3, none), (5, some 26), (6, none)], [(0, some 26), (3, none), (5, some 26)])), (46, ([(0, some 26), (3, none), (5, some 26), (6, none)], [(0, some 26), (3, none), (5, some 26), (6, none)])), (57, ([(0, some 26), (3, none), (5, some 26), (7, none)], [(0, some 26), (3, none), (5, some 26)])), (77, ([(0, some 26), (3, none), (5, some 26), (7, none)], [(0, some 26), (3, none), (5, some 26), (7, none)])), (102, ([(0, some 26), (3, none), (5, some 26), (8, none)], [(5, some 26)])), (112, ([(0, some 26), (3, none), (5, some 26), (8, none)], [(0, some 26), (3, none), (5, some 26), (8, none)]))]⟩
def z2o (k : Nat) : Calls' D := ⟨[(11, z21 k), (55, z2b k), (56, z2l k)], [], [], [], []⟩
theorem z2p (k : Nat) : CallsOK X (z2o k) := .cons (z22 k) (.cons (z2c k) (.cons (z2m k) (.nil cod)))
def z2q (x : (List ISpan) × Int × Bool × Int × Int × (List ISpan) × Unit) (o : (List ISpan)) (Q : Ex → VSt D → Prop) (R : VR D → Prop) : Prop := Q .normal (mkSt ⟨[(0, .hole), (3, .ptr 3 0), (5, .ref 500005), (6, .hole)], [(3, .var [.hole, .hole]), (500005, .row)]⟩ [.sl 26 x.1, .int .i64 x.2.1, .int .i64 x.2.2.2.1, .int .i64 x.2.2.2.2.1, .sl 26 o])
def z2r (k : Nat) : Cut D := cutS ⟨[(0, .hole), (3, .ptr 3 0), (5, .ref 500005), (6, .hole), (46, .hole)], [(3, .var [.hole, .hole]), (500005, .row)]⟩ [.kl 26, .ki .i64, .kb, .ki .i64, .ki .i64, .kl 26] (fun (x : (List ISpan) × Int × Bool × Int × Int × (List ISpan) × Unit) => S_AddSpan_c46 k x.1 x.2.1 x.2.2.1 x.2.2.2.1 x.2.2.2.2.1 x.2.2.2.2.2.1) z2q
def z2s (k : Nat) : Cuts D := ⟨[], []⟩
theorem z2t (k : Nat) : CutFor X z2n k Go.Proofs.Try.f43.results.toList (z2r k) (sub (bodyOf Go.Proofs.Try.f43) [1, 1, 1, 0, 1, 0, 0, 1, 0, 0, 1]) :=
  joinCut_s (X := X) (sg := [.kl 26, .ki .i64, .kb, .ki .i64, .ki .i64, .kl 26]) (cu := z2s k) (cl := z2o k) (tys := [[26]]) (z2p k) (cutOK_of (l := []) (by kernel_rfl) trivial) fun x Q R h => by
    simp only [S_AddSpan_c46, optK_bind, optK_bif, optK_pure, optK_none, optK_oc, optK_guardT, optK_map] at h
    refine hold_of h ?_
    kernel_rfl
def z2u (x : (List ISpan) × Int × Int × Int × (List ISpan) × Unit) (o : (List ISpan)) (Q : Ex → VSt D → Prop) (R : VR D → Prop) : Prop := Q .normal (mkSt ⟨[(0, .hole), (3, .ptr 3 0), (5, .ref 500005), (6, .hole)], [(3, .var [.hole, .hole]), (500005, .row)]⟩ [.sl 26 x.1, .int .i64 x.2.1, .int .i64 x.2.2.1, .int .i64 x.2.2.2.1, .sl 26 o])
def z2v (k : Nat) : Cut D := cutS ⟨[(0, .hole), (3, .ptr 3 0), (5, .ref 500005), (6, .hole)], [(3, .var [.hole, .hole]), (500005, .row)]⟩ [.kl 26, .ki .i64, .ki .i64, .ki .i64, .kl 26] (fun (x : (List ISpan) × Int × Int × Int × (List ISpan) × Unit) => S_AddSpan_b1 k x.1 x.2.1 x.2.2.1 x.2.2.2.1 x.2.2.2.2.1) z2u
def z2w (k : Nat) : Cuts D := ⟨[], [(46, some (z2r k))]⟩
theorem z2x (k : Nat) : CutFor X z2n k Go.Proofs.Try.f43.results.toList (z2v k) (sub (bodyOf Go.Proofs.Try.f43) [1, 1, 1, 0, 1, 0, 0, 1, 0]) :=
  joinCut_s (X := X) (sg := [.kl 26, .ki .i64, .ki .i64, .ki .i64, .kl 26]) (cu := z2w k) (cl := z2o k) (tys := [[26]]) (z2p k) (cutOK_of (l := [(z2r k, sub (bodyOf Go.Proofs.Try.f43) [1, 1, 1, 0, 1, 0, 0, 1, 0, 0, 1])]) (by kernel_rfl) ⟨z2t k, trivial⟩) fun x Q R h => by
    simp only [S_AddSpan_b1, optK_bind, optK_bif, optK_pure, optK_none, optK_oc, optK_guardT, optK_map] at h
    refine hold_of h ?_
    kernel_rfl
def z2y (x : (List ISpan) × Int × Int × Int × (List ISpan) × Unit) (o : (List ISpan)) (Q : Ex → VSt D → Prop) (R : VR D → Prop) : Prop := Q .normal (mkSt ⟨[(0, .hole), (3, .ptr 3 0), (5, .ref 500005)], [(3, .var [.hole, .hole]), (500005, .row)]⟩ [.sl 26 x.1, .int .i64 x.2.2.1, .int .i64 x.2.2.2.1, .sl 26 o])
def z2z (k : Nat) : Cut D := cutS ⟨[(0, .hole), (3, .ptr 3 0), (5, .ref 500005), (6, .hole)], [(3, .var [.hole, .hole]), (500005, .row)]⟩ [.kl 26, .ki .i64, .ki .i64, .ki .i64, .kl 26] (fun (x : (List ISpan) × Int × Int × Int × (List ISpan) × Unit) => S_AddSpan_b0 k k x.1 x.2.1 x.2.2.1 x.2.2.2.1 x.2.2.2.2.1) z2y
def z30 (k : Nat) : Cuts D := ⟨[(1, some (z2v k))], []⟩
theorem z31 (k : Nat) : CutFor X z2n k Go.Proofs.Try.f43.results.toList (z2z k) (sub (bodyOf Go.Proofs.Try.f43) [1, 1, 1, 0, 1]) :=
  loopCut_s (X := X) (sg := [.kl 26, .ki .i64, .ki .i64, .ki .i64, .kl 26]) (cu := z30 k) (cl := z2o k) (tys := [[26]]) (id := 0) (c := sub (bodyOf Go.Proofs.Try.f43) [1, 1, 1, 0, 1, 0, 0]) (f := fun n => fun (x : (List ISpan) × Int × Int × Int × (List ISpan) × Unit) => S_AddSpan_b0 k n x.1 x.2.1 x.2.2.1 x.2.2.2.1 x.2.2.2.2.1) (z2p k) (cutOK_of (l := [(z2v k, sub (bodyOf Go.Proofs.Try.f43) [1, 1, 1, 0, 1, 0, 0, 1, 0])]) (by kernel_rfl) ⟨z2x k, trivial⟩) (fun _ => rfl) (fun n x Q R h => by
    simp only [S_AddSpan_b0, optK_bind, optK_bif, optK_pure, optK_none, optK_oc, optK_guardT, optK_map] at h
    refine hold_of h ?_
    kernel_rfl) (by kernel_rfl)
def z32 (x : (List ISpan) × Int × Bool × Int × Int × (List ISpan) × Unit) (o : Int × Int) (Q : Ex → VSt D → Prop) (R : VR D → Prop) : Prop := Q .normal (mkSt ⟨[(0, .hole), (3, .ptr 3 0), (5, .ref 500005), (7, .hole)], [(3, .var [.hole, .hole]), (500005, .row)]⟩ [.sl 26 x.1, .int .i64 x.2.1, .int .i64 o.1, .int .i64 o.2, .sl 26 x.2.2.2.2.2.1])
def z33 (k : Nat) : Cut D := cutS ⟨[(0, .hole), (3, .ptr 3 0), (5, .ref 500005), (7, .hole), (77, .hole)], [(3, .var [.hole, .hole]), (500005, .row)]⟩ [.kl 26, .ki .i64, .kb, .ki .i64, .ki .i64, .kl 26] (fun (x : (List ISpan) × Int × Bool × Int × Int × (List ISpan) × Unit) => S_AddSpan_c77 k x.1 x.2.1 x.2.2.1 x.2.2.2.1 x.2.2.2.2.1 x.2.2.2.2.2.1) z32
def z34 (k : Nat) : Cuts D := ⟨[], []⟩
theorem z35 (k : Nat) : CutFor X z2n k Go.Proofs.Try.f43.results.toList (z33 k) (sub (bodyOf Go.Proofs.Try.f43) [1, 1, 1, 1, 0, 1, 0, 0, 1, 0, 0, 1]) :=
  joinCut_s (X := X) (sg := [.kl 26, .ki .i64, .kb, .ki .i64, .ki .i64, .kl 26]) (cu := z34 k) (cl := z2o k) (tys := [[26]]) (z2p k) (cutOK_of (l := []) (by kernel_rfl) trivial) fun x Q R h => by
    simp only [S_AddSpan_c77, optK_bind, optK_bif, optK_pure, optK_none, optK_oc, optK_guardT, optK_map] at h
    refine hold_of h ?_
    kernel_rfl
def z36 (x : (List ISpan) × Int × Int × Int × (List ISpan) × Unit) (o : Int × Int) (Q : Ex → VSt D → Prop) (R : VR D → Prop) : Prop := Q .normal (mkSt ⟨[(0, .hole), (3, .ptr 3 0), (5, .ref 500005), (7, .hole)], [(3, .var [.hole, .hole]), (500005, .row)]⟩ [.sl 26 x.1, .int .i64 x.2.1, .int .i64 o.1, .int .i64 o.2, .sl 26 x.2.2.2.2.1])
def z37 (k : Nat) : Cut D := cutS ⟨[(0, .hole), (3, .ptr 3 0), (5, .ref 500005), (7, .hole)], [(3, .var [.hole, .hole]), (500005, .row)]⟩ [.kl 26, .ki .i64, .ki .i64, .ki .i64, .kl 26] (fun (x : (List ISpan) × Int × Int × Int × (List ISpan) × Unit) => S_AddSpan_b3 k x.1 x.2.1 x.2.2.1 x.2.2.2.1 x.2.2.2.2.1) z36
def z38 (k : Nat) : Cuts D := ⟨[], [(77, some (z33 k))]⟩
theorem z39 (k : Nat) : CutFor X z2n k Go.Proofs.Try.f43.results.toList (z37 k) (sub (bodyOf Go.Proofs.Try.f43) [1, 1, 1, 1, 0, 1, 0, 0, 1, 0]) :=
  joinCut_s (X := X) (sg := [.kl 26, .ki .i64, .ki .i64, .ki .i64, .kl 26]) (cu := z38 k) (cl := z2o k) (tys := [[26]]) (z2p k) (cutOK_of (l := [(z33 k, sub (bodyOf Go.Proofs.Try.f43) [1, 1, 1, 1, 0, 1, 0, 0, 1, 0, 0, 1])]) (by kernel_rfl) ⟨z35 k, trivial⟩) fun x Q R h => by
    simp only [S_AddSpan_b3, optK_bind, optK_bif, optK_pure, optK_none, optK_oc, optK_guardT, optK_map] at h
    refine hold_of h ?_
    kernel_rfl
def z3a (x : (List ISpan) × Int × Int × Int × (List ISpan) × Unit) (o : Int × Int) (Q : Ex → VSt D → Prop) (R : VR D → Prop) : Prop := Q .normal (mkSt ⟨[(0, .hole), (3, .ptr 3 0), (5, .ref 500005)], [(3, .var [.hole, .hole]), (500005, .row)]⟩ [.sl 26 x.1, .int .i64 o.1, .int .i64 o.2, .sl 26 x.2.2.2.2.1])
def z3b (k : Nat) : Cut D := cutS ⟨[(0, .hole), (3, .ptr 3 0), (5, .ref 500005), (7, .hole)], [(3, .var [.hole, .hole]), (500005, .row)]⟩ [.kl 26, .ki .i64, .ki .i64, .ki .i64, .kl 26] (fun (x : (List ISpan) × Int × Int × Int × (List ISpan) × Unit) => S_AddSpan_b2 k k x.1 x.2.1 x.2.2.1 x.2.2.2.1 x.2.2.2.2.1) z3a
def z3c (k : Nat) : Cuts D := ⟨[(3, some (z37 k))], []⟩
theorem z3d (k : Nat) : CutFor X z2n k Go.Proofs.Try.f43.results.toList (z3b k) (sub (bodyOf Go.Proofs.Try.f43) [1, 1, 1, 1, 0, 1]) :=
  loopCut_s (X := X) (sg := [.kl 26, .ki .i64, .ki .i64, .ki .i64, .kl 26]) (cu := z3c k) (cl := z2o k) (tys := [[26]]) (id := 2) (c := sub (bodyOf Go.Proofs.Try.f43) [1, 1, 1, 1, 0, 1, 0, 0]) (f := fun n => fun (x : (List ISpan) × Int × Int × Int × (List ISpan) × Unit) => S_AddSpan_b2 k n x.1 x.2.1 x.2.2.1 x.2.2.2.1 x.2.2.2.2.1) (z2p k) (cutOK_of (l := [(z37 k, sub (bodyOf Go.Proofs.Try.f43) [1, 1, 1, 1, 0, 1, 0, 0, 1, 0])]) (by kernel_rfl) ⟨z39 k, trivial⟩) (fun _ => rfl) (fun n x Q R h => by
    simp only [S_AddSpan_b2, optK_bind, optK_bif, optK_pure, optK_none, optK_oc, optK_guardT, optK_map] at h
    refine hold_of h ?_
    kernel_rfl) (by kernel_rfl)
def z3e (x : (List ISpan) × Int × Bool × Int × Int × (List ISpan) × Unit) (o : (List ISpan)) (Q : Ex → VSt D → Prop) (R : VR D → Prop) : Prop := Q .normal (mkSt ⟨[(0, .hole), (3, .ptr 3 0), (5, .ref 500005), (8, .hole)], [(3, .var [.hole, .hole]), (500005, .row)]⟩ [.sl 26 x.1, .int .i64 x.2.1, .int .i64 x.2.2.2.1, .int .i64 x.2.2.2.2.1, .sl 26 o])
def z3f (k : Nat) : Cut D := cutS ⟨[(0, .hole), (3, .ptr 3 0), (5, .ref 500005), (8, .hole), (112, .hole)], [(3, .var [.hole, .hole]), (500005, .row)]⟩ [.kl 26, .ki .i64, .kb, .ki .i64, .ki .i64, .kl 26] (fun (x : (List ISpan) × Int × Bool × Int × Int × (List ISpan) × Unit) => S_AddSpan_c112 k x.1 x.2.1 x.2.2.1 x.2.2.2.1 x.2.2.2.2.1 x.2.2.2.2.2.1) z3e
def z3g (k : Nat) : Cuts D := ⟨[], []⟩
theorem z3h (k : Nat) : CutFor X z2n k Go.Proofs.Try.f43.results.toList (z3f k) (sub (bodyOf Go.Proofs.Try.f43) [1, 1, 1, 1, 1, 1, 0, 1, 0, 0, 1, 0, 0, 1]) :=
  joinCut_s (X := X) (sg := [.kl 26, .ki .i64, .kb, .ki .i64, .ki .i64, .kl 26]) (cu := z3g k) (cl := z2o k) (tys := [[26]]) (z2p k) (cutOK_of (l := []) (by kernel_rfl) trivial) fun x Q R h => by
    simp only [S_AddSpan_c112, optK_bind, optK_bif, optK_pure, optK_none, optK_oc, optK_guardT, optK_map] at h
    refine hold_of h ?_
    kernel_rfl
def z3i (x : (List ISpan) × Int × Int × Int × (List ISpan) × Unit) (o : (List ISpan)) (Q : Ex → VSt D → Prop) (R : VR D → Prop) : Prop := Q .normal (mkSt ⟨[(0, .hole), (3, .ptr 3 0), (5, .ref 500005), (8, .hole)], [(3, .var [.hole, .hole]), (500005, .row)]⟩ [.sl 26 x.1, .int .i64 x.2.1, .int .i64 x.2.2.1, .int .i64 x.2.2.2.1, .sl 26 o])
def z3j (k : Nat) : Cut D := cutS ⟨[(0, .hole), (3, .ptr 3 0), (5, .ref 500005), (8, .hole)], [(3, .var [.hole, .hole]), (500005, .row)]⟩ [.kl 26, .ki .i64, .ki .i64, .ki .i64, .kl 26] (fun (x : (List ISpan) × Int × Int × Int × (List ISpan) × Unit) => S_AddSpan_b5 k x.1 x.2.1 x.2.2.1 x.2.2.2.1 x.2.2.2.2.1) z3i
def z3k (k : Nat) : Cuts D := ⟨[], [(112, some (z3f k))]⟩
theorem z3l (k : Nat) : CutFor X z2n k Go.Proofs.Try.f43.results.toList (z3j k) (sub (bodyOf Go.Proofs.Try.f43) [1, 1, 1, 1, 1, 1, 0, 1, 0, 0, 1, 0]) :=
  joinCut_s (X := X) (sg := [.kl 26, .ki .i64, .ki .i64, .ki .i64, .kl 26]) (cu := z3k k) (cl := z2o k) (tys := [[26]]) (z2p k) (cutOK_of (l := [(z3f k, sub (bodyOf Go.Proofs.Try.f43) [1, 1, 1, 1, 1, 1, 0, 1, 0, 0, 1, 0, 0, 1])]) (by kernel_rfl) ⟨z3h k, trivial⟩) fun x Q R h => by
    simp only [S_AddSpan_b5, optK_bind, optK_bif, optK_pure, optK_none, optK_oc, optK_guardT, optK_map] at h
    refine hold_of h ?_
    kernel_rfl
def z3m (x : (List ISpan) × Int × Int × Int × (List ISpan) × Unit) (o : (List ISpan)) (Q : Ex → VSt D → Prop) (R : VR D → Prop) : Prop := Q .normal (mkSt ⟨[(5, .ref 500005)], [(500005, .row)]⟩ [.sl 26 o])
def z3n (k : Nat) : Cut D := cutS ⟨[(0, .hole), (3, .ptr 3 0), (5, .ref 500005), (8, .hole)], [(3, .var [.hole, .hole]), (500005, .row)]⟩ [.kl 26, .ki .i64, .ki .i64, .ki .i64, .kl 26] (fun (x : (List ISpan) × Int × Int × Int × (List ISpan) × Unit) => S_AddSpan_b4 k k x.1 x.2.1 x.2.2.1 x.2.2.2.1 x.2.2.2.2.1) z3m
def z3o (k : Nat) : Cuts D := ⟨[(5, some (z3j k))], []⟩
theorem z3p (k : Nat) : CutFor X z2n k Go.Proofs.Try.f43.results.toList (z3n k) (sub (bodyOf Go.Proofs.Try.f43) [1, 1, 1, 1, 1, 1, 0, 1]) :=
  loopCut_s (X := X) (sg := [.kl 26, .ki .i64, .ki .i64, .ki .i64, .kl 26]) (cu := z3o k) (cl := z2o k) (tys := [[26]]) (id := 4) (c := sub (bodyOf Go.Proofs.Try.f43) [1, 1, 1, 1, 1, 1, 0, 1, 0, 0]) (f := fun n => fun (x : (List ISpan) × Int × Int × Int × (List ISpan) × Unit) => S_AddSpan_b4 k n x.1 x.2.1 x.2.2.1 x.2.2.2.1 x.2.2.2.2.1) (z2p k) (cutOK_of (l := [(z3j k, sub (bodyOf Go.Proofs.Try.f43) [1, 1, 1, 1, 1, 1, 0, 1, 0, 0, 1, 0])]) (by kernel_rfl) ⟨z3l k, trivial⟩) (fun _ => rfl) (fun n x Q R h => by
    simp only [S_AddSpan_b4, optK_bind, optK_bif, optK_pure, optK_none, optK_oc, optK_guardT, optK_map] at h
    refine hold_of h ?_
    kernel_rfl) (by kernel_rfl)
def z3q (k : Nat) : Cuts D := ⟨[(0, some (z2z k)), (2, some (z3b k)), (4, some (z3n k))], []⟩
def z3r : List Ar := [.c (.kl 26), .a [.ki .i64, .ki .i64]]
def z3s (k : Nat) (x : TupA D z3r) : Option ((List ISpan)) := S_AddSpan k x.1 (⟨x.2.1.1, x.2.1.2.1⟩ : ISpan)
def z3t (r : (List ISpan)) : VR D := .p (.c (.sl 26 r))
theorem z3u (k : Nat) : Does P X 43 z3r (z3s k) z3t :=
  does_of (body := bodyOf Go.Proofs.Try.f43) (pl := z2n) (k := k) (cu := z3q k) (tys := [[26]]) (z2p k) ctx mixed Go.Proofs.Try.func43 (by kernel_rfl) (by kernel_rfl) (cutOK_of (l := [(z2z k, sub (bodyOf Go.Proofs.Try.f43) [1, 1, 1, 0, 1]), (z3b k, sub (bodyOf Go.Proofs.Try.f43) [1, 1, 1, 1, 0, 1]), (z3n k, sub (bodyOf Go.Proofs.Try.f43) [1, 1, 1, 1, 1, 1, 0, 1])]) (by kernel_rfl) ⟨z31 k, z3d k, z3p k, trivial⟩) fun x R h => by
    simp only [z3s, S_AddSpan, optK_bind, optK_bif, optK_pure, optK_none, optK_oc, optK_guardT, optK_map] at h
    refine hold_of h ?_
    kernel_rfl
def z3v (k : Nat) : Entry D := entS z3r (z3s k) z3t
theorem z3w (k : Nat) : EntryOK X 43 (z3v k) := (z3u k).en rfl
def z3x : Plan := ⟨[(0, [(0, none), (1, none)]), (1, [(0, none), (4, none)])],
  [],
  []⟩
def z3y (k : Nat) : Calls' D := ⟨[], [], [(41, z1c k)], [], []⟩
theorem z3z (k : Nat) : CallsOK X (z3y k) := .consP (z1d k) (.nil cod)
def z40 (k : Nat) : Cuts D := ⟨[], []⟩
def z41 : List Ar := [.c (.ki .i64)]
def z42 (k : Nat) (c : Tup D [.kl 5, .ki .i64, .ki .i64]) (x : TupA D z41) : Option (Bool × Sl1Cur) := S_l1Once k (⟨c.1, c.2.1, c.2.2.1⟩ : Sl1Cur) x.1
def z43 (r : Bool × Sl1Cur) : Tup D [.kl 5, .ki .i64, .ki .i64] := (r.2.b, r.2.i, r.2.h, ())
def z44 (r : Bool × Sl1Cur) : List (VP D) := [.c (.bool r.1)]
theorem z45 (k : Nat) : DoesP P X 36 [.kl 5, .ki .i64, .ki .i64] z41 (z42 k) z44 z43 :=
  doesP_of (pt := 73) (body := bodyOf Go.Proofs.Try.f36) (pl := z3x) (k := k) (cu := z40 k) (tys := [[0]]) (z3z k) ctx mixed Go.Proofs.Try.func36 (by kernel_rfl) (by kernel_rfl) (by kernel_rfl) (by kernel_rfl) (cutOK_of (l := []) (by kernel_rfl) trivial) fun c x R h => by
    simp only [z42, S_l1Once, optK_bind, optK_bif, optK_pure, optK_none, optK_oc, optK_guardT, optK_map] at h
    refine hold_of h ?_
    kernel_rfl
def z46 (k : Nat) : EntryP D := entP [.kl 5, .ki .i64, .ki .i64] z41 (z42 k) z44 z43
theorem z47 (k : Nat) : EntryPOK X 36 (z46 k) := (z45 k).en rfl
def z48 : Plan := ⟨[(0, [(0, none)]), (1, [(0, none), (3, some 26)]), (2, [(0, none), (3, some 26), (4, none)]), (3, [(0, none), (3, some 26), (4, none), (9, none)]), (4, [(0, none), (3, some 26), (4, none)]), (5, [(0, none), (3, some 26), (4, none)]), (6, [(0, none), (3, some 26), (17, none)]), (7, [(0, none), (3, some 26)]), (8, [(0, none), (2, some 26)])],
  [(0, [(0, none), (3, some 26)]), (1, [(0, none), (3, some 26), (4, none)])],
  [(9, ([(0, none), (3, some 26), (4, none)], [(0, none), (3, some 26)])), (17, ([(0, none), (3, some 26)], [(0, none), (3, some 26)]))]⟩
def z49 (k : Nat) : Calls' D := ⟨[(43, z3v k)], [], [(41, z1c k), (35, z1n k), (36, z46 k)], [], []⟩
theorem z4a (k : Nat) : CallsOK X (z49 k) := .cons (z3w k) (.consP (z1d k) (.consP (z1o k) (.consP (z47 k) (.nil cod))))
def z4b (x : Int × (List Int) × Int × Int × (List ISpan) × Unit) (o : (List Int) × Int × Int × (List ISpan)) (Q : Ex → VSt D → Prop) (R : VR D → Prop) : Prop := Q .normal (mkSt ⟨[(0, .ptr 700000 0), (3, .ref 500003)], [(700000, .var [.hole, .hole, .hole]), (500003, .row)]⟩ [.sl 5 o.1, .int .i64 o.2.1, .int .i64 o.2.2.1, .sl 26 o.2.2.2])
def z4c (k : Nat) : Cut D := cutS ⟨[(0, .ptr 700000 0), (3, .ref 500003), (4, .hole)], [(700000, .var [.hole, .hole, .hole]), (500003, .row)]⟩ [.ki .i64, .kl 5, .ki .i64, .ki .i64, .kl 26] (fun (x : Int × (List Int) × Int × Int × (List ISpan) × Unit) => S_l9Set_b0 k k x.1 x.2.1 x.2.2.1 x.2.2.2.1 x.2.2.2.2.1) z4b
def z4d (k : Nat) : Cuts D := ⟨[], []⟩
theorem z4e (k : Nat) : CutFor X z48 k (.cell 0 73 :: Go.Proofs.Try.f34.results.toList) (z4c k) (sub (bodyOf Go.Proofs.Try.f34) [1, 1, 0, 1]) :=
  loopCut_s (X := X) (sg := [.ki .i64, .kl 5, .ki .i64, .ki .i64, .kl 26]) (cu := z4d k) (cl := z49 k) (tys := [[26]]) (id := 0) (c := sub (bodyOf Go.Proofs.Try.f34) [1, 1, 0, 1, 0, 0]) (f := fun n => fun (x : Int × (List Int) × Int × Int × (List ISpan) × Unit) => S_l9Set_b0 k n x.1 x.2.1 x.2.2.1 x.2.2.2.1 x.2.2.2.2.1) (z4a k) (cutOK_of (l := []) (by kernel_rfl) trivial) (fun _ => rfl) (fun n x Q R h => by
    simp only [S_l9Set_b0, optK_bind, optK_bif, optK_pure, optK_none, optK_oc, optK_guardT, optK_map] at h
    refine hold_of h ?_
    kernel_rfl) (by kernel_rfl)
def z4f (x : Bool × (List Int) × Int × Int × (List ISpan) × Unit) (o : (List Int) × Int × Int × (List ISpan)) (Q : Ex → VSt D → Prop) (R : VR D → Prop) : Prop := Q .normal (mkSt ⟨[(0, .ptr 700000 0), (3, .ref 500003)], [(700000, .var [.hole, .hole, .hole]), (500003, .row)]⟩ [.sl 5 o.1, .int .i64 o.2.1, .int .i64 o.2.2.1, .sl 26 o.2.2.2])
def z4g (k : Nat) : Cut D := cutS ⟨[(0, .ptr 700000 0), (3, .ref 500003), (17, .hole)], [(700000, .var [.hole, .hole, .hole]), (500003, .row)]⟩ [.kb, .kl 5, .ki .i64, .ki .i64, .kl 26] (fun (x : Bool × (List Int) × Int × Int × (List ISpan) × Unit) => S_l9Set_c17 k x.1 x.2.1 x.2.2.1 x.2.2.2.1 x.2.2.2.2.1) z4f
def z4h (k : Nat) : Cuts D := ⟨[], []⟩
theorem z4i (k : Nat) : CutFor X z48 k (.cell 0 73 :: Go.Proofs.Try.f34.results.toList) (z4g k) (sub (bodyOf Go.Proofs.Try.f34) [1, 1, 1, 0, 1]) :=
  joinCut_s (X := X) (sg := [.kb, .kl 5, .ki .i64, .ki .i64, .kl 26]) (cu := z4h k) (cl := z49 k) (tys := [[26]]) (z4a k) (cutOK_of (l := []) (by kernel_rfl) trivial) fun x Q R h => by
    simp only [S_l9Set_c17, optK_bind, optK_bif, optK_pure, optK_none, optK_oc, optK_guardT, optK_map] at h
    refine hold_of h ?_
    kernel_rfl
def z4j (k : Nat) : Cuts D := ⟨[(0, some (z4c k))], [(17, some (z4g k))]⟩
def z4k : List Ar := []
def z4l (k : Nat) (c : Tup D [.kl 5, .ki .i64, .ki .i64]) (x : TupA D z4k) : Option ((List ISpan) × Sl1Cur) := S_l9Set k (⟨c.1, c.2.1, c.2.2.1⟩ : Sl1Cur)
def z4m (r : (List ISpan) × Sl1Cur) : Tup D [.kl 5, .ki .i64, .ki .i64] := (r.2.b, r.2.i, r.2.h, ())
def z4n (r : (List ISpan) × Sl1Cur) : List (VP D) := [.c (.sl 26 r.1)]
theorem z4o (k : Nat) : DoesP P X 34 [.kl 5, .ki .i64, .ki .i64] z4k (z4l k) z4n z4m :=
  doesP_of (pt := 73) (body := bodyOf Go.Proofs.Try.f34) (pl := z48) (k := k) (cu := z4j k) (tys := [[26]]) (z4a k) ctx mixed Go.Proofs.Try.func34 (by kernel_rfl) (by kernel_rfl) (by kernel_rfl) (by kernel_rfl) (cutOK_of (l := [(z4c k, sub (bodyOf Go.Proofs.Try.f34) [1, 1, 0, 1]), (z4g k, sub (bodyOf Go.Proofs.Try.f34) [1, 1, 1, 0, 1])]) (by kernel_rfl) ⟨z4e k, z4i k, trivial⟩) fun c x R h => by
    simp only [z4l, S_l9Set, optK_bind, optK_bif, optK_pure, optK_none, optK_oc, optK_guardT, optK_map] at h
    refine hold_of h ?_
    kernel_rfl
def z4p (k : Nat) : EntryP D := entP [.kl 5, .ki .i64, .ki .i64] z4k (z4l k) z4n z4m
theorem z4q (k : Nat) : EntryPOK X 34 (z4p k) := (z4o k).en rfl
def z4r : Plan := ⟨[(0, [(0, none), (1, some 3)]), (1, [(0, none), (4, none)])],
  [],
  []⟩
def z4s (k : Nat) : Calls' D := ⟨[], [], [(41, z1c k)], [], []⟩
theorem z4t (k : Nat) : CallsOK X (z4s k) := .consP (z1d k) (.nil cod)
def z4u (k : Nat) : Cuts D := ⟨[], []⟩
def z4v : List Ar := [.c (.kl 3)]
def z4w (k : Nat) (c : Tup D [.kl 5, .ki .i64, .ki .i64]) (x : TupA D z4v) : Option (Int × Sl1Cur) := S_l1Int k (⟨c.1, c.2.1, c.2.2.1⟩ : Sl1Cur) x.1
def z4x (r : Int × Sl1Cur) : Tup D [.kl 5, .ki .i64, .ki .i64] := (r.2.b, r.2.i, r.2.h, ())
def z4y (r : Int × Sl1Cur) : List (VP D) := [.c (.int .i64 r.1)]
theorem z4z (k : Nat) : DoesP P X 51 [.kl 5, .ki .i64, .ki .i64] z4v (z4w k) z4y z4x :=
  doesP_of (pt := 73) (body := bodyOf Go.Proofs.Try.f51) (pl := z4r) (k := k) (cu := z4u k) (tys := [[0]]) (z4t k) ctx mixed Go.Proofs.Try.func51 (by kernel_rfl) (by kernel_rfl) (by kernel_rfl) (by kernel_rfl) (cutOK_of (l := []) (by kernel_rfl) trivial) fun c x R h => by
    simp only [z4w, S_l1Int, optK_bind, optK_bif, optK_pure, optK_none, optK_oc, optK_guardT, optK_map] at h
    refine hold_of h ?_
    kernel_rfl
def z50 (k : Nat) : EntryP D := entP [.kl 5, .ki .i64, .ki .i64] z4v (z4w k) z4y z4x
theorem z51 (k : Nat) : EntryPOK X 51 (z50 k) := (z4z k).en rfl
def z52 : Plan := ⟨[(0, [(0, none)]), (1, [(0, none), (2, none)])],
  [],
  []⟩
def z53 (k : Nat) : Calls' D := ⟨[], [], [(51, z50 k)], [], []⟩
theorem z54 (k : Nat) : CallsOK X (z53 k) := .consP (z51 k) (.nil cod)
def z55 (k : Nat) : Cuts D := ⟨[], []⟩
def z56 : List Ar := []
def z57 (k : Nat) (c : Tup D [.kl 5, .ki .i64, .ki .i64]) (x : TupA D z56) : Option (Int × Sl1Cur) := S_l1Odd k (⟨c.1, c.2.1, c.2.2.1⟩ : Sl1Cur)
def z58 (r : Int × Sl1Cur) : Tup D [.kl 5, .ki .i64, .ki .i64] := (r.2.b, r.2.i, r.2.h, ())
def z59 (r : Int × Sl1Cur) : List (VP D) := [.c (.int .i64 r.1)]
theorem z5a (k : Nat) : DoesP P X 37 [.kl 5, .ki .i64, .ki .i64] z56 (z57 k) z59 z58 :=
  doesP_of (pt := 73) (body := bodyOf Go.Proofs.Try.f37) (pl := z52) (k := k) (cu := z55 k) (tys := [[0]]) (z54 k) ctx mixed Go.Proofs.Try.func37 (by kernel_rfl) (by kernel_rfl) (by kernel_rfl) (by kernel_rfl) (cutOK_of (l := []) (by kernel_rfl) trivial) fun c x R h => by
    simp only [z57, S_l1Odd, optK_bind, optK_bif, optK_pure, optK_none, optK_oc, optK_guardT, optK_map] at h
    refine hold_of h ?_
    kernel_rfl
def z5b (k : Nat) : EntryP D := entP [.kl 5, .ki .i64, .ki .i64] z56 (z57 k) z59 z58
theorem z5c (k : Nat) : EntryPOK X 37 (z5b k) := (z5a k).en rfl
def z5d : Plan := ⟨[(0, [(0, some 5), (3, none)]), (1, [(3, none), (4, none)]), (2, [(3, none), (4, none), (5, some 26)]), (3, [(3, none), (4, none), (5, some 26), (6, none)]), (4, [(3, none), (4, none), (5, some 26), (6, none), (14, none)]), (5, [(3, none), (5, some 26), (6, none)]), (6, [(2, some 26), (3, none)])],
  [],
  [(14, ([(3, none), (4, none), (5, some 26), (6, none)], [(3, none), (5, some 26), (6, none)]))]⟩
def z5e (k : Nat) : Calls' D := ⟨[], [], [(34, z4p k), (35, z1n k), (36, z46 k), (37, z5b k)], [(33, zm k)], []⟩
theorem z5f (k : Nat) : CallsOK X (z5e k) := .consP (z4q k) (.consP (z1o k) (.consP (z47 k) (.consP (z5c k) (.consB (zn k) (.nil cod)))))
def z5g (x : Bool × Int × Int × (List Int) × Int × Int × (List ISpan) × Int × Int × Unit) (o : Int) (Q : Ex → VSt D → Prop) (R : VR D → Prop) : Prop := Q .normal (mkSt ⟨[(3, .ptr 3 0), (5, .ref 500005), (6, .ptr 6 0)], [(3, .var [.hole, .hole]), (500005, .row), (6, .var [.hole, .hole])]⟩ [.int .i64 x.2.1, .int .i64 x.2.2.1, .sl 26 x.2.2.2.2.2.2.1, .int .i64 o, .int .i64 x.2.2.2.2.2.2.2.2.1])
def z5h (k : Nat) : Cut D := cutS ⟨[(3, .ptr 3 0), (4, .ptr 8 0), (5, .ref 500005), (6, .ptr 6 0), (14, .hole)], [(3, .var [.hole, .hole]), (8, .var [.hole, .hole, .hole]), (500005, .row), (6, .var [.hole, .hole])]⟩ [.kb, .ki .i64, .ki .i64, .kl 5, .ki .i64, .ki .i64, .kl 26, .ki .i64, .ki .i64] (fun (x : Bool × Int × Int × (List Int) × Int × Int × (List ISpan) × Int × Int × Unit) => S_DrawAddSpan_c14 k x.1 x.2.1 x.2.2.1 x.2.2.2.1 x.2.2.2.2.1 x.2.2.2.2.2.1 x.2.2.2.2.2.2.1 x.2.2.2.2.2.2.2.1 x.2.2.2.2.2.2.2.2.1) z5g
def z5i (k : Nat) : Cuts D := ⟨[], []⟩
theorem z5j (k : Nat) : CutFor X z5d k Go.Proofs.Try.f7.results.toList (z5h k) (sub (bodyOf Go.Proofs.Try.f7) [1, 1, 1, 1, 0, 1]) :=
  joinCut_s (X := X) (sg := [.kb, .ki .i64, .ki .i64, .kl 5, .ki .i64, .ki .i64, .kl 26, .ki .i64, .ki .i64]) (cu := z5i k) (cl := z5e k) (tys := [[26], [0, 0]]) (z5f k) (cutOK_of (l := []) (by kernel_rfl) trivial) fun x Q R h => by
    simp only [S_DrawAddSpan_c14, optK_bind, optK_bif, optK_pure, optK_none, optK_oc, optK_guardT, optK_map] at h
    refine hold_of h ?_
    kernel_rfl
def z5k (k : Nat) : Cuts D := ⟨[], [(14, some (z5h k))]⟩
def z5l : List Ar := [.c (.kl 5)]
def z5m (k : Nat) (x : TupA D z5l) : Option ((List ISpan) × ISpan) := S_DrawAddSpan k x.1
def z5n (r : (List ISpan) × ISpan) : VR D := .tup [.c (.sl 26 r.1), .agg [.int .i64 r.2.From, .int .i64 r.2.To]]
theorem z5o (k : Nat) : Does P X 7 z5l (z5m k) z5n :=
  does_of (body := bodyOf Go.Proofs.Try.f7) (pl := z5d) (k := k) (cu := z5k k) (tys := [[26], [0, 0]]) (z5f k) ctx mixed Go.Proofs.Try.func7 (by kernel_rfl) (by kernel_rfl) (cutOK_of (l := [(z5h k, sub (bodyOf Go.Proofs.Try.f7) [1, 1, 1, 1, 0, 1])]) (by kernel_rfl) ⟨z5j k, trivial⟩) fun x R h => by
    simp only [z5m, S_DrawAddSpan, optK_bind, optK_bif, optK_pure, optK_none, optK_oc, optK_guardT, optK_map] at h
    refine hold_of h ?_
    kernel_rfl
def z5p (k : Nat) : Entry D := entS z5l (z5m k) z5n
theorem z5q (k : Nat) : EntryOK X 7 (z5p k) := (z5o k).en rfl
def z5r : Plan := ⟨[(0, [(0, some 26)]), (1, [(0, some 26), (5, some 26), (6, none), (7, none)]), (2, [(0, some 26), (5, some 26), (6, none), (7, none), (8, none)]), (3, [(0, some 26), (3, none), (4, none), (5, some 26), (6, none), (7, none)]), (4, [(0, some 26), (5, some 26), (6, none), (7, none), (41, none)]), (5, [(2, none)]), (6, [(0, some 26), (5, some 26), (6, none), (7, none)]), (7, [(2, none)])],
  [(0, []), (1, [(0, some 26), (5, some 26), (6, none), (7, none)])],
  [(8, ([(0, some 26), (5, some 26), (6, none), (7, none)], [])), (41, ([], [(0, some 26), (5, some 26), (6, none), (7, none)]))]⟩
def z5s (k : Nat) : Calls' D := ⟨[], [], [], [], []⟩
theorem z5t (k : Nat) : CallsOK X (z5s k) := .nil cod
def z5u (x : (List ISpan) × (List ISpan) × Int × Int × Unit) (o : Oc (Unit) (Bool)) (Q : Ex → VSt D → Prop) (R : VR D → Prop) : Prop := ocP o (fun v0 => Q .normal (mkSt ⟨[], []⟩ [])) (fun w0 => R (.p (.c (.bool w0))))
def z5v (k : Nat) : Cut D := cutS ⟨[(0, .hole), (5, .hole), (6, .hole), (7, .hole)], []⟩ [.kl 26, .kl 26, .ki .i64, .ki .i64] (fun (x : (List ISpan) × (List ISpan) × Int × Int × Unit) => I_IsSpanSet_b0 k k x.1 x.2.1 x.2.2.1 x.2.2.2.1) z5u
def z5w (k : Nat) : Cuts D := ⟨[], []⟩
theorem z5x (k : Nat) : CutFor X z5r k Go.Proofs.Try.f16.results.toList (z5v k) (sub (bodyOf Go.Proofs.Try.f16) [1, 0, 1]) :=
  loopCut_s (X := X) (sg := [.kl 26, .kl 26, .ki .i64, .ki .i64]) (cu := z5w k) (cl := z5s k) (tys := [[0]]) (id := 0) (c := sub (bodyOf Go.Proofs.Try.f16) [1, 0, 1, 0, 0]) (f := fun n => fun (x : (List ISpan) × (List ISpan) × Int × Int × Unit) => I_IsSpanSet_b0 k n x.1 x.2.1 x.2.2.1 x.2.2.2.1) (z5t k) (cutOK_of (l := []) (by kernel_rfl) trivial) (fun _ => rfl) (fun n x Q R h => by
    simp only [I_IsSpanSet_b0, optK_bind, optK_bif, optK_pure, optK_none, optK_oc, optK_guardT, optK_map] at h
    refine hold_of h ?_
    kernel_rfl) (by kernel_rfl)
def z5y (k : Nat) : Cuts D := ⟨[(0, some (z5v k))], []⟩
def z5z : List Ar := [.c (.kl 26)]
def z60 (k : Nat) (x : TupA D z5z) : Option (Bool) := I_IsSpanSet k x.1
def z61 (r : Bool) : VR D := .p (.c (.bool r))
theorem z62 (k : Nat) : Does P X 16 z5z (z60 k) z61 :=
  does_of (body := bodyOf Go.Proofs.Try.f16) (pl := z5r) (k := k) (cu := z5y k) (tys := [[0]]) (z5t k) ctx mixed Go.Proofs.Try.func16 (by kernel_rfl) (by kernel_rfl) (cutOK_of (l := [(z5v k, sub (bodyOf Go.Proofs.Try.f16) [1, 0, 1])]) (by kernel_rfl) ⟨z5x k, trivial⟩) fun x R h => by
    simp only [z60, I_IsSpanSet, optK_bind, optK_bif, optK_pure, optK_none, optK_oc, optK_guardT, optK_map] at h
    refine hold_of h ?_
    kernel_rfl
def z63 (k : Nat) : Entry D := entS z5z (z60 k) z61
theorem z64 (k : Nat) : EntryOK X 16 (z63 k) := (z62 k).en rfl
def z65 : Plan := ⟨[(0, [(0, some 26)]), (1, [(0, some 26), (4, none)]), (2, [(2, some 26)]), (3, [(2, some 26)])],
  [],
  [(4, ([], [(0, some 26)]))]⟩
def z66 (k : Nat) : Calls' D := ⟨[], [], [], [], []⟩
theorem z67 (k : Nat) : CallsOK X (z66 k) := .nil cod
def z68 (k : Nat) : Cuts D := ⟨[], []⟩
def z69 : List Ar := [.c (.kl 26)]
def z6a (k : Nat) (x : TupA D z69) : Option ((List ISpan)) := slices_Clone_ISpan k x.1
def z6b (r : (List ISpan)) : VR D := .p (.c (.sl 26 r))
theorem z6c (k : Nat) : Does P X 38 z69 (z6a k) z6b :=
  doesClone_of (body := bodyOf Go.Proofs.Try.f38) (el := 26) (by' := 16) (pl := z65) (k := k) (cu := z68 k) (tys := [[26]]) (z67 k) ctx mixed Go.Proofs.Try.func38 (by kernel_rfl) (by kernel_rfl) (by kernel_rfl) (cutOK_of (l := []) (by kernel_rfl) trivial) (cutOK_of (l := []) (by kernel_rfl) trivial) (fun R h => by
    refine hold_of h ?_
    kernel_rfl) fun x R h => by
    refine hold_of h ?_
    kernel_rfl
def z6d (k : Nat) : Entry D := entS z69 (z6a k) z6b
theorem z6e (k : Nat) : EntryOK X 38 (z6d k) := (z6c k).en rfl
def z6f : Plan := ⟨[(0, [(0, some 26), (3, none)]), (1, [(0, some 26), (3, none), (26, none)]), (2, [(4, some 26)]), (3, [(0, some 26), (3, none), (5, some 26)]), (4, [(0, some 26), (3, none), (5, some 26), (6, none)]), (5, [(0, some 26), (3, none), (5, some 26), (6, none), (43, none)]), (6, [(0, some 26), (3, none), (5, some 26), (6, none)]), (7, [(0, some 26), (3, none), (5, some 26), (6, none)]), (8, [(0, some 26), (3, none), (5, some 26), (6, none), (66, none)]), (9, [(0, some 26), (3, none), (5, some 26), (6, none)]), (10, [(0, some 26), (3, none), (5, some 26), (6, none)]), (11, [(4, some 26)])],
  [(0, [(0, some 26), (3, none), (5, some 26), (6, none)]), (1, [(0, some 26), (3, none), (5, some 26), (6, none)]), (2, [(0, some 26), (3, none), (5, some 26), (6, none)]), (3, [(0, some 26), (3, none), (5, some 26), (6, none)])],
  [(26, ([(0, some 26)], [(0, some 26), (3, none)])), (43, ([(0, some 26), (3, none), (5, some 26), (6, none)], [(0, some 26), (3, none), (5, some 26), (6, none)])), (66, ([(0, some 26), (3, none), (5, some 26), (6, none)], [(0, some 26), (3, none), (5, some 26), (6, none)]))]⟩
def z6g (k : Nat) : Calls' D := ⟨[(16, z63 k), (38, z6d k)], [], [], [], []⟩
theorem z6h (k : Nat) : CallsOK X (z6g k) := .cons (z64 k) (.cons (z6e k) (.nil cod))
def z6i (x : (List ISpan) × Int × Int × Int × (List ISpan) × Unit) (o : Int × (List ISpan)) (Q : Ex → VSt D → Prop) (R : VR D → Prop) : Prop := Q .normal (mkSt ⟨[(0, .hole), (3, .ptr 3 0), (5, .ref 500005), (6, .hole)], [(3, .var [.hole, .hole]), (500005, .row)]⟩ [.sl 26 x.1, .int .i64 o.1, .int .i64 x.2.2.1, .int .i64 x.2.2.2.1, .sl 26 o.2])
def z6j (k : Nat) : Cut D := cutS ⟨[(0, .hole), (3, .ptr 3 0), (5, .ref 500005), (6, .hole)], [(3, .var [.hole, .hole]), (500005, .row)]⟩ [.kl 26, .ki .i64, .ki .i64, .ki .i64, .kl 26] (fun (x : (List ISpan) × Int × Int × Int × (List ISpan) × Unit) => I_AddSpan_b0 k k x.1 x.2.1 x.2.2.1 x.2.2.2.1 x.2.2.2.2.1) z6i
def z6k (k : Nat) : Cuts D := ⟨[], []⟩
theorem z6l (k : Nat) : CutFor X z6f k Go.Proofs.Try.f8.results.toList (z6j k) (sub (bodyOf Go.Proofs.Try.f8) [1, 1, 1, 1, 0]) :=
  loopCut_s (X := X) (sg := [.kl 26, .ki .i64, .ki .i64, .ki .i64, .kl 26]) (cu := z6k k) (cl := z6g k) (tys := [[26]]) (id := 0) (c := sub (bodyOf Go.Proofs.Try.f8) [1, 1, 1, 1, 0, 0, 0]) (f := fun n => fun (x : (List ISpan) × Int × Int × Int × (List ISpan) × Unit) => I_AddSpan_b0 k n x.1 x.2.1 x.2.2.1 x.2.2.2.1 x.2.2.2.2.1) (z6h k) (cutOK_of (l := []) (by kernel_rfl) trivial) (fun _ => rfl) (fun n x Q R h => by
    simp only [I_AddSpan_b0, optK_bind, optK_bif, optK_pure, optK_none, optK_oc, optK_guardT, optK_map] at h
    refine hold_of h ?_
    kernel_rfl) (by kernel_rfl)
def z6m (x : (List ISpan) × Int × Int × Int × (List ISpan) × Unit) (o : Int × Int × Int) (Q : Ex → VSt D → Prop) (R : VR D → Prop) : Prop := Q .normal (mkSt ⟨[(0, .hole), (3, .ptr 3 0), (5, .ref 500005), (6, .hole)], [(3, .var [.hole, .hole]), (500005, .row)]⟩ [.sl 26 x.1, .int .i64 o.1, .int .i64 o.2.1, .int .i64 o.2.2, .sl 26 x.2.2.2.2.1])
def z6n (k : Nat) : Cut D := cutS ⟨[(0, .hole), (3, .ptr 3 0), (5, .ref 500005), (6, .hole)], [(3, .var [.hole, .hole]), (500005, .row)]⟩ [.kl 26, .ki .i64, .ki .i64, .ki .i64, .kl 26] (fun (x : (List ISpan) × Int × Int × Int × (List ISpan) × Unit) => I_AddSpan_b2 k k x.1 x.2.1 x.2.2.1 x.2.2.2.1 x.2.2.2.2.1) z6m
def z6o (k : Nat) : Cuts D := ⟨[], []⟩
theorem z6p (k : Nat) : CutFor X z6f k Go.Proofs.Try.f8.results.toList (z6n k) (sub (bodyOf Go.Proofs.Try.f8) [1, 1, 1, 1, 1, 0]) :=
  loopCut_s (X := X) (sg := [.kl 26, .ki .i64, .ki .i64, .ki .i64, .kl 26]) (cu := z6o k) (cl := z6g k) (tys := [[26]]) (id := 2) (c := sub (bodyOf Go.Proofs.Try.f8) [1, 1, 1, 1, 1, 0, 0, 0]) (f := fun n => fun (x : (List ISpan) × Int × Int × Int × (List ISpan) × Unit) => I_AddSpan_b2 k n x.1 x.2.1 x.2.2.1 x.2.2.2.1 x.2.2.2.2.1) (z6h k) (cutOK_of (l := []) (by kernel_rfl) trivial) (fun _ => rfl) (fun n x Q R h => by
    simp only [I_AddSpan_b2, optK_bind, optK_bif, optK_pure, optK_none, optK_oc, optK_guardT, optK_map] at h
    refine hold_of h ?_
    kernel_rfl) (by kernel_rfl)
def z6q (k : Nat) : Cuts D := ⟨[(0, some (z6j k)), (2, some (z6n k))], []⟩
def z6r : List Ar := [.c (.kl 26), .a [.ki .i64, .ki .i64]]
def z6s (k : Nat) (x : TupA D z6r) : Option ((List ISpan)) := I_AddSpan k x.1 (⟨x.2.1.1, x.2.1.2.1⟩ : ISpan)
def z6t (r : (List ISpan)) : VR D := .p (.c (.sl 26 r))
theorem z6u (k : Nat) : Does P X 8 z6r (z6s k) z6t :=
  does_of (body := bodyOf Go.Proofs.Try.f8) (pl := z6f) (k := k) (cu := z6q k) (tys := [[26]]) (z6h k) ctx mixed Go.Proofs.Try.func8 (by kernel_rfl) (by kernel_rfl) (cutOK_of (l := [(z6j k, sub (bodyOf Go.Proofs.Try.f8) [1, 1, 1, 1, 0]), (z6n k, sub (bodyOf Go.Proofs.Try.f8) [1, 1, 1, 1, 1, 0])]) (by kernel_rfl) ⟨z6l k, z6p k, trivial⟩) fun x R h => by
    simp only [z6s, I_AddSpan, optK_bind, optK_bif, optK_pure, optK_none, optK_oc, optK_guardT, optK_map] at h
    refine hold_of h ?_
    kernel_rfl
def z6v (k : Nat) : Entry D := entS z6r (z6s k) z6t
theorem z6w (k : Nat) : EntryOK X 8 (z6v k) := (z6u k).en rfl
def z6x : Plan := ⟨[(0, [(0, some 5), (3, none)]), (1, [(3, none), (4, none)]), (2, [(2, some 26), (3, none)])],
  [],
  []⟩
def z6y (k : Nat) : Calls' D := ⟨[], [], [(34, z4p k), (35, z1n k)], [(33, zm k)], []⟩
theorem z6z (k : Nat) : CallsOK X (z6y k) := .consP (z4q k) (.consP (z1o k) (.consB (zn k) (.nil cod)))
def z70 (k : Nat) : Cuts D := ⟨[], []⟩
def z71 : List Ar := [.c (.kl 5)]
def z72 (k : Nat) (x : TupA D z71) : Option ((List ISpan) × ISpan) := S_DrawMissingSpans k x.1
def z73 (r : (List ISpan) × ISpan) : VR D := .tup [.c (.sl 26 r.1), .agg [.int .i64 r.2.From, .int .i64 r.2.To]]
theorem z74 (k : Nat) : Does P X 9 z71 (z72 k) z73 :=
  does_of (body := bodyOf Go.Proofs.Try.f9) (pl := z6x) (k := k) (cu := z70 k) (tys := [[26], [0, 0]]) (z6z k) ctx mixed Go.Proofs.Try.func9 (by kernel_rfl) (by kernel_rfl) (cutOK_of (l := []) (by kernel_rfl) trivial) fun x R h => by
    simp only [z72, S_DrawMissingSpans, optK_bind, optK_bif, optK_pure, optK_none, optK_oc, optK_guardT, optK_map] at h
    refine hold_of h ?_
    kernel_rfl
def z75 (k : Nat) : Entry D := entS z71 (z72 k) z73
theorem z76 (k : Nat) : EntryOK X 9 (z75 k) := (z74 k).en rfl
def z77 : Plan := ⟨[(0, [(0, some 26), (3, none), (1000000, some 26)]), (1, [(0, some 26), (3, none), (5, some 26), (1000000, some 26)]), (2, [(0, some 26), (3, none), (5, some 26), (12, none), (1000000, some 26)]), (3, [(0, some 26), (3, none), (5, some 26), (1000000, some 26)]), (4, [(0, some 26), (3, none), (5, some 26), (6, none), (1000000, some 26)]), (5, [(3, none), (5, some 26), (6, none), (15, some 26), (16, none), (17, none)]), (6, [(3, none), (5, some 26), (6, none), (15, some 26), (16, none), (17, none), (18, none)]), (7, [(3, none), (5, some 26), (6, none), (8, none), (15, some 26), (16, none), (17, none)]), (8, [(3, none), (5, some 26), (6, none), (8, none), (15, some 26), (16, none), (17, none), (31, none)]), (9, [(3, none), (5, some 26), (6, none), (8, none), (15, some 26), (16, none), (17, none), (35, none)]), (10, [(3, none), (5, some 26), (8, none), (15, some 26), (16, none), (17, none)]), (11, [(3, none), (5, some 26), (6, none), (15, some 26), (16, none), (17, none)]), (12, [(3, none), (5, some 26), (6, none), (15, some 26), (16, none), (17, none)]), (13, [(3, none), (5, some 26), (6, none), (49, none)]), (14, [(5, some 26)]), (15, [(4, some 26)])],
  [(0, [(3, none), (5, some 26), (6, none)]), (1, [(3, none), (5, some 26), (6, none), (15, some 26), (16, none), (17, none)])],
  [(12, ([(3, none), (5, some 26)], [(0, some 26), (3, none), (5, some 26), (1000000, some 26)])), (18, ([(3, none), (5, some 26), (6, none), (15, some 26), (16, none), (17, none)], [(3, none), (5, some 26), (6, none)])), (31, ([(3, none), (5, some 26), (6, none), (15, some 26), (16, none), (17, none)], [(3, none), (5, some 26), (6, none), (8, none), (15, some 26), (16, none), (17, none)])), (35, ([(3, none), (5, some 26), (6, none), (8, none), (15, some 26), (16, none), (17, none)], [(3, none), (5, some 26), (8, none), (15, some 26), (16, none), (17, none)])), (49, ([(3, none), (5, some 26), (6, none)], [(5, some 26)]))]⟩
def z78 (k : Nat) : Calls' D := ⟨[(16, z63 k)], [], [], [], []⟩
theorem z79 (k : Nat) : CallsOK X (z78 k) := .cons (z64 k) (.nil cod)
def z7a (x : (List ISpan) × Bool × Int × Int × (List ISpan) × Unit) (o : (List ISpan)) (Q : Ex → VSt D → Prop) (R : VR D → Prop) : Prop := Q .normal (mkSt ⟨[(0, .hole), (3, .ptr 3 0), (5, .ref 500005), (1000000, .gone)], [(3, .var [.hole, .hole]), (500005, .row)]⟩ [.sl 26 o, .int .i64 x.2.2.1, .int .i64 x.2.2.2.1, .sl 26 x.2.2.2.2.1])
def z7b (k : Nat) : Cut D := cutS ⟨[(0, .hole), (3, .ptr 3 0), (5, .ref 500005), (12, .hole), (1000000, .gone)], [(3, .var [.hole, .hole]), (500005, .row)]⟩ [.kl 26, .kb, .ki .i64, .ki .i64, .kl 26] (fun (x : (List ISpan) × Bool × Int × Int × (List ISpan) × Unit) => I_MissingSpans_c12 k x.1 x.2.1 x.2.2.1 x.2.2.2.1 x.2.2.2.2.1) z7a
def z7c (k : Nat) : Cuts D := ⟨[], []⟩
theorem z7d (k : Nat) : CutFor X z77 k Go.Proofs.Try.f10.results.toList (z7b k) (sub (bodyOf Go.Proofs.Try.f10) [1, 1, 0, 1]) :=
  joinCut_s (X := X) (sg := [.kl 26, .kb, .ki .i64, .ki .i64, .kl 26]) (cu := z7c k) (cl := z78 k) (tys := [[26]]) (z79 k) (cutOK_of (l := []) (by kernel_rfl) trivial) fun x Q R h => by
    simp only [I_MissingSpans_c12, optK_bind, optK_bif, optK_pure, optK_none, optK_oc, optK_guardT, optK_map] at h
    refine hold_of h ?_
    kernel_rfl
def z7e (x : Int × (List ISpan) × Int × Int × Bool × Int × Int × (List ISpan) × Int × Int × Unit) (o : (List ISpan)) (Q : Ex → VSt D → Prop) (R : VR D → Prop) : Prop := Q .normal (mkSt ⟨[(3, .ptr 3 0), (5, .ref 500005), (8, .ptr 8 0), (15, .hole), (16, .hole), (17, .hole)], [(3, .var [.hole, .hole]), (500005, .row), (8, .var [.hole, .hole])]⟩ [.sl 26 x.2.1, .int .i64 x.2.2.1, .int .i64 x.2.2.2.1, .int .i64 x.2.2.2.2.2.1, .int .i64 x.2.2.2.2.2.2.1, .sl 26 o, .int .i64 x.2.2.2.2.2.2.2.2.1, .int .i64 x.2.2.2.2.2.2.2.2.2.1])
def z7f (k : Nat) : Cut D := cutS ⟨[(3, .ptr 3 0), (5, .ref 500005), (6, .hole), (8, .ptr 8 0), (15, .hole), (16, .hole), (17, .hole), (35, .hole)], [(3, .var [.hole, .hole]), (500005, .row), (8, .var [.hole, .hole])]⟩ [.ki .i64, .kl 26, .ki .i64, .ki .i64, .kb, .ki .i64, .ki .i64, .kl 26, .ki .i64, .ki .i64] (fun (x : Int × (List ISpan) × Int × Int × Bool × Int × Int × (List ISpan) × Int × Int × Unit) => I_MissingSpans_c35 k x.1 x.2.1 x.2.2.1 x.2.2.2.1 x.2.2.2.2.1 x.2.2.2.2.2.1 x.2.2.2.2.2.2.1 x.2.2.2.2.2.2.2.1 x.2.2.2.2.2.2.2.2.1 x.2.2.2.2.2.2.2.2.2.1) z7e
def z7g (k : Nat) : Cuts D := ⟨[], []⟩
theorem z7h (k : Nat) : CutFor X z77 k Go.Proofs.Try.f10.results.toList (z7f k) (sub (bodyOf Go.Proofs.Try.f10) [1, 1, 1, 1, 0, 1, 0, 0, 1, 1, 0, 0, 1, 1, 0, 1]) :=
  joinCut_s (X := X) (sg := [.ki .i64, .kl 26, .ki .i64, .ki .i64, .kb, .ki .i64, .ki .i64, .kl 26, .ki .i64, .ki .i64]) (cu := z7g k) (cl := z78 k) (tys := [[26]]) (z79 k) (cutOK_of (l := []) (by kernel_rfl) trivial) fun x Q R h => by
    simp only [I_MissingSpans_c35, optK_bind, optK_bif, optK_pure, optK_none, optK_oc, optK_guardT, optK_map] at h
    refine hold_of h ?_
    kernel_rfl
def z7i (x : Int × (List ISpan) × Int × Int × Int × Int × (List ISpan) × Unit) (o : Int × (List ISpan)) (Q : Ex → VSt D → Prop) (R : VR D → Prop) : Prop := Q .normal (mkSt ⟨[(3, .ptr 3 0), (5, .ref 500005), (6, .hole), (15, .hole), (16, .hole), (17, .hole)], [(3, .var [.hole, .hole]), (500005, .row)]⟩ [.int .i64 o.1, .sl 26 x.2.1, .int .i64 x.2.2.1, .int .i64 x.2.2.2.1, .int .i64 x.2.2.2.2.1, .int .i64 x.2.2.2.2.2.1, .sl 26 o.2])
def z7j (k : Nat) : Cut D := cutS ⟨[(3, .ptr 3 0), (5, .ref 500005), (6, .hole), (15, .hole), (16, .hole), (17, .hole)], [(3, .var [.hole, .hole]), (500005, .row)]⟩ [.ki .i64, .kl 26, .ki .i64, .ki .i64, .ki .i64, .ki .i64, .kl 26] (fun (x : Int × (List ISpan) × Int × Int × Int × Int × (List ISpan) × Unit) => I_MissingSpans_b1 k x.1 x.2.1 x.2.2.1 x.2.2.2.1 x.2.2.2.2.1 x.2.2.2.2.2.1 x.2.2.2.2.2.2.1) z7i
def z7k (k : Nat) : Cuts D := ⟨[], [(35, some (z7f k))]⟩
theorem z7l (k : Nat) : CutFor X z77 k Go.Proofs.Try.f10.results.toList (z7j k) (sub (bodyOf Go.Proofs.Try.f10) [1, 1, 1, 1, 0, 1, 0, 0, 1, 1, 0]) :=
  joinCut_s (X := X) (sg := [.ki .i64, .kl 26, .ki .i64, .ki .i64, .ki .i64, .ki .i64, .kl 26]) (cu := z7k k) (cl := z78 k) (tys := [[26]]) (z79 k) (cutOK_of (l := [(z7f k, sub (bodyOf Go.Proofs.Try.f10) [1, 1, 1, 1, 0, 1, 0, 0, 1, 1, 0, 0, 1, 1, 0, 1])]) (by kernel_rfl) ⟨z7h k, trivial⟩) fun x Q R h => by
    simp only [I_MissingSpans_b1, optK_bind, optK_bif, optK_pure, optK_none, optK_oc, optK_guardT, optK_map] at h
    refine hold_of h ?_
    kernel_rfl
def z7m (x : Int × (List ISpan) × Int × Int × Int × Int × (List ISpan) × Unit) (o : Int × (List ISpan)) (Q : Ex → VSt D → Prop) (R : VR D → Prop) : Prop := Q .normal (mkSt ⟨[(3, .ptr 3 0), (5, .ref 500005), (6, .hole)], [(3, .var [.hole, .hole]), (500005, .row)]⟩ [.int .i64 o.1, .int .i64 x.2.2.2.2.1, .int .i64 x.2.2.2.2.2.1, .sl 26 o.2])
def z7n (k : Nat) : Cut D := cutS ⟨[(3, .ptr 3 0), (5, .ref 500005), (6, .hole), (15, .hole), (16, .hole), (17, .hole)], [(3, .var [.hole, .hole]), (500005, .row)]⟩ [.ki .i64, .kl 26, .ki .i64, .ki .i64, .ki .i64, .ki .i64, .kl 26] (fun (x : Int × (List ISpan) × Int × Int × Int × Int × (List ISpan) × Unit) => I_MissingSpans_b0 k k x.1 x.2.1 x.2.2.1 x.2.2.2.1 x.2.2.2.2.1 x.2.2.2.2.2.1 x.2.2.2.2.2.2.1) z7m
def z7o (k : Nat) : Cuts D := ⟨[(1, some (z7j k))], []⟩
theorem z7p (k : Nat) : CutFor X z77 k Go.Proofs.Try.f10.results.toList (z7n k) (sub (bodyOf Go.Proofs.Try.f10) [1, 1, 1, 1, 0, 1]) :=
  loopCut_s (X := X) (sg := [.ki .i64, .kl 26, .ki .i64, .ki .i64, .ki .i64, .ki .i64, .kl 26]) (cu := z7o k) (cl := z78 k) (tys := [[26]]) (id := 0) (c := sub (bodyOf Go.Proofs.Try.f10) [1, 1, 1, 1, 0, 1, 0, 0]) (f := fun n => fun (x : Int × (List ISpan) × Int × Int × Int × Int × (List ISpan) × Unit) => I_MissingSpans_b0 k n x.1 x.2.1 x.2.2.1 x.2.2.2.1 x.2.2.2.2.1 x.2.2.2.2.2.1 x.2.2.2.2.2.2.1) (z79 k) (cutOK_of (l := [(z7j k, sub (bodyOf Go.Proofs.Try.f10) [1, 1, 1, 1, 0, 1, 0, 0, 1, 1, 0])]) (by kernel_rfl) ⟨z7l k, trivial⟩) (fun _ => rfl) (fun n x Q R h => by
    simp only [I_MissingSpans_b0, optK_bind, optK_bif, optK_pure, optK_none, optK_oc, optK_guardT, optK_map] at h
    refine hold_of h ?_
    kernel_rfl) (by kernel_rfl)
def z7q (x : Int × Bool × Int × Int × (List ISpan) × Unit) (o : (List ISpan)) (Q : Ex → VSt D → Prop) (R : VR D → Prop) : Prop := Q .normal (mkSt ⟨[(5, .ref 500005)], [(500005, .row)]⟩ [.sl 26 o])
def z7r (k : Nat) : Cut D := cutS ⟨[(3, .ptr 3 0), (5, .ref 500005), (6, .hole), (49, .hole)], [(3, .var [.hole, .hole]), (500005, .row)]⟩ [.ki .i64, .kb, .ki .i64, .ki .i64, .kl 26] (fun (x : Int × Bool × Int × Int × (List ISpan) × Unit) => I_MissingSpans_c49 k x.1 x.2.1 x.2.2.1 x.2.2.2.1 x.2.2.2.2.1) z7q
def z7s (k : Nat) : Cuts D := ⟨[], []⟩
theorem z7t (k : Nat) : CutFor X z77 k Go.Proofs.Try.f10.results.toList (z7r k) (sub (bodyOf Go.Proofs.Try.f10) [1, 1, 1, 1, 1, 0, 1]) :=
  joinCut_s (X := X) (sg := [.ki .i64, .kb, .ki .i64, .ki .i64, .kl 26]) (cu := z7s k) (cl := z78 k) (tys := [[26]]) (z79 k) (cutOK_of (l := []) (by kernel_rfl) trivial) fun x Q R h => by
    simp only [I_MissingSpans_c49, optK_bind, optK_bif, optK_pure, optK_none, optK_oc, optK_guardT, optK_map] at h
    refine hold_of h ?_
    kernel_rfl
def z7u (k : Nat) : Cuts D := ⟨[(0, some (z7n k))], [(12, some (z7b k)), (49, some (z7r k))]⟩
def z7v : List Ar := [.c (.kl 26), .a [.ki .i64, .ki .i64]]
def z7w (k : Nat) (x : TupA D z7v) : Option ((List ISpan)) := I_MissingSpans k x.1 (⟨x.2.1.1, x.2.1.2.1⟩ : ISpan)
def z7x (r : (List ISpan)) : VR D := .p (.c (.sl 26 r))
theorem z7y (k : Nat) : Does P X 10 z7v (z7w k) z7x :=
  does_of (body := bodyOf Go.Proofs.Try.f10) (pl := z77) (k := k) (cu := z7u k) (tys := [[26]]) (z79 k) ctx mixed Go.Proofs.Try.func10 (by kernel_rfl) (by kernel_rfl) (cutOK_of (l := [(z7b k, sub (bodyOf Go.Proofs.Try.f10) [1, 1, 0, 1]), (z7n k, sub (bodyOf Go.Proofs.Try.f10) [1, 1, 1, 1, 0, 1]), (z7r k, sub (bodyOf Go.Proofs.Try.f10) [1, 1, 1, 1, 1, 0, 1])]) (by kernel_rfl) ⟨z7d k, z7p k, z7t k, trivial⟩) fun x R h => by
    simp only [z7w, I_MissingSpans, optK_bind, optK_bif, optK_pure, optK_none, optK_oc, optK_guardT, optK_map] at h
    refine hold_of h ?_
    kernel_rfl
def z7z (k : Nat) : Entry D := entS z7v (z7w k) z7x
theorem z80 (k : Nat) : EntryOK X 10 (z7z k) := (z7y k).en rfl
def z81 : Plan := ⟨[(0, [(1, none), (2, none)]), (1, [(3, none)])],
  [],
  []⟩
def z82 (k : Nat) : Calls' D := ⟨[], [], [], [], []⟩
theorem z83 (k : Nat) : CallsOK X (z82 k) := .nil cod
def z84 (k : Nat) : Cuts D := ⟨[], []⟩
def z85 : List Ar := [.a [.ki .i64, .ki .i64], .x [.ki .i64, .ki .i64]]
def z86 (k : Nat) (x : TupA D z85) : Option (Bool) := I_CoversSpan_1 k (⟨x.1.1, x.1.2.1⟩ : ISpan) x.2.1.1 x.2.1.2.1
def z87 (r : Bool) : VR D := .p (.c (.bool r))
theorem z88 (k : Nat) : Does P X 40 z85 (z86 k) z87 :=
  does_of (body := bodyOf Go.Proofs.Try.f40) (pl := z81) (k := k) (cu := z84 k) (tys := [[0]]) (z83 k) ctx mixed Go.Proofs.Try.func40 (by kernel_rfl) (by kernel_rfl) (cutOK_of (l := []) (by kernel_rfl) trivial) fun x R h => by
    simp only [z86, I_CoversSpan_1, optK_bind, optK_bif, optK_pure, optK_none, optK_oc, optK_guardT, optK_map] at h
    refine hold_of h ?_
    kernel_rfl
def z89 (k : Nat) : Entry D := entS z85 (z86 k) z87
theorem z8a (k : Nat) : EntryOK X 40 (z89 k) := (z88 k).en rfl
def z8b : Plan := ⟨[(0, [(0, some 26), (1, none)]), (1, [(0, some 26), (1, none), (7, none), (8, none)]), (2, [(0, some 26), (1, none), (7, none), (8, none), (9, none)]), (3, [(0, some 26), (1, none), (5, none), (7, none), (8, none)]), (4, [(0, some 26), (1, none), (5, none), (7, none), (8, none), (16, none)]), (5, [(4, none)]), (6, [(0, some 26), (1, none), (7, none), (8, none)]), (7, [(4, none)])],
  [(0, []), (1, [(0, some 26), (1, none), (7, none), (8, none)])],
  [(9, ([(0, some 26), (1, none), (7, none), (8, none)], [])), (16, ([(5, none)], [(0, some 26), (1, none), (7, none), (8, none)]))]⟩
def z8c (k : Nat) : Calls' D := ⟨[(40, z89 k)], [], [], [], []⟩
theorem z8d (k : Nat) : CallsOK X (z8c k) := .cons (z8a k) (.nil cod)
def z8e (x : (List ISpan) × Int × Int × Int × Int × Unit) (o : Oc (Unit) (Int)) (Q : Ex → VSt D → Prop) (R : VR D → Prop) : Prop := ocP o (fun v0 => Q .normal (mkSt ⟨[], []⟩ [])) (fun w0 => R (.p (.c (.int .i64 w0))))
def z8f (k : Nat) : Cut D := cutS ⟨[(0, .hole), (1, .clo 40 [.rptr 2]), (7, .hole), (8, .hole)], []⟩ [.kl 26, .ki .i64, .ki .i64, .ki .i64, .ki .i64] (fun (x : (List ISpan) × Int × Int × Int × Int × Unit) => slices_IndexFunc_ISpan_at_I_CoversSpan_1_b0 k k x.1 x.2.1 x.2.2.1 x.2.2.2.1 x.2.2.2.2.1) z8e
def z8g (k : Nat) : Cuts D := ⟨[], []⟩
theorem z8h (k : Nat) : CutFor X z8b k Go.Proofs.Try.f53.results.toList (z8f k) (sub (bodyOf Go.Proofs.Try.f53) [1, 0, 1]) :=
  loopCut_s (X := X) (sg := [.kl 26, .ki .i64, .ki .i64, .ki .i64, .ki .i64]) (cu := z8g k) (cl := z8c k) (tys := [[0]]) (id := 0) (c := sub (bodyOf Go.Proofs.Try.f53) [1, 0, 1, 0, 0]) (f := fun n => fun (x : (List ISpan) × Int × Int × Int × Int × Unit) => slices_IndexFunc_ISpan_at_I_CoversSpan_1_b0 k n x.1 x.2.1 x.2.2.1 x.2.2.2.1 x.2.2.2.2.1) (z8d k) (cutOK_of (l := []) (by kernel_rfl) trivial) (fun _ => rfl) (fun n x Q R h => by
    simp only [slices_IndexFunc_ISpan_at_I_CoversSpan_1_b0, optK_bind, optK_bif, optK_pure, optK_none, optK_oc, optK_guardT, optK_map] at h
    refine hold_of h ?_
    kernel_rfl) (by kernel_rfl)
def z8i (k : Nat) : Cuts D := ⟨[(0, some (z8f k))], []⟩
def z8j : List Ar := [.c (.kl 26), .f 40 [[.ki .i64, .ki .i64]]]
def z8k (k : Nat) (x : TupA D z8j) : Option (Int) := slices_IndexFunc_ISpan_at_I_CoversSpan_1 k x.1 x.2.1.1.1 x.2.1.1.2.1
def z8l (r : Int) : VR D := .p (.c (.int .i64 r))
theorem z8m (k : Nat) : Does P X 53 z8j (z8k k) z8l :=
  does_of (body := bodyOf Go.Proofs.Try.f53) (pl := z8b) (k := k) (cu := z8i k) (tys := [[0]]) (z8d k) ctx mixed Go.Proofs.Try.func53 (by kernel_rfl) (by kernel_rfl) (cutOK_of (l := [(z8f k, sub (bodyOf Go.Proofs.Try.f53) [1, 0, 1])]) (by kernel_rfl) ⟨z8h k, trivial⟩) fun x R h => by
    simp only [z8k, slices_IndexFunc_ISpan_at_I_CoversSpan_1, optK_bind, optK_bif, optK_pure, optK_none, optK_oc, optK_guardT, optK_map] at h
    refine hold_of h ?_
    kernel_rfl
def z8n (k : Nat) : Entry D := entS z8j (z8k k) z8l
theorem z8o (k : Nat) : EntryOK X 53 (z8n k) := (z8m k).en rfl
def z8p : Plan := ⟨[(0, [(0, some 26), (1, none)]), (1, [(4, none)])],
  [],
  []⟩
def z8q (k : Nat) : Calls' D := ⟨[(53, z8n k)], [], [], [], []⟩
theorem z8r (k : Nat) : CallsOK X (z8q k) := .cons (z8o k) (.nil cod)
def z8s (k : Nat) : Cuts D := ⟨[], []⟩
def z8t : List Ar := [.c (.kl 26), .f 40 [[.ki .i64, .ki .i64]]]
def z8u (k : Nat) (x : TupA D z8t) : Option (Bool) := slices_ContainsFunc_ISpan_at_I_CoversSpan_1 k x.1 x.2.1.1.1 x.2.1.1.2.1
def z8v (r : Bool) : VR D := .p (.c (.bool r))
theorem z8w (k : Nat) : Does P X 39 z8t (z8u k) z8v :=
  does_of (body := bodyOf Go.Proofs.Try.f39) (pl := z8p) (k := k) (cu := z8s k) (tys := [[0]]) (z8r k) ctx mixed Go.Proofs.Try.func39 (by kernel_rfl) (by kernel_rfl) (cutOK_of (l := []) (by kernel_rfl) trivial) fun x R h => by
    simp only [z8u, slices_ContainsFunc_ISpan_at_I_CoversSpan_1, optK_bind, optK_bif, optK_pure, optK_none, optK_oc, optK_guardT, optK_map] at h
    refine hold_of h ?_
    kernel_rfl
def z8x (k : Nat) : Entry D := entS z8t (z8u k) z8v
theorem z8y (k : Nat) : EntryOK X 39 (z8x k) := (z8w k).en rfl
def z8z : Plan := ⟨[(0, [(0, some 26), (3, none)]), (1, [(0, some 26), (3, none), (9, none)]), (2, [(4, none)]), (3, [(4, none)])],
  [],
  [(9, ([], [(0, some 26), (3, none)]))]⟩
def z90 (k : Nat) : Calls' D := ⟨[(39, z8x k)], [], [], [], []⟩
theorem z91 (k : Nat) : CallsOK X (z90 k) := .cons (z8y k) (.nil cod)
def z92 (k : Nat) : Cuts D := ⟨[], []⟩
def z93 : List Ar := [.c (.kl 26), .a [.ki .i64, .ki .i64]]
def z94 (k : Nat) (x : TupA D z93) : Option (Bool) := I_CoversSpan k x.1 (⟨x.2.1.1, x.2.1.2.1⟩ : ISpan)
def z95 (r : Bool) : VR D := .p (.c (.bool r))
theorem z96 (k : Nat) : Does P X 12 z93 (z94 k) z95 :=
  does_of (body := bodyOf Go.Proofs.Try.f12) (pl := z8z) (k := k) (cu := z92 k) (tys := [[0]]) (z91 k) ctx mixed Go.Proofs.Try.func12 (by kernel_rfl) (by kernel_rfl) (cutOK_of (l := []) (by kernel_rfl) trivial) fun x R h => by
    simp only [z94, I_CoversSpan, optK_bind, optK_bif, optK_pure, optK_none, optK_oc, optK_guardT, optK_map] at h
    refine hold_of h ?_
    kernel_rfl
def z97 (k : Nat) : Entry D := entS z93 (z94 k) z95
theorem z98 (k : Nat) : EntryOK X 12 (z97 k) := (z96 k).en rfl
def z99 : Plan := ⟨[(0, [(0, some 26), (3, none)]), (1, [(0, some 26), (3, none), (5, none)]), (2, [(0, some 26), (3, none), (5, none), (9, none)]), (3, [(0, some 26), (3, none), (5, none)]), (4, [(0, some 26), (3, none), (5, none), (29, none)]), (5, [(4, none)]), (6, [(4, none)])],
  [(0, [(3, none)]), (1, [(0, some 26), (3, none), (5, none)])],
  [(9, ([(0, some 26), (3, none), (5, none)], [(3, none)])), (29, ([], [(0, some 26), (3, none), (5, none)]))]⟩
def z9a (k : Nat) : Calls' D := ⟨[], [], [], [], []⟩
theorem z9b (k : Nat) : CallsOK X (z9a k) := .nil cod
def z9c (x : (List ISpan) × Int × Int × Int × Unit) (o : Oc (Unit) (Bool)) (Q : Ex → VSt D → Prop) (R : VR D → Prop) : Prop := ocP o (fun v0 => Q .normal (mkSt ⟨[(3, .ptr 3 0)], [(3, .var [.hole, .hole])]⟩ [.int .i64 x.2.2.1, .int .i64 x.2.2.2.1])) (fun w0 => R (.p (.c (.bool w0))))
def z9d (k : Nat) : Cut D := cutS ⟨[(0, .hole), (3, .ptr 3 0), (5, .hole)], [(3, .var [.hole, .hole])]⟩ [.kl 26, .ki .i64, .ki .i64, .ki .i64] (fun (x : (List ISpan) × Int × Int × Int × Unit) => S_CoversSpan_b0 k k x.1 x.2.1 x.2.2.1 x.2.2.2.1) z9c
def z9e (k : Nat) : Cuts D := ⟨[], []⟩
theorem z9f (k : Nat) : CutFor X z99 k Go.Proofs.Try.f13.results.toList (z9d k) (sub (bodyOf Go.Proofs.Try.f13) [1, 0, 1]) :=
  loopCut_s (X := X) (sg := [.kl 26, .ki .i64, .ki .i64, .ki .i64]) (cu := z9e k) (cl := z9a k) (tys := [[0]]) (id := 0) (c := sub (bodyOf Go.Proofs.Try.f13) [1, 0, 1, 0, 0]) (f := fun n => fun (x : (List ISpan) × Int × Int × Int × Unit) => S_CoversSpan_b0 k n x.1 x.2.1 x.2.2.1 x.2.2.2.1) (z9b k) (cutOK_of (l := []) (by kernel_rfl) trivial) (fun _ => rfl) (fun n x Q R h => by
    simp only [S_CoversSpan_b0, optK_bind, optK_bif, optK_pure, optK_none, optK_oc, optK_guardT, optK_map] at h
    refine hold_of h ?_
    kernel_rfl) (by kernel_rfl)
def z9g (k : Nat) : Cuts D := ⟨[(0, some (z9d k))], []⟩
def z9h : List Ar := [.c (.kl 26), .a [.ki .i64, .ki .i64]]
def z9i (k : Nat) (x : TupA D z9h) : Option (Bool) := S_CoversSpan k x.1 (⟨x.2.1.1, x.2.1.2.1⟩ : ISpan)
def z9j (r : Bool) : VR D := .p (.c (.bool r))
theorem z9k (k : Nat) : Does P X 13 z9h (z9i k) z9j :=
  does_of (body := bodyOf Go.Proofs.Try.f13) (pl := z99) (k := k) (cu := z9g k) (tys := [[0]]) (z9b k) ctx mixed Go.Proofs.Try.func13 (by kernel_rfl) (by kernel_rfl) (cutOK_of (l := [(z9d k, sub (bodyOf Go.Proofs.Try.f13) [1, 0, 1])]) (by kernel_rfl) ⟨z9f k, trivial⟩) fun x R h => by
    simp only [z9i, S_CoversSpan, optK_bind, optK_bif, optK_pure, optK_none, optK_oc, optK_guardT, optK_map] at h
    refine hold_of h ?_
    kernel_rfl
def z9l (k : Nat) : Entry D := entS z9h (z9i k) z9j
theorem z9m (k : Nat) : EntryOK X 13 (z9l k) := (z9k k).en rfl
def z9n : Plan := ⟨[(0, [(0, some 5)]), (1, [(3, none)]), (2, [(3, none), (4, some 26)]), (3, [(3, none), (4, some 26), (5, none)]), (4, [(3, none), (4, some 26), (5, none), (12, none)]), (5, [(3, none), (4, some 26), (5, none)]), (6, [(3, none), (4, some 26), (5, none)]), (7, [(2, some 26)])],
  [(0, [(4, some 26)]), (1, [(3, none), (4, some 26), (5, none)])],
  [(12, ([(3, none), (4, some 26), (5, none)], [(4, some 26)]))]⟩
def z9o (k : Nat) : Calls' D := ⟨[], [], [(41, z1c k), (35, z1n k)], [(33, zm k)], []⟩
theorem z9p (k : Nat) : CallsOK X (z9o k) := .consP (z1d k) (.consP (z1o k) (.consB (zn k) (.nil cod)))
def z9q (x : Int × (List Int) × Int × Int × (List ISpan) × Unit) (o : (List ISpan)) (Q : Ex → VSt D → Prop) (R : VR D → Prop) : Prop := Q .normal (mkSt ⟨[(4, .ref 500004)], [(500004, .row)]⟩ [.sl 26 o])
def z9r (k : Nat) : Cut D := cutS ⟨[(3, .ptr 7 0), (4, .ref 500004), (5, .hole)], [(7, .var [.hole, .hole, .hole]), (500004, .row)]⟩ [.ki .i64, .kl 5, .ki .i64, .ki .i64, .kl 26] (fun (x : Int × (List Int) × Int × Int × (List ISpan) × Unit) => S_DrawUniteSpans_b0 k k x.1 x.2.1 x.2.2.1 x.2.2.2.1 x.2.2.2.2.1) z9q
def z9s (k : Nat) : Cuts D := ⟨[], []⟩
theorem z9t (k : Nat) : CutFor X z9n k Go.Proofs.Try.f14.results.toList (z9r k) (sub (bodyOf Go.Proofs.Try.f14) [1, 1, 1, 0, 1]) :=
  loopCut_s (X := X) (sg := [.ki .i64, .kl 5, .ki .i64, .ki .i64, .kl 26]) (cu := z9s k) (cl := z9o k) (tys := [[26]]) (id := 0) (c := sub (bodyOf Go.Proofs.Try.f14) [1, 1, 1, 0, 1, 0, 0]) (f := fun n => fun (x : Int × (List Int) × Int × Int × (List ISpan) × Unit) => S_DrawUniteSpans_b0 k n x.1 x.2.1 x.2.2.1 x.2.2.2.1 x.2.2.2.2.1) (z9p k) (cutOK_of (l := []) (by kernel_rfl) trivial) (fun _ => rfl) (fun n x Q R h => by
    simp only [S_DrawUniteSpans_b0, optK_bind, optK_bif, optK_pure, optK_none, optK_oc, optK_guardT, optK_map] at h
    refine hold_of h ?_
    kernel_rfl) (by kernel_rfl)
def z9u (k : Nat) : Cuts D := ⟨[(0, some (z9r k))], []⟩
def z9v : List Ar := [.c (.kl 5)]
def z9w (k : Nat) (x : TupA D z9v) : Option ((List ISpan)) := S_DrawUniteSpans k x.1
def z9x (r : (List ISpan)) : VR D := .p (.c (.sl 26 r))
theorem z9y (k : Nat) : Does P X 14 z9v (z9w k) z9x :=
  does_of (body := bodyOf Go.Proofs.Try.f14) (pl := z9n) (k := k) (cu := z9u k) (tys := [[26]]) (z9p k) ctx mixed Go.Proofs.Try.func14 (by kernel_rfl) (by kernel_rfl) (cutOK_of (l := [(z9r k, sub (bodyOf Go.Proofs.Try.f14) [1, 1, 1, 0, 1])]) (by kernel_rfl) ⟨z9t k, trivial⟩) fun x R h => by
    simp only [z9w, S_DrawUniteSpans, optK_bind, optK_bif, optK_pure, optK_none, optK_oc, optK_guardT, optK_map] at h
    refine hold_of h ?_
    kernel_rfl
def z9z (k : Nat) : Entry D := entS z9v (z9w k) z9x
theorem za0 (k : Nat) : EntryOK X 14 (z9z k) := (z9y k).en rfl
def za1 : Plan := ⟨[(0, [(0, some 26)]), (1, [(0, some 26), (3, some 26)]), (2, [(3, some 26), (7, some 26), (8, none), (9, none)]), (3, [(3, some 26), (7, some 26), (8, none), (9, none), (10, none)]), (4, [(3, some 26), (5, none), (7, some 26), (8, none), (9, none)]), (5, [(3, some 26), (7, some 26), (8, none), (9, none)]), (6, [(3, some 26), (7, some 26), (8, none), (9, none)]), (7, [(2, some 26)])],
  [(0, [(3, some 26)]), (1, [(3, some 26), (7, some 26), (8, none), (9, none)])],
  [(10, ([(3, some 26), (7, some 26), (8, none), (9, none)], [(3, some 26)]))]⟩
def za2 (k : Nat) : Calls' D := ⟨[(8, z6v k)], [], [], [], []⟩
theorem za3 (k : Nat) : CallsOK X (za2 k) := .cons (z6w k) (.nil cod)
def za4 (x : (List ISpan) × Int × Int × (List ISpan) × Unit) (o : (List ISpan)) (Q : Ex → VSt D → Prop) (R : VR D → Prop) : Prop := Q .normal (mkSt ⟨[(3, .ref 500003)], [(500003, .row)]⟩ [.sl 26 o])
def za5 (k : Nat) : Cut D := cutS ⟨[(3, .ref 500003), (7, .hole), (8, .hole), (9, .hole)], [(500003, .row)]⟩ [.kl 26, .ki .i64, .ki .i64, .kl 26] (fun (x : (List ISpan) × Int × Int × (List ISpan) × Unit) => I_UniteSpans_b0 k k x.1 x.2.1 x.2.2.1 x.2.2.2.1) za4
def za6 (k : Nat) : Cuts D := ⟨[], []⟩
theorem za7 (k : Nat) : CutFor X za1 k Go.Proofs.Try.f15.results.toList (za5 k) (sub (bodyOf Go.Proofs.Try.f15) [1, 1, 0, 1]) :=
  loopCut_s (X := X) (sg := [.kl 26, .ki .i64, .ki .i64, .kl 26]) (cu := za6 k) (cl := za2 k) (tys := [[26]]) (id := 0) (c := sub (bodyOf Go.Proofs.Try.f15) [1, 1, 0, 1, 0, 0]) (f := fun n => fun (x : (List ISpan) × Int × Int × (List ISpan) × Unit) => I_UniteSpans_b0 k n x.1 x.2.1 x.2.2.1 x.2.2.2.1) (za3 k) (cutOK_of (l := []) (by kernel_rfl) trivial) (fun _ => rfl) (fun n x Q R h => by
    simp only [I_UniteSpans_b0, optK_bind, optK_bif, optK_pure, optK_none, optK_oc, optK_guardT, optK_map] at h
    refine hold_of h ?_
    kernel_rfl) (by kernel_rfl)
def za8 (k : Nat) : Cuts D := ⟨[(0, some (za5 k))], []⟩
def za9 : List Ar := [.c (.kl 26)]
def zaa (k : Nat) (x : TupA D za9) : Option ((List ISpan)) := I_UniteSpans k x.1
def zab (r : (List ISpan)) : VR D := .p (.c (.sl 26 r))
theorem zac (k : Nat) : Does P X 15 za9 (zaa k) zab :=
  does_of (body := bodyOf Go.Proofs.Try.f15) (pl := za1) (k := k) (cu := za8 k) (tys := [[26]]) (za3 k) ctx mixed Go.Proofs.Try.func15 (by kernel_rfl) (by kernel_rfl) (cutOK_of (l := [(za5 k, sub (bodyOf Go.Proofs.Try.f15) [1, 1, 0, 1])]) (by kernel_rfl) ⟨za7 k, trivial⟩) fun x R h => by
    simp only [zaa, I_UniteSpans, optK_bind, optK_bif, optK_pure, optK_none, optK_oc, optK_guardT, optK_map] at h
    refine hold_of h ?_
    kernel_rfl
def zad (k : Nat) : Entry D := entS za9 (zaa k) zab
theorem zae (k : Nat) : EntryOK X 15 (zad k) := (zac k).en rfl
def zaf : Plan := ⟨[(0, [(0, some 26)]), (1, [(0, some 26), (3, none)]), (2, [(3, none), (6, some 26), (7, none), (8, none)]), (3, [(3, none), (6, some 26), (7, none), (8, none), (9, none)]), (4, [(3, none), (5, none), (6, some 26), (7, none), (8, none)]), (5, [(3, none), (6, some 26), (7, none), (8, none)]), (6, [(3, none), (6, some 26), (7, none), (8, none)]), (7, [(2, none)])],
  [(0, [(3, none)]), (1, [(3, none), (6, some 26), (7, none), (8, none)])],
  [(9, ([(3, none), (6, some 26), (7, none), (8, none)], [(3, none)]))]⟩
def zag (k : Nat) : Calls' D := ⟨[], [], [], [], []⟩
theorem zah (k : Nat) : CallsOK X (zag k) := .nil cod
def zai (x : Int × (List ISpan) × Int × Int × Unit) (o : Int) (Q : Ex → VSt D → Prop) (R : VR D → Prop) : Prop := Q .normal (mkSt ⟨[(3, .hole)], []⟩ [.int .i64 o])
def zaj (k : Nat) : Cut D := cutS ⟨[(3, .hole), (6, .hole), (7, .hole), (8, .hole)], []⟩ [.ki .i64, .kl 26, .ki .i64, .ki .i64] (fun (x : Int × (List ISpan) × Int × Int × Unit) => I_SpanSize_b0 k k x.1 x.2.1 x.2.2.1 x.2.2.2.1) zai
def zak (k : Nat) : Cuts D := ⟨[], []⟩
theorem zal (k : Nat) : CutFor X zaf k Go.Proofs.Try.f17.results.toList (zaj k) (sub (bodyOf Go.Proofs.Try.f17) [1, 1, 0, 1]) :=
  loopCut_s (X := X) (sg := [.ki .i64, .kl 26, .ki .i64, .ki .i64]) (cu := zak k) (cl := zag k) (tys := [[0]]) (id := 0) (c := sub (bodyOf Go.Proofs.Try.f17) [1, 1, 0, 1, 0, 0]) (f := fun n => fun (x : Int × (List ISpan) × Int × Int × Unit) => I_SpanSize_b0 k n x.1 x.2.1 x.2.2.1 x.2.2.2.1) (zah k) (cutOK_of (l := []) (by kernel_rfl) trivial) (fun _ => rfl) (fun n x Q R h => by
    simp only [I_SpanSize_b0, optK_bind, optK_bif, optK_pure, optK_none, optK_oc, optK_guardT, optK_map] at h
    refine hold_of h ?_
    kernel_rfl) (by kernel_rfl)
def zam (k : Nat) : Cuts D := ⟨[(0, some (zaj k))], []⟩
def zan : List Ar := [.c (.kl 26)]
def zao (k : Nat) (x : TupA D zan) : Option (Int) := I_SpanSize k x.1
def zap (r : Int) : VR D := .p (.c (.int .i64 r))
theorem zaq (k : Nat) : Does P X 17 zan (zao k) zap :=
  does_of (body := bodyOf Go.Proofs.Try.f17) (pl := zaf) (k := k) (cu := zam k) (tys := [[0]]) (zah k) ctx mixed Go.Proofs.Try.func17 (by kernel_rfl) (by kernel_rfl) (cutOK_of (l := [(zaj k, sub (bodyOf Go.Proofs.Try.f17) [1, 1, 0, 1])]) (by kernel_rfl) ⟨zal k, trivial⟩) fun x R h => by
    simp only [zao, I_SpanSize, optK_bind, optK_bif, optK_pure, optK_none, optK_oc, optK_guardT, optK_map] at h
    refine hold_of h ?_
    kernel_rfl
def zar (k : Nat) : Entry D := entS zan (zao k) zap
theorem zas (k : Nat) : EntryOK X 17 (zar k) := (zaq k).en rfl
def zat : Plan := ⟨[(0, [(0, some 5)]), (1, [(0, some 5), (16, none)]), (2, [(2, none)]), (3, [(0, some 5), (3, some 26), (4, none)]), (4, [(0, some 5), (3, some 26), (4, none), (5, some 26)]), (5, [(0, some 5), (3, some 26), (4, none), (5, some 26), (6, some 26), (7, none)]), (6, [(0, some 5), (3, some 26), (4, none), (5, some 26), (6, some 26), (7, none), (8, some 26)]), (7, [(0, some 5), (3, some 26), (4, none), (5, some 26), (6, some 26), (7, none), (8, some 26), (9, none)]), (8, [(0, some 5), (3, some 26), (4, none), (5, some 26), (6, some 26), (7, none), (8, some 26), (9, none), (10, none)]), (9, [(0, some 5), (3, some 26), (4, none), (5, some 26), (6, some 26), (7, none), (8, some 26), (9, none), (10, none), (44, none)]), (10, [(0, some 5), (3, some 26), (4, none), (5, some 26), (6, some 26), (7, none), (8, some 26), (9, none), (10, none)]), (11, [(0, some 5), (3, some 26), (4, none), (5, some 26), (6, some 26), (7, none), (8, some 26), (9, none), (10, none), (11, none)]), (12, [(0, some 5), (3, some 26), (4, none), (5, some 26), (6, some 26), (7, none), (8, some 26), (9, none), (10, none), (11, none), (74, none)]), (13, [(2, none)]), (14, [(0, some 5), (3, some 26), (4, none), (5, some 26), (6, some 26), (7, none), (8, some 26), (9, none), (10, none), (98, none)]), (15, [(2, none)]), (16, [(5, some 26), (9, none), (12, some 26)]), (17, [(5, some 26), (9, none), (12, some 26), (13, some 26)]), (18, [(5, some 26), (9, none), (12, some 26), (13, some 26), (14, none)]), (19, [(5, some 26), (9, none), (12, some 26), (13, some 26), (14, none), (106, none)]), (20, [(5, some 26), (9, none), (12, some 26), (13, some 26), (14, none)]), (21, [(5, some 26), (9, none), (12, some 26), (13, some 26), (14, none), (123, none)]), (22, [(2, none)]), (23, [(2, none)])],
  [(0, [(0, some 5), (5, some 26), (9, none)]), (1, [(0, some 5), (3, some 26), (4, none), (5, some 26), (6, some 26), (7, none), (8, some 26), (9, none), (10, none)]), (2, [(5, some 26), (9, none), (12, some 26), (13, some 26)]), (3, [(5, some 26), (9, none), (12, some 26), (13, some 26), (14, none)])],
  [(16, ([], [(0, some 5)])), (44, ([(0, some 5), (3, some 26), (4, none), (5, some 26), (6, some 26), (7, none), (8, some 26), (9, none), (10, none)], [(0, some 5), (5, some 26), (9, none)])), (74, ([], [(0, some 5), (3, some 26), (4, none), (5, some 26), (6, some 26), (7, none), (8, some 26), (9, none), (10, none), (11, none)])), (98, ([], [(0, some 5), (3, some 26), (4, none), (5, some 26), (6, some 26), (7, none), (8, some 26), (9, none), (10, none)])), (106, ([(5, some 26), (9, none), (12, some 26), (13, some 26), (14, none)], [(5, some 26), (9, none), (12, some 26), (13, some 26)])), (123, ([], [(5, some 26), (9, none), (12, some 26), (13, some 26), (14, none)]))]⟩
def zau (k : Nat) : Calls' D := ⟨[(6, z8 k), (7, z5p k), (8, z6v k), (9, z75 k), (10, z7z k), (11, z21 k), (12, z97 k), (13, z9l k), (14, z9z k), (15, zad k), (16, z63 k), (17, zar k)], [], [], [], []⟩
theorem zav (k : Nat) : CallsOK X (zau k) := .cons (z9 k) (.cons (z5q k) (.cons (z6w k) (.cons (z76 k) (.cons (z80 k) (.cons (z22 k) (.cons (z98 k) (.cons (z9m k) (.cons (za0 k) (.cons (zae k) (.cons (z64 k) (.cons (zas k) (.nil cod))))))))))))
def zaw (x : (List Int) × Bool × Int × (List ISpan) × Int × Int × (List ISpan) × (List ISpan) × Int × Int × (List ISpan) × Unit) (o : Oc (Unit) (Bool)) (Q : Ex → VSt D → Prop) (R : VR D → Prop) : Prop := ocP o (fun v0 => Q .normal (mkSt ⟨[(0, .hole), (5, .ref 500005), (9, .hole)], [(500005, .row)]⟩ [.sl 5 x.1, .bool x.2.1, .sl 26 x.2.2.2.2.2.2.1])) (fun w0 => R (.p (.c (.bool w0))))
def zax (k : Nat) : Cut D := cutS ⟨[(0, .hole), (3, .ref 500003), (4, .ptr 4 0), (5, .ref 500005), (6, .ref 500006), (7, .ptr 7 0), (8, .ref 500008), (9, .hole), (10, .hole)], [(500003, .row), (4, .var [.hole, .hole]), (500005, .row), (500006, .row), (7, .var [.hole, .hole]), (500008, .row)]⟩ [.kl 5, .kb, .ki .i64, .kl 26, .ki .i64, .ki .i64, .kl 26, .kl 26, .ki .i64, .ki .i64, .kl 26] (fun (x : (List Int) × Bool × Int × (List ISpan) × Int × Int × (List ISpan) × (List ISpan) × Int × Int × (List ISpan) × Unit) => L_FnIntervals_b0 k k x.1 x.2.1 x.2.2.1 x.2.2.2.1 x.2.2.2.2.1 x.2.2.2.2.2.1 x.2.2.2.2.2.2.1 x.2.2.2.2.2.2.2.1 x.2.2.2.2.2.2.2.2.1 x.2.2.2.2.2.2.2.2.2.1 x.2.2.2.2.2.2.2.2.2.2.1) zaw
def zay (k : Nat) : Cuts D := ⟨[], []⟩
theorem zaz (k : Nat) : CutFor X zat k Go.Proofs.Try.f3.results.toList (zax k) (sub (bodyOf Go.Proofs.Try.f3) [1, 1, 1, 1, 1, 1, 1, 0, 1]) :=
  loopCut_s (X := X) (sg := [.kl 5, .kb, .ki .i64, .kl 26, .ki .i64, .ki .i64, .kl 26, .kl 26, .ki .i64, .ki .i64, .kl 26]) (cu := zay k) (cl := zau k) (tys := [[0]]) (id := 0) (c := sub (bodyOf Go.Proofs.Try.f3) [1, 1, 1, 1, 1, 1, 1, 0, 1, 0, 0]) (f := fun n => fun (x : (List Int) × Bool × Int × (List ISpan) × Int × Int × (List ISpan) × (List ISpan) × Int × Int × (List ISpan) × Unit) => L_FnIntervals_b0 k n x.1 x.2.1 x.2.2.1 x.2.2.2.1 x.2.2.2.2.1 x.2.2.2.2.2.1 x.2.2.2.2.2.2.1 x.2.2.2.2.2.2.2.1 x.2.2.2.2.2.2.2.2.1 x.2.2.2.2.2.2.2.2.2.1 x.2.2.2.2.2.2.2.2.2.2.1) (zav k) (cutOK_of (l := []) (by kernel_rfl) trivial) (fun _ => rfl) (fun n x Q R h => by
    simp only [L_FnIntervals_b0, optK_bind, optK_bif, optK_pure, optK_none, optK_oc, optK_guardT, optK_map] at h
    refine hold_of h ?_
    kernel_rfl) (by kernel_rfl)
def zb0 (x : Bool × Int × (List ISpan) × (List ISpan) × (List ISpan) × Unit) (o : Oc (Unit) (Bool)) (Q : Ex → VSt D → Prop) (R : VR D → Prop) : Prop := ocP o (fun v0 => Q .normal (mkSt ⟨[(5, .ref 500005), (9, .hole), (12, .ref 500012), (13, .ref 500013)], [(500005, .row), (500012, .row), (500013, .row)]⟩ [.bool x.1, .sl 26 x.2.2.1, .sl 26 x.2.2.2.1, .sl 26 x.2.2.2.2.1])) (fun w0 => R (.p (.c (.bool w0))))
def zb1 (k : Nat) : Cut D := cutS ⟨[(5, .ref 500005), (9, .hole), (12, .ref 500012), (13, .ref 500013), (14, .hole)], [(500005, .row), (500012, .row), (500013, .row)]⟩ [.kb, .ki .i64, .kl 26, .kl 26, .kl 26] (fun (x : Bool × Int × (List ISpan) × (List ISpan) × (List ISpan) × Unit) => L_FnIntervals_b2 k k x.1 x.2.1 x.2.2.1 x.2.2.2.1 x.2.2.2.2.1) zb0
def zb2 (k : Nat) : Cuts D := ⟨[], []⟩
theorem zb3 (k : Nat) : CutFor X zat k Go.Proofs.Try.f3.results.toList (zb1 k) (sub (bodyOf Go.Proofs.Try.f3) [1, 1, 1, 1, 1, 1, 1, 1, 1, 1, 0, 1]) :=
  loopCut_s (X := X) (sg := [.kb, .ki .i64, .kl 26, .kl 26, .kl 26]) (cu := zb2 k) (cl := zau k) (tys := [[0]]) (id := 2) (c := sub (bodyOf Go.Proofs.Try.f3) [1, 1, 1, 1, 1, 1, 1, 1, 1, 1, 0, 1, 0, 0]) (f := fun n => fun (x : Bool × Int × (List ISpan) × (List ISpan) × (List ISpan) × Unit) => L_FnIntervals_b2 k n x.1 x.2.1 x.2.2.1 x.2.2.2.1 x.2.2.2.2.1) (zav k) (cutOK_of (l := []) (by kernel_rfl) trivial) (fun _ => rfl) (fun n x Q R h => by
    simp only [L_FnIntervals_b2, optK_bind, optK_bif, optK_pure, optK_none, optK_oc, optK_guardT, optK_map] at h
    refine hold_of h ?_
    kernel_rfl) (by kernel_rfl)
def zb4 (k : Nat) : Cuts D := ⟨[(0, some (zax k)), (2, some (zb1 k))], []⟩
def L_FnIntervals_ar : List Ar := [.c (.kl 5)]
def L_FnIntervals_f (k : Nat) (x : TupA D L_FnIntervals_ar) : Option (Bool) := L_FnIntervals k x.1
def L_FnIntervals_vr (r : Bool) : VR D := .p (.c (.bool r))
theorem L_FnIntervals_ok (k : Nat) : Does P X 3 L_FnIntervals_ar (L_FnIntervals_f k) L_FnIntervals_vr :=
  does_of (body := bodyOf Go.Proofs.Try.f3) (pl := zat) (k := k) (cu := zb4 k) (tys := [[0]]) (zav k) ctx mixed Go.Proofs.Try.func3 (by kernel_rfl) (by kernel_rfl) (cutOK_of (l := [(zax k, sub (bodyOf Go.Proofs.Try.f3) [1, 1, 1, 1, 1, 1, 1, 0, 1]), (zb1 k, sub (bodyOf Go.Proofs.Try.f3) [1, 1, 1, 1, 1, 1, 1, 1, 1, 1, 0, 1])]) (by kernel_rfl) ⟨zaz k, zb3 k, trivial⟩) fun x R h => by
    simp only [L_FnIntervals_f, L_FnIntervals, optK_bind, optK_bif, optK_pure, optK_none, optK_oc, optK_guardT, optK_map] at h
    refine hold_of h ?_
    kernel_rfl
def zb5 (k : Nat) : Entry D := entS L_FnIntervals_ar (L_FnIntervals_f k) L_FnIntervals_vr
theorem zb6 (k : Nat) : EntryOK X 3 (zb5 k) := (L_FnIntervals_ok k).en rfl

end
end Go.Ytolmhhnhmbiofaa
