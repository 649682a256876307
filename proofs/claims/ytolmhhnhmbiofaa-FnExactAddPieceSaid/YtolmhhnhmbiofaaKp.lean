/- The machine computes the functions. Nothing is claimed here. -/
import Derived.Test.YtolmhhnhmbiofaaKf
set_option linter.unusedVariables false
set_option linter.unusedSimpArgs false
set_option maxRecDepth 100000
namespace Go.Ytolmhhnhmbiofaa
open Go Go.RowKit Go.Pv
noncomputable section

def z0 : Plan := ⟨[(0, [(1, none), (2, none)]), (1, [(1, none)]), (2, [(1, none), (11, none)]), (3, [(4, none)]), (4, [(4, none)])],
  [],
  [(11, ([], [(1, none)]))]⟩
def z1 (k : Nat) : Calls' D := ⟨[], [], [], [], []⟩
theorem z2 (k : Nat) : CallsOK X (z1 k) := .nil cod
def z3 (k : Nat) : Cuts D := ⟨[], []⟩
def z4 : List Ar := [.a [.ki .i64, .ks], .c (.ki .i64)]
def z5 (k : Nat) (x : TupA D z4) : Option (Int) := L_szPiece k (⟨x.1.1, x.1.2.1⟩ : LPiece) x.2.1
def z6 (r : Int) : VR D := .p (.c (.int .i64 r))
theorem z7 (k : Nat) : Does P X 19 z4 (z5 k) z6 :=
  does_of (body := bodyOf Go.Proofs.Try.f19) (pl := z0) (k := k) (cu := z3 k) (tys := [[0]]) (z2 k) ctx mixed Go.Proofs.Try.func19 (by kernel_rfl) (by kernel_rfl) (cutOK_of (l := []) (by kernel_rfl) trivial) fun x R h => by
    simp only [z5, L_szPiece, optK_bind, optK_bif, optK_pure, optK_none, optK_oc, optK_guardT, optK_map] at h
    refine hold_of h ?_
    kernel_rfl
def z8 (k : Nat) : Entry D := entS z4 (z5 k) z6
theorem z9 (k : Nat) : EntryOK X 19 (z8 k) := (z7 k).en rfl
def za : Plan := ⟨[(0, [(0, some 37), (1, none)]), (1, [(0, some 37), (1, none)]), (2, [(0, some 37), (1, none), (11, none)]), (3, [(4, none)]), (4, [(0, some 37), (1, none), (5, none)]), (5, [(0, some 37), (1, none), (5, none), (15, none)]), (6, [(0, some 37), (1, none), (5, none)]), (7, [(0, some 37), (1, none), (5, none)]), (8, [(0, some 37), (1, none), (5, none), (25, none)]), (9, [(4, none)]), (10, [(4, none)])],
  [(0, [(1, none)]), (1, [(0, some 37), (1, none), (5, none)])],
  [(11, ([], [(0, some 37), (1, none)])), (15, ([(0, some 37), (1, none), (5, none)], [(1, none)])), (25, ([], [(0, some 37), (1, none), (5, none)]))]⟩
def zb (k : Nat) : Calls' D := ⟨[(19, z8 k)], [], [], [], []⟩
theorem zc (k : Nat) : CallsOK X (zb k) := .cons (z9 k) (.nil cod)
def zd (x : (List LPiece) × Int × Int × Unit) (o : Oc (Int) (Int)) (Q : Ex → VSt D → Prop) (R : VR D → Prop) : Prop := ocP o (fun v0 => Q .normal (mkSt ⟨[(1, .hole)], []⟩ [.int .i64 v0])) (fun w0 => R (.p (.c (.int .i64 w0))))
def ze (k : Nat) : Cut D := cutS ⟨[(0, .hole), (1, .hole), (5, .hole)], []⟩ [.kl 37, .ki .i64, .ki .i64] (fun (x : (List LPiece) × Int × Int × Unit) => L_szPieceS_b0 k k x.1 x.2.1 x.2.2.1) zd
def zf (k : Nat) : Cuts D := ⟨[], []⟩
theorem zg (k : Nat) : CutFor X za k Go.Proofs.Try.f18.results.toList (ze k) (sub (bodyOf Go.Proofs.Try.f18) [1, 1, 1, 0, 1]) :=
  loopCut_s (X := X) (sg := [.kl 37, .ki .i64, .ki .i64]) (cu := zf k) (cl := zb k) (tys := [[0]]) (id := 0) (c := sub (bodyOf Go.Proofs.Try.f18) [1, 1, 1, 0, 1, 0, 0]) (f := fun n => fun (x : (List LPiece) × Int × Int × Unit) => L_szPieceS_b0 k n x.1 x.2.1 x.2.2.1) (zc k) (cutOK_of (l := []) (by kernel_rfl) trivial) (fun _ => rfl) (fun n x Q R h => by
    simp only [L_szPieceS_b0, optK_bind, optK_bif, optK_pure, optK_none, optK_oc, optK_guardT, optK_map] at h
    refine hold_of h ?_
    kernel_rfl) (by kernel_rfl)
def zh (k : Nat) : Cuts D := ⟨[(0, some (ze k))], []⟩
def zi : List Ar := [.c (.kl 37), .c (.ki .i64)]
def zj (k : Nat) (x : TupA D zi) : Option (Int) := L_szPieceS k x.1 x.2.1
def zk (r : Int) : VR D := .p (.c (.int .i64 r))
theorem zl (k : Nat) : Does P X 18 zi (zj k) zk :=
  does_of (body := bodyOf Go.Proofs.Try.f18) (pl := za) (k := k) (cu := zh k) (tys := [[0]]) (zc k) ctx mixed Go.Proofs.Try.func18 (by kernel_rfl) (by kernel_rfl) (cutOK_of (l := [(ze k, sub (bodyOf Go.Proofs.Try.f18) [1, 1, 1, 0, 1])]) (by kernel_rfl) ⟨zg k, trivial⟩) fun x R h => by
    simp only [zj, L_szPieceS, optK_bind, optK_bif, optK_pure, optK_none, optK_oc, optK_guardT, optK_map] at h
    refine hold_of h ?_
    kernel_rfl
def zm (k : Nat) : Entry D := entS zi (zj k) zk
theorem zn (k : Nat) : EntryOK X 18 (zm k) := (zl k).en rfl
def zo : Plan := ⟨[(0, [(1, none), (2, none)]), (1, [(1, none), (2, none), (3, none)]), (2, [(1, none), (2, none), (3, none)]), (3, [(2, none), (3, none)]), (4, [(2, none)])],
  [],
  []⟩
def zp (k : Nat) : Calls' D := ⟨[], [], [], [], []⟩
theorem zq (k : Nat) : CallsOK X (zp k) := .nil cod
def zr (k : Nat) : Cuts D := ⟨[], []⟩
def zs : List Ar := [.a [.ki .i64, .ks]]
def zt (k : Nat) (x : TupA D zs) : Option (IPiece) := L_toPiece k (⟨x.1.1, x.1.2.1⟩ : LPiece)
def zu (r : IPiece) : VR D := .p (.agg [.int .i64 r.From, .str r.Data])
theorem zv (k : Nat) : Does P X 22 zs (zt k) zu :=
  does_of (body := bodyOf Go.Proofs.Try.f22) (pl := zo) (k := k) (cu := zr k) (tys := [[0, 0]]) (zq k) ctx mixed Go.Proofs.Try.func22 (by kernel_rfl) (by kernel_rfl) (cutOK_of (l := []) (by kernel_rfl) trivial) fun x R h => by
    simp only [zt, L_toPiece, optK_bind, optK_bif, optK_pure, optK_none, optK_oc, optK_guardT, optK_map] at h
    refine hold_of h ?_
    kernel_rfl
def zw (k : Nat) : Entry D := entS zs (zt k) zu
theorem zx (k : Nat) : EntryOK X 22 (zw k) := (zv k).en rfl
def zy : Plan := ⟨[(0, [(0, some 37)]), (1, [(0, some 37), (3, some 44)]), (2, [(0, some 37), (3, some 44), (4, none)]), (3, [(0, some 37), (3, some 44), (4, none), (11, none)]), (4, [(0, some 37), (3, some 44), (4, none)]), (5, [(0, some 37), (3, some 44), (4, none)]), (6, [(2, some 44)])],
  [(0, [(3, some 44)]), (1, [(0, some 37), (3, some 44), (4, none)])],
  [(11, ([(0, some 37), (3, some 44), (4, none)], [(3, some 44)]))]⟩
def zz (k : Nat) : Calls' D := ⟨[(22, zw k)], [], [], [], []⟩
theorem z10 (k : Nat) : CallsOK X (zz k) := .cons (zx k) (.nil cod)
def z11 (x : (List LPiece) × Int × (List IPiece) × Unit) (o : (List IPiece)) (Q : Ex → VSt D → Prop) (R : VR D → Prop) : Prop := Q .normal (mkSt ⟨[(3, .ref 500003)], [(500003, .row)]⟩ [.sl 44 o])
def z12 (k : Nat) : Cut D := cutS ⟨[(0, .hole), (3, .ref 500003), (4, .hole)], [(500003, .row)]⟩ [.kl 37, .ki .i64, .kl 44] (fun (x : (List LPiece) × Int × (List IPiece) × Unit) => L_toPieceS_b0 k k x.1 x.2.1 x.2.2.1) z11
def z13 (k : Nat) : Cuts D := ⟨[], []⟩
theorem z14 (k : Nat) : CutFor X zy k Go.Proofs.Try.f21.results.toList (z12 k) (sub (bodyOf Go.Proofs.Try.f21) [1, 1, 0, 1]) :=
  loopCut_s (X := X) (sg := [.kl 37, .ki .i64, .kl 44]) (cu := z13 k) (cl := zz k) (tys := [[44]]) (id := 0) (c := sub (bodyOf Go.Proofs.Try.f21) [1, 1, 0, 1, 0, 0]) (f := fun n => fun (x : (List LPiece) × Int × (List IPiece) × Unit) => L_toPieceS_b0 k n x.1 x.2.1 x.2.2.1) (z10 k) (cutOK_of (l := []) (by kernel_rfl) trivial) (fun _ => rfl) (fun n x Q R h => by
    simp only [L_toPieceS_b0, optK_bind, optK_bif, optK_pure, optK_none, optK_oc, optK_guardT, optK_map] at h
    refine hold_of h ?_
    kernel_rfl) (by kernel_rfl)
def z15 (k : Nat) : Cuts D := ⟨[(0, some (z12 k))], []⟩
def z16 : List Ar := [.c (.kl 37)]
def z17 (k : Nat) (x : TupA D z16) : Option ((List IPiece)) := L_toPieceS k x.1
def z18 (r : (List IPiece)) : VR D := .p (.c (.sl 44 r))
theorem z19 (k : Nat) : Does P X 21 z16 (z17 k) z18 :=
  does_of (body := bodyOf Go.Proofs.Try.f21) (pl := zy) (k := k) (cu := z15 k) (tys := [[44]]) (z10 k) ctx mixed Go.Proofs.Try.func21 (by kernel_rfl) (by kernel_rfl) (cutOK_of (l := [(z12 k, sub (bodyOf Go.Proofs.Try.f21) [1, 1, 0, 1])]) (by kernel_rfl) ⟨z14 k, trivial⟩) fun x R h => by
    simp only [z17, L_toPieceS, optK_bind, optK_bif, optK_pure, optK_none, optK_oc, optK_guardT, optK_map] at h
    refine hold_of h ?_
    kernel_rfl
def z1a (k : Nat) : Entry D := entS z16 (z17 k) z18
theorem z1b (k : Nat) : EntryOK X 21 (z1a k) := (z19 k).en rfl
def z1c : Plan := ⟨[(0, [(0, some 44)]), (1, [(0, some 44), (3, some 26)]), (2, [(0, some 44), (3, some 26), (4, none)]), (3, [(0, some 44), (3, some 26), (4, none), (9, none)]), (4, [(0, some 44), (3, some 26), (4, none)]), (5, [(0, some 44), (3, some 26), (4, none)]), (6, [(2, some 26)])],
  [(0, [(3, some 26)]), (1, [(0, some 44), (3, some 26), (4, none)])],
  [(9, ([(0, some 44), (3, some 26), (4, none)], [(3, some 26)]))]⟩
def z1d (k : Nat) : Calls' D := ⟨[], [], [], [], []⟩
theorem z1e (k : Nat) : CallsOK X (z1d k) := .nil cod
def z1f (x : (List IPiece) × Int × (List ISpan) × Unit) (o : (List ISpan)) (Q : Ex → VSt D → Prop) (R : VR D → Prop) : Prop := Q .normal (mkSt ⟨[(3, .ref 500003)], [(500003, .row)]⟩ [.sl 26 o])
def z1g (k : Nat) : Cut D := cutS ⟨[(0, .hole), (3, .ref 500003), (4, .hole)], [(500003, .row)]⟩ [.kl 44, .ki .i64, .kl 26] (fun (x : (List IPiece) × Int × (List ISpan) × Unit) => S_SpansOf_b0 k k x.1 x.2.1 x.2.2.1) z1f
def z1h (k : Nat) : Cuts D := ⟨[], []⟩
theorem z1i (k : Nat) : CutFor X z1c k Go.Proofs.Try.f44.results.toList (z1g k) (sub (bodyOf Go.Proofs.Try.f44) [1, 1, 0, 1]) :=
  loopCut_s (X := X) (sg := [.kl 44, .ki .i64, .kl 26]) (cu := z1h k) (cl := z1d k) (tys := [[26]]) (id := 0) (c := sub (bodyOf Go.Proofs.Try.f44) [1, 1, 0, 1, 0, 0]) (f := fun n => fun (x : (List IPiece) × Int × (List ISpan) × Unit) => S_SpansOf_b0 k n x.1 x.2.1 x.2.2.1) (z1e k) (cutOK_of (l := []) (by kernel_rfl) trivial) (fun _ => rfl) (fun n x Q R h => by
    simp only [S_SpansOf_b0, optK_bind, optK_bif, optK_pure, optK_none, optK_oc, optK_guardT, optK_map] at h
    refine hold_of h ?_
    kernel_rfl) (by kernel_rfl)
def z1j (k : Nat) : Cuts D := ⟨[(0, some (z1g k))], []⟩
def z1k : List Ar := [.c (.kl 44)]
def z1l (k : Nat) (x : TupA D z1k) : Option ((List ISpan)) := S_SpansOf k x.1
def z1m (r : (List ISpan)) : VR D := .p (.c (.sl 26 r))
theorem z1n (k : Nat) : Does P X 44 z1k (z1l k) z1m :=
  does_of (body := bodyOf Go.Proofs.Try.f44) (pl := z1c) (k := k) (cu := z1j k) (tys := [[26]]) (z1e k) ctx mixed Go.Proofs.Try.func44 (by kernel_rfl) (by kernel_rfl) (cutOK_of (l := [(z1g k, sub (bodyOf Go.Proofs.Try.f44) [1, 1, 0, 1])]) (by kernel_rfl) ⟨z1i k, trivial⟩) fun x R h => by
    simp only [z1l, S_SpansOf, optK_bind, optK_bif, optK_pure, optK_none, optK_oc, optK_guardT, optK_map] at h
    refine hold_of h ?_
    kernel_rfl
def z1o (k : Nat) : Entry D := entS z1k (z1l k) z1m
theorem z1p (k : Nat) : EntryOK X 44 (z1o k) := (z1n k).en rfl
def z1q : Plan := ⟨[(0, [(0, none), (1, none), (2, none)]), (1, [(6, none)])],
  [],
  []⟩
def z1r (k : Nat) : Calls' D := ⟨[], [], [], [], []⟩
theorem z1s (k : Nat) : CallsOK X (z1r k) := .nil cod
def z1t (k : Nat) : Cuts D := ⟨[], []⟩
def z1u : List Ar := [.c (.ki .i64), .c (.ki .i64), .c (.ki .i64)]
def z1v (k : Nat) (x : TupA D z1u) : Option (Bool) := S_l1In k x.1 x.2.1 x.2.2.1
def z1w (r : Bool) : VR D := .p (.c (.bool r))
theorem z1x (k : Nat) : Does P X 52 z1u (z1v k) z1w :=
  does_of (body := bodyOf Go.Proofs.Try.f52) (pl := z1q) (k := k) (cu := z1t k) (tys := [[0]]) (z1s k) ctx mixed Go.Proofs.Try.func52 (by kernel_rfl) (by kernel_rfl) (cutOK_of (l := []) (by kernel_rfl) trivial) fun x R h => by
    simp only [z1v, S_l1In, optK_bind, optK_bif, optK_pure, optK_none, optK_oc, optK_guardT, optK_map] at h
    refine hold_of h ?_
    kernel_rfl
def z1y (k : Nat) : Entry D := entS z1u (z1v k) z1w
theorem z1z (k : Nat) : EntryOK X 52 (z1y k) := (z1x k).en rfl
def z20 : Plan := ⟨[(0, [(0, some 26)]), (1, [(0, some 26), (3, none)]), (2, [(0, some 26), (3, none), (7, none)]), (3, [(0, some 26), (3, none)]), (4, [(0, some 26), (3, none), (54, none)]), (5, [(2, none)]), (6, [(2, none)])],
  [(0, []), (1, [(0, some 26), (3, none)])],
  [(7, ([(0, some 26), (3, none)], [])), (54, ([], [(0, some 26), (3, none)]))]⟩
def z21 (k : Nat) : Calls' D := ⟨[], [], [], [], []⟩
theorem z22 (k : Nat) : CallsOK X (z21 k) := .nil cod
def z23 (x : (List ISpan) × Int × Unit) (o : Oc (Unit) (Bool)) (Q : Ex → VSt D → Prop) (R : VR D → Prop) : Prop := ocP o (fun v0 => Q .normal (mkSt ⟨[], []⟩ [])) (fun w0 => R (.p (.c (.bool w0))))
def z24 (k : Nat) : Cut D := cutS ⟨[(0, .hole), (3, .hole)], []⟩ [.kl 26, .ki .i64] (fun (x : (List ISpan) × Int × Unit) => S_IsSpanSet_b0 k k x.1 x.2.1) z23
def z25 (k : Nat) : Cuts D := ⟨[], []⟩
theorem z26 (k : Nat) : CutFor X z20 k Go.Proofs.Try.f11.results.toList (z24 k) (sub (bodyOf Go.Proofs.Try.f11) [1, 0, 1]) :=
  loopCut_s (X := X) (sg := [.kl 26, .ki .i64]) (cu := z25 k) (cl := z21 k) (tys := [[0]]) (id := 0) (c := sub (bodyOf Go.Proofs.Try.f11) [1, 0, 1, 0, 0]) (f := fun n => fun (x : (List ISpan) × Int × Unit) => S_IsSpanSet_b0 k n x.1 x.2.1) (z22 k) (cutOK_of (l := []) (by kernel_rfl) trivial) (fun _ => rfl) (fun n x Q R h => by
    simp only [S_IsSpanSet_b0, optK_bind, optK_bif, optK_pure, optK_none, optK_oc, optK_guardT, optK_map] at h
    refine hold_of h ?_
    kernel_rfl) (by kernel_rfl)
def z27 (k : Nat) : Cuts D := ⟨[(0, some (z24 k))], []⟩
def z28 : List Ar := [.c (.kl 26)]
def z29 (k : Nat) (x : TupA D z28) : Option (Bool) := S_IsSpanSet k x.1
def z2a (r : Bool) : VR D := .p (.c (.bool r))
theorem z2b (k : Nat) : Does P X 11 z28 (z29 k) z2a :=
  does_of (body := bodyOf Go.Proofs.Try.f11) (pl := z20) (k := k) (cu := z27 k) (tys := [[0]]) (z22 k) ctx mixed Go.Proofs.Try.func11 (by kernel_rfl) (by kernel_rfl) (cutOK_of (l := [(z24 k, sub (bodyOf Go.Proofs.Try.f11) [1, 0, 1])]) (by kernel_rfl) ⟨z26 k, trivial⟩) fun x R h => by
    simp only [z29, S_IsSpanSet, optK_bind, optK_bif, optK_pure, optK_none, optK_oc, optK_guardT, optK_map] at h
    refine hold_of h ?_
    kernel_rfl
def z2c (k : Nat) : Entry D := entS z28 (z29 k) z2a
theorem z2d (k : Nat) : EntryOK X 11 (z2c k) := (z2b k).en rfl
def z2e : Plan := ⟨[(0, [(0, some 44), (1, none)]), (1, [(0, some 44), (1, none), (5, some 26)]), (2, [(4, none)])],
  [],
  []⟩
def z2f (k : Nat) : Calls' D := ⟨[(44, z1o k), (52, z1y k), (11, z2c k)], [], [], [], []⟩
theorem z2g (k : Nat) : CallsOK X (z2f k) := .cons (z1p k) (.cons (z1z k) (.cons (z2d k) (.nil cod)))
def z2h (k : Nat) : Cuts D := ⟨[], []⟩
def z2i : List Ar := [.c (.kl 44), .c (.ki .i64)]
def z2j (k : Nat) (x : TupA D z2i) : Option (Bool) := S_ArePieces k x.1 x.2.1
def z2k (r : Bool) : VR D := .p (.c (.bool r))
theorem z2l (k : Nat) : Does P X 29 z2i (z2j k) z2k :=
  does_of (body := bodyOf Go.Proofs.Try.f29) (pl := z2e) (k := k) (cu := z2h k) (tys := [[0]]) (z2g k) ctx mixed Go.Proofs.Try.func29 (by kernel_rfl) (by kernel_rfl) (cutOK_of (l := []) (by kernel_rfl) trivial) fun x R h => by
    simp only [z2j, S_ArePieces, optK_bind, optK_bif, optK_pure, optK_none, optK_oc, optK_guardT, optK_map] at h
    refine hold_of h ?_
    kernel_rfl
def z2m (k : Nat) : Entry D := entS z2i (z2j k) z2k
theorem z2n (k : Nat) : EntryOK X 29 (z2m k) := (z2l k).en rfl
def z2o : Plan := ⟨[(0, [(0, some 44), (1, none)]), (1, [(0, some 44), (1, none), (5, none)]), (2, [(0, some 44), (1, none), (5, none), (9, none)]), (3, [(0, some 44), (1, none), (5, none)]), (4, [(0, some 44), (1, none), (5, none), (34, none)]), (5, [(4, none)]), (6, [(4, none)])],
  [(0, []), (1, [(0, some 44), (1, none), (5, none)])],
  [(9, ([(0, some 44), (1, none), (5, none)], [])), (34, ([(0, some 44), (1, none), (5, none)], [(0, some 44), (1, none), (5, none)]))]⟩
def z2p (k : Nat) : Calls' D := ⟨[], [], [], [], []⟩
theorem z2q (k : Nat) : CallsOK X (z2p k) := .nil cod
def z2r (x : (List IPiece) × Int × Int × Unit) (o : Oc (Unit) (Int)) (Q : Ex → VSt D → Prop) (R : VR D → Prop) : Prop := ocP o (fun v0 => Q .normal (mkSt ⟨[], []⟩ [])) (fun w0 => R (.p (.c (.int .i64 w0))))
def z2s (k : Nat) : Cut D := cutS ⟨[(0, .hole), (1, .hole), (5, .hole)], []⟩ [.kl 44, .ki .i64, .ki .i64] (fun (x : (List IPiece) × Int × Int × Unit) => S_l10Byte_b0 k k x.1 x.2.1 x.2.2.1) z2r
def z2t (k : Nat) : Cuts D := ⟨[], []⟩
theorem z2u (k : Nat) : CutFor X z2o k Go.Proofs.Try.f42.results.toList (z2s k) (sub (bodyOf Go.Proofs.Try.f42) [1, 0, 1]) :=
  loopCut_s (X := X) (sg := [.kl 44, .ki .i64, .ki .i64]) (cu := z2t k) (cl := z2p k) (tys := [[0]]) (id := 0) (c := sub (bodyOf Go.Proofs.Try.f42) [1, 0, 1, 0, 0]) (f := fun n => fun (x : (List IPiece) × Int × Int × Unit) => S_l10Byte_b0 k n x.1 x.2.1 x.2.2.1) (z2q k) (cutOK_of (l := []) (by kernel_rfl) trivial) (fun _ => rfl) (fun n x Q R h => by
    simp only [S_l10Byte_b0, optK_bind, optK_bif, optK_pure, optK_none, optK_oc, optK_guardT, optK_map] at h
    refine hold_of h ?_
    kernel_rfl) (by kernel_rfl)
def z2v (k : Nat) : Cuts D := ⟨[(0, some (z2s k))], []⟩
def z2w : List Ar := [.c (.kl 44), .c (.ki .i64)]
def z2x (k : Nat) (x : TupA D z2w) : Option (Int) := S_l10Byte k x.1 x.2.1
def z2y (r : Int) : VR D := .p (.c (.int .i64 r))
theorem z2z (k : Nat) : Does P X 42 z2w (z2x k) z2y :=
  does_of (body := bodyOf Go.Proofs.Try.f42) (pl := z2o) (k := k) (cu := z2v k) (tys := [[0]]) (z2q k) ctx mixed Go.Proofs.Try.func42 (by kernel_rfl) (by kernel_rfl) (cutOK_of (l := [(z2s k, sub (bodyOf Go.Proofs.Try.f42) [1, 0, 1])]) (by kernel_rfl) ⟨z2u k, trivial⟩) fun x R h => by
    simp only [z2x, S_l10Byte, optK_bind, optK_bif, optK_pure, optK_none, optK_oc, optK_guardT, optK_map] at h
    refine hold_of h ?_
    kernel_rfl
def z30 (k : Nat) : Entry D := entS z2w (z2x k) z2y
theorem z31 (k : Nat) : EntryOK X 42 (z30 k) := (z2z k).en rfl
def z32 : Plan := ⟨[(0, [(0, none), (1, none)]), (1, [(0, none), (1, none), (7, none)]), (2, [(4, none)]), (3, [(4, none)])],
  [],
  [(7, ([(1, none)], [(0, none)]))]⟩
def z33 (k : Nat) : Calls' D := ⟨[], [], [], [], []⟩
theorem z34 (k : Nat) : CallsOK X (z33 k) := .nil cod
def z35 (k : Nat) : Cuts D := ⟨[], []⟩
def z36 : List Ar := [.c (.ki .i64), .c (.ki .i64)]
def z37 (k : Nat) (x : TupA D z36) : Option (Int) := S_Min k x.1 x.2.1
def z38 (r : Int) : VR D := .p (.c (.int .i64 r))
theorem z39 (k : Nat) : Does P X 55 z36 (z37 k) z38 :=
  does_of (body := bodyOf Go.Proofs.Try.f55) (pl := z32) (k := k) (cu := z35 k) (tys := [[0]]) (z34 k) ctx mixed Go.Proofs.Try.func55 (by kernel_rfl) (by kernel_rfl) (cutOK_of (l := []) (by kernel_rfl) trivial) fun x R h => by
    simp only [z37, S_Min, optK_bind, optK_bif, optK_pure, optK_none, optK_oc, optK_guardT, optK_map] at h
    refine hold_of h ?_
    kernel_rfl
def z3a (k : Nat) : Entry D := entS z36 (z37 k) z38
theorem z3b (k : Nat) : EntryOK X 55 (z3a k) := (z39 k).en rfl
def z3c : Plan := ⟨[(0, [(0, none), (1, none)]), (1, [(0, none), (1, none), (7, none)]), (2, [(4, none)]), (3, [(4, none)])],
  [],
  [(7, ([(1, none)], [(0, none)]))]⟩
def z3d (k : Nat) : Calls' D := ⟨[], [], [], [], []⟩
theorem z3e (k : Nat) : CallsOK X (z3d k) := .nil cod
def z3f (k : Nat) : Cuts D := ⟨[], []⟩
def z3g : List Ar := [.c (.ki .i64), .c (.ki .i64)]
def z3h (k : Nat) (x : TupA D z3g) : Option (Int) := S_Max k x.1 x.2.1
def z3i (r : Int) : VR D := .p (.c (.int .i64 r))
theorem z3j (k : Nat) : Does P X 56 z3g (z3h k) z3i :=
  does_of (body := bodyOf Go.Proofs.Try.f56) (pl := z3c) (k := k) (cu := z3f k) (tys := [[0]]) (z3e k) ctx mixed Go.Proofs.Try.func56 (by kernel_rfl) (by kernel_rfl) (cutOK_of (l := []) (by kernel_rfl) trivial) fun x R h => by
    simp only [z3h, S_Max, optK_bind, optK_bif, optK_pure, optK_none, optK_oc, optK_guardT, optK_map] at h
    refine hold_of h ?_
    kernel_rfl
def z3k (k : Nat) : Entry D := entS z3g (z3h k) z3i
theorem z3l (k : Nat) : EntryOK X 56 (z3k k) := (z3j k).en rfl
def z3m : Plan := ⟨[(0, [(0, some 26), (3, none)]), (1, [(0, some 26), (3, none), (28, none)]), (2, [(4, some 26)]), (3, [(0, some 26), (3, none), (5, some 26)]), (4, [(0, some 26), (3, none), (5, some 26), (6, none)]), (5, [(0, some 26), (3, none), (5, some 26), (6, none), (36, none)]), (6, [(0, some 26), (3, none), (5, some 26), (6, none)]), (7, [(0, some 26), (3, none), (5, some 26), (6, none), (46, none)]), (8, [(0, some 26), (3, none), (5, some 26), (6, none)]), (9, [(0, some 26), (3, none), (5, some 26), (7, none)]), (10, [(0, some 26), (3, none), (5, some 26), (7, none), (57, none)]), (11, [(0, some 26), (3, none), (5, some 26), (7, none)]), (12, [(0, some 26), (3, none), (5, some 26), (7, none), (77, none)]), (13, [(0, some 26), (3, none), (5, some 26), (7, none)]), (14, [(0, some 26), (3, none), (5, some 26)]), (15, [(0, some 26), (3, none), (5, some 26), (8, none)]), (16, [(0, some 26), (3, none), (5, some 26), (8, none), (102, none)]), (17, [(0, some 26), (3, none), (5, some 26), (8, none)]), (18, [(0, some 26), (3, none), (5, some 26), (8, none), (112, none)]), (19, [(0, some 26), (3, none), (5, some 26), (8, none)]), (20, [(4, some 26)])],
  [(0, [(0, some 26), (3, none), (5, some 26)]), (1, [(0, some 26), (3, none), (5, some 26), (6, none)]), (2, [(0, some 26), (3, none), (5, some 26)]), (3, [(0, some 26), (3, none), (5, some 26), (7, none)]), (4, [(5, some 26)]), (5, [(0, some 26), (3, none), (5, some 26), (8, none)])],
  [(28, ([(0, some 26)], [(0, some 26), (3, none)])), (36, ([(0, some 26), (3, none), (5, some 26), (6, none)], [(0, some 26), (3, none), (5, some 26)])), (46, ([(0, some 26), (3, none), (5, some 26), (6, none)], [(0, some 26), (3, none), (5, some 26), (6, none)])), (57, ([(0, some 26), (3, none), (5, some 26), (7, none)], [(0, some 26), (3, none), (5, some 26)])), (77, ([(0, some 26), (3, none), (5, some 26), (7, none)], [(0, some 26), (3, none), (5, some 26), (7, none)])), (102, ([(0, some 26), (3, none), (5, some 26), (8, none)], [(5, some 26)])), (112, ([(0, some 26), (3, none), (5, some 26), (8, none)], [(0, some 26), (3, none), (5, some 26), (8, none)]))]⟩
def z3n (k : Nat) : Calls' D := ⟨[(11, z2c k), (55, z3a k), (56, z3k k)], [], [], [], []⟩
theorem z3o (k : Nat) : CallsOK X (z3n k) := .cons (z2d k) (.cons (z3b k) (.cons (z3l k) (.nil cod)))
def z3p (x : (List ISpan) × Int × Bool × Int × Int × (List ISpan) × Unit) (o : (List ISpan)) (Q : Ex → VSt D → Prop) (R : VR D → Prop) : Prop := Q .normal (mkSt ⟨[(0, .hole), (3, .ptr 3 0), (5, .ref 500005), (6, .hole)], [(3, .var [.hole, .hole]), (500005, .row)]⟩ [.sl 26 x.1, .int .i64 x.2.1, .int .i64 x.2.2.2.1, .int .i64 x.2.2.2.2.1, .sl 26 o])
def z3q (k : Nat) : Cut D := cutS ⟨[(0, .hole), (3, .ptr 3 0), (5, .ref 500005), (6, .hole), (46, .hole)], [(3, .var [.hole, .hole]), (500005, .row)]⟩ [.kl 26, .ki .i64, .kb, .ki .i64, .ki .i64, .kl 26] (fun (x : (List ISpan) × Int × Bool × Int × Int × (List ISpan) × Unit) => S_AddSpan_c46 k x.1 x.2.1 x.2.2.1 x.2.2.2.1 x.2.2.2.2.1 x.2.2.2.2.2.1) z3p
def z3r (k : Nat) : Cuts D := ⟨[], []⟩
theorem z3s (k : Nat) : CutFor X z3m k Go.Proofs.Try.f43.results.toList (z3q k) (sub (bodyOf Go.Proofs.Try.f43) [1, 1, 1, 0, 1, 0, 0, 1, 0, 0, 1]) :=
  joinCut_s (X := X) (sg := [.kl 26, .ki .i64, .kb, .ki .i64, .ki .i64, .kl 26]) (cu := z3r k) (cl := z3n k) (tys := [[26]]) (z3o k) (cutOK_of (l := []) (by kernel_rfl) trivial) fun x Q R h => by
    simp only [S_AddSpan_c46, optK_bind, optK_bif, optK_pure, optK_none, optK_oc, optK_guardT, optK_map] at h
    refine hold_of h ?_
    kernel_rfl
def z3t (x : (List ISpan) × Int × Int × Int × (List ISpan) × Unit) (o : (List ISpan)) (Q : Ex → VSt D → Prop) (R : VR D → Prop) : Prop := Q .normal (mkSt ⟨[(0, .hole), (3, .ptr 3 0), (5, .ref 500005), (6, .hole)], [(3, .var [.hole, .hole]), (500005, .row)]⟩ [.sl 26 x.1, .int .i64 x.2.1, .int .i64 x.2.2.1, .int .i64 x.2.2.2.1, .sl 26 o])
def z3u (k : Nat) : Cut D := cutS ⟨[(0, .hole), (3, .ptr 3 0), (5, .ref 500005), (6, .hole)], [(3, .var [.hole, .hole]), (500005, .row)]⟩ [.kl 26, .ki .i64, .ki .i64, .ki .i64, .kl 26] (fun (x : (List ISpan) × Int × Int × Int × (List ISpan) × Unit) => S_AddSpan_b1 k x.1 x.2.1 x.2.2.1 x.2.2.2.1 x.2.2.2.2.1) z3t
def z3v (k : Nat) : Cuts D := ⟨[], [(46, some (z3q k))]⟩
theorem z3w (k : Nat) : CutFor X z3m k Go.Proofs.Try.f43.results.toList (z3u k) (sub (bodyOf Go.Proofs.Try.f43) [1, 1, 1, 0, 1, 0, 0, 1, 0]) :=
  joinCut_s (X := X) (sg := [.kl 26, .ki .i64, .ki .i64, .ki .i64, .kl 26]) (cu := z3v k) (cl := z3n k) (tys := [[26]]) (z3o k) (cutOK_of (l := [(z3q k, sub (bodyOf Go.Proofs.Try.f43) [1, 1, 1, 0, 1, 0, 0, 1, 0, 0, 1])]) (by kernel_rfl) ⟨z3s k, trivial⟩) fun x Q R h => by
    simp only [S_AddSpan_b1, optK_bind, optK_bif, optK_pure, optK_none, optK_oc, optK_guardT, optK_map] at h
    refine hold_of h ?_
    kernel_rfl
def z3x (x : (List ISpan) × Int × Int × Int × (List ISpan) × Unit) (o : (List ISpan)) (Q : Ex → VSt D → Prop) (R : VR D → Prop) : Prop := Q .normal (mkSt ⟨[(0, .hole), (3, .ptr 3 0), (5, .ref 500005)], [(3, .var [.hole, .hole]), (500005, .row)]⟩ [.sl 26 x.1, .int .i64 x.2.2.1, .int .i64 x.2.2.2.1, .sl 26 o])
def z3y (k : Nat) : Cut D := cutS ⟨[(0, .hole), (3, .ptr 3 0), (5, .ref 500005), (6, .hole)], [(3, .var [.hole, .hole]), (500005, .row)]⟩ [.kl 26, .ki .i64, .ki .i64, .ki .i64, .kl 26] (fun (x : (List ISpan) × Int × Int × Int × (List ISpan) × Unit) => S_AddSpan_b0 k k x.1 x.2.1 x.2.2.1 x.2.2.2.1 x.2.2.2.2.1) z3x
def z3z (k : Nat) : Cuts D := ⟨[(1, some (z3u k))], []⟩
theorem z40 (k : Nat) : CutFor X z3m k Go.Proofs.Try.f43.results.toList (z3y k) (sub (bodyOf Go.Proofs.Try.f43) [1, 1, 1, 0, 1]) :=
  loopCut_s (X := X) (sg := [.kl 26, .ki .i64, .ki .i64, .ki .i64, .kl 26]) (cu := z3z k) (cl := z3n k) (tys := [[26]]) (id := 0) (c := sub (bodyOf Go.Proofs.Try.f43) [1, 1, 1, 0, 1, 0, 0]) (f := fun n => fun (x : (List ISpan) × Int × Int × Int × (List ISpan) × Unit) => S_AddSpan_b0 k n x.1 x.2.1 x.2.2.1 x.2.2.2.1 x.2.2.2.2.1) (z3o k) (cutOK_of (l := [(z3u k, sub (bodyOf Go.Proofs.Try.f43) [1, 1, 1, 0, 1, 0, 0, 1, 0])]) (by kernel_rfl) ⟨z3w k, trivial⟩) (fun _ => rfl) (fun n x Q R h => by
    simp only [S_AddSpan_b0, optK_bind, optK_bif, optK_pure, optK_none, optK_oc, optK_guardT, optK_map] at h
    refine hold_of h ?_
    kernel_rfl) (by kernel_rfl)
def z41 (x : (List ISpan) × Int × Bool × Int × Int × (List ISpan) × Unit) (o : Int × Int) (Q : Ex → VSt D → Prop) (R : VR D → Prop) : Prop := Q .normal (mkSt ⟨[(0, .hole), (3, .ptr 3 0), (5, .ref 500005), (7, .hole)], [(3, .var [.hole, .hole]), (500005, .row)]⟩ [.sl 26 x.1, .int .i64 x.2.1, .int .i64 o.1, .int .i64 o.2, .sl 26 x.2.2.2.2.2.1])
def z42 (k : Nat) : Cut D := cutS ⟨[(0, .hole), (3, .ptr 3 0), (5, .ref 500005), (7, .hole), (77, .hole)], [(3, .var [.hole, .hole]), (500005, .row)]⟩ [.kl 26, .ki .i64, .kb, .ki .i64, .ki .i64, .kl 26] (fun (x : (List ISpan) × Int × Bool × Int × Int × (List ISpan) × Unit) => S_AddSpan_c77 k x.1 x.2.1 x.2.2.1 x.2.2.2.1 x.2.2.2.2.1 x.2.2.2.2.2.1) z41
def z43 (k : Nat) : Cuts D := ⟨[], []⟩
theorem z44 (k : Nat) : CutFor X z3m k Go.Proofs.Try.f43.results.toList (z42 k) (sub (bodyOf Go.Proofs.Try.f43) [1, 1, 1, 1, 0, 1, 0, 0, 1, 0, 0, 1]) :=
  joinCut_s (X := X) (sg := [.kl 26, .ki .i64, .kb, .ki .i64, .ki .i64, .kl 26]) (cu := z43 k) (cl := z3n k) (tys := [[26]]) (z3o k) (cutOK_of (l := []) (by kernel_rfl) trivial) fun x Q R h => by
    simp only [S_AddSpan_c77, optK_bind, optK_bif, optK_pure, optK_none, optK_oc, optK_guardT, optK_map] at h
    refine hold_of h ?_
    kernel_rfl
def z45 (x : (List ISpan) × Int × Int × Int × (List ISpan) × Unit) (o : Int × Int) (Q : Ex → VSt D → Prop) (R : VR D → Prop) : Prop := Q .normal (mkSt ⟨[(0, .hole), (3, .ptr 3 0), (5, .ref 500005), (7, .hole)], [(3, .var [.hole, .hole]), (500005, .row)]⟩ [.sl 26 x.1, .int .i64 x.2.1, .int .i64 o.1, .int .i64 o.2, .sl 26 x.2.2.2.2.1])
def z46 (k : Nat) : Cut D := cutS ⟨[(0, .hole), (3, .ptr 3 0), (5, .ref 500005), (7, .hole)], [(3, .var [.hole, .hole]), (500005, .row)]⟩ [.kl 26, .ki .i64, .ki .i64, .ki .i64, .kl 26] (fun (x : (List ISpan) × Int × Int × Int × (List ISpan) × Unit) => S_AddSpan_b3 k x.1 x.2.1 x.2.2.1 x.2.2.2.1 x.2.2.2.2.1) z45
def z47 (k : Nat) : Cuts D := ⟨[], [(77, some (z42 k))]⟩
theorem z48 (k : Nat) : CutFor X z3m k Go.Proofs.Try.f43.results.toList (z46 k) (sub (bodyOf Go.Proofs.Try.f43) [1, 1, 1, 1, 0, 1, 0, 0, 1, 0]) :=
  joinCut_s (X := X) (sg := [.kl 26, .ki .i64, .ki .i64, .ki .i64, .kl 26]) (cu := z47 k) (cl := z3n k) (tys := [[26]]) (z3o k) (cutOK_of (l := [(z42 k, sub (bodyOf Go.Proofs.Try.f43) [1, 1, 1, 1, 0, 1, 0, 0, 1, 0, 0, 1])]) (by kernel_rfl) ⟨z44 k, trivial⟩) fun x Q R h => by
    simp only [S_AddSpan_b3, optK_bind, optK_bif, optK_pure, optK_none, optK_oc, optK_guardT, optK_map] at h
    refine hold_of h ?_
    kernel_rfl
def z49 (x : (List ISpan) × Int × Int × Int × (List ISpan) × Unit) (o : Int × Int) (Q : Ex → VSt D → Prop) (R : VR D → Prop) : Prop := Q .normal (mkSt ⟨[(0, .hole), (3, .ptr 3 0), (5, .ref 500005)], [(3, .var [.hole, .hole]), (500005, .row)]⟩ [.sl 26 x.1, .int .i64 o.1, .int .i64 o.2, .sl 26 x.2.2.2.2.1])
def z4a (k : Nat) : Cut D := cutS ⟨[(0, .hole), (3, .ptr 3 0), (5, .ref 500005), (7, .hole)], [(3, .var [.hole, .hole]), (500005, .row)]⟩ [.kl 26, .ki .i64, .ki .i64, .ki .i64, .kl 26] (fun (x : (List ISpan) × Int × Int × Int × (List ISpan) × Unit) => S_AddSpan_b2 k k x.1 x.2.1 x.2.2.1 x.2.2.2.1 x.2.2.2.2.1) z49
def z4b (k : Nat) : Cuts D := ⟨[(3, some (z46 k))], []⟩
theorem z4c (k : Nat) : CutFor X z3m k Go.Proofs.Try.f43.results.toList (z4a k) (sub (bodyOf Go.Proofs.Try.f43) [1, 1, 1, 1, 0, 1]) :=
  loopCut_s (X := X) (sg := [.kl 26, .ki .i64, .ki .i64, .ki .i64, .kl 26]) (cu := z4b k) (cl := z3n k) (tys := [[26]]) (id := 2) (c := sub (bodyOf Go.Proofs.Try.f43) [1, 1, 1, 1, 0, 1, 0, 0]) (f := fun n => fun (x : (List ISpan) × Int × Int × Int × (List ISpan) × Unit) => S_AddSpan_b2 k n x.1 x.2.1 x.2.2.1 x.2.2.2.1 x.2.2.2.2.1) (z3o k) (cutOK_of (l := [(z46 k, sub (bodyOf Go.Proofs.Try.f43) [1, 1, 1, 1, 0, 1, 0, 0, 1, 0])]) (by kernel_rfl) ⟨z48 k, trivial⟩) (fun _ => rfl) (fun n x Q R h => by
    simp only [S_AddSpan_b2, optK_bind, optK_bif, optK_pure, optK_none, optK_oc, optK_guardT, optK_map] at h
    refine hold_of h ?_
    kernel_rfl) (by kernel_rfl)
def z4d (x : (List ISpan) × Int × Bool × Int × Int × (List ISpan) × Unit) (o : (List ISpan)) (Q : Ex → VSt D → Prop) (R : VR D → Prop) : Prop := Q .normal (mkSt ⟨[(0, .hole), (3, .ptr 3 0), (5, .ref 500005), (8, .hole)], [(3, .var [.hole, .hole]), (500005, .row)]⟩ [.sl 26 x.1, .int .i64 x.2.1, .int .i64 x.2.2.2.1, .int .i64 x.2.2.2.2.1, .sl 26 o])
def z4e (k : Nat) : Cut D := cutS ⟨[(0, .hole), (3, .ptr 3 0), (5, .ref 500005), (8, .hole), (112, .hole)], [(3, .var [.hole, .hole]), (500005, .row)]⟩ [.kl 26, .ki .i64, .kb, .ki .i64, .ki .i64, .kl 26] (fun (x : (List ISpan) × Int × Bool × Int × Int × (List ISpan) × Unit) => S_AddSpan_c112 k x.1 x.2.1 x.2.2.1 x.2.2.2.1 x.2.2.2.2.1 x.2.2.2.2.2.1) z4d
def z4f (k : Nat) : Cuts D := ⟨[], []⟩
theorem z4g (k : Nat) : CutFor X z3m k Go.Proofs.Try.f43.results.toList (z4e k) (sub (bodyOf Go.Proofs.Try.f43) [1, 1, 1, 1, 1, 1, 0, 1, 0, 0, 1, 0, 0, 1]) :=
  joinCut_s (X := X) (sg := [.kl 26, .ki .i64, .kb, .ki .i64, .ki .i64, .kl 26]) (cu := z4f k) (cl := z3n k) (tys := [[26]]) (z3o k) (cutOK_of (l := []) (by kernel_rfl) trivial) fun x Q R h => by
    simp only [S_AddSpan_c112, optK_bind, optK_bif, optK_pure, optK_none, optK_oc, optK_guardT, optK_map] at h
    refine hold_of h ?_
    kernel_rfl
def z4h (x : (List ISpan) × Int × Int × Int × (List ISpan) × Unit) (o : (List ISpan)) (Q : Ex → VSt D → Prop) (R : VR D → Prop) : Prop := Q .normal (mkSt ⟨[(0, .hole), (3, .ptr 3 0), (5, .ref 500005), (8, .hole)], [(3, .var [.hole, .hole]), (500005, .row)]⟩ [.sl 26 x.1, .int .i64 x.2.1, .int .i64 x.2.2.1, .int .i64 x.2.2.2.1, .sl 26 o])
def z4i (k : Nat) : Cut D := cutS ⟨[(0, .hole), (3, .ptr 3 0), (5, .ref 500005), (8, .hole)], [(3, .var [.hole, .hole]), (500005, .row)]⟩ [.kl 26, .ki .i64, .ki .i64, .ki .i64, .kl 26] (fun (x : (List ISpan) × Int × Int × Int × (List ISpan) × Unit) => S_AddSpan_b5 k x.1 x.2.1 x.2.2.1 x.2.2.2.1 x.2.2.2.2.1) z4h
def z4j (k : Nat) : Cuts D := ⟨[], [(112, some (z4e k))]⟩
theorem z4k (k : Nat) : CutFor X z3m k Go.Proofs.Try.f43.results.toList (z4i k) (sub (bodyOf Go.Proofs.Try.f43) [1, 1, 1, 1, 1, 1, 0, 1, 0, 0, 1, 0]) :=
  joinCut_s (X := X) (sg := [.kl 26, .ki .i64, .ki .i64, .ki .i64, .kl 26]) (cu := z4j k) (cl := z3n k) (tys := [[26]]) (z3o k) (cutOK_of (l := [(z4e k, sub (bodyOf Go.Proofs.Try.f43) [1, 1, 1, 1, 1, 1, 0, 1, 0, 0, 1, 0, 0, 1])]) (by kernel_rfl) ⟨z4g k, trivial⟩) fun x Q R h => by
    simp only [S_AddSpan_b5, optK_bind, optK_bif, optK_pure, optK_none, optK_oc, optK_guardT, optK_map] at h
    refine hold_of h ?_
    kernel_rfl
def z4l (x : (List ISpan) × Int × Int × Int × (List ISpan) × Unit) (o : (List ISpan)) (Q : Ex → VSt D → Prop) (R : VR D → Prop) : Prop := Q .normal (mkSt ⟨[(5, .ref 500005)], [(500005, .row)]⟩ [.sl 26 o])
def z4m (k : Nat) : Cut D := cutS ⟨[(0, .hole), (3, .ptr 3 0), (5, .ref 500005), (8, .hole)], [(3, .var [.hole, .hole]), (500005, .row)]⟩ [.kl 26, .ki .i64, .ki .i64, .ki .i64, .kl 26] (fun (x : (List ISpan) × Int × Int × Int × (List ISpan) × Unit) => S_AddSpan_b4 k k x.1 x.2.1 x.2.2.1 x.2.2.2.1 x.2.2.2.2.1) z4l
def z4n (k : Nat) : Cuts D := ⟨[(5, some (z4i k))], []⟩
theorem z4o (k : Nat) : CutFor X z3m k Go.Proofs.Try.f43.results.toList (z4m k) (sub (bodyOf Go.Proofs.Try.f43) [1, 1, 1, 1, 1, 1, 0, 1]) :=
  loopCut_s (X := X) (sg := [.kl 26, .ki .i64, .ki .i64, .ki .i64, .kl 26]) (cu := z4n k) (cl := z3n k) (tys := [[26]]) (id := 4) (c := sub (bodyOf Go.Proofs.Try.f43) [1, 1, 1, 1, 1, 1, 0, 1, 0, 0]) (f := fun n => fun (x : (List ISpan) × Int × Int × Int × (List ISpan) × Unit) => S_AddSpan_b4 k n x.1 x.2.1 x.2.2.1 x.2.2.2.1 x.2.2.2.2.1) (z3o k) (cutOK_of (l := [(z4i k, sub (bodyOf Go.Proofs.Try.f43) [1, 1, 1, 1, 1, 1, 0, 1, 0, 0, 1, 0])]) (by kernel_rfl) ⟨z4k k, trivial⟩) (fun _ => rfl) (fun n x Q R h => by
    simp only [S_AddSpan_b4, optK_bind, optK_bif, optK_pure, optK_none, optK_oc, optK_guardT, optK_map] at h
    refine hold_of h ?_
    kernel_rfl) (by kernel_rfl)
def z4p (k : Nat) : Cuts D := ⟨[(0, some (z3y k)), (2, some (z4a k)), (4, some (z4m k))], []⟩
def z4q : List Ar := [.c (.kl 26), .a [.ki .i64, .ki .i64]]
def z4r (k : Nat) (x : TupA D z4q) : Option ((List ISpan)) := S_AddSpan k x.1 (⟨x.2.1.1, x.2.1.2.1⟩ : ISpan)
def z4s (r : (List ISpan)) : VR D := .p (.c (.sl 26 r))
theorem z4t (k : Nat) : Does P X 43 z4q (z4r k) z4s :=
  does_of (body := bodyOf Go.Proofs.Try.f43) (pl := z3m) (k := k) (cu := z4p k) (tys := [[26]]) (z3o k) ctx mixed Go.Proofs.Try.func43 (by kernel_rfl) (by kernel_rfl) (cutOK_of (l := [(z3y k, sub (bodyOf Go.Proofs.Try.f43) [1, 1, 1, 0, 1]), (z4a k, sub (bodyOf Go.Proofs.Try.f43) [1, 1, 1, 1, 0, 1]), (z4m k, sub (bodyOf Go.Proofs.Try.f43) [1, 1, 1, 1, 1, 1, 0, 1])]) (by kernel_rfl) ⟨z40 k, z4c k, z4o k, trivial⟩) fun x R h => by
    simp only [z4r, S_AddSpan, optK_bind, optK_bif, optK_pure, optK_none, optK_oc, optK_guardT, optK_map] at h
    refine hold_of h ?_
    kernel_rfl
def z4u (k : Nat) : Entry D := entS z4q (z4r k) z4s
theorem z4v (k : Nat) : EntryOK X 43 (z4u k) := (z4t k).en rfl
def z4w : Plan := ⟨[(0, [(0, some 44), (1, none), (5, none)]), (1, [(0, some 44), (1, none), (5, none), (8, some 44)]), (2, [(0, some 44), (1, none), (5, none), (8, some 44), (9, none)]), (3, [(0, some 44), (5, none), (8, some 44), (9, none), (58, none)]), (4, [(6, some 44), (7, none)]), (5, [(0, some 44), (5, none), (8, some 44), (9, none), (10, none)]), (6, [(0, some 44), (5, none), (8, some 44), (9, none), (10, none), (64, none)]), (7, [(0, some 44), (5, none), (8, some 44), (9, none), (10, none)]), (8, [(0, some 44), (5, none), (8, some 44), (9, none), (10, none), (11, none)]), (9, [(0, some 44), (5, none), (8, some 44), (9, none), (10, none), (83, none)]), (10, [(6, some 44), (7, none)]), (11, [(0, some 44), (5, none), (8, some 44), (12, some 26)]), (12, [(0, some 44), (5, none), (8, some 44), (12, some 26), (94, none)]), (13, [(6, some 44), (7, none)]), (14, [(0, some 44), (5, none), (12, some 26), (13, some 44)]), (15, [(0, some 44), (5, none), (12, some 26), (13, some 44), (14, none)]), (16, [(0, some 44), (5, none), (12, some 26), (13, some 44), (14, none), (100, none)]), (17, [(0, some 44), (5, none), (12, some 26), (13, some 44), (14, none)]), (18, [(0, some 44), (5, none), (12, some 26), (13, some 44), (14, none), (15, some 5)]), (19, [(0, some 44), (5, none), (12, some 26), (13, some 44), (14, none), (15, some 5), (16, none)]), (20, [(0, some 44), (5, none), (12, some 26), (13, some 44), (14, none), (15, some 5), (16, none), (115, none)]), (21, [(0, some 44), (5, none), (12, some 26), (13, some 44), (14, none), (15, some 5), (16, none)]), (22, [(0, some 44), (5, none), (12, some 26), (13, some 44), (14, none), (15, some 5), (16, none), (17, none)]), (23, [(0, some 44), (5, none), (12, some 26), (13, some 44), (14, none), (15, some 5), (16, none), (17, none), (122, none)]), (24, [(0, some 44), (5, none), (12, some 26), (13, some 44), (14, none), (15, some 5), (16, none), (17, none)]), (25, [(0, some 44), (5, none), (12, some 26), (13, some 44), (14, none), (15, some 5), (16, none)]), (26, [(0, some 44), (5, none), (12, some 26), (13, some 44), (14, none)]), (27, [(6, some 44), (7, none)])],
  [(0, [(0, some 44), (5, none), (8, some 44), (9, none)]), (1, [(0, some 44), (5, none), (8, some 44), (9, none), (10, none)]), (2, [(13, some 44)]), (3, [(0, some 44), (5, none), (12, some 26), (13, some 44), (14, none)]), (4, [(0, some 44), (5, none), (12, some 26), (13, some 44), (14, none), (15, some 5)]), (5, [(0, some 44), (5, none), (12, some 26), (13, some 44), (14, none), (15, some 5), (16, none)])],
  [(58, ([(8, some 44)], [(0, some 44), (5, none), (8, some 44), (9, none)])), (64, ([(0, some 44), (5, none), (8, some 44), (9, none), (10, none)], [(0, some 44), (5, none), (8, some 44), (9, none)])), (83, ([(8, some 44)], [(0, some 44), (5, none), (8, some 44), (9, none), (10, none)])), (94, ([(8, some 44)], [(0, some 44), (5, none), (12, some 26)])), (100, ([(0, some 44), (5, none), (12, some 26), (13, some 44), (14, none)], [(13, some 44)])), (115, ([(0, some 44), (5, none), (12, some 26), (13, some 44), (14, none), (15, some 5), (16, none)], [(0, some 44), (5, none), (12, some 26), (13, some 44), (14, none), (15, some 5)])), (122, ([(0, some 44), (5, none), (12, some 26), (13, some 44), (14, none), (15, some 5), (16, none)], [(0, some 44), (5, none), (12, some 26), (13, some 44), (14, none), (15, some 5), (16, none), (17, none)]))]⟩
def z4x (k : Nat) : Calls' D := ⟨[(29, z2m k), (42, z30 k), (44, z1o k), (43, z4u k)], [], [], [], []⟩
theorem z4y (k : Nat) : CallsOK X (z4x k) := .cons (z2n k) (.cons (z31 k) (.cons (z1p k) (.cons (z4v k) (.nil cod))))
def z4z (x : (List IPiece) × Int × Int × Int × (List UInt8) × (List IPiece) × Unit) (o : Oc (Unit) ((List IPiece) × Bool)) (Q : Ex → VSt D → Prop) (R : VR D → Prop) : Prop := ocP o (fun v0 => Q .normal (mkSt ⟨[(0, .hole), (5, .ptr 5 0), (8, .ref 500008), (9, .hole)], [(5, .var [.hole, .hole]), (500008, .row)]⟩ [.sl 44 x.1, .int .i64 x.2.1, .int .i64 x.2.2.2.1, .str x.2.2.2.2.1, .sl 44 x.2.2.2.2.2.1])) (fun w0 => R (.tup [.c (.sl 44 w0.1), .c (.bool w0.2)]))
def z50 (k : Nat) : Cut D := cutS ⟨[(0, .hole), (5, .ptr 5 0), (8, .ref 500008), (9, .hole), (10, .hole)], [(5, .var [.hole, .hole]), (500008, .row)]⟩ [.kl 44, .ki .i64, .ki .i64, .ki .i64, .ks, .kl 44] (fun (x : (List IPiece) × Int × Int × Int × (List UInt8) × (List IPiece) × Unit) => S_AddPiece_b0 k k x.1 x.2.1 x.2.2.1 x.2.2.2.1 x.2.2.2.2.1 x.2.2.2.2.2.1) z4z
def z51 (k : Nat) : Cuts D := ⟨[], []⟩
theorem z52 (k : Nat) : CutFor X z4w k Go.Proofs.Try.f20.results.toList (z50 k) (sub (bodyOf Go.Proofs.Try.f20) [1, 1, 1, 1, 0, 1]) :=
  loopCut_s (X := X) (sg := [.kl 44, .ki .i64, .ki .i64, .ki .i64, .ks, .kl 44]) (cu := z51 k) (cl := z4x k) (tys := [[44], [0]]) (id := 0) (c := sub (bodyOf Go.Proofs.Try.f20) [1, 1, 1, 1, 0, 1, 0, 0]) (f := fun n => fun (x : (List IPiece) × Int × Int × Int × (List UInt8) × (List IPiece) × Unit) => S_AddPiece_b0 k n x.1 x.2.1 x.2.2.1 x.2.2.2.1 x.2.2.2.2.1 x.2.2.2.2.2.1) (z4y k) (cutOK_of (l := []) (by kernel_rfl) trivial) (fun _ => rfl) (fun n x Q R h => by
    simp only [S_AddPiece_b0, optK_bind, optK_bif, optK_pure, optK_none, optK_oc, optK_guardT, optK_map] at h
    refine hold_of h ?_
    kernel_rfl) (by kernel_rfl)
def z53 (x : (List IPiece) × Int × Int × Int × Bool × Int × (List UInt8) × (List ISpan) × (List IPiece) × (List Int) × Unit) (o : Int) (Q : Ex → VSt D → Prop) (R : VR D → Prop) : Prop := Q .normal (mkSt ⟨[(0, .hole), (5, .ptr 5 0), (12, .ref 500012), (13, .ref 500013), (14, .hole), (15, .ref 500015), (16, .hole), (17, .hole)], [(5, .var [.hole, .hole]), (500012, .row), (500013, .row), (500015, .row)]⟩ [.sl 44 x.1, .int .i64 x.2.1, .int .i64 x.2.2.1, .int .i64 o, .int .i64 x.2.2.2.2.2.1, .str x.2.2.2.2.2.2.1, .sl 26 x.2.2.2.2.2.2.2.1, .sl 44 x.2.2.2.2.2.2.2.2.1, .sl 5 x.2.2.2.2.2.2.2.2.2.1])
def z54 (k : Nat) : Cut D := cutS ⟨[(0, .hole), (5, .ptr 5 0), (12, .ref 500012), (13, .ref 500013), (14, .hole), (15, .ref 500015), (16, .hole), (17, .hole), (122, .hole)], [(5, .var [.hole, .hole]), (500012, .row), (500013, .row), (500015, .row)]⟩ [.kl 44, .ki .i64, .ki .i64, .ki .i64, .kb, .ki .i64, .ks, .kl 26, .kl 44, .kl 5] (fun (x : (List IPiece) × Int × Int × Int × Bool × Int × (List UInt8) × (List ISpan) × (List IPiece) × (List Int) × Unit) => S_AddPiece_c122 k x.1 x.2.1 x.2.2.1 x.2.2.2.1 x.2.2.2.2.1 x.2.2.2.2.2.1 x.2.2.2.2.2.2.1 x.2.2.2.2.2.2.2.1 x.2.2.2.2.2.2.2.2.1 x.2.2.2.2.2.2.2.2.2.1) z53
def z55 (k : Nat) : Cuts D := ⟨[], []⟩
theorem z56 (k : Nat) : CutFor X z4w k Go.Proofs.Try.f20.results.toList (z54 k) (sub (bodyOf Go.Proofs.Try.f20) [1, 1, 1, 1, 1, 1, 1, 1, 0, 1, 0, 0, 1, 0, 0, 1, 0, 1, 0, 0, 1, 0, 0, 1, 0, 1]) :=
  joinCut_s (X := X) (sg := [.kl 44, .ki .i64, .ki .i64, .ki .i64, .kb, .ki .i64, .ks, .kl 26, .kl 44, .kl 5]) (cu := z55 k) (cl := z4x k) (tys := [[44], [0]]) (z4y k) (cutOK_of (l := []) (by kernel_rfl) trivial) fun x Q R h => by
    simp only [S_AddPiece_c122, optK_bind, optK_bif, optK_pure, optK_none, optK_oc, optK_guardT, optK_map] at h
    refine hold_of h ?_
    kernel_rfl
def z57 (x : (List IPiece) × Int × Int × Int × (List UInt8) × (List ISpan) × (List IPiece) × (List Int) × Unit) (o : (List Int)) (Q : Ex → VSt D → Prop) (R : VR D → Prop) : Prop := Q .normal (mkSt ⟨[(0, .hole), (5, .ptr 5 0), (12, .ref 500012), (13, .ref 500013), (14, .hole), (15, .ref 500015), (16, .hole)], [(5, .var [.hole, .hole]), (500012, .row), (500013, .row), (500015, .row)]⟩ [.sl 44 x.1, .int .i64 x.2.1, .int .i64 x.2.2.1, .int .i64 x.2.2.2.1, .str x.2.2.2.2.1, .sl 26 x.2.2.2.2.2.1, .sl 44 x.2.2.2.2.2.2.1, .sl 5 o])
def z58 (k : Nat) : Cut D := cutS ⟨[(0, .hole), (5, .ptr 5 0), (12, .ref 500012), (13, .ref 500013), (14, .hole), (15, .ref 500015), (16, .hole)], [(5, .var [.hole, .hole]), (500012, .row), (500013, .row), (500015, .row)]⟩ [.kl 44, .ki .i64, .ki .i64, .ki .i64, .ks, .kl 26, .kl 44, .kl 5] (fun (x : (List IPiece) × Int × Int × Int × (List UInt8) × (List ISpan) × (List IPiece) × (List Int) × Unit) => S_AddPiece_b5 k x.1 x.2.1 x.2.2.1 x.2.2.2.1 x.2.2.2.2.1 x.2.2.2.2.2.1 x.2.2.2.2.2.2.1 x.2.2.2.2.2.2.2.1) z57
def z59 (k : Nat) : Cuts D := ⟨[], [(122, some (z54 k))]⟩
theorem z5a (k : Nat) : CutFor X z4w k Go.Proofs.Try.f20.results.toList (z58 k) (sub (bodyOf Go.Proofs.Try.f20) [1, 1, 1, 1, 1, 1, 1, 1, 0, 1, 0, 0, 1, 0, 0, 1, 0, 1, 0, 0, 1, 0]) :=
  joinCut_s (X := X) (sg := [.kl 44, .ki .i64, .ki .i64, .ki .i64, .ks, .kl 26, .kl 44, .kl 5]) (cu := z59 k) (cl := z4x k) (tys := [[44], [0]]) (z4y k) (cutOK_of (l := [(z54 k, sub (bodyOf Go.Proofs.Try.f20) [1, 1, 1, 1, 1, 1, 1, 1, 0, 1, 0, 0, 1, 0, 0, 1, 0, 1, 0, 0, 1, 0, 0, 1, 0, 1])]) (by kernel_rfl) ⟨z56 k, trivial⟩) fun x Q R h => by
    simp only [S_AddPiece_b5, optK_bind, optK_bif, optK_pure, optK_none, optK_oc, optK_guardT, optK_map] at h
    refine hold_of h ?_
    kernel_rfl
def z5b (x : (List IPiece) × Int × Int × Int × (List UInt8) × (List ISpan) × (List IPiece) × (List Int) × Unit) (o : (List Int)) (Q : Ex → VSt D → Prop) (R : VR D → Prop) : Prop := Q .normal (mkSt ⟨[(0, .hole), (5, .ptr 5 0), (12, .ref 500012), (13, .ref 500013), (14, .hole), (15, .ref 500015)], [(5, .var [.hole, .hole]), (500012, .row), (500013, .row), (500015, .row)]⟩ [.sl 44 x.1, .int .i64 x.2.1, .int .i64 x.2.2.2.1, .str x.2.2.2.2.1, .sl 26 x.2.2.2.2.2.1, .sl 44 x.2.2.2.2.2.2.1, .sl 5 o])
def z5c (k : Nat) : Cut D := cutS ⟨[(0, .hole), (5, .ptr 5 0), (12, .ref 500012), (13, .ref 500013), (14, .hole), (15, .ref 500015), (16, .hole)], [(5, .var [.hole, .hole]), (500012, .row), (500013, .row), (500015, .row)]⟩ [.kl 44, .ki .i64, .ki .i64, .ki .i64, .ks, .kl 26, .kl 44, .kl 5] (fun (x : (List IPiece) × Int × Int × Int × (List UInt8) × (List ISpan) × (List IPiece) × (List Int) × Unit) => S_AddPiece_b4 k k x.1 x.2.1 x.2.2.1 x.2.2.2.1 x.2.2.2.2.1 x.2.2.2.2.2.1 x.2.2.2.2.2.2.1 x.2.2.2.2.2.2.2.1) z5b
def z5d (k : Nat) : Cuts D := ⟨[(5, some (z58 k))], []⟩
theorem z5e (k : Nat) : CutFor X z4w k Go.Proofs.Try.f20.results.toList (z5c k) (sub (bodyOf Go.Proofs.Try.f20) [1, 1, 1, 1, 1, 1, 1, 1, 0, 1, 0, 0, 1, 0, 0, 1, 0, 1]) :=
  loopCut_s (X := X) (sg := [.kl 44, .ki .i64, .ki .i64, .ki .i64, .ks, .kl 26, .kl 44, .kl 5]) (cu := z5d k) (cl := z4x k) (tys := [[44], [0]]) (id := 4) (c := sub (bodyOf Go.Proofs.Try.f20) [1, 1, 1, 1, 1, 1, 1, 1, 0, 1, 0, 0, 1, 0, 0, 1, 0, 1, 0, 0]) (f := fun n => fun (x : (List IPiece) × Int × Int × Int × (List UInt8) × (List ISpan) × (List IPiece) × (List Int) × Unit) => S_AddPiece_b4 k n x.1 x.2.1 x.2.2.1 x.2.2.2.1 x.2.2.2.2.1 x.2.2.2.2.2.1 x.2.2.2.2.2.2.1 x.2.2.2.2.2.2.2.1) (z4y k) (cutOK_of (l := [(z58 k, sub (bodyOf Go.Proofs.Try.f20) [1, 1, 1, 1, 1, 1, 1, 1, 0, 1, 0, 0, 1, 0, 0, 1, 0, 1, 0, 0, 1, 0])]) (by kernel_rfl) ⟨z5a k, trivial⟩) (fun _ => rfl) (fun n x Q R h => by
    simp only [S_AddPiece_b4, optK_bind, optK_bif, optK_pure, optK_none, optK_oc, optK_guardT, optK_map] at h
    refine hold_of h ?_
    kernel_rfl) (by kernel_rfl)
def z5f (x : (List IPiece) × Int × Int × (List UInt8) × (List ISpan) × (List IPiece) × Unit) (o : (List IPiece)) (Q : Ex → VSt D → Prop) (R : VR D → Prop) : Prop := Q .normal (mkSt ⟨[(13, .ref 500013)], [(500013, .row)]⟩ [.sl 44 o])
def z5g (k : Nat) : Cut D := cutS ⟨[(0, .hole), (5, .ptr 5 0), (12, .ref 500012), (13, .ref 500013), (14, .hole)], [(5, .var [.hole, .hole]), (500012, .row), (500013, .row)]⟩ [.kl 44, .ki .i64, .ki .i64, .ks, .kl 26, .kl 44] (fun (x : (List IPiece) × Int × Int × (List UInt8) × (List ISpan) × (List IPiece) × Unit) => S_AddPiece_b2 k k x.1 x.2.1 x.2.2.1 x.2.2.2.1 x.2.2.2.2.1 x.2.2.2.2.2.1) z5f
def z5h (k : Nat) : Cuts D := ⟨[(4, some (z5c k))], []⟩
theorem z5i (k : Nat) : CutFor X z4w k Go.Proofs.Try.f20.results.toList (z5g k) (sub (bodyOf Go.Proofs.Try.f20) [1, 1, 1, 1, 1, 1, 1, 1, 0, 1]) :=
  loopCut_s (X := X) (sg := [.kl 44, .ki .i64, .ki .i64, .ks, .kl 26, .kl 44]) (cu := z5h k) (cl := z4x k) (tys := [[44], [0]]) (id := 2) (c := sub (bodyOf Go.Proofs.Try.f20) [1, 1, 1, 1, 1, 1, 1, 1, 0, 1, 0, 0]) (f := fun n => fun (x : (List IPiece) × Int × Int × (List UInt8) × (List ISpan) × (List IPiece) × Unit) => S_AddPiece_b2 k n x.1 x.2.1 x.2.2.1 x.2.2.2.1 x.2.2.2.2.1 x.2.2.2.2.2.1) (z4y k) (cutOK_of (l := [(z5c k, sub (bodyOf Go.Proofs.Try.f20) [1, 1, 1, 1, 1, 1, 1, 1, 0, 1, 0, 0, 1, 0, 0, 1, 0, 1])]) (by kernel_rfl) ⟨z5e k, trivial⟩) (fun _ => rfl) (fun n x Q R h => by
    simp only [S_AddPiece_b2, optK_bind, optK_bif, optK_pure, optK_none, optK_oc, optK_guardT, optK_map] at h
    refine hold_of h ?_
    kernel_rfl) (by kernel_rfl)
def z5j (k : Nat) : Cuts D := ⟨[(0, some (z50 k)), (2, some (z5g k))], []⟩
def z5k : List Ar := [.c (.kl 44), .c (.ki .i64), .a [.ki .i64, .ks]]
def z5l (k : Nat) (x : TupA D z5k) : Option ((List IPiece) × Bool) := S_AddPiece k x.1 x.2.1 (⟨x.2.2.1.1, x.2.2.1.2.1⟩ : IPiece)
def z5m (r : (List IPiece) × Bool) : VR D := .tup [.c (.sl 44 r.1), .c (.bool r.2)]
theorem z5n (k : Nat) : Does P X 20 z5k (z5l k) z5m :=
  does_of (body := bodyOf Go.Proofs.Try.f20) (pl := z4w) (k := k) (cu := z5j k) (tys := [[44], [0]]) (z4y k) ctx mixed Go.Proofs.Try.func20 (by kernel_rfl) (by kernel_rfl) (cutOK_of (l := [(z50 k, sub (bodyOf Go.Proofs.Try.f20) [1, 1, 1, 1, 0, 1]), (z5g k, sub (bodyOf Go.Proofs.Try.f20) [1, 1, 1, 1, 1, 1, 1, 1, 0, 1])]) (by kernel_rfl) ⟨z52 k, z5i k, trivial⟩) fun x R h => by
    simp only [z5l, S_AddPiece, optK_bind, optK_bif, optK_pure, optK_none, optK_oc, optK_guardT, optK_map] at h
    refine hold_of h ?_
    kernel_rfl
def z5o (k : Nat) : Entry D := entS z5k (z5l k) z5m
theorem z5p (k : Nat) : EntryOK X 20 (z5o k) := (z5n k).en rfl
def z5q : Plan := ⟨[(0, [(0, some 44)]), (1, [(0, some 44), (3, some 26)]), (2, [(3, some 26), (7, some 44), (8, none), (9, none)]), (3, [(3, some 26), (7, some 44), (8, none), (9, none), (10, none)]), (4, [(3, some 26), (5, none), (7, some 44), (8, none), (9, none)]), (5, [(3, some 26), (7, some 44), (8, none), (9, none)]), (6, [(3, some 26), (7, some 44), (8, none), (9, none)]), (7, [(2, some 26)])],
  [(0, [(3, some 26)]), (1, [(3, some 26), (7, some 44), (8, none), (9, none)])],
  [(10, ([(3, some 26), (7, some 44), (8, none), (9, none)], [(3, some 26)]))]⟩
def z5r (k : Nat) : Calls' D := ⟨[], [], [], [], []⟩
theorem z5s (k : Nat) : CallsOK X (z5r k) := .nil cod
def z5t (x : (List IPiece) × Int × Int × (List ISpan) × Unit) (o : (List ISpan)) (Q : Ex → VSt D → Prop) (R : VR D → Prop) : Prop := Q .normal (mkSt ⟨[(3, .ref 500003)], [(500003, .row)]⟩ [.sl 26 o])
def z5u (k : Nat) : Cut D := cutS ⟨[(3, .ref 500003), (7, .hole), (8, .hole), (9, .hole)], [(500003, .row)]⟩ [.kl 44, .ki .i64, .ki .i64, .kl 26] (fun (x : (List IPiece) × Int × Int × (List ISpan) × Unit) => I_SpansOf_b0 k k x.1 x.2.1 x.2.2.1 x.2.2.2.1) z5t
def z5v (k : Nat) : Cuts D := ⟨[], []⟩
theorem z5w (k : Nat) : CutFor X z5q k Go.Proofs.Try.f30.results.toList (z5u k) (sub (bodyOf Go.Proofs.Try.f30) [1, 1, 0, 1]) :=
  loopCut_s (X := X) (sg := [.kl 44, .ki .i64, .ki .i64, .kl 26]) (cu := z5v k) (cl := z5r k) (tys := [[26]]) (id := 0) (c := sub (bodyOf Go.Proofs.Try.f30) [1, 1, 0, 1, 0, 0]) (f := fun n => fun (x : (List IPiece) × Int × Int × (List ISpan) × Unit) => I_SpansOf_b0 k n x.1 x.2.1 x.2.2.1 x.2.2.2.1) (z5s k) (cutOK_of (l := []) (by kernel_rfl) trivial) (fun _ => rfl) (fun n x Q R h => by
    simp only [I_SpansOf_b0, optK_bind, optK_bif, optK_pure, optK_none, optK_oc, optK_guardT, optK_map] at h
    refine hold_of h ?_
    kernel_rfl) (by kernel_rfl)
def z5x (k : Nat) : Cuts D := ⟨[(0, some (z5u k))], []⟩
def z5y : List Ar := [.c (.kl 44)]
def z5z (k : Nat) (x : TupA D z5y) : Option ((List ISpan)) := I_SpansOf k x.1
def z60 (r : (List ISpan)) : VR D := .p (.c (.sl 26 r))
theorem z61 (k : Nat) : Does P X 30 z5y (z5z k) z60 :=
  does_of (body := bodyOf Go.Proofs.Try.f30) (pl := z5q) (k := k) (cu := z5x k) (tys := [[26]]) (z5s k) ctx mixed Go.Proofs.Try.func30 (by kernel_rfl) (by kernel_rfl) (cutOK_of (l := [(z5u k, sub (bodyOf Go.Proofs.Try.f30) [1, 1, 0, 1])]) (by kernel_rfl) ⟨z5w k, trivial⟩) fun x R h => by
    simp only [z5z, I_SpansOf, optK_bind, optK_bif, optK_pure, optK_none, optK_oc, optK_guardT, optK_map] at h
    refine hold_of h ?_
    kernel_rfl
def z62 (k : Nat) : Entry D := entS z5y (z5z k) z60
theorem z63 (k : Nat) : EntryOK X 30 (z62 k) := (z61 k).en rfl
def z64 : Plan := ⟨[(0, [(0, none), (1, none), (2, none)]), (1, [(6, none)])],
  [],
  []⟩
def z65 (k : Nat) : Calls' D := ⟨[], [], [], [], []⟩
theorem z66 (k : Nat) : CallsOK X (z65 k) := .nil cod
def z67 (k : Nat) : Cuts D := ⟨[], []⟩
def z68 : List Ar := [.c (.ki .i64), .c (.ki .i64), .c (.ki .i64)]
def z69 (k : Nat) (x : TupA D z68) : Option (Bool) := I_inRange k x.1 x.2.1 x.2.2.1
def z6a (r : Bool) : VR D := .p (.c (.bool r))
theorem z6b (k : Nat) : Does P X 57 z68 (z69 k) z6a :=
  does_of (body := bodyOf Go.Proofs.Try.f57) (pl := z64) (k := k) (cu := z67 k) (tys := [[0]]) (z66 k) ctx mixed Go.Proofs.Try.func57 (by kernel_rfl) (by kernel_rfl) (cutOK_of (l := []) (by kernel_rfl) trivial) fun x R h => by
    simp only [z69, I_inRange, optK_bind, optK_bif, optK_pure, optK_none, optK_oc, optK_guardT, optK_map] at h
    refine hold_of h ?_
    kernel_rfl
def z6c (k : Nat) : Entry D := entS z68 (z69 k) z6a
theorem z6d (k : Nat) : EntryOK X 57 (z6c k) := (z6b k).en rfl
def z6e : Plan := ⟨[(0, [(0, some 26)]), (1, [(0, some 26), (5, some 26), (6, none), (7, none)]), (2, [(0, some 26), (5, some 26), (6, none), (7, none), (8, none)]), (3, [(0, some 26), (3, none), (4, none), (5, some 26), (6, none), (7, none)]), (4, [(0, some 26), (5, some 26), (6, none), (7, none), (41, none)]), (5, [(2, none)]), (6, [(0, some 26), (5, some 26), (6, none), (7, none)]), (7, [(2, none)])],
  [(0, []), (1, [(0, some 26), (5, some 26), (6, none), (7, none)])],
  [(8, ([(0, some 26), (5, some 26), (6, none), (7, none)], [])), (41, ([], [(0, some 26), (5, some 26), (6, none), (7, none)]))]⟩
def z6f (k : Nat) : Calls' D := ⟨[], [], [], [], []⟩
theorem z6g (k : Nat) : CallsOK X (z6f k) := .nil cod
def z6h (x : (List ISpan) × (List ISpan) × Int × Int × Unit) (o : Oc (Unit) (Bool)) (Q : Ex → VSt D → Prop) (R : VR D → Prop) : Prop := ocP o (fun v0 => Q .normal (mkSt ⟨[], []⟩ [])) (fun w0 => R (.p (.c (.bool w0))))
def z6i (k : Nat) : Cut D := cutS ⟨[(0, .hole), (5, .hole), (6, .hole), (7, .hole)], []⟩ [.kl 26, .kl 26, .ki .i64, .ki .i64] (fun (x : (List ISpan) × (List ISpan) × Int × Int × Unit) => I_IsSpanSet_b0 k k x.1 x.2.1 x.2.2.1 x.2.2.2.1) z6h
def z6j (k : Nat) : Cuts D := ⟨[], []⟩
theorem z6k (k : Nat) : CutFor X z6e k Go.Proofs.Try.f16.results.toList (z6i k) (sub (bodyOf Go.Proofs.Try.f16) [1, 0, 1]) :=
  loopCut_s (X := X) (sg := [.kl 26, .kl 26, .ki .i64, .ki .i64]) (cu := z6j k) (cl := z6f k) (tys := [[0]]) (id := 0) (c := sub (bodyOf Go.Proofs.Try.f16) [1, 0, 1, 0, 0]) (f := fun n => fun (x : (List ISpan) × (List ISpan) × Int × Int × Unit) => I_IsSpanSet_b0 k n x.1 x.2.1 x.2.2.1 x.2.2.2.1) (z6g k) (cutOK_of (l := []) (by kernel_rfl) trivial) (fun _ => rfl) (fun n x Q R h => by
    simp only [I_IsSpanSet_b0, optK_bind, optK_bif, optK_pure, optK_none, optK_oc, optK_guardT, optK_map] at h
    refine hold_of h ?_
    kernel_rfl) (by kernel_rfl)
def z6l (k : Nat) : Cuts D := ⟨[(0, some (z6i k))], []⟩
def z6m : List Ar := [.c (.kl 26)]
def z6n (k : Nat) (x : TupA D z6m) : Option (Bool) := I_IsSpanSet k x.1
def z6o (r : Bool) : VR D := .p (.c (.bool r))
theorem z6p (k : Nat) : Does P X 16 z6m (z6n k) z6o :=
  does_of (body := bodyOf Go.Proofs.Try.f16) (pl := z6e) (k := k) (cu := z6l k) (tys := [[0]]) (z6g k) ctx mixed Go.Proofs.Try.func16 (by kernel_rfl) (by kernel_rfl) (cutOK_of (l := [(z6i k, sub (bodyOf Go.Proofs.Try.f16) [1, 0, 1])]) (by kernel_rfl) ⟨z6k k, trivial⟩) fun x R h => by
    simp only [z6n, I_IsSpanSet, optK_bind, optK_bif, optK_pure, optK_none, optK_oc, optK_guardT, optK_map] at h
    refine hold_of h ?_
    kernel_rfl
def z6q (k : Nat) : Entry D := entS z6m (z6n k) z6o
theorem z6r (k : Nat) : EntryOK X 16 (z6q k) := (z6p k).en rfl
def z6s : Plan := ⟨[(0, [(0, some 44), (1, none)]), (1, [(0, some 44), (1, none), (5, some 26)]), (2, [(1, none), (5, some 26), (20, none)]), (3, [(4, none)]), (4, [(4, none)])],
  [],
  [(20, ([], [(1, none), (5, some 26)]))]⟩
def z6t (k : Nat) : Calls' D := ⟨[(30, z62 k), (57, z6c k), (16, z6q k)], [], [], [], []⟩
theorem z6u (k : Nat) : CallsOK X (z6t k) := .cons (z63 k) (.cons (z6d k) (.cons (z6r k) (.nil cod)))
def z6v (k : Nat) : Cuts D := ⟨[], []⟩
def z6w : List Ar := [.c (.kl 44), .c (.ki .i64)]
def z6x (k : Nat) (x : TupA D z6w) : Option (Bool) := I_ArePieces k x.1 x.2.1
def z6y (r : Bool) : VR D := .p (.c (.bool r))
theorem z6z (k : Nat) : Does P X 45 z6w (z6x k) z6y :=
  does_of (body := bodyOf Go.Proofs.Try.f45) (pl := z6s) (k := k) (cu := z6v k) (tys := [[0]]) (z6u k) ctx mixed Go.Proofs.Try.func45 (by kernel_rfl) (by kernel_rfl) (cutOK_of (l := []) (by kernel_rfl) trivial) fun x R h => by
    simp only [z6x, I_ArePieces, optK_bind, optK_bif, optK_pure, optK_none, optK_oc, optK_guardT, optK_map] at h
    refine hold_of h ?_
    kernel_rfl
def z70 (k : Nat) : Entry D := entS z6w (z6x k) z6y
theorem z71 (k : Nat) : EntryOK X 45 (z70 k) := (z6z k).en rfl
def z72 : Plan := ⟨[(0, [(0, some 44)]), (1, [(0, some 44), (4, none)]), (2, [(2, some 44)]), (3, [(2, some 44)])],
  [],
  [(4, ([], [(0, some 44)]))]⟩
def z73 (k : Nat) : Calls' D := ⟨[], [], [], [], []⟩
theorem z74 (k : Nat) : CallsOK X (z73 k) := .nil cod
def z75 (k : Nat) : Cuts D := ⟨[], []⟩
def z76 : List Ar := [.c (.kl 44)]
def z77 (k : Nat) (x : TupA D z76) : Option ((List IPiece)) := slices_Clone_IPiece k x.1
def z78 (r : (List IPiece)) : VR D := .p (.c (.sl 44 r))
theorem z79 (k : Nat) : Does P X 46 z76 (z77 k) z78 :=
  doesClone_of (body := bodyOf Go.Proofs.Try.f46) (el := 44) (by' := 24) (pl := z72) (k := k) (cu := z75 k) (tys := [[44]]) (z74 k) ctx mixed Go.Proofs.Try.func46 (by kernel_rfl) (by kernel_rfl) (by kernel_rfl) (cutOK_of (l := []) (by kernel_rfl) trivial) (cutOK_of (l := []) (by kernel_rfl) trivial) (fun R h => by
    refine hold_of h ?_
    kernel_rfl) fun x R h => by
    refine hold_of h ?_
    kernel_rfl
def z7a (k : Nat) : Entry D := entS z76 (z77 k) z78
theorem z7b (k : Nat) : EntryOK X 46 (z7a k) := (z79 k).en rfl
def z7c : Plan := ⟨[(0, [(1, none), (2, none)]), (1, [(3, none)])],
  [],
  []⟩
def z7d (k : Nat) : Calls' D := ⟨[], [], [], [], []⟩
theorem z7e (k : Nat) : CallsOK X (z7d k) := .nil cod
def z7f (k : Nat) : Cuts D := ⟨[], []⟩
def z7g : List Ar := [.a [.ki .i64, .ki .i64], .x [.ki .i64, .ki .i64]]
def z7h (k : Nat) (x : TupA D z7g) : Option (Bool) := I_CoversSpan_1 k (⟨x.1.1, x.1.2.1⟩ : ISpan) x.2.1.1 x.2.1.2.1
def z7i (r : Bool) : VR D := .p (.c (.bool r))
theorem z7j (k : Nat) : Does P X 40 z7g (z7h k) z7i :=
  does_of (body := bodyOf Go.Proofs.Try.f40) (pl := z7c) (k := k) (cu := z7f k) (tys := [[0]]) (z7e k) ctx mixed Go.Proofs.Try.func40 (by kernel_rfl) (by kernel_rfl) (cutOK_of (l := []) (by kernel_rfl) trivial) fun x R h => by
    simp only [z7h, I_CoversSpan_1, optK_bind, optK_bif, optK_pure, optK_none, optK_oc, optK_guardT, optK_map] at h
    refine hold_of h ?_
    kernel_rfl
def z7k (k : Nat) : Entry D := entS z7g (z7h k) z7i
theorem z7l (k : Nat) : EntryOK X 40 (z7k k) := (z7j k).en rfl
def z7m : Plan := ⟨[(0, [(0, some 26), (1, none)]), (1, [(0, some 26), (1, none), (7, none), (8, none)]), (2, [(0, some 26), (1, none), (7, none), (8, none), (9, none)]), (3, [(0, some 26), (1, none), (5, none), (7, none), (8, none)]), (4, [(0, some 26), (1, none), (5, none), (7, none), (8, none), (16, none)]), (5, [(4, none)]), (6, [(0, some 26), (1, none), (7, none), (8, none)]), (7, [(4, none)])],
  [(0, []), (1, [(0, some 26), (1, none), (7, none), (8, none)])],
  [(9, ([(0, some 26), (1, none), (7, none), (8, none)], [])), (16, ([(5, none)], [(0, some 26), (1, none), (7, none), (8, none)]))]⟩
def z7n (k : Nat) : Calls' D := ⟨[(40, z7k k)], [], [], [], []⟩
theorem z7o (k : Nat) : CallsOK X (z7n k) := .cons (z7l k) (.nil cod)
def z7p (x : (List ISpan) × Int × Int × Int × Int × Unit) (o : Oc (Unit) (Int)) (Q : Ex → VSt D → Prop) (R : VR D → Prop) : Prop := ocP o (fun v0 => Q .normal (mkSt ⟨[], []⟩ [])) (fun w0 => R (.p (.c (.int .i64 w0))))
def z7q (k : Nat) : Cut D := cutS ⟨[(0, .hole), (1, .clo 40 [.rptr 2]), (7, .hole), (8, .hole)], []⟩ [.kl 26, .ki .i64, .ki .i64, .ki .i64, .ki .i64] (fun (x : (List ISpan) × Int × Int × Int × Int × Unit) => slices_IndexFunc_ISpan_at_I_CoversSpan_1_b0 k k x.1 x.2.1 x.2.2.1 x.2.2.2.1 x.2.2.2.2.1) z7p
def z7r (k : Nat) : Cuts D := ⟨[], []⟩
theorem z7s (k : Nat) : CutFor X z7m k Go.Proofs.Try.f53.results.toList (z7q k) (sub (bodyOf Go.Proofs.Try.f53) [1, 0, 1]) :=
  loopCut_s (X := X) (sg := [.kl 26, .ki .i64, .ki .i64, .ki .i64, .ki .i64]) (cu := z7r k) (cl := z7n k) (tys := [[0]]) (id := 0) (c := sub (bodyOf Go.Proofs.Try.f53) [1, 0, 1, 0, 0]) (f := fun n => fun (x : (List ISpan) × Int × Int × Int × Int × Unit) => slices_IndexFunc_ISpan_at_I_CoversSpan_1_b0 k n x.1 x.2.1 x.2.2.1 x.2.2.2.1 x.2.2.2.2.1) (z7o k) (cutOK_of (l := []) (by kernel_rfl) trivial) (fun _ => rfl) (fun n x Q R h => by
    simp only [slices_IndexFunc_ISpan_at_I_CoversSpan_1_b0, optK_bind, optK_bif, optK_pure, optK_none, optK_oc, optK_guardT, optK_map] at h
    refine hold_of h ?_
    kernel_rfl) (by kernel_rfl)
def z7t (k : Nat) : Cuts D := ⟨[(0, some (z7q k))], []⟩
def z7u : List Ar := [.c (.kl 26), .f 40 [[.ki .i64, .ki .i64]]]
def z7v (k : Nat) (x : TupA D z7u) : Option (Int) := slices_IndexFunc_ISpan_at_I_CoversSpan_1 k x.1 x.2.1.1.1 x.2.1.1.2.1
def z7w (r : Int) : VR D := .p (.c (.int .i64 r))
theorem z7x (k : Nat) : Does P X 53 z7u (z7v k) z7w :=
  does_of (body := bodyOf Go.Proofs.Try.f53) (pl := z7m) (k := k) (cu := z7t k) (tys := [[0]]) (z7o k) ctx mixed Go.Proofs.Try.func53 (by kernel_rfl) (by kernel_rfl) (cutOK_of (l := [(z7q k, sub (bodyOf Go.Proofs.Try.f53) [1, 0, 1])]) (by kernel_rfl) ⟨z7s k, trivial⟩) fun x R h => by
    simp only [z7v, slices_IndexFunc_ISpan_at_I_CoversSpan_1, optK_bind, optK_bif, optK_pure, optK_none, optK_oc, optK_guardT, optK_map] at h
    refine hold_of h ?_
    kernel_rfl
def z7y (k : Nat) : Entry D := entS z7u (z7v k) z7w
theorem z7z (k : Nat) : EntryOK X 53 (z7y k) := (z7x k).en rfl
def z80 : Plan := ⟨[(0, [(0, some 26), (1, none)]), (1, [(4, none)])],
  [],
  []⟩
def z81 (k : Nat) : Calls' D := ⟨[(53, z7y k)], [], [], [], []⟩
theorem z82 (k : Nat) : CallsOK X (z81 k) := .cons (z7z k) (.nil cod)
def z83 (k : Nat) : Cuts D := ⟨[], []⟩
def z84 : List Ar := [.c (.kl 26), .f 40 [[.ki .i64, .ki .i64]]]
def z85 (k : Nat) (x : TupA D z84) : Option (Bool) := slices_ContainsFunc_ISpan_at_I_CoversSpan_1 k x.1 x.2.1.1.1 x.2.1.1.2.1
def z86 (r : Bool) : VR D := .p (.c (.bool r))
theorem z87 (k : Nat) : Does P X 39 z84 (z85 k) z86 :=
  does_of (body := bodyOf Go.Proofs.Try.f39) (pl := z80) (k := k) (cu := z83 k) (tys := [[0]]) (z82 k) ctx mixed Go.Proofs.Try.func39 (by kernel_rfl) (by kernel_rfl) (cutOK_of (l := []) (by kernel_rfl) trivial) fun x R h => by
    simp only [z85, slices_ContainsFunc_ISpan_at_I_CoversSpan_1, optK_bind, optK_bif, optK_pure, optK_none, optK_oc, optK_guardT, optK_map] at h
    refine hold_of h ?_
    kernel_rfl
def z88 (k : Nat) : Entry D := entS z84 (z85 k) z86
theorem z89 (k : Nat) : EntryOK X 39 (z88 k) := (z87 k).en rfl
def z8a : Plan := ⟨[(0, [(0, some 26), (3, none)]), (1, [(0, some 26), (3, none), (9, none)]), (2, [(4, none)]), (3, [(4, none)])],
  [],
  [(9, ([], [(0, some 26), (3, none)]))]⟩
def z8b (k : Nat) : Calls' D := ⟨[(39, z88 k)], [], [], [], []⟩
theorem z8c (k : Nat) : CallsOK X (z8b k) := .cons (z89 k) (.nil cod)
def z8d (k : Nat) : Cuts D := ⟨[], []⟩
def z8e : List Ar := [.c (.kl 26), .a [.ki .i64, .ki .i64]]
def z8f (k : Nat) (x : TupA D z8e) : Option (Bool) := I_CoversSpan k x.1 (⟨x.2.1.1, x.2.1.2.1⟩ : ISpan)
def z8g (r : Bool) : VR D := .p (.c (.bool r))
theorem z8h (k : Nat) : Does P X 12 z8e (z8f k) z8g :=
  does_of (body := bodyOf Go.Proofs.Try.f12) (pl := z8a) (k := k) (cu := z8d k) (tys := [[0]]) (z8c k) ctx mixed Go.Proofs.Try.func12 (by kernel_rfl) (by kernel_rfl) (cutOK_of (l := []) (by kernel_rfl) trivial) fun x R h => by
    simp only [z8f, I_CoversSpan, optK_bind, optK_bif, optK_pure, optK_none, optK_oc, optK_guardT, optK_map] at h
    refine hold_of h ?_
    kernel_rfl
def z8i (k : Nat) : Entry D := entS z8e (z8f k) z8g
theorem z8j (k : Nat) : EntryOK X 12 (z8i k) := (z8h k).en rfl
def z8k : Plan := ⟨[(0, [(0, some 26)]), (1, [(0, some 26), (4, none)]), (2, [(2, some 26)]), (3, [(2, some 26)])],
  [],
  [(4, ([], [(0, some 26)]))]⟩
def z8l (k : Nat) : Calls' D := ⟨[], [], [], [], []⟩
theorem z8m (k : Nat) : CallsOK X (z8l k) := .nil cod
def z8n (k : Nat) : Cuts D := ⟨[], []⟩
def z8o : List Ar := [.c (.kl 26)]
def z8p (k : Nat) (x : TupA D z8o) : Option ((List ISpan)) := slices_Clone_ISpan k x.1
def z8q (r : (List ISpan)) : VR D := .p (.c (.sl 26 r))
theorem z8r (k : Nat) : Does P X 38 z8o (z8p k) z8q :=
  doesClone_of (body := bodyOf Go.Proofs.Try.f38) (el := 26) (by' := 16) (pl := z8k) (k := k) (cu := z8n k) (tys := [[26]]) (z8m k) ctx mixed Go.Proofs.Try.func38 (by kernel_rfl) (by kernel_rfl) (by kernel_rfl) (cutOK_of (l := []) (by kernel_rfl) trivial) (cutOK_of (l := []) (by kernel_rfl) trivial) (fun R h => by
    refine hold_of h ?_
    kernel_rfl) fun x R h => by
    refine hold_of h ?_
    kernel_rfl
def z8s (k : Nat) : Entry D := entS z8o (z8p k) z8q
theorem z8t (k : Nat) : EntryOK X 38 (z8s k) := (z8r k).en rfl
def z8u : Plan := ⟨[(0, [(0, some 26), (3, none)]), (1, [(0, some 26), (3, none), (26, none)]), (2, [(4, some 26)]), (3, [(0, some 26), (3, none), (5, some 26)]), (4, [(0, some 26), (3, none), (5, some 26), (6, none)]), (5, [(0, some 26), (3, none), (5, some 26), (6, none), (43, none)]), (6, [(0, some 26), (3, none), (5, some 26), (6, none)]), (7, [(0, some 26), (3, none), (5, some 26), (6, none)]), (8, [(0, some 26), (3, none), (5, some 26), (6, none), (66, none)]), (9, [(0, some 26), (3, none), (5, some 26), (6, none)]), (10, [(0, some 26), (3, none), (5, some 26), (6, none)]), (11, [(4, some 26)])],
  [(0, [(0, some 26), (3, none), (5, some 26), (6, none)]), (1, [(0, some 26), (3, none), (5, some 26), (6, none)]), (2, [(0, some 26), (3, none), (5, some 26), (6, none)]), (3, [(0, some 26), (3, none), (5, some 26), (6, none)])],
  [(26, ([(0, some 26)], [(0, some 26), (3, none)])), (43, ([(0, some 26), (3, none), (5, some 26), (6, none)], [(0, some 26), (3, none), (5, some 26), (6, none)])), (66, ([(0, some 26), (3, none), (5, some 26), (6, none)], [(0, some 26), (3, none), (5, some 26), (6, none)]))]⟩
def z8v (k : Nat) : Calls' D := ⟨[(16, z6q k), (38, z8s k)], [], [], [], []⟩
theorem z8w (k : Nat) : CallsOK X (z8v k) := .cons (z6r k) (.cons (z8t k) (.nil cod))
def z8x (x : (List ISpan) × Int × Int × Int × (List ISpan) × Unit) (o : Int × (List ISpan)) (Q : Ex → VSt D → Prop) (R : VR D → Prop) : Prop := Q .normal (mkSt ⟨[(0, .hole), (3, .ptr 3 0), (5, .ref 500005), (6, .hole)], [(3, .var [.hole, .hole]), (500005, .row)]⟩ [.sl 26 x.1, .int .i64 o.1, .int .i64 x.2.2.1, .int .i64 x.2.2.2.1, .sl 26 o.2])
def z8y (k : Nat) : Cut D := cutS ⟨[(0, .hole), (3, .ptr 3 0), (5, .ref 500005), (6, .hole)], [(3, .var [.hole, .hole]), (500005, .row)]⟩ [.kl 26, .ki .i64, .ki .i64, .ki .i64, .kl 26] (fun (x : (List ISpan) × Int × Int × Int × (List ISpan) × Unit) => I_AddSpan_b0 k k x.1 x.2.1 x.2.2.1 x.2.2.2.1 x.2.2.2.2.1) z8x
def z8z (k : Nat) : Cuts D := ⟨[], []⟩
theorem z90 (k : Nat) : CutFor X z8u k Go.Proofs.Try.f8.results.toList (z8y k) (sub (bodyOf Go.Proofs.Try.f8) [1, 1, 1, 1, 0]) :=
  loopCut_s (X := X) (sg := [.kl 26, .ki .i64, .ki .i64, .ki .i64, .kl 26]) (cu := z8z k) (cl := z8v k) (tys := [[26]]) (id := 0) (c := sub (bodyOf Go.Proofs.Try.f8) [1, 1, 1, 1, 0, 0, 0]) (f := fun n => fun (x : (List ISpan) × Int × Int × Int × (List ISpan) × Unit) => I_AddSpan_b0 k n x.1 x.2.1 x.2.2.1 x.2.2.2.1 x.2.2.2.2.1) (z8w k) (cutOK_of (l := []) (by kernel_rfl) trivial) (fun _ => rfl) (fun n x Q R h => by
    simp only [I_AddSpan_b0, optK_bind, optK_bif, optK_pure, optK_none, optK_oc, optK_guardT, optK_map] at h
    refine hold_of h ?_
    kernel_rfl) (by kernel_rfl)
def z91 (x : (List ISpan) × Int × Int × Int × (List ISpan) × Unit) (o : Int × Int × Int) (Q : Ex → VSt D → Prop) (R : VR D → Prop) : Prop := Q .normal (mkSt ⟨[(0, .hole), (3, .ptr 3 0), (5, .ref 500005), (6, .hole)], [(3, .var [.hole, .hole]), (500005, .row)]⟩ [.sl 26 x.1, .int .i64 o.1, .int .i64 o.2.1, .int .i64 o.2.2, .sl 26 x.2.2.2.2.1])
def z92 (k : Nat) : Cut D := cutS ⟨[(0, .hole), (3, .ptr 3 0), (5, .ref 500005), (6, .hole)], [(3, .var [.hole, .hole]), (500005, .row)]⟩ [.kl 26, .ki .i64, .ki .i64, .ki .i64, .kl 26] (fun (x : (List ISpan) × Int × Int × Int × (List ISpan) × Unit) => I_AddSpan_b2 k k x.1 x.2.1 x.2.2.1 x.2.2.2.1 x.2.2.2.2.1) z91
def z93 (k : Nat) : Cuts D := ⟨[], []⟩
theorem z94 (k : Nat) : CutFor X z8u k Go.Proofs.Try.f8.results.toList (z92 k) (sub (bodyOf Go.Proofs.Try.f8) [1, 1, 1, 1, 1, 0]) :=
  loopCut_s (X := X) (sg := [.kl 26, .ki .i64, .ki .i64, .ki .i64, .kl 26]) (cu := z93 k) (cl := z8v k) (tys := [[26]]) (id := 2) (c := sub (bodyOf Go.Proofs.Try.f8) [1, 1, 1, 1, 1, 0, 0, 0]) (f := fun n => fun (x : (List ISpan) × Int × Int × Int × (List ISpan) × Unit) => I_AddSpan_b2 k n x.1 x.2.1 x.2.2.1 x.2.2.2.1 x.2.2.2.2.1) (z8w k) (cutOK_of (l := []) (by kernel_rfl) trivial) (fun _ => rfl) (fun n x Q R h => by
    simp only [I_AddSpan_b2, optK_bind, optK_bif, optK_pure, optK_none, optK_oc, optK_guardT, optK_map] at h
    refine hold_of h ?_
    kernel_rfl) (by kernel_rfl)
def z95 (k : Nat) : Cuts D := ⟨[(0, some (z8y k)), (2, some (z92 k))], []⟩
def z96 : List Ar := [.c (.kl 26), .a [.ki .i64, .ki .i64]]
def z97 (k : Nat) (x : TupA D z96) : Option ((List ISpan)) := I_AddSpan k x.1 (⟨x.2.1.1, x.2.1.2.1⟩ : ISpan)
def z98 (r : (List ISpan)) : VR D := .p (.c (.sl 26 r))
theorem z99 (k : Nat) : Does P X 8 z96 (z97 k) z98 :=
  does_of (body := bodyOf Go.Proofs.Try.f8) (pl := z8u) (k := k) (cu := z95 k) (tys := [[26]]) (z8w k) ctx mixed Go.Proofs.Try.func8 (by kernel_rfl) (by kernel_rfl) (cutOK_of (l := [(z8y k, sub (bodyOf Go.Proofs.Try.f8) [1, 1, 1, 1, 0]), (z92 k, sub (bodyOf Go.Proofs.Try.f8) [1, 1, 1, 1, 1, 0])]) (by kernel_rfl) ⟨z90 k, z94 k, trivial⟩) fun x R h => by
    simp only [z97, I_AddSpan, optK_bind, optK_bif, optK_pure, optK_none, optK_oc, optK_guardT, optK_map] at h
    refine hold_of h ?_
    kernel_rfl
def z9a (k : Nat) : Entry D := entS z96 (z97 k) z98
theorem z9b (k : Nat) : EntryOK X 8 (z9a k) := (z99 k).en rfl
def z9c : Plan := ⟨[(0, [(0, some 44), (1, none), (5, none)]), (1, [(0, some 44), (1, none), (5, none), (39, none)]), (2, [(6, some 44), (7, none)]), (3, [(0, some 44), (5, none), (8, some 5)]), (4, [(0, some 44), (5, none), (8, some 5), (44, some 44), (45, none), (46, none)]), (5, [(0, some 44), (5, none), (8, some 5), (44, some 44), (45, none), (46, none), (47, none)]), (6, [(0, some 44), (5, none), (8, some 5), (10, none), (44, some 44), (45, none), (46, none)]), (7, [(0, some 44), (5, none), (8, some 5), (44, some 44), (45, none), (46, none)]), (8, [(0, some 44), (5, none), (8, some 5), (44, some 44), (45, none), (46, none)]), (9, [(0, some 44), (5, none), (8, some 5), (60, none), (61, none)]), (10, [(0, some 44), (5, none), (8, some 5), (60, none), (61, none), (62, none)]), (11, [(0, some 44), (5, none), (8, some 5), (11, none), (60, none), (61, none)]), (12, [(0, some 44), (5, none), (8, some 5), (11, none), (12, none), (60, none), (61, none)]), (13, [(0, some 44), (5, none), (8, some 5), (11, none), (12, none), (60, none), (61, none), (85, none)]), (14, [(6, some 44), (7, none)]), (15, [(0, some 44), (5, none), (8, some 5), (60, none), (61, none)]), (16, [(0, some 44), (5, none), (8, some 5), (60, none), (61, none)]), (17, [(0, some 44), (5, none), (8, some 5), (13, some 44)]), (18, [(0, some 44), (8, some 5), (13, some 44), (108, some 26), (109, none), (110, none), (1000008, some 5)]), (19, [(0, some 44), (8, some 5), (13, some 44), (108, some 26), (109, none), (110, none), (111, none)]), (20, [(0, some 44), (8, some 5), (13, some 44), (15, none), (108, some 26), (109, none), (110, none), (1000008, some 5)]), (21, [(0, some 44), (8, some 5), (13, some 44), (108, some 26), (109, none), (110, none)]), (22, [(0, some 44), (8, some 5), (13, some 44), (108, some 26), (109, none), (110, none), (1000008, some 5)]), (23, [(0, some 44), (13, some 44), (130, none)]), (24, [(6, some 44), (7, none)]), (25, [(6, some 44), (7, none)])],
  [(0, [(0, some 44), (5, none), (8, some 5)]), (1, [(0, some 44), (5, none), (8, some 5), (44, some 44), (45, none), (46, none)]), (2, [(0, some 44), (5, none), (8, some 5)]), (3, [(0, some 44), (5, none), (8, some 5), (60, none), (61, none)]), (4, [(0, some 44), (13, some 44)]), (5, [(0, some 44), (8, some 5), (13, some 44), (108, some 26), (109, none), (110, none)])],
  [(39, ([(0, some 44)], [(0, some 44), (1, none), (5, none)])), (47, ([(0, some 44), (5, none), (8, some 5), (44, some 44), (45, none), (46, none)], [(0, some 44), (5, none), (8, some 5)])), (62, ([(0, some 44), (5, none), (8, some 5), (60, none), (61, none)], [(0, some 44), (5, none), (8, some 5)])), (85, ([(0, some 44)], [(0, some 44), (5, none), (8, some 5), (11, none), (12, none), (60, none), (61, none)])), (111, ([(0, some 44), (8, some 5), (13, some 44), (108, some 26), (109, none), (110, none)], [(0, some 44), (13, some 44)])), (130, ([(0, some 44)], [(13, some 44)]))]⟩
def z9d (k : Nat) : Calls' D := ⟨[(45, z70 k), (46, z7a k), (30, z62 k), (12, z8i k), (8, z9a k)], [], [], [], []⟩
theorem z9e (k : Nat) : CallsOK X (z9d k) := .cons (z71 k) (.cons (z7b k) (.cons (z63 k) (.cons (z8j k) (.cons (z9b k) (.nil cod)))))
def z9f (x : (List IPiece) × (List IPiece) × Int × Int × Int × (List UInt8) × (List Int) × Unit) (o : (List Int)) (Q : Ex → VSt D → Prop) (R : VR D → Prop) : Prop := Q .normal (mkSt ⟨[(0, .hole), (5, .ptr 5 0), (8, .ref 500008)], [(5, .var [.hole, .hole]), (500008, .row)]⟩ [.sl 44 x.1, .int .i64 x.2.2.2.2.1, .str x.2.2.2.2.2.1, .sl 5 o])
def z9g (k : Nat) : Cut D := cutS ⟨[(0, .hole), (5, .ptr 5 0), (8, .ref 500008), (44, .hole), (45, .hole), (46, .hole)], [(5, .var [.hole, .hole]), (500008, .row)]⟩ [.kl 44, .kl 44, .ki .i64, .ki .i64, .ki .i64, .ks, .kl 5] (fun (x : (List IPiece) × (List IPiece) × Int × Int × Int × (List UInt8) × (List Int) × Unit) => I_AddPiece_b0 k k x.1 x.2.1 x.2.2.1 x.2.2.2.1 x.2.2.2.2.1 x.2.2.2.2.2.1 x.2.2.2.2.2.2.1) z9f
def z9h (k : Nat) : Cuts D := ⟨[], []⟩
theorem z9i (k : Nat) : CutFor X z9c k Go.Proofs.Try.f23.results.toList (z9g k) (sub (bodyOf Go.Proofs.Try.f23) [1, 1, 1, 0, 1]) :=
  loopCut_s (X := X) (sg := [.kl 44, .kl 44, .ki .i64, .ki .i64, .ki .i64, .ks, .kl 5]) (cu := z9h k) (cl := z9d k) (tys := [[44], [0]]) (id := 0) (c := sub (bodyOf Go.Proofs.Try.f23) [1, 1, 1, 0, 1, 0, 0]) (f := fun n => fun (x : (List IPiece) × (List IPiece) × Int × Int × Int × (List UInt8) × (List Int) × Unit) => I_AddPiece_b0 k n x.1 x.2.1 x.2.2.1 x.2.2.2.1 x.2.2.2.2.1 x.2.2.2.2.2.1 x.2.2.2.2.2.2.1) (z9e k) (cutOK_of (l := []) (by kernel_rfl) trivial) (fun _ => rfl) (fun n x Q R h => by
    simp only [I_AddPiece_b0, optK_bind, optK_bif, optK_pure, optK_none, optK_oc, optK_guardT, optK_map] at h
    refine hold_of h ?_
    kernel_rfl) (by kernel_rfl)
def z9j (x : (List IPiece) × Int × Int × Int × (List UInt8) × (List Int) × Unit) (o : Oc ((List Int)) ((List IPiece) × Bool)) (Q : Ex → VSt D → Prop) (R : VR D → Prop) : Prop := ocP o (fun v0 => Q .normal (mkSt ⟨[(0, .hole), (5, .ptr 5 0), (8, .ref 500008)], [(5, .var [.hole, .hole]), (500008, .row)]⟩ [.sl 44 x.1, .int .i64 x.2.2.2.1, .str x.2.2.2.2.1, .sl 5 v0])) (fun w0 => R (.tup [.c (.sl 44 w0.1), .c (.bool w0.2)]))
def z9k (k : Nat) : Cut D := cutS ⟨[(0, .hole), (5, .ptr 5 0), (8, .ref 500008), (60, .hole), (61, .hole)], [(5, .var [.hole, .hole]), (500008, .row)]⟩ [.kl 44, .ki .i64, .ki .i64, .ki .i64, .ks, .kl 5] (fun (x : (List IPiece) × Int × Int × Int × (List UInt8) × (List Int) × Unit) => I_AddPiece_b2 k k x.1 x.2.1 x.2.2.1 x.2.2.2.1 x.2.2.2.2.1 x.2.2.2.2.2.1) z9j
def z9l (k : Nat) : Cuts D := ⟨[], []⟩
theorem z9m (k : Nat) : CutFor X z9c k Go.Proofs.Try.f23.results.toList (z9k k) (sub (bodyOf Go.Proofs.Try.f23) [1, 1, 1, 1, 0, 1]) :=
  loopCut_s (X := X) (sg := [.kl 44, .ki .i64, .ki .i64, .ki .i64, .ks, .kl 5]) (cu := z9l k) (cl := z9d k) (tys := [[44], [0]]) (id := 2) (c := sub (bodyOf Go.Proofs.Try.f23) [1, 1, 1, 1, 0, 1, 0, 0]) (f := fun n => fun (x : (List IPiece) × Int × Int × Int × (List UInt8) × (List Int) × Unit) => I_AddPiece_b2 k n x.1 x.2.1 x.2.2.1 x.2.2.2.1 x.2.2.2.2.1 x.2.2.2.2.2.1) (z9e k) (cutOK_of (l := []) (by kernel_rfl) trivial) (fun _ => rfl) (fun n x Q R h => by
    simp only [I_AddPiece_b2, optK_bind, optK_bif, optK_pure, optK_none, optK_oc, optK_guardT, optK_map] at h
    refine hold_of h ?_
    kernel_rfl) (by kernel_rfl)
def z9n (x : (List IPiece) × (List Int) × Int × Int × (List IPiece) × (List ISpan) × Unit) (o : (List IPiece)) (Q : Ex → VSt D → Prop) (R : VR D → Prop) : Prop := Q .normal (mkSt ⟨[(0, .hole), (13, .ref 500013)], [(500013, .row)]⟩ [.sl 44 x.1, .sl 44 o])
def z9o (k : Nat) : Cut D := cutS ⟨[(0, .hole), (8, .hole), (13, .ref 500013), (108, .ref 500108), (109, .hole), (110, .hole), (1000008, .gone)], [(500013, .row), (500108, .row)]⟩ [.kl 44, .kl 5, .ki .i64, .ki .i64, .kl 44, .kl 26] (fun (x : (List IPiece) × (List Int) × Int × Int × (List IPiece) × (List ISpan) × Unit) => I_AddPiece_b4 k k x.1 x.2.1 x.2.2.1 x.2.2.2.1 x.2.2.2.2.1 x.2.2.2.2.2.1) z9n
def z9p (k : Nat) : Cuts D := ⟨[], []⟩
theorem z9q (k : Nat) : CutFor X z9c k Go.Proofs.Try.f23.results.toList (z9o k) (sub (bodyOf Go.Proofs.Try.f23) [1, 1, 1, 1, 1, 1, 0, 1]) :=
  loopCut_s (X := X) (sg := [.kl 44, .kl 5, .ki .i64, .ki .i64, .kl 44, .kl 26]) (cu := z9p k) (cl := z9d k) (tys := [[44], [0]]) (id := 4) (c := sub (bodyOf Go.Proofs.Try.f23) [1, 1, 1, 1, 1, 1, 0, 1, 0, 0]) (f := fun n => fun (x : (List IPiece) × (List Int) × Int × Int × (List IPiece) × (List ISpan) × Unit) => I_AddPiece_b4 k n x.1 x.2.1 x.2.2.1 x.2.2.2.1 x.2.2.2.2.1 x.2.2.2.2.2.1) (z9e k) (cutOK_of (l := []) (by kernel_rfl) trivial) (fun _ => rfl) (fun n x Q R h => by
    simp only [I_AddPiece_b4, optK_bind, optK_bif, optK_pure, optK_none, optK_oc, optK_guardT, optK_map] at h
    refine hold_of h ?_
    kernel_rfl) (by kernel_rfl)
def z9r (k : Nat) : Cuts D := ⟨[(0, some (z9g k)), (2, some (z9k k)), (4, some (z9o k))], []⟩
def z9s : List Ar := [.c (.kl 44), .c (.ki .i64), .a [.ki .i64, .ks]]
def z9t (k : Nat) (x : TupA D z9s) : Option ((List IPiece) × Bool) := I_AddPiece k x.1 x.2.1 (⟨x.2.2.1.1, x.2.2.1.2.1⟩ : IPiece)
def z9u (r : (List IPiece) × Bool) : VR D := .tup [.c (.sl 44 r.1), .c (.bool r.2)]
theorem z9v (k : Nat) : Does P X 23 z9s (z9t k) z9u :=
  does_of (body := bodyOf Go.Proofs.Try.f23) (pl := z9c) (k := k) (cu := z9r k) (tys := [[44], [0]]) (z9e k) ctx mixed Go.Proofs.Try.func23 (by kernel_rfl) (by kernel_rfl) (cutOK_of (l := [(z9g k, sub (bodyOf Go.Proofs.Try.f23) [1, 1, 1, 0, 1]), (z9k k, sub (bodyOf Go.Proofs.Try.f23) [1, 1, 1, 1, 0, 1]), (z9o k, sub (bodyOf Go.Proofs.Try.f23) [1, 1, 1, 1, 1, 1, 0, 1])]) (by kernel_rfl) ⟨z9i k, z9m k, z9q k, trivial⟩) fun x R h => by
    simp only [z9t, I_AddPiece, optK_bind, optK_bif, optK_pure, optK_none, optK_oc, optK_guardT, optK_map] at h
    refine hold_of h ?_
    kernel_rfl
def z9w (k : Nat) : Entry D := entS z9s (z9t k) z9u
theorem z9x (k : Nat) : EntryOK X 23 (z9w k) := (z9v k).en rfl
def z9y : Plan := ⟨[(0, [(2, none), (3, none)]), (1, [(2, none), (3, none), (9, none)]), (2, [(4, none)]), (3, [(14, none)]), (4, [(4, none)]), (5, [(4, none)])],
  [],
  [(9, ([], [(2, none), (3, none)])), (14, ([], []))]⟩
def z9z (k : Nat) : Calls' D := ⟨[], [], [], [], []⟩
theorem za0 (k : Nat) : CallsOK X (z9z k) := .nil cod
def za1 (k : Nat) : Cuts D := ⟨[], []⟩
def za2 : List Ar := [.a [.ki .i64, .ks], .a [.ki .i64, .ks]]
def za3 (k : Nat) (x : TupA D za2) : Option (Bool) := L_eqPiece k (⟨x.1.1, x.1.2.1⟩ : IPiece) (⟨x.2.1.1, x.2.1.2.1⟩ : IPiece)
def za4 (r : Bool) : VR D := .p (.c (.bool r))
theorem za5 (k : Nat) : Does P X 47 za2 (za3 k) za4 :=
  does_of (body := bodyOf Go.Proofs.Try.f47) (pl := z9y) (k := k) (cu := za1 k) (tys := [[0]]) (za0 k) ctx mixed Go.Proofs.Try.func47 (by kernel_rfl) (by kernel_rfl) (cutOK_of (l := []) (by kernel_rfl) trivial) fun x R h => by
    simp only [za3, L_eqPiece, optK_bind, optK_bif, optK_pure, optK_none, optK_oc, optK_guardT, optK_map] at h
    refine hold_of h ?_
    kernel_rfl
def za6 (k : Nat) : Entry D := entS za2 (za3 k) za4
theorem za7 (k : Nat) : EntryOK X 47 (za6 k) := (za5 k).en rfl
def za8 : Plan := ⟨[(0, [(0, some 44), (1, some 44)]), (1, [(0, some 44), (1, some 44), (10, none)]), (2, [(4, none)]), (3, [(0, some 44), (1, some 44), (5, none)]), (4, [(0, some 44), (1, some 44), (5, none), (14, none)]), (5, [(0, some 44), (1, some 44), (5, none)]), (6, [(0, some 44), (1, some 44), (5, none), (26, none)]), (7, [(4, none)]), (8, [(4, none)])],
  [(0, []), (1, [(0, some 44), (1, some 44), (5, none)])],
  [(10, ([], [(0, some 44), (1, some 44)])), (14, ([(0, some 44), (1, some 44), (5, none)], [])), (26, ([], [(0, some 44), (1, some 44), (5, none)]))]⟩
def za9 (k : Nat) : Calls' D := ⟨[(47, za6 k)], [], [], [], []⟩
theorem zaa (k : Nat) : CallsOK X (za9 k) := .cons (za7 k) (.nil cod)
def zab (x : (List IPiece) × (List IPiece) × Int × Unit) (o : Oc (Unit) (Bool)) (Q : Ex → VSt D → Prop) (R : VR D → Prop) : Prop := ocP o (fun v0 => Q .normal (mkSt ⟨[], []⟩ [])) (fun w0 => R (.p (.c (.bool w0))))
def zac (k : Nat) : Cut D := cutS ⟨[(0, .hole), (1, .hole), (5, .hole)], []⟩ [.kl 44, .kl 44, .ki .i64] (fun (x : (List IPiece) × (List IPiece) × Int × Unit) => L_eqPieceS_b0 k k x.1 x.2.1 x.2.2.1) zab
def zad (k : Nat) : Cuts D := ⟨[], []⟩
theorem zae (k : Nat) : CutFor X za8 k Go.Proofs.Try.f24.results.toList (zac k) (sub (bodyOf Go.Proofs.Try.f24) [1, 1, 0, 1]) :=
  loopCut_s (X := X) (sg := [.kl 44, .kl 44, .ki .i64]) (cu := zad k) (cl := za9 k) (tys := [[0]]) (id := 0) (c := sub (bodyOf Go.Proofs.Try.f24) [1, 1, 0, 1, 0, 0]) (f := fun n => fun (x : (List IPiece) × (List IPiece) × Int × Unit) => L_eqPieceS_b0 k n x.1 x.2.1 x.2.2.1) (zaa k) (cutOK_of (l := []) (by kernel_rfl) trivial) (fun _ => rfl) (fun n x Q R h => by
    simp only [L_eqPieceS_b0, optK_bind, optK_bif, optK_pure, optK_none, optK_oc, optK_guardT, optK_map] at h
    refine hold_of h ?_
    kernel_rfl) (by kernel_rfl)
def zaf (k : Nat) : Cuts D := ⟨[(0, some (zac k))], []⟩
def zag : List Ar := [.c (.kl 44), .c (.kl 44)]
def zah (k : Nat) (x : TupA D zag) : Option (Bool) := L_eqPieceS k x.1 x.2.1
def zai (r : Bool) : VR D := .p (.c (.bool r))
theorem zaj (k : Nat) : Does P X 24 zag (zah k) zai :=
  does_of (body := bodyOf Go.Proofs.Try.f24) (pl := za8) (k := k) (cu := zaf k) (tys := [[0]]) (zaa k) ctx mixed Go.Proofs.Try.func24 (by kernel_rfl) (by kernel_rfl) (cutOK_of (l := [(zac k, sub (bodyOf Go.Proofs.Try.f24) [1, 1, 0, 1])]) (by kernel_rfl) ⟨zae k, trivial⟩) fun x R h => by
    simp only [zah, L_eqPieceS, optK_bind, optK_bif, optK_pure, optK_none, optK_oc, optK_guardT, optK_map] at h
    refine hold_of h ?_
    kernel_rfl
def zak (k : Nat) : Entry D := entS zag (zah k) zai
theorem zal (k : Nat) : EntryOK X 24 (zak k) := (zaj k).en rfl
def zam : Plan := ⟨[(0, [(0, none)]), (1, [(0, none), (5, none)]), (2, [(2, none)]), (3, [(0, none), (3, none)]), (4, [(0, none), (3, none), (7, none)]), (5, [(0, none), (3, none)]), (6, [(0, none), (3, none)]), (7, [(2, none)])],
  [(0, [(3, none)]), (1, [(0, none), (3, none)])],
  [(5, ([], [(0, none)])), (7, ([(0, none), (3, none)], [(3, none)]))]⟩
def zan (k : Nat) : Calls' D := ⟨[], [], [], [], []⟩
theorem zao (k : Nat) : CallsOK X (zan k) := .nil cod
def zap (x : Int × (List UInt8) × Unit) (o : (List UInt8)) (Q : Ex → VSt D → Prop) (R : VR D → Prop) : Prop := Q .normal (mkSt ⟨[(3, .hole)], []⟩ [.str o])
def zaq (k : Nat) : Cut D := cutS ⟨[(0, .hole), (3, .hole)], []⟩ [.ki .i64, .ks] (fun (x : Int × (List UInt8) × Unit) => L_markText_b0 k k x.1 x.2.1) zap
def zar (k : Nat) : Cuts D := ⟨[], []⟩
theorem zas (k : Nat) : CutFor X zam k Go.Proofs.Try.f48.results.toList (zaq k) (sub (bodyOf Go.Proofs.Try.f48) [1, 1, 1, 0]) :=
  loopCut_s (X := X) (sg := [.ki .i64, .ks]) (cu := zar k) (cl := zan k) (tys := [[0]]) (id := 0) (c := sub (bodyOf Go.Proofs.Try.f48) [1, 1, 1, 0, 0, 0]) (f := fun n => fun (x : Int × (List UInt8) × Unit) => L_markText_b0 k n x.1 x.2.1) (zao k) (cutOK_of (l := []) (by kernel_rfl) trivial) (fun _ => rfl) (fun n x Q R h => by
    simp only [L_markText_b0, optK_bind, optK_bif, optK_pure, optK_none, optK_oc, optK_guardT, optK_map] at h
    refine hold_of h ?_
    kernel_rfl) (by kernel_rfl)
def zat (k : Nat) : Cuts D := ⟨[(0, some (zaq k))], []⟩
def zau : List Ar := [.c (.ki .i64)]
def zav (k : Nat) (x : TupA D zau) : Option ((List UInt8)) := L_markText k x.1
def zaw (r : (List UInt8)) : VR D := .p (.c (.str r))
theorem zax (k : Nat) : Does P X 48 zau (zav k) zaw :=
  does_of (body := bodyOf Go.Proofs.Try.f48) (pl := zam) (k := k) (cu := zat k) (tys := [[0]]) (zao k) ctx mixed Go.Proofs.Try.func48 (by kernel_rfl) (by kernel_rfl) (cutOK_of (l := [(zaq k, sub (bodyOf Go.Proofs.Try.f48) [1, 1, 1, 0])]) (by kernel_rfl) ⟨zas k, trivial⟩) fun x R h => by
    simp only [zav, L_markText, optK_bind, optK_bif, optK_pure, optK_none, optK_oc, optK_guardT, optK_map] at h
    refine hold_of h ?_
    kernel_rfl
def zay (k : Nat) : Entry D := entS zau (zav k) zaw
theorem zaz (k : Nat) : EntryOK X 48 (zay k) := (zax k).en rfl
def zb0 : Plan := ⟨[(0, [(0, some 44), (1, none)]), (1, [(0, some 44), (1, none), (5, none)]), (2, [(0, some 44), (1, none), (5, none), (9, none)]), (3, [(0, some 44), (1, none), (5, none)]), (4, [(0, some 44), (1, none), (5, none)]), (5, [(0, some 44), (1, none), (5, none)]), (6, [(0, some 44), (1, none), (5, none)]), (7, [(0, some 44), (1, none), (5, none)]), (8, [(0, some 44), (4, none)])],
  [(0, [(0, some 44), (1, none)]), (1, [(0, some 44), (1, none), (5, none)])],
  [(9, ([(0, some 44), (1, none), (5, none)], [(0, some 44), (1, none)]))]⟩
def zb1 (k : Nat) : Calls' D := ⟨[(48, zay k)], [], [], [], []⟩
theorem zb2 (k : Nat) : CallsOK X (zb1 k) := .cons (zaz k) (.nil cod)
def zb3 (x : Int × Int × (List IPiece) × Unit) (o : Int × (List IPiece)) (Q : Ex → VSt D → Prop) (R : VR D → Prop) : Prop := Q .normal (mkSt ⟨[(0, .ref 500000), (1, .hole)], [(500000, .row)]⟩ [.int .i64 o.1, .sl 44 o.2])
def zb4 (k : Nat) : Cut D := cutS ⟨[(0, .ref 500000), (1, .hole), (5, .hole)], [(500000, .row)]⟩ [.ki .i64, .ki .i64, .kl 44] (fun (x : Int × Int × (List IPiece) × Unit) => L_markPieceS_b0 k k x.1 x.2.1 x.2.2.1) zb3
def zb5 (k : Nat) : Cuts D := ⟨[], []⟩
theorem zb6 (k : Nat) : CutFor X zb0 k [.tmp 4, .tmp 0] (zb4 k) (sub (bodyOf Go.Proofs.Try.f25) [1, 0, 1]) :=
  loopCut_s (X := X) (sg := [.ki .i64, .ki .i64, .kl 44]) (cu := zb5 k) (cl := zb1 k) (tys := [[0], [44]]) (id := 0) (c := sub (bodyOf Go.Proofs.Try.f25) [1, 0, 1, 0, 0]) (f := fun n => fun (x : Int × Int × (List IPiece) × Unit) => L_markPieceS_b0 k n x.1 x.2.1 x.2.2.1) (zb2 k) (cutOK_of (l := []) (by kernel_rfl) trivial) (fun _ => rfl) (fun n x Q R h => by
    simp only [L_markPieceS_b0, optK_bind, optK_bif, optK_pure, optK_none, optK_oc, optK_guardT, optK_map] at h
    refine hold_of h ?_
    kernel_rfl) (by kernel_rfl)
def zb7 (k : Nat) : Cuts D := ⟨[(0, some (zb4 k))], []⟩
def zb8 (k : Nat) : ArT D (.c (.kl 44)) → Int → Option (Int × ArT D (.c (.kl 44))) := fun x n => L_markPieceS k x n
theorem zb9 (k : Nat) : DoesW P X 25 (.c (.kl 44)) (zb8 k) :=
  doesW_of (r0 := 4) (body := bodyOf Go.Proofs.Try.f25) (pl := zb0) (k := k) (cu := zb7 k) (tys := [[0], [44]]) (zb2 k) ctx mixed Go.Proofs.Try.func25 (by kernel_rfl) (by kernel_rfl) (by kernel_rfl) (by kernel_rfl) (cutOK_of (l := [(zb4 k, sub (bodyOf Go.Proofs.Try.f25) [1, 0, 1])]) (by kernel_rfl) ⟨zb6 k, trivial⟩) fun x n R h => by
    simp only [zb8, L_markPieceS, optK_bind, optK_bif, optK_pure, optK_none, optK_oc, optK_guardT, optK_map] at h
    refine hold_of h ?_
    kernel_rfl
def zba (k : Nat) : EntryW D := entW (.c (.kl 44)) (zb8 k)
theorem zbb (k : Nat) : EntryWOK X 25 (zba k) := (zb9 k).en rfl
def zbc : Plan := ⟨[(0, [(0, some 44), (1, none)]), (1, [(0, some 44), (1, none), (5, none)]), (2, [(0, some 44), (1, none), (5, none), (9, none)]), (3, [(0, some 44), (1, none), (5, none)]), (4, [(0, some 44), (1, none), (5, none), (18, none)]), (5, [(4, none)]), (6, [(0, some 44), (1, none), (5, none)]), (7, [(0, some 44), (1, none), (5, none), (28, none)]), (8, [(4, none)]), (9, [(0, some 44), (1, none), (5, none)]), (10, [(4, none)])],
  [(0, [(1, none)]), (1, [(0, some 44), (1, none), (5, none)])],
  [(9, ([(0, some 44), (1, none), (5, none)], [(1, none)])), (18, ([], [(0, some 44), (1, none), (5, none)])), (28, ([], [(0, some 44), (1, none), (5, none)]))]⟩
def zbd (k : Nat) : Calls' D := ⟨[(48, zay k)], [], [], [], []⟩
theorem zbe (k : Nat) : CallsOK X (zbd k) := .cons (zaz k) (.nil cod)
def zbf (x : (List IPiece) × Int × Int × Unit) (o : Oc (Int) (Int)) (Q : Ex → VSt D → Prop) (R : VR D → Prop) : Prop := ocP o (fun v0 => Q .normal (mkSt ⟨[(1, .hole)], []⟩ [.int .i64 v0])) (fun w0 => R (.p (.c (.int .i64 w0))))
def zbg (k : Nat) : Cut D := cutS ⟨[(0, .hole), (1, .hole), (5, .hole)], []⟩ [.kl 44, .ki .i64, .ki .i64] (fun (x : (List IPiece) × Int × Int × Unit) => L_heldPieceS_b0 k k x.1 x.2.1 x.2.2.1) zbf
def zbh (k : Nat) : Cuts D := ⟨[], []⟩
theorem zbi (k : Nat) : CutFor X zbc k Go.Proofs.Try.f26.results.toList (zbg k) (sub (bodyOf Go.Proofs.Try.f26) [1, 0, 1]) :=
  loopCut_s (X := X) (sg := [.kl 44, .ki .i64, .ki .i64]) (cu := zbh k) (cl := zbd k) (tys := [[0]]) (id := 0) (c := sub (bodyOf Go.Proofs.Try.f26) [1, 0, 1, 0, 0]) (f := fun n => fun (x : (List IPiece) × Int × Int × Unit) => L_heldPieceS_b0 k n x.1 x.2.1 x.2.2.1) (zbe k) (cutOK_of (l := []) (by kernel_rfl) trivial) (fun _ => rfl) (fun n x Q R h => by
    simp only [L_heldPieceS_b0, optK_bind, optK_bif, optK_pure, optK_none, optK_oc, optK_guardT, optK_map] at h
    refine hold_of h ?_
    kernel_rfl) (by kernel_rfl)
def zbj (k : Nat) : Cuts D := ⟨[(0, some (zbg k))], []⟩
def zbk : List Ar := [.c (.kl 44), .c (.ki .i64)]
def zbl (k : Nat) (x : TupA D zbk) : Option (Int) := L_heldPieceS k x.1 x.2.1
def zbm (r : Int) : VR D := .p (.c (.int .i64 r))
theorem zbn (k : Nat) : Does P X 26 zbk (zbl k) zbm :=
  does_of (body := bodyOf Go.Proofs.Try.f26) (pl := zbc) (k := k) (cu := zbj k) (tys := [[0]]) (zbe k) ctx mixed Go.Proofs.Try.func26 (by kernel_rfl) (by kernel_rfl) (cutOK_of (l := [(zbg k, sub (bodyOf Go.Proofs.Try.f26) [1, 0, 1])]) (by kernel_rfl) ⟨zbi k, trivial⟩) fun x R h => by
    simp only [zbl, L_heldPieceS, optK_bind, optK_bif, optK_pure, optK_none, optK_oc, optK_guardT, optK_map] at h
    refine hold_of h ?_
    kernel_rfl
def zbo (k : Nat) : Entry D := entS zbk (zbl k) zbm
theorem zbp (k : Nat) : EntryOK X 26 (zbo k) := (zbn k).en rfl
def zbq : Plan := ⟨[(0, [(0, some 37), (1, none), (5, none)]), (1, [(0, some 37), (1, none), (5, none), (7, none)]), (2, [(0, some 37), (1, none), (5, none), (7, none)]), (3, [(0, some 37), (1, none), (5, none), (7, none), (22, none)]), (4, [(6, none)]), (5, [(0, some 37), (1, none), (5, none), (7, none)]), (6, [(0, some 37), (1, none), (5, none), (27, none)]), (7, [(6, none)]), (8, [(0, some 37), (1, none), (5, none), (8, some 44), (9, none)]), (9, [(0, some 37), (1, none), (5, none), (8, some 44), (9, none), (10, some 44)]), (10, [(0, some 37), (1, none), (5, none), (8, some 44), (9, none), (10, some 44), (11, some 44), (12, none)]), (11, [(0, some 37), (1, none), (5, none), (8, some 44), (9, none), (10, some 44), (11, some 44), (12, none), (55, none)]), (12, [(6, none)]), (13, [(0, some 37), (1, none), (5, none), (8, some 44), (9, none), (10, some 44), (11, some 44), (12, none), (60, none)]), (14, [(6, none)]), (15, [(0, some 37), (1, none), (5, none), (8, some 44), (9, none), (10, some 44), (11, some 44), (12, none), (13, none)]), (16, [(0, some 37), (1, none), (5, none), (8, some 44), (9, none), (11, some 44), (12, none), (13, none)]), (17, [(0, some 37), (1, none), (5, none), (8, some 44), (9, none), (11, some 44), (76, none)]), (18, [(6, none)]), (19, [(0, some 37), (1, none), (5, none), (8, some 44), (9, none), (11, some 44), (14, none)]), (20, [(0, some 37), (1, none), (5, none), (8, some 44), (9, none), (11, some 44), (14, none)]), (21, [(0, some 37), (1, none), (5, none), (8, some 44), (9, none), (11, some 44), (14, none), (15, none)]), (22, [(0, some 37), (1, none), (5, none), (8, some 44), (9, none), (11, some 44), (14, none), (15, none)]), (23, [(0, some 37), (1, none), (5, none), (8, some 44), (9, none), (11, some 44), (14, none), (15, none), (84, none)]), (24, [(6, none)]), (25, [(0, some 37), (1, none), (5, none), (8, some 44), (9, none), (11, some 44), (14, none), (87, none)]), (26, [(6, none)]), (27, [(8, some 44), (9, none), (11, some 44), (14, none), (16, some 44), (17, none)]), (28, [(11, some 44), (14, none), (105, none)]), (29, [(6, none)]), (30, [(11, some 44), (14, none), (15, none)]), (31, [(14, none), (15, none)]), (32, [(14, none), (15, none), (110, none)]), (33, [(6, none)]), (34, [(113, none)]), (35, [(6, none)]), (36, [(6, none)])],
  [],
  [(22, ([], [(0, some 37), (1, none), (5, none), (7, none)])), (27, ([], [(0, some 37), (1, none), (5, none)])), (55, ([], [(0, some 37), (1, none), (5, none), (8, some 44), (9, none), (10, some 44), (11, some 44), (12, none)])), (60, ([], [(0, some 37), (1, none), (5, none), (8, some 44), (9, none), (10, some 44), (11, some 44), (12, none)])), (76, ([], [(0, some 37), (1, none), (5, none), (8, some 44), (9, none), (11, some 44)])), (84, ([], [(0, some 37), (1, none), (5, none), (8, some 44), (9, none), (11, some 44), (14, none), (15, none)])), (87, ([], [(0, some 37), (1, none), (5, none), (8, some 44), (9, none), (11, some 44), (14, none)])), (105, ([], [(11, some 44), (14, none)])), (110, ([], [(14, none), (15, none)])), (113, ([], []))]⟩
def zbr (k : Nat) : Calls' D := ⟨[(18, zm k), (19, z8 k), (21, z1a k), (22, zw k), (20, z5o k), (23, z9w k), (24, zak k), (26, zbo k)], [(25, zba k)], [], [], []⟩
theorem zbs (k : Nat) : CallsOK X (zbr k) := .cons (zn k) (.cons (z9 k) (.cons (z1b k) (.cons (zx k) (.cons (z5p k) (.cons (z9x k) (.cons (zal k) (.cons (zbp k) (.consW (zbb k) (.nil cod)))))))))
def zbt (k : Nat) : Cuts D := ⟨[], []⟩
def L_FnExactAddPiece_ar : List Ar := [.c (.kl 37), .c (.ki .i64), .a [.ki .i64, .ks]]
def L_FnExactAddPiece_f (k : Nat) (x : TupA D L_FnExactAddPiece_ar) : Option (Bool) := L_FnExactAddPiece k x.1 x.2.1 (⟨x.2.2.1.1, x.2.2.1.2.1⟩ : LPiece)
def L_FnExactAddPiece_vr (r : Bool) : VR D := .p (.c (.bool r))
theorem L_FnExactAddPiece_ok (k : Nat) : Does P X 4 L_FnExactAddPiece_ar (L_FnExactAddPiece_f k) L_FnExactAddPiece_vr :=
  does_of (body := bodyOf Go.Proofs.Try.f4) (pl := zbq) (k := k) (cu := zbt k) (tys := [[0]]) (zbs k) ctx mixed Go.Proofs.Try.func4 (by kernel_rfl) (by kernel_rfl) (cutOK_of (l := []) (by kernel_rfl) trivial) fun x R h => by
    simp only [L_FnExactAddPiece_f, L_FnExactAddPiece, optK_bind, optK_bif, optK_pure, optK_none, optK_oc, optK_guardT, optK_map] at h
    refine hold_of h ?_
    kernel_rfl
def zbu (k : Nat) : Entry D := entS L_FnExactAddPiece_ar (L_FnExactAddPiece_f k) L_FnExactAddPiece_vr
theorem zbv (k : Nat) : EntryOK X 4 (zbu k) := (L_FnExactAddPiece_ok k).en rfl

end
end Go.Ytolmhhnhmbiofaa
