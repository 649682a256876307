/- The machine computes the functions. Nothing is claimed here. -/
import Derived.Test.YtilbenelefdihaaKf
set_option linter.unusedVariables false
set_option linter.unusedSimpArgs false
set_option maxRecDepth 100000
namespace Go.Ytilbenelefdihaa
open Go Go.RowKit Go.Pv
noncomputable section

def L_szPiece_pl : Plan := ⟨[(0, [(1, none), (2, none)]), (1, [(1, none)]), (2, [(1, none), (11, none)]), (3, [(4, none)]), (4, [(4, none)])],
  [],
  [(11, ([], [(1, none)]))]⟩
def L_szPiece_cl (k : Nat) : Calls' D := ⟨[], []⟩
theorem L_szPiece_ck (k : Nat) : CallsOK X (L_szPiece_cl k) := .nil cod
def L_szPiece_cu (k : Nat) : Cuts D := ⟨[], []⟩
def L_szPiece_ar : List Ar := [.a [.ki .i64, .ks], .c (.ki .i64)]
def L_szPiece_f (k : Nat) (x : TupA D L_szPiece_ar) : Option (Int) := L_szPiece k (⟨x.1.1, x.1.2.1⟩ : LPiece) x.2.1
def L_szPiece_vr (r : Int) : VR D := .p (.c (.int .i64 r))
theorem L_szPiece_ok (k : Nat) : Does P X 65 L_szPiece_ar (L_szPiece_f k) L_szPiece_vr :=
  does_of (body := bodyOf Go.Proofs.Try.f65) (pl := L_szPiece_pl) (k := k) (cu := L_szPiece_cu k) (tys := [[0]]) (L_szPiece_ck k) ctx mixed Go.Proofs.Try.func65 (by kernel_rfl) (by kernel_rfl) (cutOK_of (l := []) (by kernel_rfl) trivial) fun x R h => by
    simp only [L_szPiece_f, L_szPiece, optK_bind, optK_bif, optK_pure, optK_none, optK_oc, optK_guardT, optK_map] at h
    refine hold_of h ?_
    kernel_rfl
def L_szPiece_en (k : Nat) : Entry D := entS L_szPiece_ar (L_szPiece_f k) L_szPiece_vr
theorem L_szPiece_eo (k : Nat) : EntryOK X 65 (L_szPiece_en k) := (L_szPiece_ok k).en rfl
def L_szPieceS_pl : Plan := ⟨[(0, [(0, some 90), (1, none)]), (1, [(0, some 90), (1, none)]), (2, [(0, some 90), (1, none), (11, none)]), (3, [(4, none)]), (4, [(0, some 90), (1, none), (5, none)]), (5, [(0, some 90), (1, none), (5, none), (15, none)]), (6, [(0, some 90), (1, none), (5, none)]), (7, [(0, some 90), (1, none), (5, none)]), (8, [(0, some 90), (1, none), (5, none), (25, none)]), (9, [(4, none)]), (10, [(4, none)])],
  [(0, [(1, none)]), (1, [(0, some 90), (1, none), (5, none)])],
  [(11, ([], [(0, some 90), (1, none)])), (15, ([(0, some 90), (1, none), (5, none)], [(1, none)])), (25, ([], [(0, some 90), (1, none), (5, none)]))]⟩
def L_szPieceS_cl (k : Nat) : Calls' D := ⟨[(65, L_szPiece_en k)], []⟩
theorem L_szPieceS_ck (k : Nat) : CallsOK X (L_szPieceS_cl k) := .cons (L_szPiece_eo k) (.nil cod)
def L_szPieceS_b0_L (x : (List LPiece) × Int × Int × Unit) (o : Oc (Int) (Int)) (Q : Ex → VSt D → Prop) (R : VR D → Prop) : Prop := ocP o (fun v0 => Q .normal (mkSt ⟨[(1, .hole)], []⟩ [.int .i64 v0])) (fun w0 => R (.p (.c (.int .i64 w0))))
def L_szPieceS_b0_cut (k : Nat) : Cut D := cutS ⟨[(0, .hole), (1, .hole), (5, .hole)], []⟩ [.kl 90, .ki .i64, .ki .i64] (fun (x : (List LPiece) × Int × Int × Unit) => L_szPieceS_b0 k k x.1 x.2.1 x.2.2.1) L_szPieceS_b0_L
def L_szPieceS_b0_cu (k : Nat) : Cuts D := ⟨[], []⟩
theorem L_szPieceS_b0_ok (k : Nat) : CutFor X L_szPieceS_pl k Go.Proofs.Try.f34.results.toList (L_szPieceS_b0_cut k) (sub (bodyOf Go.Proofs.Try.f34) [1, 1, 1, 0, 1]) :=
  loopCut_s (X := X) (sg := [.kl 90, .ki .i64, .ki .i64]) (cu := L_szPieceS_b0_cu k) (cl := L_szPieceS_cl k) (tys := [[0]]) (id := 0) (c := sub (bodyOf Go.Proofs.Try.f34) [1, 1, 1, 0, 1, 0, 0]) (f := fun n => fun (x : (List LPiece) × Int × Int × Unit) => L_szPieceS_b0 k n x.1 x.2.1 x.2.2.1) (L_szPieceS_ck k) (cutOK_of (l := []) (by kernel_rfl) trivial) (fun _ => rfl) (fun n x Q R h => by
    simp only [L_szPieceS_b0, optK_bind, optK_bif, optK_pure, optK_none, optK_oc, optK_guardT, optK_map] at h
    refine hold_of h ?_
    kernel_rfl) (by kernel_rfl)
def L_szPieceS_cu (k : Nat) : Cuts D := ⟨[(0, some (L_szPieceS_b0_cut k))], []⟩
def L_szPieceS_ar : List Ar := [.c (.kl 90), .c (.ki .i64)]
def L_szPieceS_f (k : Nat) (x : TupA D L_szPieceS_ar) : Option (Int) := L_szPieceS k x.1 x.2.1
def L_szPieceS_vr (r : Int) : VR D := .p (.c (.int .i64 r))
theorem L_szPieceS_ok (k : Nat) : Does P X 34 L_szPieceS_ar (L_szPieceS_f k) L_szPieceS_vr :=
  does_of (body := bodyOf Go.Proofs.Try.f34) (pl := L_szPieceS_pl) (k := k) (cu := L_szPieceS_cu k) (tys := [[0]]) (L_szPieceS_ck k) ctx mixed Go.Proofs.Try.func34 (by kernel_rfl) (by kernel_rfl) (cutOK_of (l := [(L_szPieceS_b0_cut k, sub (bodyOf Go.Proofs.Try.f34) [1, 1, 1, 0, 1])]) (by kernel_rfl) ⟨L_szPieceS_b0_ok k, trivial⟩) fun x R h => by
    simp only [L_szPieceS_f, L_szPieceS, optK_bind, optK_bif, optK_pure, optK_none, optK_oc, optK_guardT, optK_map] at h
    refine hold_of h ?_
    kernel_rfl
def L_szPieceS_en (k : Nat) : Entry D := entS L_szPieceS_ar (L_szPieceS_f k) L_szPieceS_vr
theorem L_szPieceS_eo (k : Nat) : EntryOK X 34 (L_szPieceS_en k) := (L_szPieceS_ok k).en rfl
def L_toPiece_pl : Plan := ⟨[(0, [(1, none), (2, none)]), (1, [(1, none), (2, none), (3, none)]), (2, [(1, none), (2, none), (3, none)]), (3, [(2, none), (3, none)]), (4, [(2, none)])],
  [],
  []⟩
def L_toPiece_cl (k : Nat) : Calls' D := ⟨[], []⟩
theorem L_toPiece_ck (k : Nat) : CallsOK X (L_toPiece_cl k) := .nil cod
def L_toPiece_cu (k : Nat) : Cuts D := ⟨[], []⟩
def L_toPiece_ar : List Ar := [.a [.ki .i64, .ks]]
def L_toPiece_f (k : Nat) (x : TupA D L_toPiece_ar) : Option (IPiece) := L_toPiece k (⟨x.1.1, x.1.2.1⟩ : LPiece)
def L_toPiece_vr (r : IPiece) : VR D := .p (.agg [.int .i64 r.From, .str r.Data])
theorem L_toPiece_ok (k : Nat) : Does P X 66 L_toPiece_ar (L_toPiece_f k) L_toPiece_vr :=
  does_of (body := bodyOf Go.Proofs.Try.f66) (pl := L_toPiece_pl) (k := k) (cu := L_toPiece_cu k) (tys := [[0, 0]]) (L_toPiece_ck k) ctx mixed Go.Proofs.Try.func66 (by kernel_rfl) (by kernel_rfl) (cutOK_of (l := []) (by kernel_rfl) trivial) fun x R h => by
    simp only [L_toPiece_f, L_toPiece, optK_bind, optK_bif, optK_pure, optK_none, optK_oc, optK_guardT, optK_map] at h
    refine hold_of h ?_
    kernel_rfl
def L_toPiece_en (k : Nat) : Entry D := entS L_toPiece_ar (L_toPiece_f k) L_toPiece_vr
theorem L_toPiece_eo (k : Nat) : EntryOK X 66 (L_toPiece_en k) := (L_toPiece_ok k).en rfl
def L_toPieceS_pl : Plan := ⟨[(0, [(0, some 90)]), (1, [(0, some 90), (3, some 91)]), (2, [(0, some 90), (3, some 91), (4, none)]), (3, [(0, some 90), (3, some 91), (4, none), (11, none)]), (4, [(0, some 90), (3, some 91), (4, none)]), (5, [(0, some 90), (3, some 91), (4, none)]), (6, [(2, some 91)])],
  [(0, [(3, some 91)]), (1, [(0, some 90), (3, some 91), (4, none)])],
  [(11, ([(0, some 90), (3, some 91), (4, none)], [(3, some 91)]))]⟩
def L_toPieceS_cl (k : Nat) : Calls' D := ⟨[(66, L_toPiece_en k)], []⟩
theorem L_toPieceS_ck (k : Nat) : CallsOK X (L_toPieceS_cl k) := .cons (L_toPiece_eo k) (.nil cod)
def L_toPieceS_b0_L (x : (List LPiece) × Int × (List IPiece) × Unit) (o : (List IPiece)) (Q : Ex → VSt D → Prop) (R : VR D → Prop) : Prop := Q .normal (mkSt ⟨[(3, .ref 500003)], [(500003, .row)]⟩ [.sl 91 o])
def L_toPieceS_b0_cut (k : Nat) : Cut D := cutS ⟨[(0, .hole), (3, .ref 500003), (4, .hole)], [(500003, .row)]⟩ [.kl 90, .ki .i64, .kl 91] (fun (x : (List LPiece) × Int × (List IPiece) × Unit) => L_toPieceS_b0 k k x.1 x.2.1 x.2.2.1) L_toPieceS_b0_L
def L_toPieceS_b0_cu (k : Nat) : Cuts D := ⟨[], []⟩
theorem L_toPieceS_b0_ok (k : Nat) : CutFor X L_toPieceS_pl k Go.Proofs.Try.f36.results.toList (L_toPieceS_b0_cut k) (sub (bodyOf Go.Proofs.Try.f36) [1, 1, 0, 1]) :=
  loopCut_s (X := X) (sg := [.kl 90, .ki .i64, .kl 91]) (cu := L_toPieceS_b0_cu k) (cl := L_toPieceS_cl k) (tys := [[91]]) (id := 0) (c := sub (bodyOf Go.Proofs.Try.f36) [1, 1, 0, 1, 0, 0]) (f := fun n => fun (x : (List LPiece) × Int × (List IPiece) × Unit) => L_toPieceS_b0 k n x.1 x.2.1 x.2.2.1) (L_toPieceS_ck k) (cutOK_of (l := []) (by kernel_rfl) trivial) (fun _ => rfl) (fun n x Q R h => by
    simp only [L_toPieceS_b0, optK_bind, optK_bif, optK_pure, optK_none, optK_oc, optK_guardT, optK_map] at h
    refine hold_of h ?_
    kernel_rfl) (by kernel_rfl)
def L_toPieceS_cu (k : Nat) : Cuts D := ⟨[(0, some (L_toPieceS_b0_cut k))], []⟩
def L_toPieceS_ar : List Ar := [.c (.kl 90)]
def L_toPieceS_f (k : Nat) (x : TupA D L_toPieceS_ar) : Option ((List IPiece)) := L_toPieceS k x.1
def L_toPieceS_vr (r : (List IPiece)) : VR D := .p (.c (.sl 91 r))
theorem L_toPieceS_ok (k : Nat) : Does P X 36 L_toPieceS_ar (L_toPieceS_f k) L_toPieceS_vr :=
  does_of (body := bodyOf Go.Proofs.Try.f36) (pl := L_toPieceS_pl) (k := k) (cu := L_toPieceS_cu k) (tys := [[91]]) (L_toPieceS_ck k) ctx mixed Go.Proofs.Try.func36 (by kernel_rfl) (by kernel_rfl) (cutOK_of (l := [(L_toPieceS_b0_cut k, sub (bodyOf Go.Proofs.Try.f36) [1, 1, 0, 1])]) (by kernel_rfl) ⟨L_toPieceS_b0_ok k, trivial⟩) fun x R h => by
    simp only [L_toPieceS_f, L_toPieceS, optK_bind, optK_bif, optK_pure, optK_none, optK_oc, optK_guardT, optK_map] at h
    refine hold_of h ?_
    kernel_rfl
def L_toPieceS_en (k : Nat) : Entry D := entS L_toPieceS_ar (L_toPieceS_f k) L_toPieceS_vr
theorem L_toPieceS_eo (k : Nat) : EntryOK X 36 (L_toPieceS_en k) := (L_toPieceS_ok k).en rfl
def S_SpansOf_pl : Plan := ⟨[(0, [(0, some 91)]), (1, [(0, some 91), (3, some 39)]), (2, [(0, some 91), (3, some 39), (4, none)]), (3, [(0, some 91), (3, some 39), (4, none), (9, none)]), (4, [(0, some 91), (3, some 39), (4, none)]), (5, [(0, some 91), (3, some 39), (4, none)]), (6, [(2, some 39)])],
  [(0, [(3, some 39)]), (1, [(0, some 91), (3, some 39), (4, none)])],
  [(9, ([(0, some 91), (3, some 39), (4, none)], [(3, some 39)]))]⟩
def S_SpansOf_cl (k : Nat) : Calls' D := ⟨[], []⟩
theorem S_SpansOf_ck (k : Nat) : CallsOK X (S_SpansOf_cl k) := .nil cod
def S_SpansOf_b0_L (x : (List IPiece) × Int × (List ISpan) × Unit) (o : (List ISpan)) (Q : Ex → VSt D → Prop) (R : VR D → Prop) : Prop := Q .normal (mkSt ⟨[(3, .ref 500003)], [(500003, .row)]⟩ [.sl 39 o])
def S_SpansOf_b0_cut (k : Nat) : Cut D := cutS ⟨[(0, .hole), (3, .ref 500003), (4, .hole)], [(500003, .row)]⟩ [.kl 91, .ki .i64, .kl 39] (fun (x : (List IPiece) × Int × (List ISpan) × Unit) => S_SpansOf_b0 k k x.1 x.2.1 x.2.2.1) S_SpansOf_b0_L
def S_SpansOf_b0_cu (k : Nat) : Cuts D := ⟨[], []⟩
theorem S_SpansOf_b0_ok (k : Nat) : CutFor X S_SpansOf_pl k Go.Proofs.Try.f54.results.toList (S_SpansOf_b0_cut k) (sub (bodyOf Go.Proofs.Try.f54) [1, 1, 0, 1]) :=
  loopCut_s (X := X) (sg := [.kl 91, .ki .i64, .kl 39]) (cu := S_SpansOf_b0_cu k) (cl := S_SpansOf_cl k) (tys := [[39]]) (id := 0) (c := sub (bodyOf Go.Proofs.Try.f54) [1, 1, 0, 1, 0, 0]) (f := fun n => fun (x : (List IPiece) × Int × (List ISpan) × Unit) => S_SpansOf_b0 k n x.1 x.2.1 x.2.2.1) (S_SpansOf_ck k) (cutOK_of (l := []) (by kernel_rfl) trivial) (fun _ => rfl) (fun n x Q R h => by
    simp only [S_SpansOf_b0, optK_bind, optK_bif, optK_pure, optK_none, optK_oc, optK_guardT, optK_map] at h
    refine hold_of h ?_
    kernel_rfl) (by kernel_rfl)
def S_SpansOf_cu (k : Nat) : Cuts D := ⟨[(0, some (S_SpansOf_b0_cut k))], []⟩
def S_SpansOf_ar : List Ar := [.c (.kl 91)]
def S_SpansOf_f (k : Nat) (x : TupA D S_SpansOf_ar) : Option ((List ISpan)) := S_SpansOf k x.1
def S_SpansOf_vr (r : (List ISpan)) : VR D := .p (.c (.sl 39 r))
theorem S_SpansOf_ok (k : Nat) : Does P X 54 S_SpansOf_ar (S_SpansOf_f k) S_SpansOf_vr :=
  does_of (body := bodyOf Go.Proofs.Try.f54) (pl := S_SpansOf_pl) (k := k) (cu := S_SpansOf_cu k) (tys := [[39]]) (S_SpansOf_ck k) ctx mixed Go.Proofs.Try.func54 (by kernel_rfl) (by kernel_rfl) (cutOK_of (l := [(S_SpansOf_b0_cut k, sub (bodyOf Go.Proofs.Try.f54) [1, 1, 0, 1])]) (by kernel_rfl) ⟨S_SpansOf_b0_ok k, trivial⟩) fun x R h => by
    simp only [S_SpansOf_f, S_SpansOf, optK_bind, optK_bif, optK_pure, optK_none, optK_oc, optK_guardT, optK_map] at h
    refine hold_of h ?_
    kernel_rfl
def S_SpansOf_en (k : Nat) : Entry D := entS S_SpansOf_ar (S_SpansOf_f k) S_SpansOf_vr
theorem S_SpansOf_eo (k : Nat) : EntryOK X 54 (S_SpansOf_en k) := (S_SpansOf_ok k).en rfl
def S_CoversSpan_pl : Plan := ⟨[(0, [(0, some 39), (3, none)]), (1, [(0, some 39), (3, none), (5, none)]), (2, [(0, some 39), (3, none), (5, none), (9, none)]), (3, [(0, some 39), (3, none), (5, none)]), (4, [(0, some 39), (3, none), (5, none), (29, none)]), (5, [(4, none)]), (6, [(4, none)])],
  [(0, [(3, none)]), (1, [(0, some 39), (3, none), (5, none)])],
  [(9, ([(0, some 39), (3, none), (5, none)], [(3, none)])), (29, ([], [(0, some 39), (3, none), (5, none)]))]⟩
def S_CoversSpan_cl (k : Nat) : Calls' D := ⟨[], []⟩
theorem S_CoversSpan_ck (k : Nat) : CallsOK X (S_CoversSpan_cl k) := .nil cod
def S_CoversSpan_b0_L (x : (List ISpan) × Int × Int × Int × Unit) (o : Oc (Unit) (Bool)) (Q : Ex → VSt D → Prop) (R : VR D → Prop) : Prop := ocP o (fun v0 => Q .normal (mkSt ⟨[(3, .ptr 3 0)], [(3, .var [.hole, .hole])]⟩ [.int .i64 x.2.2.1, .int .i64 x.2.2.2.1])) (fun w0 => R (.p (.c (.bool w0))))
def S_CoversSpan_b0_cut (k : Nat) : Cut D := cutS ⟨[(0, .hole), (3, .ptr 3 0), (5, .hole)], [(3, .var [.hole, .hole])]⟩ [.kl 39, .ki .i64, .ki .i64, .ki .i64] (fun (x : (List ISpan) × Int × Int × Int × Unit) => S_CoversSpan_b0 k k x.1 x.2.1 x.2.2.1 x.2.2.2.1) S_CoversSpan_b0_L
def S_CoversSpan_b0_cu (k : Nat) : Cuts D := ⟨[], []⟩
theorem S_CoversSpan_b0_ok (k : Nat) : CutFor X S_CoversSpan_pl k Go.Proofs.Try.f24.results.toList (S_CoversSpan_b0_cut k) (sub (bodyOf Go.Proofs.Try.f24) [1, 0, 1]) :=
  loopCut_s (X := X) (sg := [.kl 39, .ki .i64, .ki .i64, .ki .i64]) (cu := S_CoversSpan_b0_cu k) (cl := S_CoversSpan_cl k) (tys := [[0]]) (id := 0) (c := sub (bodyOf Go.Proofs.Try.f24) [1, 0, 1, 0, 0]) (f := fun n => fun (x : (List ISpan) × Int × Int × Int × Unit) => S_CoversSpan_b0 k n x.1 x.2.1 x.2.2.1 x.2.2.2.1) (S_CoversSpan_ck k) (cutOK_of (l := []) (by kernel_rfl) trivial) (fun _ => rfl) (fun n x Q R h => by
    simp only [S_CoversSpan_b0, optK_bind, optK_bif, optK_pure, optK_none, optK_oc, optK_guardT, optK_map] at h
    refine hold_of h ?_
    kernel_rfl) (by kernel_rfl)
def S_CoversSpan_cu (k : Nat) : Cuts D := ⟨[(0, some (S_CoversSpan_b0_cut k))], []⟩
def S_CoversSpan_ar : List Ar := [.c (.kl 39), .a [.ki .i64, .ki .i64]]
def S_CoversSpan_f (k : Nat) (x : TupA D S_CoversSpan_ar) : Option (Bool) := S_CoversSpan k x.1 (⟨x.2.1.1, x.2.1.2.1⟩ : ISpan)
def S_CoversSpan_vr (r : Bool) : VR D := .p (.c (.bool r))
theorem S_CoversSpan_ok (k : Nat) : Does P X 24 S_CoversSpan_ar (S_CoversSpan_f k) S_CoversSpan_vr :=
  does_of (body := bodyOf Go.Proofs.Try.f24) (pl := S_CoversSpan_pl) (k := k) (cu := S_CoversSpan_cu k) (tys := [[0]]) (S_CoversSpan_ck k) ctx mixed Go.Proofs.Try.func24 (by kernel_rfl) (by kernel_rfl) (cutOK_of (l := [(S_CoversSpan_b0_cut k, sub (bodyOf Go.Proofs.Try.f24) [1, 0, 1])]) (by kernel_rfl) ⟨S_CoversSpan_b0_ok k, trivial⟩) fun x R h => by
    simp only [S_CoversSpan_f, S_CoversSpan, optK_bind, optK_bif, optK_pure, optK_none, optK_oc, optK_guardT, optK_map] at h
    refine hold_of h ?_
    kernel_rfl
def S_CoversSpan_en (k : Nat) : Entry D := entS S_CoversSpan_ar (S_CoversSpan_f k) S_CoversSpan_vr
theorem S_CoversSpan_eo (k : Nat) : EntryOK X 24 (S_CoversSpan_en k) := (S_CoversSpan_ok k).en rfl
def S_IsWhole_pl : Plan := ⟨[(0, [(0, some 91), (1, none)]), (1, [(4, none)])],
  [],
  []⟩
def S_IsWhole_cl (k : Nat) : Calls' D := ⟨[(54, S_SpansOf_en k), (24, S_CoversSpan_en k)], []⟩
theorem S_IsWhole_ck (k : Nat) : CallsOK X (S_IsWhole_cl k) := .cons (S_SpansOf_eo k) (.cons (S_CoversSpan_eo k) (.nil cod))
def S_IsWhole_cu (k : Nat) : Cuts D := ⟨[], []⟩
def S_IsWhole_ar : List Ar := [.c (.kl 91), .c (.ki .i64)]
def S_IsWhole_f (k : Nat) (x : TupA D S_IsWhole_ar) : Option (Bool) := S_IsWhole k x.1 x.2.1
def S_IsWhole_vr (r : Bool) : VR D := .p (.c (.bool r))
theorem S_IsWhole_ok (k : Nat) : Does P X 41 S_IsWhole_ar (S_IsWhole_f k) S_IsWhole_vr :=
  does_of (body := bodyOf Go.Proofs.Try.f41) (pl := S_IsWhole_pl) (k := k) (cu := S_IsWhole_cu k) (tys := [[0]]) (S_IsWhole_ck k) ctx mixed Go.Proofs.Try.func41 (by kernel_rfl) (by kernel_rfl) (cutOK_of (l := []) (by kernel_rfl) trivial) fun x R h => by
    simp only [S_IsWhole_f, S_IsWhole, optK_bind, optK_bif, optK_pure, optK_none, optK_oc, optK_guardT, optK_map] at h
    refine hold_of h ?_
    kernel_rfl
def S_IsWhole_en (k : Nat) : Entry D := entS S_IsWhole_ar (S_IsWhole_f k) S_IsWhole_vr
theorem S_IsWhole_eo (k : Nat) : EntryOK X 41 (S_IsWhole_en k) := (S_IsWhole_ok k).en rfl
def I_SpansOf_pl : Plan := ⟨[(0, [(0, some 91)]), (1, [(0, some 91), (3, some 39)]), (2, [(3, some 39), (7, some 91), (8, none), (9, none)]), (3, [(3, some 39), (7, some 91), (8, none), (9, none), (10, none)]), (4, [(3, some 39), (5, none), (7, some 91), (8, none), (9, none)]), (5, [(3, some 39), (7, some 91), (8, none), (9, none)]), (6, [(3, some 39), (7, some 91), (8, none), (9, none)]), (7, [(2, some 39)])],
  [(0, [(3, some 39)]), (1, [(3, some 39), (7, some 91), (8, none), (9, none)])],
  [(10, ([(3, some 39), (7, some 91), (8, none), (9, none)], [(3, some 39)]))]⟩
def I_SpansOf_cl (k : Nat) : Calls' D := ⟨[], []⟩
theorem I_SpansOf_ck (k : Nat) : CallsOK X (I_SpansOf_cl k) := .nil cod
def I_SpansOf_b0_L (x : (List IPiece) × Int × Int × (List ISpan) × Unit) (o : (List ISpan)) (Q : Ex → VSt D → Prop) (R : VR D → Prop) : Prop := Q .normal (mkSt ⟨[(3, .ref 500003)], [(500003, .row)]⟩ [.sl 39 o])
def I_SpansOf_b0_cut (k : Nat) : Cut D := cutS ⟨[(3, .ref 500003), (7, .hole), (8, .hole), (9, .hole)], [(500003, .row)]⟩ [.kl 91, .ki .i64, .ki .i64, .kl 39] (fun (x : (List IPiece) × Int × Int × (List ISpan) × Unit) => I_SpansOf_b0 k k x.1 x.2.1 x.2.2.1 x.2.2.2.1) I_SpansOf_b0_L
def I_SpansOf_b0_cu (k : Nat) : Cuts D := ⟨[], []⟩
theorem I_SpansOf_b0_ok (k : Nat) : CutFor X I_SpansOf_pl k Go.Proofs.Try.f55.results.toList (I_SpansOf_b0_cut k) (sub (bodyOf Go.Proofs.Try.f55) [1, 1, 0, 1]) :=
  loopCut_s (X := X) (sg := [.kl 91, .ki .i64, .ki .i64, .kl 39]) (cu := I_SpansOf_b0_cu k) (cl := I_SpansOf_cl k) (tys := [[39]]) (id := 0) (c := sub (bodyOf Go.Proofs.Try.f55) [1, 1, 0, 1, 0, 0]) (f := fun n => fun (x : (List IPiece) × Int × Int × (List ISpan) × Unit) => I_SpansOf_b0 k n x.1 x.2.1 x.2.2.1 x.2.2.2.1) (I_SpansOf_ck k) (cutOK_of (l := []) (by kernel_rfl) trivial) (fun _ => rfl) (fun n x Q R h => by
    simp only [I_SpansOf_b0, optK_bind, optK_bif, optK_pure, optK_none, optK_oc, optK_guardT, optK_map] at h
    refine hold_of h ?_
    kernel_rfl) (by kernel_rfl)
def I_SpansOf_cu (k : Nat) : Cuts D := ⟨[(0, some (I_SpansOf_b0_cut k))], []⟩
def I_SpansOf_ar : List Ar := [.c (.kl 91)]
def I_SpansOf_f (k : Nat) (x : TupA D I_SpansOf_ar) : Option ((List ISpan)) := I_SpansOf k x.1
def I_SpansOf_vr (r : (List ISpan)) : VR D := .p (.c (.sl 39 r))
theorem I_SpansOf_ok (k : Nat) : Does P X 55 I_SpansOf_ar (I_SpansOf_f k) I_SpansOf_vr :=
  does_of (body := bodyOf Go.Proofs.Try.f55) (pl := I_SpansOf_pl) (k := k) (cu := I_SpansOf_cu k) (tys := [[39]]) (I_SpansOf_ck k) ctx mixed Go.Proofs.Try.func55 (by kernel_rfl) (by kernel_rfl) (cutOK_of (l := [(I_SpansOf_b0_cut k, sub (bodyOf Go.Proofs.Try.f55) [1, 1, 0, 1])]) (by kernel_rfl) ⟨I_SpansOf_b0_ok k, trivial⟩) fun x R h => by
    simp only [I_SpansOf_f, I_SpansOf, optK_bind, optK_bif, optK_pure, optK_none, optK_oc, optK_guardT, optK_map] at h
    refine hold_of h ?_
    kernel_rfl
def I_SpansOf_en (k : Nat) : Entry D := entS I_SpansOf_ar (I_SpansOf_f k) I_SpansOf_vr
theorem I_SpansOf_eo (k : Nat) : EntryOK X 55 (I_SpansOf_en k) := (I_SpansOf_ok k).en rfl
def I_CoversSpan_1_pl : Plan := ⟨[(0, [(1, none), (2, none)]), (1, [(3, none)])],
  [],
  []⟩
def I_CoversSpan_1_cl (k : Nat) : Calls' D := ⟨[], []⟩
theorem I_CoversSpan_1_ck (k : Nat) : CallsOK X (I_CoversSpan_1_cl k) := .nil cod
def I_CoversSpan_1_cu (k : Nat) : Cuts D := ⟨[], []⟩
def I_CoversSpan_1_ar : List Ar := [.a [.ki .i64, .ki .i64], .x [.ki .i64, .ki .i64]]
def I_CoversSpan_1_f (k : Nat) (x : TupA D I_CoversSpan_1_ar) : Option (Bool) := I_CoversSpan_1 k (⟨x.1.1, x.1.2.1⟩ : ISpan) x.2.1.1 x.2.1.2.1
def I_CoversSpan_1_vr (r : Bool) : VR D := .p (.c (.bool r))
theorem I_CoversSpan_1_ok (k : Nat) : Does P X 60 I_CoversSpan_1_ar (I_CoversSpan_1_f k) I_CoversSpan_1_vr :=
  does_of (body := bodyOf Go.Proofs.Try.f60) (pl := I_CoversSpan_1_pl) (k := k) (cu := I_CoversSpan_1_cu k) (tys := [[0]]) (I_CoversSpan_1_ck k) ctx mixed Go.Proofs.Try.func60 (by kernel_rfl) (by kernel_rfl) (cutOK_of (l := []) (by kernel_rfl) trivial) fun x R h => by
    simp only [I_CoversSpan_1_f, I_CoversSpan_1, optK_bind, optK_bif, optK_pure, optK_none, optK_oc, optK_guardT, optK_map] at h
    refine hold_of h ?_
    kernel_rfl
def I_CoversSpan_1_en (k : Nat) : Entry D := entS I_CoversSpan_1_ar (I_CoversSpan_1_f k) I_CoversSpan_1_vr
theorem I_CoversSpan_1_eo (k : Nat) : EntryOK X 60 (I_CoversSpan_1_en k) := (I_CoversSpan_1_ok k).en rfl
def slices_IndexFunc_ISpan_at_I_CoversSpan_1_pl : Plan := ⟨[(0, [(0, some 39), (1, none)]), (1, [(0, some 39), (1, none), (7, none), (8, none)]), (2, [(0, some 39), (1, none), (7, none), (8, none), (9, none)]), (3, [(0, some 39), (1, none), (5, none), (7, none), (8, none)]), (4, [(0, some 39), (1, none), (5, none), (7, none), (8, none), (16, none)]), (5, [(4, none)]), (6, [(0, some 39), (1, none), (7, none), (8, none)]), (7, [(4, none)])],
  [(0, []), (1, [(0, some 39), (1, none), (7, none), (8, none)])],
  [(9, ([(0, some 39), (1, none), (7, none), (8, none)], [])), (16, ([(5, none)], [(0, some 39), (1, none), (7, none), (8, none)]))]⟩
def slices_IndexFunc_ISpan_at_I_CoversSpan_1_cl (k : Nat) : Calls' D := ⟨[(60, I_CoversSpan_1_en k)], []⟩
theorem slices_IndexFunc_ISpan_at_I_CoversSpan_1_ck (k : Nat) : CallsOK X (slices_IndexFunc_ISpan_at_I_CoversSpan_1_cl k) := .cons (I_CoversSpan_1_eo k) (.nil cod)
def slices_IndexFunc_ISpan_at_I_CoversSpan_1_b0_L (x : (List ISpan) × Int × Int × Int × Int × Unit) (o : Oc (Unit) (Int)) (Q : Ex → VSt D → Prop) (R : VR D → Prop) : Prop := ocP o (fun v0 => Q .normal (mkSt ⟨[], []⟩ [])) (fun w0 => R (.p (.c (.int .i64 w0))))
def slices_IndexFunc_ISpan_at_I_CoversSpan_1_b0_cut (k : Nat) : Cut D := cutS ⟨[(0, .hole), (1, .clo 60 [.rptr 2]), (7, .hole), (8, .hole)], []⟩ [.kl 39, .ki .i64, .ki .i64, .ki .i64, .ki .i64] (fun (x : (List ISpan) × Int × Int × Int × Int × Unit) => slices_IndexFunc_ISpan_at_I_CoversSpan_1_b0 k k x.1 x.2.1 x.2.2.1 x.2.2.2.1 x.2.2.2.2.1) slices_IndexFunc_ISpan_at_I_CoversSpan_1_b0_L
def slices_IndexFunc_ISpan_at_I_CoversSpan_1_b0_cu (k : Nat) : Cuts D := ⟨[], []⟩
theorem slices_IndexFunc_ISpan_at_I_CoversSpan_1_b0_ok (k : Nat) : CutFor X slices_IndexFunc_ISpan_at_I_CoversSpan_1_pl k Go.Proofs.Try.f79.results.toList (slices_IndexFunc_ISpan_at_I_CoversSpan_1_b0_cut k) (sub (bodyOf Go.Proofs.Try.f79) [1, 0, 1]) :=
  loopCut_s (X := X) (sg := [.kl 39, .ki .i64, .ki .i64, .ki .i64, .ki .i64]) (cu := slices_IndexFunc_ISpan_at_I_CoversSpan_1_b0_cu k) (cl := slices_IndexFunc_ISpan_at_I_CoversSpan_1_cl k) (tys := [[0]]) (id := 0) (c := sub (bodyOf Go.Proofs.Try.f79) [1, 0, 1, 0, 0]) (f := fun n => fun (x : (List ISpan) × Int × Int × Int × Int × Unit) => slices_IndexFunc_ISpan_at_I_CoversSpan_1_b0 k n x.1 x.2.1 x.2.2.1 x.2.2.2.1 x.2.2.2.2.1) (slices_IndexFunc_ISpan_at_I_CoversSpan_1_ck k) (cutOK_of (l := []) (by kernel_rfl) trivial) (fun _ => rfl) (fun n x Q R h => by
    simp only [slices_IndexFunc_ISpan_at_I_CoversSpan_1_b0, optK_bind, optK_bif, optK_pure, optK_none, optK_oc, optK_guardT, optK_map] at h
    refine hold_of h ?_
    kernel_rfl) (by kernel_rfl)
def slices_IndexFunc_ISpan_at_I_CoversSpan_1_cu (k : Nat) : Cuts D := ⟨[(0, some (slices_IndexFunc_ISpan_at_I_CoversSpan_1_b0_cut k))], []⟩
def slices_IndexFunc_ISpan_at_I_CoversSpan_1_ar : List Ar := [.c (.kl 39), .f 60 [[.ki .i64, .ki .i64]]]
def slices_IndexFunc_ISpan_at_I_CoversSpan_1_f (k : Nat) (x : TupA D slices_IndexFunc_ISpan_at_I_CoversSpan_1_ar) : Option (Int) := slices_IndexFunc_ISpan_at_I_CoversSpan_1 k x.1 x.2.1.1.1 x.2.1.1.2.1
def slices_IndexFunc_ISpan_at_I_CoversSpan_1_vr (r : Int) : VR D := .p (.c (.int .i64 r))
theorem slices_IndexFunc_ISpan_at_I_CoversSpan_1_ok (k : Nat) : Does P X 79 slices_IndexFunc_ISpan_at_I_CoversSpan_1_ar (slices_IndexFunc_ISpan_at_I_CoversSpan_1_f k) slices_IndexFunc_ISpan_at_I_CoversSpan_1_vr :=
  does_of (body := bodyOf Go.Proofs.Try.f79) (pl := slices_IndexFunc_ISpan_at_I_CoversSpan_1_pl) (k := k) (cu := slices_IndexFunc_ISpan_at_I_CoversSpan_1_cu k) (tys := [[0]]) (slices_IndexFunc_ISpan_at_I_CoversSpan_1_ck k) ctx mixed Go.Proofs.Try.func79 (by kernel_rfl) (by kernel_rfl) (cutOK_of (l := [(slices_IndexFunc_ISpan_at_I_CoversSpan_1_b0_cut k, sub (bodyOf Go.Proofs.Try.f79) [1, 0, 1])]) (by kernel_rfl) ⟨slices_IndexFunc_ISpan_at_I_CoversSpan_1_b0_ok k, trivial⟩) fun x R h => by
    simp only [slices_IndexFunc_ISpan_at_I_CoversSpan_1_f, slices_IndexFunc_ISpan_at_I_CoversSpan_1, optK_bind, optK_bif, optK_pure, optK_none, optK_oc, optK_guardT, optK_map] at h
    refine hold_of h ?_
    kernel_rfl
def slices_IndexFunc_ISpan_at_I_CoversSpan_1_en (k : Nat) : Entry D := entS slices_IndexFunc_ISpan_at_I_CoversSpan_1_ar (slices_IndexFunc_ISpan_at_I_CoversSpan_1_f k) slices_IndexFunc_ISpan_at_I_CoversSpan_1_vr
theorem slices_IndexFunc_ISpan_at_I_CoversSpan_1_eo (k : Nat) : EntryOK X 79 (slices_IndexFunc_ISpan_at_I_CoversSpan_1_en k) := (slices_IndexFunc_ISpan_at_I_CoversSpan_1_ok k).en rfl
def slices_ContainsFunc_ISpan_at_I_CoversSpan_1_pl : Plan := ⟨[(0, [(0, some 39), (1, none)]), (1, [(4, none)])],
  [],
  []⟩
def slices_ContainsFunc_ISpan_at_I_CoversSpan_1_cl (k : Nat) : Calls' D := ⟨[(79, slices_IndexFunc_ISpan_at_I_CoversSpan_1_en k)], []⟩
theorem slices_ContainsFunc_ISpan_at_I_CoversSpan_1_ck (k : Nat) : CallsOK X (slices_ContainsFunc_ISpan_at_I_CoversSpan_1_cl k) := .cons (slices_IndexFunc_ISpan_at_I_CoversSpan_1_eo k) (.nil cod)
def slices_ContainsFunc_ISpan_at_I_CoversSpan_1_cu (k : Nat) : Cuts D := ⟨[], []⟩
def slices_ContainsFunc_ISpan_at_I_CoversSpan_1_ar : List Ar := [.c (.kl 39), .f 60 [[.ki .i64, .ki .i64]]]
def slices_ContainsFunc_ISpan_at_I_CoversSpan_1_f (k : Nat) (x : TupA D slices_ContainsFunc_ISpan_at_I_CoversSpan_1_ar) : Option (Bool) := slices_ContainsFunc_ISpan_at_I_CoversSpan_1 k x.1 x.2.1.1.1 x.2.1.1.2.1
def slices_ContainsFunc_ISpan_at_I_CoversSpan_1_vr (r : Bool) : VR D := .p (.c (.bool r))
theorem slices_ContainsFunc_ISpan_at_I_CoversSpan_1_ok (k : Nat) : Does P X 59 slices_ContainsFunc_ISpan_at_I_CoversSpan_1_ar (slices_ContainsFunc_ISpan_at_I_CoversSpan_1_f k) slices_ContainsFunc_ISpan_at_I_CoversSpan_1_vr :=
  does_of (body := bodyOf Go.Proofs.Try.f59) (pl := slices_ContainsFunc_ISpan_at_I_CoversSpan_1_pl) (k := k) (cu := slices_ContainsFunc_ISpan_at_I_CoversSpan_1_cu k) (tys := [[0]]) (slices_ContainsFunc_ISpan_at_I_CoversSpan_1_ck k) ctx mixed Go.Proofs.Try.func59 (by kernel_rfl) (by kernel_rfl) (cutOK_of (l := []) (by kernel_rfl) trivial) fun x R h => by
    simp only [slices_ContainsFunc_ISpan_at_I_CoversSpan_1_f, slices_ContainsFunc_ISpan_at_I_CoversSpan_1, optK_bind, optK_bif, optK_pure, optK_none, optK_oc, optK_guardT, optK_map] at h
    refine hold_of h ?_
    kernel_rfl
def slices_ContainsFunc_ISpan_at_I_CoversSpan_1_en (k : Nat) : Entry D := entS slices_ContainsFunc_ISpan_at_I_CoversSpan_1_ar (slices_ContainsFunc_ISpan_at_I_CoversSpan_1_f k) slices_ContainsFunc_ISpan_at_I_CoversSpan_1_vr
theorem slices_ContainsFunc_ISpan_at_I_CoversSpan_1_eo (k : Nat) : EntryOK X 59 (slices_ContainsFunc_ISpan_at_I_CoversSpan_1_en k) := (slices_ContainsFunc_ISpan_at_I_CoversSpan_1_ok k).en rfl
def I_CoversSpan_pl : Plan := ⟨[(0, [(0, some 39), (3, none)]), (1, [(0, some 39), (3, none), (9, none)]), (2, [(4, none)]), (3, [(4, none)])],
  [],
  [(9, ([], [(0, some 39), (3, none)]))]⟩
def I_CoversSpan_cl (k : Nat) : Calls' D := ⟨[(59, slices_ContainsFunc_ISpan_at_I_CoversSpan_1_en k)], []⟩
theorem I_CoversSpan_ck (k : Nat) : CallsOK X (I_CoversSpan_cl k) := .cons (slices_ContainsFunc_ISpan_at_I_CoversSpan_1_eo k) (.nil cod)
def I_CoversSpan_cu (k : Nat) : Cuts D := ⟨[], []⟩
def I_CoversSpan_ar : List Ar := [.c (.kl 39), .a [.ki .i64, .ki .i64]]
def I_CoversSpan_f (k : Nat) (x : TupA D I_CoversSpan_ar) : Option (Bool) := I_CoversSpan k x.1 (⟨x.2.1.1, x.2.1.2.1⟩ : ISpan)
def I_CoversSpan_vr (r : Bool) : VR D := .p (.c (.bool r))
theorem I_CoversSpan_ok (k : Nat) : Does P X 27 I_CoversSpan_ar (I_CoversSpan_f k) I_CoversSpan_vr :=
  does_of (body := bodyOf Go.Proofs.Try.f27) (pl := I_CoversSpan_pl) (k := k) (cu := I_CoversSpan_cu k) (tys := [[0]]) (I_CoversSpan_ck k) ctx mixed Go.Proofs.Try.func27 (by kernel_rfl) (by kernel_rfl) (cutOK_of (l := []) (by kernel_rfl) trivial) fun x R h => by
    simp only [I_CoversSpan_f, I_CoversSpan, optK_bind, optK_bif, optK_pure, optK_none, optK_oc, optK_guardT, optK_map] at h
    refine hold_of h ?_
    kernel_rfl
def I_CoversSpan_en (k : Nat) : Entry D := entS I_CoversSpan_ar (I_CoversSpan_f k) I_CoversSpan_vr
theorem I_CoversSpan_eo (k : Nat) : EntryOK X 27 (I_CoversSpan_en k) := (I_CoversSpan_ok k).en rfl
def I_IsWhole_pl : Plan := ⟨[(0, [(0, some 91), (1, none)]), (1, [(4, none)])],
  [],
  []⟩
def I_IsWhole_cl (k : Nat) : Calls' D := ⟨[(55, I_SpansOf_en k), (27, I_CoversSpan_en k)], []⟩
theorem I_IsWhole_ck (k : Nat) : CallsOK X (I_IsWhole_cl k) := .cons (I_SpansOf_eo k) (.cons (I_CoversSpan_eo k) (.nil cod))
def I_IsWhole_cu (k : Nat) : Cuts D := ⟨[], []⟩
def I_IsWhole_ar : List Ar := [.c (.kl 91), .c (.ki .i64)]
def I_IsWhole_f (k : Nat) (x : TupA D I_IsWhole_ar) : Option (Bool) := I_IsWhole k x.1 x.2.1
def I_IsWhole_vr (r : Bool) : VR D := .p (.c (.bool r))
theorem I_IsWhole_ok (k : Nat) : Does P X 42 I_IsWhole_ar (I_IsWhole_f k) I_IsWhole_vr :=
  does_of (body := bodyOf Go.Proofs.Try.f42) (pl := I_IsWhole_pl) (k := k) (cu := I_IsWhole_cu k) (tys := [[0]]) (I_IsWhole_ck k) ctx mixed Go.Proofs.Try.func42 (by kernel_rfl) (by kernel_rfl) (cutOK_of (l := []) (by kernel_rfl) trivial) fun x R h => by
    simp only [I_IsWhole_f, I_IsWhole, optK_bind, optK_bif, optK_pure, optK_none, optK_oc, optK_guardT, optK_map] at h
    refine hold_of h ?_
    kernel_rfl
def I_IsWhole_en (k : Nat) : Entry D := entS I_IsWhole_ar (I_IsWhole_f k) I_IsWhole_vr
theorem I_IsWhole_eo (k : Nat) : EntryOK X 42 (I_IsWhole_en k) := (I_IsWhole_ok k).en rfl
def L_eqPiece_pl : Plan := ⟨[(0, [(2, none), (3, none)]), (1, [(2, none), (3, none), (9, none)]), (2, [(4, none)]), (3, [(14, none)]), (4, [(4, none)]), (5, [(4, none)])],
  [],
  [(9, ([], [(2, none), (3, none)])), (14, ([], []))]⟩
def L_eqPiece_cl (k : Nat) : Calls' D := ⟨[], []⟩
theorem L_eqPiece_ck (k : Nat) : CallsOK X (L_eqPiece_cl k) := .nil cod
def L_eqPiece_cu (k : Nat) : Cuts D := ⟨[], []⟩
def L_eqPiece_ar : List Ar := [.a [.ki .i64, .ks], .a [.ki .i64, .ks]]
def L_eqPiece_f (k : Nat) (x : TupA D L_eqPiece_ar) : Option (Bool) := L_eqPiece k (⟨x.1.1, x.1.2.1⟩ : IPiece) (⟨x.2.1.1, x.2.1.2.1⟩ : IPiece)
def L_eqPiece_vr (r : Bool) : VR D := .p (.c (.bool r))
theorem L_eqPiece_ok (k : Nat) : Does P X 67 L_eqPiece_ar (L_eqPiece_f k) L_eqPiece_vr :=
  does_of (body := bodyOf Go.Proofs.Try.f67) (pl := L_eqPiece_pl) (k := k) (cu := L_eqPiece_cu k) (tys := [[0]]) (L_eqPiece_ck k) ctx mixed Go.Proofs.Try.func67 (by kernel_rfl) (by kernel_rfl) (cutOK_of (l := []) (by kernel_rfl) trivial) fun x R h => by
    simp only [L_eqPiece_f, L_eqPiece, optK_bind, optK_bif, optK_pure, optK_none, optK_oc, optK_guardT, optK_map] at h
    refine hold_of h ?_
    kernel_rfl
def L_eqPiece_en (k : Nat) : Entry D := entS L_eqPiece_ar (L_eqPiece_f k) L_eqPiece_vr
theorem L_eqPiece_eo (k : Nat) : EntryOK X 67 (L_eqPiece_en k) := (L_eqPiece_ok k).en rfl
def L_eqPieceS_pl : Plan := ⟨[(0, [(0, some 91), (1, some 91)]), (1, [(0, some 91), (1, some 91), (10, none)]), (2, [(4, none)]), (3, [(0, some 91), (1, some 91), (5, none)]), (4, [(0, some 91), (1, some 91), (5, none), (14, none)]), (5, [(0, some 91), (1, some 91), (5, none)]), (6, [(0, some 91), (1, some 91), (5, none), (26, none)]), (7, [(4, none)]), (8, [(4, none)])],
  [(0, []), (1, [(0, some 91), (1, some 91), (5, none)])],
  [(10, ([], [(0, some 91), (1, some 91)])), (14, ([(0, some 91), (1, some 91), (5, none)], [])), (26, ([], [(0, some 91), (1, some 91), (5, none)]))]⟩
def L_eqPieceS_cl (k : Nat) : Calls' D := ⟨[(67, L_eqPiece_en k)], []⟩
theorem L_eqPieceS_ck (k : Nat) : CallsOK X (L_eqPieceS_cl k) := .cons (L_eqPiece_eo k) (.nil cod)
def L_eqPieceS_b0_L (x : (List IPiece) × (List IPiece) × Int × Unit) (o : Oc (Unit) (Bool)) (Q : Ex → VSt D → Prop) (R : VR D → Prop) : Prop := ocP o (fun v0 => Q .normal (mkSt ⟨[], []⟩ [])) (fun w0 => R (.p (.c (.bool w0))))
def L_eqPieceS_b0_cut (k : Nat) : Cut D := cutS ⟨[(0, .hole), (1, .hole), (5, .hole)], []⟩ [.kl 91, .kl 91, .ki .i64] (fun (x : (List IPiece) × (List IPiece) × Int × Unit) => L_eqPieceS_b0 k k x.1 x.2.1 x.2.2.1) L_eqPieceS_b0_L
def L_eqPieceS_b0_cu (k : Nat) : Cuts D := ⟨[], []⟩
theorem L_eqPieceS_b0_ok (k : Nat) : CutFor X L_eqPieceS_pl k Go.Proofs.Try.f38.results.toList (L_eqPieceS_b0_cut k) (sub (bodyOf Go.Proofs.Try.f38) [1, 1, 0, 1]) :=
  loopCut_s (X := X) (sg := [.kl 91, .kl 91, .ki .i64]) (cu := L_eqPieceS_b0_cu k) (cl := L_eqPieceS_cl k) (tys := [[0]]) (id := 0) (c := sub (bodyOf Go.Proofs.Try.f38) [1, 1, 0, 1, 0, 0]) (f := fun n => fun (x : (List IPiece) × (List IPiece) × Int × Unit) => L_eqPieceS_b0 k n x.1 x.2.1 x.2.2.1) (L_eqPieceS_ck k) (cutOK_of (l := []) (by kernel_rfl) trivial) (fun _ => rfl) (fun n x Q R h => by
    simp only [L_eqPieceS_b0, optK_bind, optK_bif, optK_pure, optK_none, optK_oc, optK_guardT, optK_map] at h
    refine hold_of h ?_
    kernel_rfl) (by kernel_rfl)
def L_eqPieceS_cu (k : Nat) : Cuts D := ⟨[(0, some (L_eqPieceS_b0_cut k))], []⟩
def L_eqPieceS_ar : List Ar := [.c (.kl 91), .c (.kl 91)]
def L_eqPieceS_f (k : Nat) (x : TupA D L_eqPieceS_ar) : Option (Bool) := L_eqPieceS k x.1 x.2.1
def L_eqPieceS_vr (r : Bool) : VR D := .p (.c (.bool r))
theorem L_eqPieceS_ok (k : Nat) : Does P X 38 L_eqPieceS_ar (L_eqPieceS_f k) L_eqPieceS_vr :=
  does_of (body := bodyOf Go.Proofs.Try.f38) (pl := L_eqPieceS_pl) (k := k) (cu := L_eqPieceS_cu k) (tys := [[0]]) (L_eqPieceS_ck k) ctx mixed Go.Proofs.Try.func38 (by kernel_rfl) (by kernel_rfl) (cutOK_of (l := [(L_eqPieceS_b0_cut k, sub (bodyOf Go.Proofs.Try.f38) [1, 1, 0, 1])]) (by kernel_rfl) ⟨L_eqPieceS_b0_ok k, trivial⟩) fun x R h => by
    simp only [L_eqPieceS_f, L_eqPieceS, optK_bind, optK_bif, optK_pure, optK_none, optK_oc, optK_guardT, optK_map] at h
    refine hold_of h ?_
    kernel_rfl
def L_eqPieceS_en (k : Nat) : Entry D := entS L_eqPieceS_ar (L_eqPieceS_f k) L_eqPieceS_vr
theorem L_eqPieceS_eo (k : Nat) : EntryOK X 38 (L_eqPieceS_en k) := (L_eqPieceS_ok k).en rfl
def L_FnExactIsWhole_pl : Plan := ⟨[(0, [(0, some 90), (1, none)]), (1, [(0, some 90), (1, none), (5, none)]), (2, [(0, some 90), (1, none), (5, none)]), (3, [(0, some 90), (1, none), (13, none)]), (4, [(4, none)]), (5, [(0, some 90), (1, none), (6, none)]), (6, [(0, some 90), (1, none), (6, none), (7, some 91)]), (7, [(0, some 90), (6, none), (7, some 91), (8, none)]), (8, [(0, some 90), (7, some 91), (25, none)]), (9, [(4, none)]), (10, [(30, none)]), (11, [(4, none)]), (12, [(4, none)])],
  [],
  [(13, ([], [(0, some 90), (1, none)])), (25, ([], [(0, some 90), (7, some 91)])), (30, ([], []))]⟩
def L_FnExactIsWhole_cl (k : Nat) : Calls' D := ⟨[(34, L_szPieceS_en k), (36, L_toPieceS_en k), (41, S_IsWhole_en k), (42, I_IsWhole_en k), (38, L_eqPieceS_en k)], []⟩
theorem L_FnExactIsWhole_ck (k : Nat) : CallsOK X (L_FnExactIsWhole_cl k) := .cons (L_szPieceS_eo k) (.cons (L_toPieceS_eo k) (.cons (S_IsWhole_eo k) (.cons (I_IsWhole_eo k) (.cons (L_eqPieceS_eo k) (.nil cod)))))
def L_FnExactIsWhole_cu (k : Nat) : Cuts D := ⟨[], []⟩
def L_FnExactIsWhole_ar : List Ar := [.c (.kl 90), .c (.ki .i64)]
def L_FnExactIsWhole_f (k : Nat) (x : TupA D L_FnExactIsWhole_ar) : Option (Bool) := L_FnExactIsWhole k x.1 x.2.1
def L_FnExactIsWhole_vr (r : Bool) : VR D := .p (.c (.bool r))
theorem L_FnExactIsWhole_ok (k : Nat) : Does P X 10 L_FnExactIsWhole_ar (L_FnExactIsWhole_f k) L_FnExactIsWhole_vr :=
  does_of (body := bodyOf Go.Proofs.Try.f10) (pl := L_FnExactIsWhole_pl) (k := k) (cu := L_FnExactIsWhole_cu k) (tys := [[0]]) (L_FnExactIsWhole_ck k) ctx mixed Go.Proofs.Try.func10 (by kernel_rfl) (by kernel_rfl) (cutOK_of (l := []) (by kernel_rfl) trivial) fun x R h => by
    simp only [L_FnExactIsWhole_f, L_FnExactIsWhole, optK_bind, optK_bif, optK_pure, optK_none, optK_oc, optK_guardT, optK_map] at h
    refine hold_of h ?_
    kernel_rfl
def L_FnExactIsWhole_en (k : Nat) : Entry D := entS L_FnExactIsWhole_ar (L_FnExactIsWhole_f k) L_FnExactIsWhole_vr
theorem L_FnExactIsWhole_eo (k : Nat) : EntryOK X 10 (L_FnExactIsWhole_en k) := (L_FnExactIsWhole_ok k).en rfl

end
end Go.Ytilbenelefdihaa
