/- The machine computes the functions. Nothing is claimed here. -/
import Derived.Test.YtilbenelefdihaaKf
set_option linter.unusedVariables false
set_option linter.unusedSimpArgs false
set_option maxRecDepth 100000
namespace Go.Ytilbenelefdihaa
open Go Go.RowKit Go.Pv
noncomputable section

def L_szPiece_pl : Plan := ⟨[(0, [(1, none), (2, none)]), (1, [(1, none)]), (2, [(1, none), (11, none)]), (3, [(4, none)]), (4, [(4, none)])],
  [],
  [(11, ([], [(1, none)]))]⟩
def L_szPiece_cl (k : Nat) : Calls' D := ⟨[], []⟩
theorem L_szPiece_ck (k : Nat) : CallsOK X (L_szPiece_cl k) := .nil cod
def L_szPiece_cu (k : Nat) : Cuts D := ⟨[], []⟩
def L_szPiece_ar : List Ar := [.a [.ki .i64, .ks], .c (.ki .i64)]
def L_szPiece_f (k : Nat) (x : TupA D L_szPiece_ar) : Option (Int) := L_szPiece k (⟨x.1.1, x.1.2.1⟩ : LPiece) x.2.1
def L_szPiece_vr (r : Int) : VR D := .p (.c (.int .i64 r))
theorem L_szPiece_ok (k : Nat) : Does P X 65 L_szPiece_ar (L_szPiece_f k) L_szPiece_vr :=
  does_of (body := bodyOf Go.Proofs.Try.f65) (pl := L_szPiece_pl) (k := k) (cu := L_szPiece_cu k) (tys := [[0]]) (L_szPiece_ck k) ctx mixed Go.Proofs.Try.func65 (by kernel_rfl) (by kernel_rfl) (cutOK_of (l := []) (by kernel_rfl) trivial) fun x R h => by
    simp only [L_szPiece_f, L_szPiece, optK_bind, optK_bif, optK_pure, optK_none, optK_oc, optK_guardT, optK_map] at h
    refine hold_of h ?_
    kernel_rfl
def L_szPiece_en (k : Nat) : Entry D := entS L_szPiece_ar (L_szPiece_f k) L_szPiece_vr
theorem L_szPiece_eo (k : Nat) : EntryOK X 65 (L_szPiece_en k) := (L_szPiece_ok k).en rfl
def L_szPieceS_pl : Plan := ⟨[(0, [(0, some 90), (1, none)]), (1, [(0, some 90), (1, none)]), (2, [(0, some 90), (1, none), (11, none)]), (3, [(4, none)]), (4, [(0, some 90), (1, none), (5, none)]), (5, [(0, some 90), (1, none), (5, none), (15, none)]), (6, [(0, some 90), (1, none), (5, none)]), (7, [(0, some 90), (1, none), (5, none)]), (8, [(0, some 90), (1, none), (5, none), (25, none)]), (9, [(4, none)]), (10, [(4, none)])],
  [(0, [(1, none)]), (1, [(0, some 90), (1, none), (5, none)])],
  [(11, ([], [(0, some 90), (1, none)])), (15, ([(0, some 90), (1, none), (5, none)], [(1, none)])), (25, ([], [(0, some 90), (1, none), (5, none)]))]⟩
def L_szPieceS_cl (k : Nat) : Calls' D := ⟨[(65, L_szPiece_en k)], []⟩
theorem L_szPieceS_ck (k : Nat) : CallsOK X (L_szPieceS_cl k) := .cons (L_szPiece_eo k) (.nil cod)
def L_szPieceS_b0_L (x : (List LPiece) × Int × Int × Unit) (o : Oc (Int) (Int)) (Q : Ex → VSt D → Prop) (R : VR D → Prop) : Prop := ocP o (fun v0 => Q .normal (mkSt ⟨[(1, .hole)], []⟩ [.int .i64 v0])) (fun w0 => R (.p (.c (.int .i64 w0))))
def L_szPieceS_b0_cut (k : Nat) : Cut D := cutS ⟨[(0, .hole), (1, .hole), (5, .hole)], []⟩ [.kl 90, .ki .i64, .ki .i64] (fun (x : (List LPiece) × Int × Int × Unit) => L_szPieceS_b0 k k x.1 x.2.1 x.2.2.1) L_szPieceS_b0_L
def L_szPieceS_b0_cu (k : Nat) : Cuts D := ⟨[], []⟩
theorem L_szPieceS_b0_ok (k : Nat) : CutFor X L_szPieceS_pl k Go.Proofs.Try.f34.results.toList (L_szPieceS_b0_cut k) (sub (bodyOf Go.Proofs.Try.f34) [1, 1, 1, 0, 1]) :=
  loopCut_s (X := X) (sg := [.kl 90, .ki .i64, .ki .i64]) (cu := L_szPieceS_b0_cu k) (cl := L_szPieceS_cl k) (tys := [[0]]) (id := 0) (c := sub (bodyOf Go.Proofs.Try.f34) [1, 1, 1, 0, 1, 0, 0]) (f := fun n => fun (x : (List LPiece) × Int × Int × Unit) => L_szPieceS_b0 k n x.1 x.2.1 x.2.2.1) (L_szPieceS_ck k) (cutOK_of (l := []) (by kernel_rfl) trivial) (fun _ => rfl) (fun n x Q R h => by
    simp only [L_szPieceS_b0, optK_bind, optK_bif, optK_pure, optK_none, optK_oc, optK_guardT, optK_map] at h
    refine hold_of h ?_
    kernel_rfl) (by kernel_rfl)
def L_szPieceS_cu (k : Nat) : Cuts D := ⟨[(0, some (L_szPieceS_b0_cut k))], []⟩
def L_szPieceS_ar : List Ar := [.c (.kl 90), .c (.ki .i64)]
def L_szPieceS_f (k : Nat) (x : TupA D L_szPieceS_ar) : Option (Int) := L_szPieceS k x.1 x.2.1
def L_szPieceS_vr (r : Int) : VR D := .p (.c (.int .i64 r))
theorem L_szPieceS_ok (k : Nat) : Does P X 34 L_szPieceS_ar (L_szPieceS_f k) L_szPieceS_vr :=
  does_of (body := bodyOf Go.Proofs.Try.f34) (pl := L_szPieceS_pl) (k := k) (cu := L_szPieceS_cu k) (tys := [[0]]) (L_szPieceS_ck k) ctx mixed Go.Proofs.Try.func34 (by kernel_rfl) (by kernel_rfl) (cutOK_of (l := [(L_szPieceS_b0_cut k, sub (bodyOf Go.Proofs.Try.f34) [1, 1, 1, 0, 1])]) (by kernel_rfl) ⟨L_szPieceS_b0_ok k, trivial⟩) fun x R h => by
    simp only [L_szPieceS_f, L_szPieceS, optK_bind, optK_bif, optK_pure, optK_none, optK_oc, optK_guardT, optK_map] at h
    refine hold_of h ?_
    kernel_rfl
def L_szPieceS_en (k : Nat) : Entry D := entS L_szPieceS_ar (L_szPieceS_f k) L_szPieceS_vr
theorem L_szPieceS_eo (k : Nat) : EntryOK X 34 (L_szPieceS_en k) := (L_szPieceS_ok k).en rfl
def L_toPiece_pl : Plan := ⟨[(0, [(1, none), (2, none)]), (1, [(1, none), (2, none), (3, none)]), (2, [(1, none), (2, none), (3, none)]), (3, [(2, none), (3, none)]), (4, [(2, none)])],
  [],
  []⟩
def L_toPiece_cl (k : Nat) : Calls' D := ⟨[], []⟩
theorem L_toPiece_ck (k : Nat) : CallsOK X (L_toPiece_cl k) := .nil cod
def L_toPiece_cu (k : Nat) : Cuts D := ⟨[], []⟩
def L_toPiece_ar : List Ar := [.a [.ki .i64, .ks]]
def L_toPiece_f (k : Nat) (x : TupA D L_toPiece_ar) : Option (IPiece) := L_toPiece k (⟨x.1.1, x.1.2.1⟩ : LPiece)
def L_toPiece_vr (r : IPiece) : VR D := .p (.agg [.int .i64 r.From, .str r.Data])
theorem L_toPiece_ok (k : Nat) : Does P X 66 L_toPiece_ar (L_toPiece_f k) L_toPiece_vr :=
  does_of (body := bodyOf Go.Proofs.Try.f66) (pl := L_toPiece_pl) (k := k) (cu := L_toPiece_cu k) (tys := [[0, 0]]) (L_toPiece_ck k) ctx mixed Go.Proofs.Try.func66 (by kernel_rfl) (by kernel_rfl) (cutOK_of (l := []) (by kernel_rfl) trivial) fun x R h => by
    simp only [L_toPiece_f, L_toPiece, optK_bind, optK_bif, optK_pure, optK_none, optK_oc, optK_guardT, optK_map] at h
    refine hold_of h ?_
    kernel_rfl
def L_toPiece_en (k : Nat) : Entry D := entS L_toPiece_ar (L_toPiece_f k) L_toPiece_vr
theorem L_toPiece_eo (k : Nat) : EntryOK X 66 (L_toPiece_en k) := (L_toPiece_ok k).en rfl
def L_toPieceS_pl : Plan := ⟨[(0, [(0, some 90)]), (1, [(0, some 90), (3, some 91)]), (2, [(0, some 90), (3, some 91), (4, none)]), (3, [(0, some 90), (3, some 91), (4, none), (11, none)]), (4, [(0, some 90), (3, some 91), (4, none)]), (5, [(0, some 90), (3, some 91), (4, none)]), (6, [(2, some 91)])],
  [(0, [(3, some 91)]), (1, [(0, some 90), (3, some 91), (4, none)])],
  [(11, ([(0, some 90), (3, some 91), (4, none)], [(3, some 91)]))]⟩
def L_toPieceS_cl (k : Nat) : Calls' D := ⟨[(66, L_toPiece_en k)], []⟩
theorem L_toPieceS_ck (k : Nat) : CallsOK X (L_toPieceS_cl k) := .cons (L_toPiece_eo k) (.nil cod)
def L_toPieceS_b0_L (x : (List LPiece) × Int × (List IPiece) × Unit) (o : (List IPiece)) (Q : Ex → VSt D → Prop) (R : VR D → Prop) : Prop := Q .normal (mkSt ⟨[(3, .ref 500003)], [(500003, .row)]⟩ [.sl 91 o])
def L_toPieceS_b0_cut (k : Nat) : Cut D := cutS ⟨[(0, .hole), (3, .ref 500003), (4, .hole)], [(500003, .row)]⟩ [.kl 90, .ki .i64, .kl 91] (fun (x : (List LPiece) × Int × (List IPiece) × Unit) => L_toPieceS_b0 k k x.1 x.2.1 x.2.2.1) L_toPieceS_b0_L
def L_toPieceS_b0_cu (k : Nat) : Cuts D := ⟨[], []⟩
theorem L_toPieceS_b0_ok (k : Nat) : CutFor X L_toPieceS_pl k Go.Proofs.Try.f36.results.toList (L_toPieceS_b0_cut k) (sub (bodyOf Go.Proofs.Try.f36) [1, 1, 0, 1]) :=
  loopCut_s (X := X) (sg := [.kl 90, .ki .i64, .kl 91]) (cu := L_toPieceS_b0_cu k) (cl := L_toPieceS_cl k) (tys := [[91]]) (id := 0) (c := sub (bodyOf Go.Proofs.Try.f36) [1, 1, 0, 1, 0, 0]) (f := fun n => fun (x : (List LPiece) × Int × (List IPiece) × Unit) => L_toPieceS_b0 k n x.1 x.2.1 x.2.2.1) (L_toPieceS_ck k) (cutOK_of (l := []) (by kernel_rfl) trivial) (fun _ => rfl) (fun n x Q R h => by
    simp only [L_toPieceS_b0, optK_bind, optK_bif, optK_pure, optK_none, optK_oc, optK_guardT, optK_map] at h
    refine hold_of h ?_
    kernel_rfl) (by kernel_rfl)
def L_toPieceS_cu (k : Nat) : Cuts D := ⟨[(0, some (L_toPieceS_b0_cut k))], []⟩
def L_toPieceS_ar : List Ar := [.c (.kl 90)]
def L_toPieceS_f (k : Nat) (x : TupA D L_toPieceS_ar) : Option ((List IPiece)) := L_toPieceS k x.1
def L_toPieceS_vr (r : (List IPiece)) : VR D := .p (.c (.sl 91 r))
theorem L_toPieceS_ok (k : Nat) : Does P X 36 L_toPieceS_ar (L_toPieceS_f k) L_toPieceS_vr :=
  does_of (body := bodyOf Go.Proofs.Try.f36) (pl := L_toPieceS_pl) (k := k) (cu := L_toPieceS_cu k) (tys := [[91]]) (L_toPieceS_ck k) ctx mixed Go.Proofs.Try.func36 (by kernel_rfl) (by kernel_rfl) (cutOK_of (l := [(L_toPieceS_b0_cut k, sub (bodyOf Go.Proofs.Try.f36) [1, 1, 0, 1])]) (by kernel_rfl) ⟨L_toPieceS_b0_ok k, trivial⟩) fun x R h => by
    simp only [L_toPieceS_f, L_toPieceS, optK_bind, optK_bif, optK_pure, optK_none, optK_oc, optK_guardT, optK_map] at h
    refine hold_of h ?_
    kernel_rfl
def L_toPieceS_en (k : Nat) : Entry D := entS L_toPieceS_ar (L_toPieceS_f k) L_toPieceS_vr
theorem L_toPieceS_eo (k : Nat) : EntryOK X 36 (L_toPieceS_en k) := (L_toPieceS_ok k).en rfl
def S_SpansOf_pl : Plan := ⟨[(0, [(0, some 91)]), (1, [(0, some 91), (3, some 39)]), (2, [(0, some 91), (3, some 39), (4, none)]), (3, [(0, some 91), (3, some 39), (4, none), (9, none)]), (4, [(0, some 91), (3, some 39), (4, none)]), (5, [(0, some 91), (3, some 39), (4, none)]), (6, [(2, some 39)])],
  [(0, [(3, some 39)]), (1, [(0, some 91), (3, some 39), (4, none)])],
  [(9, ([(0, some 91), (3, some 39), (4, none)], [(3, some 39)]))]⟩
def S_SpansOf_cl (k : Nat) : Calls' D := ⟨[], []⟩
theorem S_SpansOf_ck (k : Nat) : CallsOK X (S_SpansOf_cl k) := .nil cod
def S_SpansOf_b0_L (x : (List IPiece) × Int × (List ISpan) × Unit) (o : (List ISpan)) (Q : Ex → VSt D → Prop) (R : VR D → Prop) : Prop := Q .normal (mkSt ⟨[(3, .ref 500003)], [(500003, .row)]⟩ [.sl 39 o])
def S_SpansOf_b0_cut (k : Nat) : Cut D := cutS ⟨[(0, .hole), (3, .ref 500003), (4, .hole)], [(500003, .row)]⟩ [.kl 91, .ki .i64, .kl 39] (fun (x : (List IPiece) × Int × (List ISpan) × Unit) => S_SpansOf_b0 k k x.1 x.2.1 x.2.2.1) S_SpansOf_b0_L
def S_SpansOf_b0_cu (k : Nat) : Cuts D := ⟨[], []⟩
theorem S_SpansOf_b0_ok (k : Nat) : CutFor X S_SpansOf_pl k Go.Proofs.Try.f54.results.toList (S_SpansOf_b0_cut k) (sub (bodyOf Go.Proofs.Try.f54) [1, 1, 0, 1]) :=
  loopCut_s (X := X) (sg := [.kl 91, .ki .i64, .kl 39]) (cu := S_SpansOf_b0_cu k) (cl := S_SpansOf_cl k) (tys := [[39]]) (id := 0) (c := sub (bodyOf Go.Proofs.Try.f54) [1, 1, 0, 1, 0, 0]) (f := fun n => fun (x : (List IPiece) × Int × (List ISpan) × Unit) => S_SpansOf_b0 k n x.1 x.2.1 x.2.2.1) (S_SpansOf_ck k) (cutOK_of (l := []) (by kernel_rfl) trivial) (fun _ => rfl) (fun n x Q R h => by
    simp only [S_SpansOf_b0, optK_bind, optK_bif, optK_pure, optK_none, optK_oc, optK_guardT, optK_map] at h
    refine hold_of h ?_
    kernel_rfl) (by kernel_rfl)
def S_SpansOf_cu (k : Nat) : Cuts D := ⟨[(0, some (S_SpansOf_b0_cut k))], []⟩
def S_SpansOf_ar : List Ar := [.c (.kl 91)]
def S_SpansOf_f (k : Nat) (x : TupA D S_SpansOf_ar) : Option ((List ISpan)) := S_SpansOf k x.1
def S_SpansOf_vr (r : (List ISpan)) : VR D := .p (.c (.sl 39 r))
theorem S_SpansOf_ok (k : Nat) : Does P X 54 S_SpansOf_ar (S_SpansOf_f k) S_SpansOf_vr :=
  does_of (body := bodyOf Go.Proofs.Try.f54) (pl := S_SpansOf_pl) (k := k) (cu := S_SpansOf_cu k) (tys := [[39]]) (S_SpansOf_ck k) ctx mixed Go.Proofs.Try.func54 (by kernel_rfl) (by kernel_rfl) (cutOK_of (l := [(S_SpansOf_b0_cut k, sub (bodyOf Go.Proofs.Try.f54) [1, 1, 0, 1])]) (by kernel_rfl) ⟨S_SpansOf_b0_ok k, trivial⟩) fun x R h => by
    simp only [S_SpansOf_f, S_SpansOf, optK_bind, optK_bif, optK_pure, optK_none, optK_oc, optK_guardT, optK_map] at h
    refine hold_of h ?_
    kernel_rfl
def S_SpansOf_en (k : Nat) : Entry D := entS S_SpansOf_ar (S_SpansOf_f k) S_SpansOf_vr
theorem S_SpansOf_eo (k : Nat) : EntryOK X 54 (S_SpansOf_en k) := (S_SpansOf_ok k).en rfl
def I_SpansOf_pl : Plan := ⟨[(0, [(0, some 91)]), (1, [(0, some 91), (3, some 39)]), (2, [(3, some 39), (7, some 91), (8, none), (9, none)]), (3, [(3, some 39), (7, some 91), (8, none), (9, none), (10, none)]), (4, [(3, some 39), (5, none), (7, some 91), (8, none), (9, none)]), (5, [(3, some 39), (7, some 91), (8, none), (9, none)]), (6, [(3, some 39), (7, some 91), (8, none), (9, none)]), (7, [(2, some 39)])],
  [(0, [(3, some 39)]), (1, [(3, some 39), (7, some 91), (8, none), (9, none)])],
  [(10, ([(3, some 39), (7, some 91), (8, none), (9, none)], [(3, some 39)]))]⟩
def I_SpansOf_cl (k : Nat) : Calls' D := ⟨[], []⟩
theorem I_SpansOf_ck (k : Nat) : CallsOK X (I_SpansOf_cl k) := .nil cod
def I_SpansOf_b0_L (x : (List IPiece) × Int × Int × (List ISpan) × Unit) (o : (List ISpan)) (Q : Ex → VSt D → Prop) (R : VR D → Prop) : Prop := Q .normal (mkSt ⟨[(3, .ref 500003)], [(500003, .row)]⟩ [.sl 39 o])
def I_SpansOf_b0_cut (k : Nat) : Cut D := cutS ⟨[(3, .ref 500003), (7, .hole), (8, .hole), (9, .hole)], [(500003, .row)]⟩ [.kl 91, .ki .i64, .ki .i64, .kl 39] (fun (x : (List IPiece) × Int × Int × (List ISpan) × Unit) => I_SpansOf_b0 k k x.1 x.2.1 x.2.2.1 x.2.2.2.1) I_SpansOf_b0_L
def I_SpansOf_b0_cu (k : Nat) : Cuts D := ⟨[], []⟩
theorem I_SpansOf_b0_ok (k : Nat) : CutFor X I_SpansOf_pl k Go.Proofs.Try.f55.results.toList (I_SpansOf_b0_cut k) (sub (bodyOf Go.Proofs.Try.f55) [1, 1, 0, 1]) :=
  loopCut_s (X := X) (sg := [.kl 91, .ki .i64, .ki .i64, .kl 39]) (cu := I_SpansOf_b0_cu k) (cl := I_SpansOf_cl k) (tys := [[39]]) (id := 0) (c := sub (bodyOf Go.Proofs.Try.f55) [1, 1, 0, 1, 0, 0]) (f := fun n => fun (x : (List IPiece) × Int × Int × (List ISpan) × Unit) => I_SpansOf_b0 k n x.1 x.2.1 x.2.2.1 x.2.2.2.1) (I_SpansOf_ck k) (cutOK_of (l := []) (by kernel_rfl) trivial) (fun _ => rfl) (fun n x Q R h => by
    simp only [I_SpansOf_b0, optK_bind, optK_bif, optK_pure, optK_none, optK_oc, optK_guardT, optK_map] at h
    refine hold_of h ?_
    kernel_rfl) (by kernel_rfl)
def I_SpansOf_cu (k : Nat) : Cuts D := ⟨[(0, some (I_SpansOf_b0_cut k))], []⟩
def I_SpansOf_ar : List Ar := [.c (.kl 91)]
def I_SpansOf_f (k : Nat) (x : TupA D I_SpansOf_ar) : Option ((List ISpan)) := I_SpansOf k x.1
def I_SpansOf_vr (r : (List ISpan)) : VR D := .p (.c (.sl 39 r))
theorem I_SpansOf_ok (k : Nat) : Does P X 55 I_SpansOf_ar (I_SpansOf_f k) I_SpansOf_vr :=
  does_of (body := bodyOf Go.Proofs.Try.f55) (pl := I_SpansOf_pl) (k := k) (cu := I_SpansOf_cu k) (tys := [[39]]) (I_SpansOf_ck k) ctx mixed Go.Proofs.Try.func55 (by kernel_rfl) (by kernel_rfl) (cutOK_of (l := [(I_SpansOf_b0_cut k, sub (bodyOf Go.Proofs.Try.f55) [1, 1, 0, 1])]) (by kernel_rfl) ⟨I_SpansOf_b0_ok k, trivial⟩) fun x R h => by
    simp only [I_SpansOf_f, I_SpansOf, optK_bind, optK_bif, optK_pure, optK_none, optK_oc, optK_guardT, optK_map] at h
    refine hold_of h ?_
    kernel_rfl
def I_SpansOf_en (k : Nat) : Entry D := entS I_SpansOf_ar (I_SpansOf_f k) I_SpansOf_vr
theorem I_SpansOf_eo (k : Nat) : EntryOK X 55 (I_SpansOf_en k) := (I_SpansOf_ok k).en rfl
def L_eqSpan_pl : Plan := ⟨[(0, [(2, none), (3, none)]), (1, [(2, none), (3, none), (9, none)]), (2, [(4, none)]), (3, [(14, none)]), (4, [(4, none)]), (5, [(4, none)])],
  [],
  [(9, ([], [(2, none), (3, none)])), (14, ([], []))]⟩
def L_eqSpan_cl (k : Nat) : Calls' D := ⟨[], []⟩
theorem L_eqSpan_ck (k : Nat) : CallsOK X (L_eqSpan_cl k) := .nil cod
def L_eqSpan_cu (k : Nat) : Cuts D := ⟨[], []⟩
def L_eqSpan_ar : List Ar := [.a [.ki .i64, .ki .i64], .a [.ki .i64, .ki .i64]]
def L_eqSpan_f (k : Nat) (x : TupA D L_eqSpan_ar) : Option (Bool) := L_eqSpan k (⟨x.1.1, x.1.2.1⟩ : ISpan) (⟨x.2.1.1, x.2.1.2.1⟩ : ISpan)
def L_eqSpan_vr (r : Bool) : VR D := .p (.c (.bool r))
theorem L_eqSpan_ok (k : Nat) : Does P X 61 L_eqSpan_ar (L_eqSpan_f k) L_eqSpan_vr :=
  does_of (body := bodyOf Go.Proofs.Try.f61) (pl := L_eqSpan_pl) (k := k) (cu := L_eqSpan_cu k) (tys := [[0]]) (L_eqSpan_ck k) ctx mixed Go.Proofs.Try.func61 (by kernel_rfl) (by kernel_rfl) (cutOK_of (l := []) (by kernel_rfl) trivial) fun x R h => by
    simp only [L_eqSpan_f, L_eqSpan, optK_bind, optK_bif, optK_pure, optK_none, optK_oc, optK_guardT, optK_map] at h
    refine hold_of h ?_
    kernel_rfl
def L_eqSpan_en (k : Nat) : Entry D := entS L_eqSpan_ar (L_eqSpan_f k) L_eqSpan_vr
theorem L_eqSpan_eo (k : Nat) : EntryOK X 61 (L_eqSpan_en k) := (L_eqSpan_ok k).en rfl
def L_eqSpanS_pl : Plan := ⟨[(0, [(0, some 39), (1, some 39)]), (1, [(0, some 39), (1, some 39), (10, none)]), (2, [(4, none)]), (3, [(0, some 39), (1, some 39), (5, none)]), (4, [(0, some 39), (1, some 39), (5, none), (14, none)]), (5, [(0, some 39), (1, some 39), (5, none)]), (6, [(0, some 39), (1, some 39), (5, none), (26, none)]), (7, [(4, none)]), (8, [(4, none)])],
  [(0, []), (1, [(0, some 39), (1, some 39), (5, none)])],
  [(10, ([], [(0, some 39), (1, some 39)])), (14, ([(0, some 39), (1, some 39), (5, none)], [])), (26, ([], [(0, some 39), (1, some 39), (5, none)]))]⟩
def L_eqSpanS_cl (k : Nat) : Calls' D := ⟨[(61, L_eqSpan_en k)], []⟩
theorem L_eqSpanS_ck (k : Nat) : CallsOK X (L_eqSpanS_cl k) := .cons (L_eqSpan_eo k) (.nil cod)
def L_eqSpanS_b0_L (x : (List ISpan) × (List ISpan) × Int × Unit) (o : Oc (Unit) (Bool)) (Q : Ex → VSt D → Prop) (R : VR D → Prop) : Prop := ocP o (fun v0 => Q .normal (mkSt ⟨[], []⟩ [])) (fun w0 => R (.p (.c (.bool w0))))
def L_eqSpanS_b0_cut (k : Nat) : Cut D := cutS ⟨[(0, .hole), (1, .hole), (5, .hole)], []⟩ [.kl 39, .kl 39, .ki .i64] (fun (x : (List ISpan) × (List ISpan) × Int × Unit) => L_eqSpanS_b0 k k x.1 x.2.1 x.2.2.1) L_eqSpanS_b0_L
def L_eqSpanS_b0_cu (k : Nat) : Cuts D := ⟨[], []⟩
theorem L_eqSpanS_b0_ok (k : Nat) : CutFor X L_eqSpanS_pl k Go.Proofs.Try.f28.results.toList (L_eqSpanS_b0_cut k) (sub (bodyOf Go.Proofs.Try.f28) [1, 1, 0, 1]) :=
  loopCut_s (X := X) (sg := [.kl 39, .kl 39, .ki .i64]) (cu := L_eqSpanS_b0_cu k) (cl := L_eqSpanS_cl k) (tys := [[0]]) (id := 0) (c := sub (bodyOf Go.Proofs.Try.f28) [1, 1, 0, 1, 0, 0]) (f := fun n => fun (x : (List ISpan) × (List ISpan) × Int × Unit) => L_eqSpanS_b0 k n x.1 x.2.1 x.2.2.1) (L_eqSpanS_ck k) (cutOK_of (l := []) (by kernel_rfl) trivial) (fun _ => rfl) (fun n x Q R h => by
    simp only [L_eqSpanS_b0, optK_bind, optK_bif, optK_pure, optK_none, optK_oc, optK_guardT, optK_map] at h
    refine hold_of h ?_
    kernel_rfl) (by kernel_rfl)
def L_eqSpanS_cu (k : Nat) : Cuts D := ⟨[(0, some (L_eqSpanS_b0_cut k))], []⟩
def L_eqSpanS_ar : List Ar := [.c (.kl 39), .c (.kl 39)]
def L_eqSpanS_f (k : Nat) (x : TupA D L_eqSpanS_ar) : Option (Bool) := L_eqSpanS k x.1 x.2.1
def L_eqSpanS_vr (r : Bool) : VR D := .p (.c (.bool r))
theorem L_eqSpanS_ok (k : Nat) : Does P X 28 L_eqSpanS_ar (L_eqSpanS_f k) L_eqSpanS_vr :=
  does_of (body := bodyOf Go.Proofs.Try.f28) (pl := L_eqSpanS_pl) (k := k) (cu := L_eqSpanS_cu k) (tys := [[0]]) (L_eqSpanS_ck k) ctx mixed Go.Proofs.Try.func28 (by kernel_rfl) (by kernel_rfl) (cutOK_of (l := [(L_eqSpanS_b0_cut k, sub (bodyOf Go.Proofs.Try.f28) [1, 1, 0, 1])]) (by kernel_rfl) ⟨L_eqSpanS_b0_ok k, trivial⟩) fun x R h => by
    simp only [L_eqSpanS_f, L_eqSpanS, optK_bind, optK_bif, optK_pure, optK_none, optK_oc, optK_guardT, optK_map] at h
    refine hold_of h ?_
    kernel_rfl
def L_eqSpanS_en (k : Nat) : Entry D := entS L_eqSpanS_ar (L_eqSpanS_f k) L_eqSpanS_vr
theorem L_eqSpanS_eo (k : Nat) : EntryOK X 28 (L_eqSpanS_en k) := (L_eqSpanS_ok k).en rfl
def L_eqPiece_pl : Plan := ⟨[(0, [(2, none), (3, none)]), (1, [(2, none), (3, none), (9, none)]), (2, [(4, none)]), (3, [(14, none)]), (4, [(4, none)]), (5, [(4, none)])],
  [],
  [(9, ([], [(2, none), (3, none)])), (14, ([], []))]⟩
def L_eqPiece_cl (k : Nat) : Calls' D := ⟨[], []⟩
theorem L_eqPiece_ck (k : Nat) : CallsOK X (L_eqPiece_cl k) := .nil cod
def L_eqPiece_cu (k : Nat) : Cuts D := ⟨[], []⟩
def L_eqPiece_ar : List Ar := [.a [.ki .i64, .ks], .a [.ki .i64, .ks]]
def L_eqPiece_f (k : Nat) (x : TupA D L_eqPiece_ar) : Option (Bool) := L_eqPiece k (⟨x.1.1, x.1.2.1⟩ : IPiece) (⟨x.2.1.1, x.2.1.2.1⟩ : IPiece)
def L_eqPiece_vr (r : Bool) : VR D := .p (.c (.bool r))
theorem L_eqPiece_ok (k : Nat) : Does P X 67 L_eqPiece_ar (L_eqPiece_f k) L_eqPiece_vr :=
  does_of (body := bodyOf Go.Proofs.Try.f67) (pl := L_eqPiece_pl) (k := k) (cu := L_eqPiece_cu k) (tys := [[0]]) (L_eqPiece_ck k) ctx mixed Go.Proofs.Try.func67 (by kernel_rfl) (by kernel_rfl) (cutOK_of (l := []) (by kernel_rfl) trivial) fun x R h => by
    simp only [L_eqPiece_f, L_eqPiece, optK_bind, optK_bif, optK_pure, optK_none, optK_oc, optK_guardT, optK_map] at h
    refine hold_of h ?_
    kernel_rfl
def L_eqPiece_en (k : Nat) : Entry D := entS L_eqPiece_ar (L_eqPiece_f k) L_eqPiece_vr
theorem L_eqPiece_eo (k : Nat) : EntryOK X 67 (L_eqPiece_en k) := (L_eqPiece_ok k).en rfl
def L_eqPieceS_pl : Plan := ⟨[(0, [(0, some 91), (1, some 91)]), (1, [(0, some 91), (1, some 91), (10, none)]), (2, [(4, none)]), (3, [(0, some 91), (1, some 91), (5, none)]), (4, [(0, some 91), (1, some 91), (5, none), (14, none)]), (5, [(0, some 91), (1, some 91), (5, none)]), (6, [(0, some 91), (1, some 91), (5, none), (26, none)]), (7, [(4, none)]), (8, [(4, none)])],
  [(0, []), (1, [(0, some 91), (1, some 91), (5, none)])],
  [(10, ([], [(0, some 91), (1, some 91)])), (14, ([(0, some 91), (1, some 91), (5, none)], [])), (26, ([], [(0, some 91), (1, some 91), (5, none)]))]⟩
def L_eqPieceS_cl (k : Nat) : Calls' D := ⟨[(67, L_eqPiece_en k)], []⟩
theorem L_eqPieceS_ck (k : Nat) : CallsOK X (L_eqPieceS_cl k) := .cons (L_eqPiece_eo k) (.nil cod)
def L_eqPieceS_b0_L (x : (List IPiece) × (List IPiece) × Int × Unit) (o : Oc (Unit) (Bool)) (Q : Ex → VSt D → Prop) (R : VR D → Prop) : Prop := ocP o (fun v0 => Q .normal (mkSt ⟨[], []⟩ [])) (fun w0 => R (.p (.c (.bool w0))))
def L_eqPieceS_b0_cut (k : Nat) : Cut D := cutS ⟨[(0, .hole), (1, .hole), (5, .hole)], []⟩ [.kl 91, .kl 91, .ki .i64] (fun (x : (List IPiece) × (List IPiece) × Int × Unit) => L_eqPieceS_b0 k k x.1 x.2.1 x.2.2.1) L_eqPieceS_b0_L
def L_eqPieceS_b0_cu (k : Nat) : Cuts D := ⟨[], []⟩
theorem L_eqPieceS_b0_ok (k : Nat) : CutFor X L_eqPieceS_pl k Go.Proofs.Try.f38.results.toList (L_eqPieceS_b0_cut k) (sub (bodyOf Go.Proofs.Try.f38) [1, 1, 0, 1]) :=
  loopCut_s (X := X) (sg := [.kl 91, .kl 91, .ki .i64]) (cu := L_eqPieceS_b0_cu k) (cl := L_eqPieceS_cl k) (tys := [[0]]) (id := 0) (c := sub (bodyOf Go.Proofs.Try.f38) [1, 1, 0, 1, 0, 0]) (f := fun n => fun (x : (List IPiece) × (List IPiece) × Int × Unit) => L_eqPieceS_b0 k n x.1 x.2.1 x.2.2.1) (L_eqPieceS_ck k) (cutOK_of (l := []) (by kernel_rfl) trivial) (fun _ => rfl) (fun n x Q R h => by
    simp only [L_eqPieceS_b0, optK_bind, optK_bif, optK_pure, optK_none, optK_oc, optK_guardT, optK_map] at h
    refine hold_of h ?_
    kernel_rfl) (by kernel_rfl)
def L_eqPieceS_cu (k : Nat) : Cuts D := ⟨[(0, some (L_eqPieceS_b0_cut k))], []⟩
def L_eqPieceS_ar : List Ar := [.c (.kl 91), .c (.kl 91)]
def L_eqPieceS_f (k : Nat) (x : TupA D L_eqPieceS_ar) : Option (Bool) := L_eqPieceS k x.1 x.2.1
def L_eqPieceS_vr (r : Bool) : VR D := .p (.c (.bool r))
theorem L_eqPieceS_ok (k : Nat) : Does P X 38 L_eqPieceS_ar (L_eqPieceS_f k) L_eqPieceS_vr :=
  does_of (body := bodyOf Go.Proofs.Try.f38) (pl := L_eqPieceS_pl) (k := k) (cu := L_eqPieceS_cu k) (tys := [[0]]) (L_eqPieceS_ck k) ctx mixed Go.Proofs.Try.func38 (by kernel_rfl) (by kernel_rfl) (cutOK_of (l := [(L_eqPieceS_b0_cut k, sub (bodyOf Go.Proofs.Try.f38) [1, 1, 0, 1])]) (by kernel_rfl) ⟨L_eqPieceS_b0_ok k, trivial⟩) fun x R h => by
    simp only [L_eqPieceS_f, L_eqPieceS, optK_bind, optK_bif, optK_pure, optK_none, optK_oc, optK_guardT, optK_map] at h
    refine hold_of h ?_
    kernel_rfl
def L_eqPieceS_en (k : Nat) : Entry D := entS L_eqPieceS_ar (L_eqPieceS_f k) L_eqPieceS_vr
theorem L_eqPieceS_eo (k : Nat) : EntryOK X 38 (L_eqPieceS_en k) := (L_eqPieceS_ok k).en rfl
def L_markText_pl : Plan := ⟨[(0, [(0, none)]), (1, [(0, none), (5, none)]), (2, [(2, none)]), (3, [(0, none), (3, none)]), (4, [(0, none), (3, none), (7, none)]), (5, [(0, none), (3, none)]), (6, [(0, none), (3, none)]), (7, [(2, none)])],
  [(0, [(3, none)]), (1, [(0, none), (3, none)])],
  [(5, ([], [(0, none)])), (7, ([(0, none), (3, none)], [(3, none)]))]⟩
def L_markText_cl (k : Nat) : Calls' D := ⟨[], []⟩
theorem L_markText_ck (k : Nat) : CallsOK X (L_markText_cl k) := .nil cod
def L_markText_b0_L (x : Int × (List UInt8) × Unit) (o : (List UInt8)) (Q : Ex → VSt D → Prop) (R : VR D → Prop) : Prop := Q .normal (mkSt ⟨[(3, .hole)], []⟩ [.str o])
def L_markText_b0_cut (k : Nat) : Cut D := cutS ⟨[(0, .hole), (3, .hole)], []⟩ [.ki .i64, .ks] (fun (x : Int × (List UInt8) × Unit) => L_markText_b0 k k x.1 x.2.1) L_markText_b0_L
def L_markText_b0_cu (k : Nat) : Cuts D := ⟨[], []⟩
theorem L_markText_b0_ok (k : Nat) : CutFor X L_markText_pl k Go.Proofs.Try.f78.results.toList (L_markText_b0_cut k) (sub (bodyOf Go.Proofs.Try.f78) [1, 1, 1, 0]) :=
  loopCut_s (X := X) (sg := [.ki .i64, .ks]) (cu := L_markText_b0_cu k) (cl := L_markText_cl k) (tys := [[0]]) (id := 0) (c := sub (bodyOf Go.Proofs.Try.f78) [1, 1, 1, 0, 0, 0]) (f := fun n => fun (x : Int × (List UInt8) × Unit) => L_markText_b0 k n x.1 x.2.1) (L_markText_ck k) (cutOK_of (l := []) (by kernel_rfl) trivial) (fun _ => rfl) (fun n x Q R h => by
    simp only [L_markText_b0, optK_bind, optK_bif, optK_pure, optK_none, optK_oc, optK_guardT, optK_map] at h
    refine hold_of h ?_
    kernel_rfl) (by kernel_rfl)
def L_markText_cu (k : Nat) : Cuts D := ⟨[(0, some (L_markText_b0_cut k))], []⟩
def L_markText_ar : List Ar := [.c (.ki .i64)]
def L_markText_f (k : Nat) (x : TupA D L_markText_ar) : Option ((List UInt8)) := L_markText k x.1
def L_markText_vr (r : (List UInt8)) : VR D := .p (.c (.str r))
theorem L_markText_ok (k : Nat) : Does P X 78 L_markText_ar (L_markText_f k) L_markText_vr :=
  does_of (body := bodyOf Go.Proofs.Try.f78) (pl := L_markText_pl) (k := k) (cu := L_markText_cu k) (tys := [[0]]) (L_markText_ck k) ctx mixed Go.Proofs.Try.func78 (by kernel_rfl) (by kernel_rfl) (cutOK_of (l := [(L_markText_b0_cut k, sub (bodyOf Go.Proofs.Try.f78) [1, 1, 1, 0])]) (by kernel_rfl) ⟨L_markText_b0_ok k, trivial⟩) fun x R h => by
    simp only [L_markText_f, L_markText, optK_bind, optK_bif, optK_pure, optK_none, optK_oc, optK_guardT, optK_map] at h
    refine hold_of h ?_
    kernel_rfl
def L_markText_en (k : Nat) : Entry D := entS L_markText_ar (L_markText_f k) L_markText_vr
theorem L_markText_eo (k : Nat) : EntryOK X 78 (L_markText_en k) := (L_markText_ok k).en rfl
def L_markPieceS_pl : Plan := ⟨[(0, [(0, some 91), (1, none)]), (1, [(0, some 91), (1, none), (5, none)]), (2, [(0, some 91), (1, none), (5, none), (9, none)]), (3, [(0, some 91), (1, none), (5, none)]), (4, [(0, some 91), (1, none), (5, none)]), (5, [(0, some 91), (1, none), (5, none)]), (6, [(0, some 91), (1, none), (5, none)]), (7, [(0, some 91), (1, none), (5, none)]), (8, [(0, some 91), (4, none)])],
  [(0, [(0, some 91), (1, none)]), (1, [(0, some 91), (1, none), (5, none)])],
  [(9, ([(0, some 91), (1, none), (5, none)], [(0, some 91), (1, none)]))]⟩
def L_markPieceS_cl (k : Nat) : Calls' D := ⟨[(78, L_markText_en k)], []⟩
theorem L_markPieceS_ck (k : Nat) : CallsOK X (L_markPieceS_cl k) := .cons (L_markText_eo k) (.nil cod)
def L_markPieceS_b0_L (x : Int × Int × (List IPiece) × Unit) (o : Int × (List IPiece)) (Q : Ex → VSt D → Prop) (R : VR D → Prop) : Prop := Q .normal (mkSt ⟨[(0, .ref 500000), (1, .hole)], [(500000, .row)]⟩ [.int .i64 o.1, .sl 91 o.2])
def L_markPieceS_b0_cut (k : Nat) : Cut D := cutS ⟨[(0, .ref 500000), (1, .hole), (5, .hole)], [(500000, .row)]⟩ [.ki .i64, .ki .i64, .kl 91] (fun (x : Int × Int × (List IPiece) × Unit) => L_markPieceS_b0 k k x.1 x.2.1 x.2.2.1) L_markPieceS_b0_L
def L_markPieceS_b0_cu (k : Nat) : Cuts D := ⟨[], []⟩
theorem L_markPieceS_b0_ok (k : Nat) : CutFor X L_markPieceS_pl k [.tmp 4, .tmp 0] (L_markPieceS_b0_cut k) (sub (bodyOf Go.Proofs.Try.f56) [1, 0, 1]) :=
  loopCut_s (X := X) (sg := [.ki .i64, .ki .i64, .kl 91]) (cu := L_markPieceS_b0_cu k) (cl := L_markPieceS_cl k) (tys := [[0], [91]]) (id := 0) (c := sub (bodyOf Go.Proofs.Try.f56) [1, 0, 1, 0, 0]) (f := fun n => fun (x : Int × Int × (List IPiece) × Unit) => L_markPieceS_b0 k n x.1 x.2.1 x.2.2.1) (L_markPieceS_ck k) (cutOK_of (l := []) (by kernel_rfl) trivial) (fun _ => rfl) (fun n x Q R h => by
    simp only [L_markPieceS_b0, optK_bind, optK_bif, optK_pure, optK_none, optK_oc, optK_guardT, optK_map] at h
    refine hold_of h ?_
    kernel_rfl) (by kernel_rfl)
def L_markPieceS_cu (k : Nat) : Cuts D := ⟨[(0, some (L_markPieceS_b0_cut k))], []⟩
def L_markPieceS_f (k : Nat) : ArT D (.c (.kl 91)) → Int → Option (Int × ArT D (.c (.kl 91))) := fun x n => L_markPieceS k x n
theorem L_markPieceS_ok (k : Nat) : DoesW P X 56 (.c (.kl 91)) (L_markPieceS_f k) :=
  doesW_of (body := bodyOf Go.Proofs.Try.f56) (pl := L_markPieceS_pl) (k := k) (cu := L_markPieceS_cu k) (tys := [[0], [91]]) (L_markPieceS_ck k) ctx mixed Go.Proofs.Try.func56 (by kernel_rfl) (by kernel_rfl) (by kernel_rfl) (by kernel_rfl) (cutOK_of (l := [(L_markPieceS_b0_cut k, sub (bodyOf Go.Proofs.Try.f56) [1, 0, 1])]) (by kernel_rfl) ⟨L_markPieceS_b0_ok k, trivial⟩) fun x n R h => by
    simp only [L_markPieceS_f, L_markPieceS, optK_bind, optK_bif, optK_pure, optK_none, optK_oc, optK_guardT, optK_map] at h
    refine hold_of h ?_
    kernel_rfl
def L_markPieceS_en (k : Nat) : EntryW D := entW (.c (.kl 91)) (L_markPieceS_f k)
theorem L_markPieceS_eo (k : Nat) : EntryWOK X 56 (L_markPieceS_en k) := (L_markPieceS_ok k).en rfl
def L_markSpanS_pl : Plan := ⟨[(0, [(0, some 39), (1, none)]), (1, [(0, some 39), (1, none), (5, none)]), (2, [(0, some 39), (1, none), (5, none), (9, none)]), (3, [(0, some 39), (1, none), (5, none)]), (4, [(0, some 39), (1, none), (5, none)]), (5, [(0, some 39), (1, none), (5, none)]), (6, [(0, some 39), (1, none), (5, none)]), (7, [(0, some 39), (1, none), (5, none)]), (8, [(0, some 39), (4, none)])],
  [(0, [(0, some 39), (1, none)]), (1, [(0, some 39), (1, none), (5, none)])],
  [(9, ([(0, some 39), (1, none), (5, none)], [(0, some 39), (1, none)]))]⟩
def L_markSpanS_cl (k : Nat) : Calls' D := ⟨[], []⟩
theorem L_markSpanS_ck (k : Nat) : CallsOK X (L_markSpanS_cl k) := .nil cod
def L_markSpanS_b0_L (x : Int × Int × (List ISpan) × Unit) (o : Int × (List ISpan)) (Q : Ex → VSt D → Prop) (R : VR D → Prop) : Prop := Q .normal (mkSt ⟨[(0, .ref 500000), (1, .hole)], [(500000, .row)]⟩ [.int .i64 o.1, .sl 39 o.2])
def L_markSpanS_b0_cut (k : Nat) : Cut D := cutS ⟨[(0, .ref 500000), (1, .hole), (5, .hole)], [(500000, .row)]⟩ [.ki .i64, .ki .i64, .kl 39] (fun (x : Int × Int × (List ISpan) × Unit) => L_markSpanS_b0 k k x.1 x.2.1 x.2.2.1) L_markSpanS_b0_L
def L_markSpanS_b0_cu (k : Nat) : Cuts D := ⟨[], []⟩
theorem L_markSpanS_b0_ok (k : Nat) : CutFor X L_markSpanS_pl k [.tmp 4, .tmp 0] (L_markSpanS_b0_cut k) (sub (bodyOf Go.Proofs.Try.f52) [1, 0, 1]) :=
  loopCut_s (X := X) (sg := [.ki .i64, .ki .i64, .kl 39]) (cu := L_markSpanS_b0_cu k) (cl := L_markSpanS_cl k) (tys := [[0], [39]]) (id := 0) (c := sub (bodyOf Go.Proofs.Try.f52) [1, 0, 1, 0, 0]) (f := fun n => fun (x : Int × Int × (List ISpan) × Unit) => L_markSpanS_b0 k n x.1 x.2.1 x.2.2.1) (L_markSpanS_ck k) (cutOK_of (l := []) (by kernel_rfl) trivial) (fun _ => rfl) (fun n x Q R h => by
    simp only [L_markSpanS_b0, optK_bind, optK_bif, optK_pure, optK_none, optK_oc, optK_guardT, optK_map] at h
    refine hold_of h ?_
    kernel_rfl) (by kernel_rfl)
def L_markSpanS_cu (k : Nat) : Cuts D := ⟨[(0, some (L_markSpanS_b0_cut k))], []⟩
def L_markSpanS_f (k : Nat) : ArT D (.c (.kl 39)) → Int → Option (Int × ArT D (.c (.kl 39))) := fun x n => L_markSpanS k x n
theorem L_markSpanS_ok (k : Nat) : DoesW P X 52 (.c (.kl 39)) (L_markSpanS_f k) :=
  doesW_of (body := bodyOf Go.Proofs.Try.f52) (pl := L_markSpanS_pl) (k := k) (cu := L_markSpanS_cu k) (tys := [[0], [39]]) (L_markSpanS_ck k) ctx mixed Go.Proofs.Try.func52 (by kernel_rfl) (by kernel_rfl) (by kernel_rfl) (by kernel_rfl) (cutOK_of (l := [(L_markSpanS_b0_cut k, sub (bodyOf Go.Proofs.Try.f52) [1, 0, 1])]) (by kernel_rfl) ⟨L_markSpanS_b0_ok k, trivial⟩) fun x n R h => by
    simp only [L_markSpanS_f, L_markSpanS, optK_bind, optK_bif, optK_pure, optK_none, optK_oc, optK_guardT, optK_map] at h
    refine hold_of h ?_
    kernel_rfl
def L_markSpanS_en (k : Nat) : EntryW D := entW (.c (.kl 39)) (L_markSpanS_f k)
theorem L_markSpanS_eo (k : Nat) : EntryWOK X 52 (L_markSpanS_en k) := (L_markSpanS_ok k).en rfl
def L_heldSpanS_pl : Plan := ⟨[(0, [(0, some 39), (1, none)]), (1, [(0, some 39), (1, none), (5, none)]), (2, [(0, some 39), (1, none), (5, none), (9, none)]), (3, [(0, some 39), (1, none), (5, none)]), (4, [(0, some 39), (1, none), (5, none), (18, none)]), (5, [(4, none)]), (6, [(0, some 39), (1, none), (5, none)]), (7, [(0, some 39), (1, none), (5, none), (27, none)]), (8, [(4, none)]), (9, [(0, some 39), (1, none), (5, none)]), (10, [(4, none)])],
  [(0, [(1, none)]), (1, [(0, some 39), (1, none), (5, none)])],
  [(9, ([(0, some 39), (1, none), (5, none)], [(1, none)])), (18, ([], [(0, some 39), (1, none), (5, none)])), (27, ([], [(0, some 39), (1, none), (5, none)]))]⟩
def L_heldSpanS_cl (k : Nat) : Calls' D := ⟨[], []⟩
theorem L_heldSpanS_ck (k : Nat) : CallsOK X (L_heldSpanS_cl k) := .nil cod
def L_heldSpanS_b0_L (x : (List ISpan) × Int × Int × Unit) (o : Oc (Int) (Int)) (Q : Ex → VSt D → Prop) (R : VR D → Prop) : Prop := ocP o (fun v0 => Q .normal (mkSt ⟨[(1, .hole)], []⟩ [.int .i64 v0])) (fun w0 => R (.p (.c (.int .i64 w0))))
def L_heldSpanS_b0_cut (k : Nat) : Cut D := cutS ⟨[(0, .hole), (1, .hole), (5, .hole)], []⟩ [.kl 39, .ki .i64, .ki .i64] (fun (x : (List ISpan) × Int × Int × Unit) => L_heldSpanS_b0 k k x.1 x.2.1 x.2.2.1) L_heldSpanS_b0_L
def L_heldSpanS_b0_cu (k : Nat) : Cuts D := ⟨[], []⟩
theorem L_heldSpanS_b0_ok (k : Nat) : CutFor X L_heldSpanS_pl k Go.Proofs.Try.f53.results.toList (L_heldSpanS_b0_cut k) (sub (bodyOf Go.Proofs.Try.f53) [1, 0, 1]) :=
  loopCut_s (X := X) (sg := [.kl 39, .ki .i64, .ki .i64]) (cu := L_heldSpanS_b0_cu k) (cl := L_heldSpanS_cl k) (tys := [[0]]) (id := 0) (c := sub (bodyOf Go.Proofs.Try.f53) [1, 0, 1, 0, 0]) (f := fun n => fun (x : (List ISpan) × Int × Int × Unit) => L_heldSpanS_b0 k n x.1 x.2.1 x.2.2.1) (L_heldSpanS_ck k) (cutOK_of (l := []) (by kernel_rfl) trivial) (fun _ => rfl) (fun n x Q R h => by
    simp only [L_heldSpanS_b0, optK_bind, optK_bif, optK_pure, optK_none, optK_oc, optK_guardT, optK_map] at h
    refine hold_of h ?_
    kernel_rfl) (by kernel_rfl)
def L_heldSpanS_cu (k : Nat) : Cuts D := ⟨[(0, some (L_heldSpanS_b0_cut k))], []⟩
def L_heldSpanS_ar : List Ar := [.c (.kl 39), .c (.ki .i64)]
def L_heldSpanS_f (k : Nat) (x : TupA D L_heldSpanS_ar) : Option (Int) := L_heldSpanS k x.1 x.2.1
def L_heldSpanS_vr (r : Int) : VR D := .p (.c (.int .i64 r))
theorem L_heldSpanS_ok (k : Nat) : Does P X 53 L_heldSpanS_ar (L_heldSpanS_f k) L_heldSpanS_vr :=
  does_of (body := bodyOf Go.Proofs.Try.f53) (pl := L_heldSpanS_pl) (k := k) (cu := L_heldSpanS_cu k) (tys := [[0]]) (L_heldSpanS_ck k) ctx mixed Go.Proofs.Try.func53 (by kernel_rfl) (by kernel_rfl) (cutOK_of (l := [(L_heldSpanS_b0_cut k, sub (bodyOf Go.Proofs.Try.f53) [1, 0, 1])]) (by kernel_rfl) ⟨L_heldSpanS_b0_ok k, trivial⟩) fun x R h => by
    simp only [L_heldSpanS_f, L_heldSpanS, optK_bind, optK_bif, optK_pure, optK_none, optK_oc, optK_guardT, optK_map] at h
    refine hold_of h ?_
    kernel_rfl
def L_heldSpanS_en (k : Nat) : Entry D := entS L_heldSpanS_ar (L_heldSpanS_f k) L_heldSpanS_vr
theorem L_heldSpanS_eo (k : Nat) : EntryOK X 53 (L_heldSpanS_en k) := (L_heldSpanS_ok k).en rfl
def L_FnExactSpansOf_pl : Plan := ⟨[(0, [(0, some 90)]), (1, [(0, some 90), (3, none)]), (2, [(0, some 90), (3, none)]), (3, [(0, some 90), (15, none)]), (4, [(2, none)]), (5, [(0, some 90), (4, some 39)]), (6, [(0, some 90), (4, some 39), (5, some 91)]), (7, [(0, some 90), (4, some 39), (5, some 91), (6, some 39)]), (8, [(0, some 90), (4, some 39), (5, some 91), (6, some 39), (26, none)]), (9, [(2, none)]), (10, [(0, some 90), (4, some 39), (5, some 91), (6, some 39), (31, none)]), (11, [(2, none)]), (12, [(0, some 90), (4, some 39), (5, some 91), (6, some 39), (7, none)]), (13, [(0, some 90), (4, some 39), (6, some 39), (7, none)]), (14, [(0, some 90), (4, some 39), (6, some 39), (42, none)]), (15, [(2, none)]), (16, [(0, some 90), (4, some 39), (6, some 39), (8, none)]), (17, [(0, some 90), (4, some 39), (6, some 39), (8, none)]), (18, [(0, some 90), (4, some 39), (6, some 39), (8, none), (9, none)]), (19, [(0, some 90), (4, some 39), (6, some 39), (8, none), (9, none)]), (20, [(0, some 90), (4, some 39), (6, some 39), (8, none), (9, none), (50, none)]), (21, [(2, none)]), (22, [(0, some 90), (4, some 39), (6, some 39), (8, none), (53, none)]), (23, [(2, none)]), (24, [(4, some 39), (6, some 39), (8, none), (10, some 39)]), (25, [(6, some 39), (8, none), (60, none)]), (26, [(2, none)]), (27, [(6, some 39), (8, none), (9, none)]), (28, [(8, none), (9, none)]), (29, [(8, none), (9, none), (65, none)]), (30, [(2, none)]), (31, [(68, none)]), (32, [(2, none)]), (33, [(2, none)])],
  [],
  [(15, ([], [(0, some 90)])), (26, ([], [(0, some 90), (4, some 39), (5, some 91), (6, some 39)])), (31, ([], [(0, some 90), (4, some 39), (5, some 91), (6, some 39)])), (42, ([], [(0, some 90), (4, some 39), (6, some 39)])), (50, ([], [(0, some 90), (4, some 39), (6, some 39), (8, none), (9, none)])), (53, ([], [(0, some 90), (4, some 39), (6, some 39), (8, none)])), (60, ([], [(6, some 39), (8, none)])), (65, ([], [(8, none), (9, none)])), (68, ([], []))]⟩
def L_FnExactSpansOf_cl (k : Nat) : Calls' D := ⟨[(34, L_szPieceS_en k), (36, L_toPieceS_en k), (54, S_SpansOf_en k), (55, I_SpansOf_en k), (28, L_eqSpanS_en k), (38, L_eqPieceS_en k), (53, L_heldSpanS_en k)], [(56, L_markPieceS_en k), (52, L_markSpanS_en k)]⟩
theorem L_FnExactSpansOf_ck (k : Nat) : CallsOK X (L_FnExactSpansOf_cl k) := .cons (L_szPieceS_eo k) (.cons (L_toPieceS_eo k) (.cons (S_SpansOf_eo k) (.cons (I_SpansOf_eo k) (.cons (L_eqSpanS_eo k) (.cons (L_eqPieceS_eo k) (.cons (L_heldSpanS_eo k) (.consW (L_markPieceS_eo k) (.consW (L_markSpanS_eo k) (.nil cod)))))))))
def L_FnExactSpansOf_cu (k : Nat) : Cuts D := ⟨[], []⟩
def L_FnExactSpansOf_ar : List Ar := [.c (.kl 90)]
def L_FnExactSpansOf_f (k : Nat) (x : TupA D L_FnExactSpansOf_ar) : Option (Bool) := L_FnExactSpansOf k x.1
def L_FnExactSpansOf_vr (r : Bool) : VR D := .p (.c (.bool r))
theorem L_FnExactSpansOf_ok (k : Nat) : Does P X 14 L_FnExactSpansOf_ar (L_FnExactSpansOf_f k) L_FnExactSpansOf_vr :=
  does_of (body := bodyOf Go.Proofs.Try.f14) (pl := L_FnExactSpansOf_pl) (k := k) (cu := L_FnExactSpansOf_cu k) (tys := [[0]]) (L_FnExactSpansOf_ck k) ctx mixed Go.Proofs.Try.func14 (by kernel_rfl) (by kernel_rfl) (cutOK_of (l := []) (by kernel_rfl) trivial) fun x R h => by
    simp only [L_FnExactSpansOf_f, L_FnExactSpansOf, optK_bind, optK_bif, optK_pure, optK_none, optK_oc, optK_guardT, optK_map] at h
    refine hold_of h ?_
    kernel_rfl
def L_FnExactSpansOf_en (k : Nat) : Entry D := entS L_FnExactSpansOf_ar (L_FnExactSpansOf_f k) L_FnExactSpansOf_vr
theorem L_FnExactSpansOf_eo (k : Nat) : EntryOK X 14 (L_FnExactSpansOf_en k) := (L_FnExactSpansOf_ok k).en rfl

end
end Go.Ytilbenelefdihaa
