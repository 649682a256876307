/- The machine computes the functions. Nothing is claimed here. -/
import Derived.Test.YtilbenelefdihaaKf
set_option linter.unusedVariables false
set_option linter.unusedSimpArgs false
set_option maxRecDepth 100000
namespace Go.Ytilbenelefdihaa
open Go Go.RowKit Go.Pv
noncomputable section

def L_szPiece_pl : Plan := ⟨[(0, [(1, none), (2, none)]), (1, [(1, none)]), (2, [(1, none), (11, none)]), (3, [(4, none)]), (4, [(4, none)])],
  [],
  [(11, ([], [(1, none)]))]⟩
def L_szPiece_cl (k : Nat) : Calls' D := ⟨[], []⟩
theorem L_szPiece_ck (k : Nat) : CallsOK X (L_szPiece_cl k) := .nil cod
def L_szPiece_cu (k : Nat) : Cuts D := ⟨[], []⟩
def L_szPiece_ar : List Ar := [.a [.ki .i64, .ks], .c (.ki .i64)]
def L_szPiece_f (k : Nat) (x : TupA D L_szPiece_ar) : Option (Int) := L_szPiece k (⟨x.1.1, x.1.2.1⟩ : LPiece) x.2.1
def L_szPiece_vr (r : Int) : VR D := .p (.c (.int .i64 r))
theorem L_szPiece_ok (k : Nat) : Does P X 65 L_szPiece_ar (L_szPiece_f k) L_szPiece_vr :=
  does_of (body := bodyOf Go.Proofs.Try.f65) (pl := L_szPiece_pl) (k := k) (cu := L_szPiece_cu k) (tys := [[0]]) (L_szPiece_ck k) ctx mixed Go.Proofs.Try.func65 (by kernel_rfl) (by kernel_rfl) (cutOK_of (l := []) (by kernel_rfl) trivial) fun x R h => by
    simp only [L_szPiece_f, L_szPiece, optK_bind, optK_bif, optK_pure, optK_none, optK_oc, optK_guardT, optK_map] at h
    refine hold_of h ?_
    kernel_rfl
def L_szPiece_en (k : Nat) : Entry D := entS L_szPiece_ar (L_szPiece_f k) L_szPiece_vr
theorem L_szPiece_eo (k : Nat) : EntryOK X 65 (L_szPiece_en k) := (L_szPiece_ok k).en rfl
def L_szPieceS_pl : Plan := ⟨[(0, [(0, some 90), (1, none)]), (1, [(0, some 90), (1, none)]), (2, [(0, some 90), (1, none), (11, none)]), (3, [(4, none)]), (4, [(0, some 90), (1, none), (5, none)]), (5, [(0, some 90), (1, none), (5, none), (15, none)]), (6, [(0, some 90), (1, none), (5, none)]), (7, [(0, some 90), (1, none), (5, none)]), (8, [(0, some 90), (1, none), (5, none), (25, none)]), (9, [(4, none)]), (10, [(4, none)])],
  [(0, [(1, none)]), (1, [(0, some 90), (1, none), (5, none)])],
  [(11, ([], [(0, some 90), (1, none)])), (15, ([(0, some 90), (1, none), (5, none)], [(1, none)])), (25, ([], [(0, some 90), (1, none), (5, none)]))]⟩
def L_szPieceS_cl (k : Nat) : Calls' D := ⟨[(65, L_szPiece_en k)], []⟩
theorem L_szPieceS_ck (k : Nat) : CallsOK X (L_szPieceS_cl k) := .cons (L_szPiece_eo k) (.nil cod)
def L_szPieceS_b0_L (x : (List LPiece) × Int × Int × Unit) (o : Oc (Int) (Int)) (Q : Ex → VSt D → Prop) (R : VR D → Prop) : Prop := ocP o (fun v0 => Q .normal (mkSt ⟨[(1, .hole)], []⟩ [.int .i64 v0])) (fun w0 => R (.p (.c (.int .i64 w0))))
def L_szPieceS_b0_cut (k : Nat) : Cut D := cutS ⟨[(0, .hole), (1, .hole), (5, .hole)], []⟩ [.kl 90, .ki .i64, .ki .i64] (fun (x : (List LPiece) × Int × Int × Unit) => L_szPieceS_b0 k k x.1 x.2.1 x.2.2.1) L_szPieceS_b0_L
def L_szPieceS_b0_cu (k : Nat) : Cuts D := ⟨[], []⟩
theorem L_szPieceS_b0_ok (k : Nat) : CutFor X L_szPieceS_pl k Go.Proofs.Try.f34.results.toList (L_szPieceS_b0_cut k) (sub (bodyOf Go.Proofs.Try.f34) [1, 1, 1, 0, 1]) :=
  loopCut_s (X := X) (sg := [.kl 90, .ki .i64, .ki .i64]) (cu := L_szPieceS_b0_cu k) (cl := L_szPieceS_cl k) (tys := [[0]]) (id := 0) (c := sub (bodyOf Go.Proofs.Try.f34) [1, 1, 1, 0, 1, 0, 0]) (f := fun n => fun (x : (List LPiece) × Int × Int × Unit) => L_szPieceS_b0 k n x.1 x.2.1 x.2.2.1) (L_szPieceS_ck k) (cutOK_of (l := []) (by kernel_rfl) trivial) (fun _ => rfl) (fun n x Q R h => by
    simp only [L_szPieceS_b0, optK_bind, optK_bif, optK_pure, optK_none, optK_oc, optK_guardT, optK_map] at h
    refine hold_of h ?_
    kernel_rfl) (by kernel_rfl)
def L_szPieceS_cu (k : Nat) : Cuts D := ⟨[(0, some (L_szPieceS_b0_cut k))], []⟩
def L_szPieceS_ar : List Ar := [.c (.kl 90), .c (.ki .i64)]
def L_szPieceS_f (k : Nat) (x : TupA D L_szPieceS_ar) : Option (Int) := L_szPieceS k x.1 x.2.1
def L_szPieceS_vr (r : Int) : VR D := .p (.c (.int .i64 r))
theorem L_szPieceS_ok (k : Nat) : Does P X 34 L_szPieceS_ar (L_szPieceS_f k) L_szPieceS_vr :=
  does_of (body := bodyOf Go.Proofs.Try.f34) (pl := L_szPieceS_pl) (k := k) (cu := L_szPieceS_cu k) (tys := [[0]]) (L_szPieceS_ck k) ctx mixed Go.Proofs.Try.func34 (by kernel_rfl) (by kernel_rfl) (cutOK_of (l := [(L_szPieceS_b0_cut k, sub (bodyOf Go.Proofs.Try.f34) [1, 1, 1, 0, 1])]) (by kernel_rfl) ⟨L_szPieceS_b0_ok k, trivial⟩) fun x R h => by
    simp only [L_szPieceS_f, L_szPieceS, optK_bind, optK_bif, optK_pure, optK_none, optK_oc, optK_guardT, optK_map] at h
    refine hold_of h ?_
    kernel_rfl
def L_szPieceS_en (k : Nat) : Entry D := entS L_szPieceS_ar (L_szPieceS_f k) L_szPieceS_vr
theorem L_szPieceS_eo (k : Nat) : EntryOK X 34 (L_szPieceS_en k) := (L_szPieceS_ok k).en rfl
def L_toPiece_pl : Plan := ⟨[(0, [(1, none), (2, none)]), (1, [(1, none), (2, none), (3, none)]), (2, [(1, none), (2, none), (3, none)]), (3, [(2, none), (3, none)]), (4, [(2, none)])],
  [],
  []⟩
def L_toPiece_cl (k : Nat) : Calls' D := ⟨[], []⟩
theorem L_toPiece_ck (k : Nat) : CallsOK X (L_toPiece_cl k) := .nil cod
def L_toPiece_cu (k : Nat) : Cuts D := ⟨[], []⟩
def L_toPiece_ar : List Ar := [.a [.ki .i64, .ks]]
def L_toPiece_f (k : Nat) (x : TupA D L_toPiece_ar) : Option (IPiece) := L_toPiece k (⟨x.1.1, x.1.2.1⟩ : LPiece)
def L_toPiece_vr (r : IPiece) : VR D := .p (.agg [.int .i64 r.From, .str r.Data])
theorem L_toPiece_ok (k : Nat) : Does P X 66 L_toPiece_ar (L_toPiece_f k) L_toPiece_vr :=
  does_of (body := bodyOf Go.Proofs.Try.f66) (pl := L_toPiece_pl) (k := k) (cu := L_toPiece_cu k) (tys := [[0, 0]]) (L_toPiece_ck k) ctx mixed Go.Proofs.Try.func66 (by kernel_rfl) (by kernel_rfl) (cutOK_of (l := []) (by kernel_rfl) trivial) fun x R h => by
    simp only [L_toPiece_f, L_toPiece, optK_bind, optK_bif, optK_pure, optK_none, optK_oc, optK_guardT, optK_map] at h
    refine hold_of h ?_
    kernel_rfl
def L_toPiece_en (k : Nat) : Entry D := entS L_toPiece_ar (L_toPiece_f k) L_toPiece_vr
theorem L_toPiece_eo (k : Nat) : EntryOK X 66 (L_toPiece_en k) := (L_toPiece_ok k).en rfl
def L_toPieceS_pl : Plan := ⟨[(0, [(0, some 90)]), (1, [(0, some 90), (3, some 91)]), (2, [(0, some 90), (3, some 91), (4, none)]), (3, [(0, some 90), (3, some 91), (4, none), (11, none)]), (4, [(0, some 90), (3, some 91), (4, none)]), (5, [(0, some 90), (3, some 91), (4, none)]), (6, [(2, some 91)])],
  [(0, [(3, some 91)]), (1, [(0, some 90), (3, some 91), (4, none)])],
  [(11, ([(0, some 90), (3, some 91), (4, none)], [(3, some 91)]))]⟩
def L_toPieceS_cl (k : Nat) : Calls' D := ⟨[(66, L_toPiece_en k)], []⟩
theorem L_toPieceS_ck (k : Nat) : CallsOK X (L_toPieceS_cl k) := .cons (L_toPiece_eo k) (.nil cod)
def L_toPieceS_b0_L (x : (List LPiece) × Int × (List IPiece) × Unit) (o : (List IPiece)) (Q : Ex → VSt D → Prop) (R : VR D → Prop) : Prop := Q .normal (mkSt ⟨[(3, .ref 500003)], [(500003, .row)]⟩ [.sl 91 o])
def L_toPieceS_b0_cut (k : Nat) : Cut D := cutS ⟨[(0, .hole), (3, .ref 500003), (4, .hole)], [(500003, .row)]⟩ [.kl 90, .ki .i64, .kl 91] (fun (x : (List LPiece) × Int × (List IPiece) × Unit) => L_toPieceS_b0 k k x.1 x.2.1 x.2.2.1) L_toPieceS_b0_L
def L_toPieceS_b0_cu (k : Nat) : Cuts D := ⟨[], []⟩
theorem L_toPieceS_b0_ok (k : Nat) : CutFor X L_toPieceS_pl k Go.Proofs.Try.f36.results.toList (L_toPieceS_b0_cut k) (sub (bodyOf Go.Proofs.Try.f36) [1, 1, 0, 1]) :=
  loopCut_s (X := X) (sg := [.kl 90, .ki .i64, .kl 91]) (cu := L_toPieceS_b0_cu k) (cl := L_toPieceS_cl k) (tys := [[91]]) (id := 0) (c := sub (bodyOf Go.Proofs.Try.f36) [1, 1, 0, 1, 0, 0]) (f := fun n => fun (x : (List LPiece) × Int × (List IPiece) × Unit) => L_toPieceS_b0 k n x.1 x.2.1 x.2.2.1) (L_toPieceS_ck k) (cutOK_of (l := []) (by kernel_rfl) trivial) (fun _ => rfl) (fun n x Q R h => by
    simp only [L_toPieceS_b0, optK_bind, optK_bif, optK_pure, optK_none, optK_oc, optK_guardT, optK_map] at h
    refine hold_of h ?_
    kernel_rfl) (by kernel_rfl)
def L_toPieceS_cu (k : Nat) : Cuts D := ⟨[(0, some (L_toPieceS_b0_cut k))], []⟩
def L_toPieceS_ar : List Ar := [.c (.kl 90)]
def L_toPieceS_f (k : Nat) (x : TupA D L_toPieceS_ar) : Option ((List IPiece)) := L_toPieceS k x.1
def L_toPieceS_vr (r : (List IPiece)) : VR D := .p (.c (.sl 91 r))
theorem L_toPieceS_ok (k : Nat) : Does P X 36 L_toPieceS_ar (L_toPieceS_f k) L_toPieceS_vr :=
  does_of (body := bodyOf Go.Proofs.Try.f36) (pl := L_toPieceS_pl) (k := k) (cu := L_toPieceS_cu k) (tys := [[91]]) (L_toPieceS_ck k) ctx mixed Go.Proofs.Try.func36 (by kernel_rfl) (by kernel_rfl) (cutOK_of (l := [(L_toPieceS_b0_cut k, sub (bodyOf Go.Proofs.Try.f36) [1, 1, 0, 1])]) (by kernel_rfl) ⟨L_toPieceS_b0_ok k, trivial⟩) fun x R h => by
    simp only [L_toPieceS_f, L_toPieceS, optK_bind, optK_bif, optK_pure, optK_none, optK_oc, optK_guardT, optK_map] at h
    refine hold_of h ?_
    kernel_rfl
def L_toPieceS_en (k : Nat) : Entry D := entS L_toPieceS_ar (L_toPieceS_f k) L_toPieceS_vr
theorem L_toPieceS_eo (k : Nat) : EntryOK X 36 (L_toPieceS_en k) := (L_toPieceS_ok k).en rfl
def L_toSpan_pl : Plan := ⟨[(0, [(1, none), (2, none)]), (1, [(1, none), (2, none), (3, none)]), (2, [(1, none), (2, none), (3, none)]), (3, [(2, none), (3, none)]), (4, [(2, none)])],
  [],
  []⟩
def L_toSpan_cl (k : Nat) : Calls' D := ⟨[], []⟩
theorem L_toSpan_ck (k : Nat) : CallsOK X (L_toSpan_cl k) := .nil cod
def L_toSpan_cu (k : Nat) : Cuts D := ⟨[], []⟩
def L_toSpan_ar : List Ar := [.a [.ki .i64, .ki .i64]]
def L_toSpan_f (k : Nat) (x : TupA D L_toSpan_ar) : Option (ISpan) := L_toSpan k (⟨x.1.1, x.1.2.1⟩ : LSpan)
def L_toSpan_vr (r : ISpan) : VR D := .p (.agg [.int .i64 r.From, .int .i64 r.To])
theorem L_toSpan_ok (k : Nat) : Does P X 26 L_toSpan_ar (L_toSpan_f k) L_toSpan_vr :=
  does_of (body := bodyOf Go.Proofs.Try.f26) (pl := L_toSpan_pl) (k := k) (cu := L_toSpan_cu k) (tys := [[0, 0]]) (L_toSpan_ck k) ctx mixed Go.Proofs.Try.func26 (by kernel_rfl) (by kernel_rfl) (cutOK_of (l := []) (by kernel_rfl) trivial) fun x R h => by
    simp only [L_toSpan_f, L_toSpan, optK_bind, optK_bif, optK_pure, optK_none, optK_oc, optK_guardT, optK_map] at h
    refine hold_of h ?_
    kernel_rfl
def L_toSpan_en (k : Nat) : Entry D := entS L_toSpan_ar (L_toSpan_f k) L_toSpan_vr
theorem L_toSpan_eo (k : Nat) : EntryOK X 26 (L_toSpan_en k) := (L_toSpan_ok k).en rfl
def S_ReadPieces_pl : Plan := ⟨[(0, [(0, some 91), (3, none)]), (1, [(0, some 91), (3, none), (6, none)]), (2, [(0, some 91), (3, none), (6, none), (11, none)]), (3, [(0, some 91), (3, none), (6, none)]), (4, [(0, some 91), (3, none), (6, none), (7, none)]), (5, [(0, some 91), (3, none), (6, none), (7, none), (40, none)]), (6, [(4, none), (5, none)]), (7, [(4, none), (5, none)])],
  [(0, [(3, none)]), (1, [(0, some 91), (3, none), (6, none)])],
  [(11, ([(0, some 91), (3, none), (6, none)], [(3, none)])), (40, ([(3, none), (7, none)], [(0, some 91), (3, none), (6, none)]))]⟩
def S_ReadPieces_cl (k : Nat) : Calls' D := ⟨[], []⟩
theorem S_ReadPieces_ck (k : Nat) : CallsOK X (S_ReadPieces_cl k) := .nil cod
def S_ReadPieces_b0_L (x : (List IPiece) × Int × Int × Int × Unit) (o : Oc (Unit) ((List UInt8) × Bool)) (Q : Ex → VSt D → Prop) (R : VR D → Prop) : Prop := ocP o (fun v0 => Q .normal (mkSt ⟨[(3, .ptr 3 0)], [(3, .var [.hole, .hole])]⟩ [.int .i64 x.2.2.1, .int .i64 x.2.2.2.1])) (fun w0 => R (.tup [.c (.str w0.1), .c (.bool w0.2)]))
def S_ReadPieces_b0_cut (k : Nat) : Cut D := cutS ⟨[(0, .hole), (3, .ptr 3 0), (6, .hole)], [(3, .var [.hole, .hole])]⟩ [.kl 91, .ki .i64, .ki .i64, .ki .i64] (fun (x : (List IPiece) × Int × Int × Int × Unit) => S_ReadPieces_b0 k k x.1 x.2.1 x.2.2.1 x.2.2.2.1) S_ReadPieces_b0_L
def S_ReadPieces_b0_cu (k : Nat) : Cuts D := ⟨[], []⟩
theorem S_ReadPieces_b0_ok (k : Nat) : CutFor X S_ReadPieces_pl k Go.Proofs.Try.f35.results.toList (S_ReadPieces_b0_cut k) (sub (bodyOf Go.Proofs.Try.f35) [1, 0, 1]) :=
  loopCut_s (X := X) (sg := [.kl 91, .ki .i64, .ki .i64, .ki .i64]) (cu := S_ReadPieces_b0_cu k) (cl := S_ReadPieces_cl k) (tys := [[0], [0]]) (id := 0) (c := sub (bodyOf Go.Proofs.Try.f35) [1, 0, 1, 0, 0]) (f := fun n => fun (x : (List IPiece) × Int × Int × Int × Unit) => S_ReadPieces_b0 k n x.1 x.2.1 x.2.2.1 x.2.2.2.1) (S_ReadPieces_ck k) (cutOK_of (l := []) (by kernel_rfl) trivial) (fun _ => rfl) (fun n x Q R h => by
    simp only [S_ReadPieces_b0, optK_bind, optK_bif, optK_pure, optK_none, optK_oc, optK_guardT, optK_map] at h
    refine hold_of h ?_
    kernel_rfl) (by kernel_rfl)
def S_ReadPieces_cu (k : Nat) : Cuts D := ⟨[(0, some (S_ReadPieces_b0_cut k))], []⟩
def S_ReadPieces_ar : List Ar := [.c (.kl 91), .a [.ki .i64, .ki .i64]]
def S_ReadPieces_f (k : Nat) (x : TupA D S_ReadPieces_ar) : Option ((List UInt8) × Bool) := S_ReadPieces k x.1 (⟨x.2.1.1, x.2.1.2.1⟩ : ISpan)
def S_ReadPieces_vr (r : (List UInt8) × Bool) : VR D := .tup [.c (.str r.1), .c (.bool r.2)]
theorem S_ReadPieces_ok (k : Nat) : Does P X 35 S_ReadPieces_ar (S_ReadPieces_f k) S_ReadPieces_vr :=
  does_of (body := bodyOf Go.Proofs.Try.f35) (pl := S_ReadPieces_pl) (k := k) (cu := S_ReadPieces_cu k) (tys := [[0], [0]]) (S_ReadPieces_ck k) ctx mixed Go.Proofs.Try.func35 (by kernel_rfl) (by kernel_rfl) (cutOK_of (l := [(S_ReadPieces_b0_cut k, sub (bodyOf Go.Proofs.Try.f35) [1, 0, 1])]) (by kernel_rfl) ⟨S_ReadPieces_b0_ok k, trivial⟩) fun x R h => by
    simp only [S_ReadPieces_f, S_ReadPieces, optK_bind, optK_bif, optK_pure, optK_none, optK_oc, optK_guardT, optK_map] at h
    refine hold_of h ?_
    kernel_rfl
def S_ReadPieces_en (k : Nat) : Entry D := entS S_ReadPieces_ar (S_ReadPieces_f k) S_ReadPieces_vr
theorem S_ReadPieces_eo (k : Nat) : EntryOK X 35 (S_ReadPieces_en k) := (S_ReadPieces_ok k).en rfl
def I_ReadPieces_pl : Plan := ⟨[(0, [(0, some 91), (3, none)]), (1, [(0, some 91), (3, none), (12, none)]), (2, [(4, none), (5, none)]), (3, [(3, none), (13, some 91), (14, none), (15, none)]), (4, [(3, none), (13, some 91), (14, none), (15, none), (16, none)]), (5, [(3, none), (7, none), (13, some 91), (14, none), (15, none)]), (6, [(3, none), (7, none), (13, some 91), (14, none), (15, none), (34, none)]), (7, [(4, none), (5, none)]), (8, [(3, none), (13, some 91), (14, none), (15, none)]), (9, [(4, none), (5, none)])],
  [(0, []), (1, [(3, none), (13, some 91), (14, none), (15, none)])],
  [(12, ([], [(0, some 91), (3, none)])), (16, ([(3, none), (13, some 91), (14, none), (15, none)], [])), (34, ([(3, none), (7, none)], [(3, none), (13, some 91), (14, none), (15, none)]))]⟩
def I_ReadPieces_cl (k : Nat) : Calls' D := ⟨[], []⟩
theorem I_ReadPieces_ck (k : Nat) : CallsOK X (I_ReadPieces_cl k) := .nil cod
def I_ReadPieces_b0_L (x : (List IPiece) × Int × Int × Int × Int × Unit) (o : Oc (Unit) ((List UInt8) × Bool)) (Q : Ex → VSt D → Prop) (R : VR D → Prop) : Prop := ocP o (fun v0 => Q .normal (mkSt ⟨[], []⟩ [])) (fun w0 => R (.tup [.c (.str w0.1), .c (.bool w0.2)]))
def I_ReadPieces_b0_cut (k : Nat) : Cut D := cutS ⟨[(3, .ptr 3 0), (13, .hole), (14, .hole), (15, .hole)], [(3, .var [.hole, .hole])]⟩ [.kl 91, .ki .i64, .ki .i64, .ki .i64, .ki .i64] (fun (x : (List IPiece) × Int × Int × Int × Int × Unit) => I_ReadPieces_b0 k k x.1 x.2.1 x.2.2.1 x.2.2.2.1 x.2.2.2.2.1) I_ReadPieces_b0_L
def I_ReadPieces_b0_cu (k : Nat) : Cuts D := ⟨[], []⟩
theorem I_ReadPieces_b0_ok (k : Nat) : CutFor X I_ReadPieces_pl k Go.Proofs.Try.f37.results.toList (I_ReadPieces_b0_cut k) (sub (bodyOf Go.Proofs.Try.f37) [1, 1, 0, 1]) :=
  loopCut_s (X := X) (sg := [.kl 91, .ki .i64, .ki .i64, .ki .i64, .ki .i64]) (cu := I_ReadPieces_b0_cu k) (cl := I_ReadPieces_cl k) (tys := [[0], [0]]) (id := 0) (c := sub (bodyOf Go.Proofs.Try.f37) [1, 1, 0, 1, 0, 0]) (f := fun n => fun (x : (List IPiece) × Int × Int × Int × Int × Unit) => I_ReadPieces_b0 k n x.1 x.2.1 x.2.2.1 x.2.2.2.1 x.2.2.2.2.1) (I_ReadPieces_ck k) (cutOK_of (l := []) (by kernel_rfl) trivial) (fun _ => rfl) (fun n x Q R h => by
    simp only [I_ReadPieces_b0, optK_bind, optK_bif, optK_pure, optK_none, optK_oc, optK_guardT, optK_map] at h
    refine hold_of h ?_
    kernel_rfl) (by kernel_rfl)
def I_ReadPieces_cu (k : Nat) : Cuts D := ⟨[(0, some (I_ReadPieces_b0_cut k))], []⟩
def I_ReadPieces_ar : List Ar := [.c (.kl 91), .a [.ki .i64, .ki .i64]]
def I_ReadPieces_f (k : Nat) (x : TupA D I_ReadPieces_ar) : Option ((List UInt8) × Bool) := I_ReadPieces k x.1 (⟨x.2.1.1, x.2.1.2.1⟩ : ISpan)
def I_ReadPieces_vr (r : (List UInt8) × Bool) : VR D := .tup [.c (.str r.1), .c (.bool r.2)]
theorem I_ReadPieces_ok (k : Nat) : Does P X 37 I_ReadPieces_ar (I_ReadPieces_f k) I_ReadPieces_vr :=
  does_of (body := bodyOf Go.Proofs.Try.f37) (pl := I_ReadPieces_pl) (k := k) (cu := I_ReadPieces_cu k) (tys := [[0], [0]]) (I_ReadPieces_ck k) ctx mixed Go.Proofs.Try.func37 (by kernel_rfl) (by kernel_rfl) (cutOK_of (l := [(I_ReadPieces_b0_cut k, sub (bodyOf Go.Proofs.Try.f37) [1, 1, 0, 1])]) (by kernel_rfl) ⟨I_ReadPieces_b0_ok k, trivial⟩) fun x R h => by
    simp only [I_ReadPieces_f, I_ReadPieces, optK_bind, optK_bif, optK_pure, optK_none, optK_oc, optK_guardT, optK_map] at h
    refine hold_of h ?_
    kernel_rfl
def I_ReadPieces_en (k : Nat) : Entry D := entS I_ReadPieces_ar (I_ReadPieces_f k) I_ReadPieces_vr
theorem I_ReadPieces_eo (k : Nat) : EntryOK X 37 (I_ReadPieces_en k) := (I_ReadPieces_ok k).en rfl
def L_eqPiece_pl : Plan := ⟨[(0, [(2, none), (3, none)]), (1, [(2, none), (3, none), (9, none)]), (2, [(4, none)]), (3, [(14, none)]), (4, [(4, none)]), (5, [(4, none)])],
  [],
  [(9, ([], [(2, none), (3, none)])), (14, ([], []))]⟩
def L_eqPiece_cl (k : Nat) : Calls' D := ⟨[], []⟩
theorem L_eqPiece_ck (k : Nat) : CallsOK X (L_eqPiece_cl k) := .nil cod
def L_eqPiece_cu (k : Nat) : Cuts D := ⟨[], []⟩
def L_eqPiece_ar : List Ar := [.a [.ki .i64, .ks], .a [.ki .i64, .ks]]
def L_eqPiece_f (k : Nat) (x : TupA D L_eqPiece_ar) : Option (Bool) := L_eqPiece k (⟨x.1.1, x.1.2.1⟩ : IPiece) (⟨x.2.1.1, x.2.1.2.1⟩ : IPiece)
def L_eqPiece_vr (r : Bool) : VR D := .p (.c (.bool r))
theorem L_eqPiece_ok (k : Nat) : Does P X 67 L_eqPiece_ar (L_eqPiece_f k) L_eqPiece_vr :=
  does_of (body := bodyOf Go.Proofs.Try.f67) (pl := L_eqPiece_pl) (k := k) (cu := L_eqPiece_cu k) (tys := [[0]]) (L_eqPiece_ck k) ctx mixed Go.Proofs.Try.func67 (by kernel_rfl) (by kernel_rfl) (cutOK_of (l := []) (by kernel_rfl) trivial) fun x R h => by
    simp only [L_eqPiece_f, L_eqPiece, optK_bind, optK_bif, optK_pure, optK_none, optK_oc, optK_guardT, optK_map] at h
    refine hold_of h ?_
    kernel_rfl
def L_eqPiece_en (k : Nat) : Entry D := entS L_eqPiece_ar (L_eqPiece_f k) L_eqPiece_vr
theorem L_eqPiece_eo (k : Nat) : EntryOK X 67 (L_eqPiece_en k) := (L_eqPiece_ok k).en rfl
def L_eqPieceS_pl : Plan := ⟨[(0, [(0, some 91), (1, some 91)]), (1, [(0, some 91), (1, some 91), (10, none)]), (2, [(4, none)]), (3, [(0, some 91), (1, some 91), (5, none)]), (4, [(0, some 91), (1, some 91), (5, none), (14, none)]), (5, [(0, some 91), (1, some 91), (5, none)]), (6, [(0, some 91), (1, some 91), (5, none), (26, none)]), (7, [(4, none)]), (8, [(4, none)])],
  [(0, []), (1, [(0, some 91), (1, some 91), (5, none)])],
  [(10, ([], [(0, some 91), (1, some 91)])), (14, ([(0, some 91), (1, some 91), (5, none)], [])), (26, ([], [(0, some 91), (1, some 91), (5, none)]))]⟩
def L_eqPieceS_cl (k : Nat) : Calls' D := ⟨[(67, L_eqPiece_en k)], []⟩
theorem L_eqPieceS_ck (k : Nat) : CallsOK X (L_eqPieceS_cl k) := .cons (L_eqPiece_eo k) (.nil cod)
def L_eqPieceS_b0_L (x : (List IPiece) × (List IPiece) × Int × Unit) (o : Oc (Unit) (Bool)) (Q : Ex → VSt D → Prop) (R : VR D → Prop) : Prop := ocP o (fun v0 => Q .normal (mkSt ⟨[], []⟩ [])) (fun w0 => R (.p (.c (.bool w0))))
def L_eqPieceS_b0_cut (k : Nat) : Cut D := cutS ⟨[(0, .hole), (1, .hole), (5, .hole)], []⟩ [.kl 91, .kl 91, .ki .i64] (fun (x : (List IPiece) × (List IPiece) × Int × Unit) => L_eqPieceS_b0 k k x.1 x.2.1 x.2.2.1) L_eqPieceS_b0_L
def L_eqPieceS_b0_cu (k : Nat) : Cuts D := ⟨[], []⟩
theorem L_eqPieceS_b0_ok (k : Nat) : CutFor X L_eqPieceS_pl k Go.Proofs.Try.f38.results.toList (L_eqPieceS_b0_cut k) (sub (bodyOf Go.Proofs.Try.f38) [1, 1, 0, 1]) :=
  loopCut_s (X := X) (sg := [.kl 91, .kl 91, .ki .i64]) (cu := L_eqPieceS_b0_cu k) (cl := L_eqPieceS_cl k) (tys := [[0]]) (id := 0) (c := sub (bodyOf Go.Proofs.Try.f38) [1, 1, 0, 1, 0, 0]) (f := fun n => fun (x : (List IPiece) × (List IPiece) × Int × Unit) => L_eqPieceS_b0 k n x.1 x.2.1 x.2.2.1) (L_eqPieceS_ck k) (cutOK_of (l := []) (by kernel_rfl) trivial) (fun _ => rfl) (fun n x Q R h => by
    simp only [L_eqPieceS_b0, optK_bind, optK_bif, optK_pure, optK_none, optK_oc, optK_guardT, optK_map] at h
    refine hold_of h ?_
    kernel_rfl) (by kernel_rfl)
def L_eqPieceS_cu (k : Nat) : Cuts D := ⟨[(0, some (L_eqPieceS_b0_cut k))], []⟩
def L_eqPieceS_ar : List Ar := [.c (.kl 91), .c (.kl 91)]
def L_eqPieceS_f (k : Nat) (x : TupA D L_eqPieceS_ar) : Option (Bool) := L_eqPieceS k x.1 x.2.1
def L_eqPieceS_vr (r : Bool) : VR D := .p (.c (.bool r))
theorem L_eqPieceS_ok (k : Nat) : Does P X 38 L_eqPieceS_ar (L_eqPieceS_f k) L_eqPieceS_vr :=
  does_of (body := bodyOf Go.Proofs.Try.f38) (pl := L_eqPieceS_pl) (k := k) (cu := L_eqPieceS_cu k) (tys := [[0]]) (L_eqPieceS_ck k) ctx mixed Go.Proofs.Try.func38 (by kernel_rfl) (by kernel_rfl) (cutOK_of (l := [(L_eqPieceS_b0_cut k, sub (bodyOf Go.Proofs.Try.f38) [1, 1, 0, 1])]) (by kernel_rfl) ⟨L_eqPieceS_b0_ok k, trivial⟩) fun x R h => by
    simp only [L_eqPieceS_f, L_eqPieceS, optK_bind, optK_bif, optK_pure, optK_none, optK_oc, optK_guardT, optK_map] at h
    refine hold_of h ?_
    kernel_rfl
def L_eqPieceS_en (k : Nat) : Entry D := entS L_eqPieceS_ar (L_eqPieceS_f k) L_eqPieceS_vr
theorem L_eqPieceS_eo (k : Nat) : EntryOK X 38 (L_eqPieceS_en k) := (L_eqPieceS_ok k).en rfl
def L_FnExactReadPieces_pl : Plan := ⟨[(0, [(0, some 90), (3, none)]), (1, [(0, some 90), (3, none), (5, none)]), (2, [(0, some 90), (3, none), (5, none)]), (3, [(0, some 90), (3, none), (15, none)]), (4, [(4, none)]), (5, [(0, some 90), (3, none), (6, none), (7, none)]), (6, [(0, some 90), (3, none), (6, none), (7, none), (8, some 91)]), (7, [(0, some 90), (6, none), (7, none), (8, some 91), (9, none), (10, none)]), (8, [(0, some 90), (8, some 91), (40, none)]), (9, [(4, none)]), (10, [(45, none)]), (11, [(4, none)]), (12, [(4, none)])],
  [],
  [(15, ([], [(0, some 90), (3, none)])), (40, ([], [(0, some 90), (8, some 91)])), (45, ([], []))]⟩
def L_FnExactReadPieces_cl (k : Nat) : Calls' D := ⟨[(34, L_szPieceS_en k), (36, L_toPieceS_en k), (26, L_toSpan_en k), (35, S_ReadPieces_en k), (37, I_ReadPieces_en k), (38, L_eqPieceS_en k)], []⟩
theorem L_FnExactReadPieces_ck (k : Nat) : CallsOK X (L_FnExactReadPieces_cl k) := .cons (L_szPieceS_eo k) (.cons (L_toPieceS_eo k) (.cons (L_toSpan_eo k) (.cons (S_ReadPieces_eo k) (.cons (I_ReadPieces_eo k) (.cons (L_eqPieceS_eo k) (.nil cod))))))
def L_FnExactReadPieces_cu (k : Nat) : Cuts D := ⟨[], []⟩
def L_FnExactReadPieces_ar : List Ar := [.c (.kl 90), .a [.ki .i64, .ki .i64]]
def L_FnExactReadPieces_f (k : Nat) (x : TupA D L_FnExactReadPieces_ar) : Option (Bool) := L_FnExactReadPieces k x.1 (⟨x.2.1.1, x.2.1.2.1⟩ : LSpan)
def L_FnExactReadPieces_vr (r : Bool) : VR D := .p (.c (.bool r))
theorem L_FnExactReadPieces_ok (k : Nat) : Does P X 8 L_FnExactReadPieces_ar (L_FnExactReadPieces_f k) L_FnExactReadPieces_vr :=
  does_of (body := bodyOf Go.Proofs.Try.f8) (pl := L_FnExactReadPieces_pl) (k := k) (cu := L_FnExactReadPieces_cu k) (tys := [[0]]) (L_FnExactReadPieces_ck k) ctx mixed Go.Proofs.Try.func8 (by kernel_rfl) (by kernel_rfl) (cutOK_of (l := []) (by kernel_rfl) trivial) fun x R h => by
    simp only [L_FnExactReadPieces_f, L_FnExactReadPieces, optK_bind, optK_bif, optK_pure, optK_none, optK_oc, optK_guardT, optK_map] at h
    refine hold_of h ?_
    kernel_rfl
def L_FnExactReadPieces_en (k : Nat) : Entry D := entS L_FnExactReadPieces_ar (L_FnExactReadPieces_f k) L_FnExactReadPieces_vr
theorem L_FnExactReadPieces_eo (k : Nat) : EntryOK X 8 (L_FnExactReadPieces_en k) := (L_FnExactReadPieces_ok k).en rfl

end
end Go.Ytilbenelefdihaa
