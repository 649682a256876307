/- The machine computes the functions. Nothing is claimed here. -/
import Derived.Test.YtdninebapdohkaaKf
set_option linter.unusedVariables false
set_option linter.unusedSimpArgs false
set_option maxRecDepth 100000
namespace Go.Ytdninebapdohkaa
open Go Go.RowKit Go.Pv
noncomputable section

def L_szSpanS_pl : Plan := ⟨[(0, [(0, some 24), (1, none)]), (1, [(1, none)]), (2, [(1, none), (10, none)]), (3, [(4, none)]), (4, [(4, none)])],
  [],
  [(10, ([], [(1, none)]))]⟩
def L_szSpanS_cl (k : Nat) : Calls' D := ⟨[], []⟩
theorem L_szSpanS_ck (k : Nat) : CallsOK X (L_szSpanS_cl k) := .nil cod
def L_szSpanS_cu (k : Nat) : Cuts D := ⟨[], []⟩
def L_szSpanS_ar : List Ar := [.c (.kl 24), .c (.ki .i64)]
def L_szSpanS_f (k : Nat) (x : TupA D L_szSpanS_ar) : Option (Int) := L_szSpanS k x.1 x.2.1
def L_szSpanS_vr (r : Int) : VR D := .p (.c (.int .i64 r))
theorem L_szSpanS_ok (k : Nat) : Does P X 11 L_szSpanS_ar (L_szSpanS_f k) L_szSpanS_vr :=
  does_of (body := bodyOf Go.Proofs.Try.f11) (pl := L_szSpanS_pl) (k := k) (cu := L_szSpanS_cu k) (tys := [[0]]) (L_szSpanS_ck k) ctx mixed Go.Proofs.Try.func11 (by kernel_rfl) (by kernel_rfl) (cutOK_of (l := []) (by kernel_rfl) trivial) fun x R h => by
    simp only [L_szSpanS_f, L_szSpanS, optK_bind, optK_bif, optK_pure, optK_none, optK_oc, optK_guardT, optK_map] at h
    refine hold_of h ?_
    kernel_rfl
def L_szSpanS_en (k : Nat) : Entry D := entS L_szSpanS_ar (L_szSpanS_f k) L_szSpanS_vr
theorem L_szSpanS_eo (k : Nat) : EntryOK X 11 (L_szSpanS_en k) := (L_szSpanS_ok k).en rfl
def L_toSpan_pl : Plan := ⟨[(0, [(1, none), (2, none)]), (1, [(1, none), (2, none), (3, none)]), (2, [(1, none), (2, none), (3, none)]), (3, [(2, none), (3, none)]), (4, [(2, none)])],
  [],
  []⟩
def L_toSpan_cl (k : Nat) : Calls' D := ⟨[], []⟩
theorem L_toSpan_ck (k : Nat) : CallsOK X (L_toSpan_cl k) := .nil cod
def L_toSpan_cu (k : Nat) : Cuts D := ⟨[], []⟩
def L_toSpan_ar : List Ar := [.a [.ki .i64, .ki .i64]]
def L_toSpan_f (k : Nat) (x : TupA D L_toSpan_ar) : Option (ISpan) := L_toSpan k (⟨x.1.1, x.1.2.1⟩ : LSpan)
def L_toSpan_vr (r : ISpan) : VR D := .p (.agg [.int .i64 r.From, .int .i64 r.To])
theorem L_toSpan_ok (k : Nat) : Does P X 14 L_toSpan_ar (L_toSpan_f k) L_toSpan_vr :=
  does_of (body := bodyOf Go.Proofs.Try.f14) (pl := L_toSpan_pl) (k := k) (cu := L_toSpan_cu k) (tys := [[0, 0]]) (L_toSpan_ck k) ctx mixed Go.Proofs.Try.func14 (by kernel_rfl) (by kernel_rfl) (cutOK_of (l := []) (by kernel_rfl) trivial) fun x R h => by
    simp only [L_toSpan_f, L_toSpan, optK_bind, optK_bif, optK_pure, optK_none, optK_oc, optK_guardT, optK_map] at h
    refine hold_of h ?_
    kernel_rfl
def L_toSpan_en (k : Nat) : Entry D := entS L_toSpan_ar (L_toSpan_f k) L_toSpan_vr
theorem L_toSpan_eo (k : Nat) : EntryOK X 14 (L_toSpan_en k) := (L_toSpan_ok k).en rfl
def L_toSpanS_pl : Plan := ⟨[(0, [(0, some 24)]), (1, [(0, some 24), (3, some 29)]), (2, [(0, some 24), (3, some 29), (4, none)]), (3, [(0, some 24), (3, some 29), (4, none), (11, none)]), (4, [(0, some 24), (3, some 29), (4, none)]), (5, [(0, some 24), (3, some 29), (4, none)]), (6, [(2, some 29)])],
  [(0, [(3, some 29)]), (1, [(0, some 24), (3, some 29), (4, none)])],
  [(11, ([(0, some 24), (3, some 29), (4, none)], [(3, some 29)]))]⟩
def L_toSpanS_cl (k : Nat) : Calls' D := ⟨[(14, L_toSpan_en k)], []⟩
theorem L_toSpanS_ck (k : Nat) : CallsOK X (L_toSpanS_cl k) := .cons (L_toSpan_eo k) (.nil cod)
def L_toSpanS_b0_L (x : (List LSpan) × Int × (List ISpan) × Unit) (o : (List ISpan)) (Q : Ex → VSt D → Prop) (R : VR D → Prop) : Prop := Q .normal (mkSt ⟨[(3, .ref 500003)], [(500003, .row)]⟩ [.sl 29 o])
def L_toSpanS_b0_cut (k : Nat) : Cut D := cutS ⟨[(0, .hole), (3, .ref 500003), (4, .hole)], [(500003, .row)]⟩ [.kl 24, .ki .i64, .kl 29] (fun (x : (List LSpan) × Int × (List ISpan) × Unit) => L_toSpanS_b0 k k x.1 x.2.1 x.2.2.1) L_toSpanS_b0_L
def L_toSpanS_b0_cu (k : Nat) : Cuts D := ⟨[], []⟩
theorem L_toSpanS_b0_ok (k : Nat) : CutFor X L_toSpanS_pl k Go.Proofs.Try.f13.results.toList (L_toSpanS_b0_cut k) (sub (bodyOf Go.Proofs.Try.f13) [1, 1, 0, 1]) :=
  loopCut_s (X := X) (sg := [.kl 24, .ki .i64, .kl 29]) (cu := L_toSpanS_b0_cu k) (cl := L_toSpanS_cl k) (tys := [[29]]) (id := 0) (c := sub (bodyOf Go.Proofs.Try.f13) [1, 1, 0, 1, 0, 0]) (f := fun n => fun (x : (List LSpan) × Int × (List ISpan) × Unit) => L_toSpanS_b0 k n x.1 x.2.1 x.2.2.1) (L_toSpanS_ck k) (cutOK_of (l := []) (by kernel_rfl) trivial) (fun _ => rfl) (fun n x Q R h => by
    simp only [L_toSpanS_b0, optK_bind, optK_bif, optK_pure, optK_none, optK_oc, optK_guardT, optK_map] at h
    refine hold_of h ?_
    kernel_rfl) (by kernel_rfl)
def L_toSpanS_cu (k : Nat) : Cuts D := ⟨[(0, some (L_toSpanS_b0_cut k))], []⟩
def L_toSpanS_ar : List Ar := [.c (.kl 24)]
def L_toSpanS_f (k : Nat) (x : TupA D L_toSpanS_ar) : Option ((List ISpan)) := L_toSpanS k x.1
def L_toSpanS_vr (r : (List ISpan)) : VR D := .p (.c (.sl 29 r))
theorem L_toSpanS_ok (k : Nat) : Does P X 13 L_toSpanS_ar (L_toSpanS_f k) L_toSpanS_vr :=
  does_of (body := bodyOf Go.Proofs.Try.f13) (pl := L_toSpanS_pl) (k := k) (cu := L_toSpanS_cu k) (tys := [[29]]) (L_toSpanS_ck k) ctx mixed Go.Proofs.Try.func13 (by kernel_rfl) (by kernel_rfl) (cutOK_of (l := [(L_toSpanS_b0_cut k, sub (bodyOf Go.Proofs.Try.f13) [1, 1, 0, 1])]) (by kernel_rfl) ⟨L_toSpanS_b0_ok k, trivial⟩) fun x R h => by
    simp only [L_toSpanS_f, L_toSpanS, optK_bind, optK_bif, optK_pure, optK_none, optK_oc, optK_guardT, optK_map] at h
    refine hold_of h ?_
    kernel_rfl
def L_toSpanS_en (k : Nat) : Entry D := entS L_toSpanS_ar (L_toSpanS_f k) L_toSpanS_vr
theorem L_toSpanS_eo (k : Nat) : EntryOK X 13 (L_toSpanS_en k) := (L_toSpanS_ok k).en rfl
def S_IsSpanSet_pl : Plan := ⟨[(0, [(0, some 29)]), (1, [(0, some 29), (3, none)]), (2, [(0, some 29), (3, none), (7, none)]), (3, [(0, some 29), (3, none)]), (4, [(0, some 29), (3, none), (54, none)]), (5, [(2, none)]), (6, [(2, none)])],
  [(0, []), (1, [(0, some 29), (3, none)])],
  [(7, ([(0, some 29), (3, none)], [])), (54, ([], [(0, some 29), (3, none)]))]⟩
def S_IsSpanSet_cl (k : Nat) : Calls' D := ⟨[], []⟩
theorem S_IsSpanSet_ck (k : Nat) : CallsOK X (S_IsSpanSet_cl k) := .nil cod
def S_IsSpanSet_b0_L (x : (List ISpan) × Int × Unit) (o : Oc (Unit) (Bool)) (Q : Ex → VSt D → Prop) (R : VR D → Prop) : Prop := ocP o (fun v0 => Q .normal (mkSt ⟨[], []⟩ [])) (fun w0 => R (.p (.c (.bool w0))))
def S_IsSpanSet_b0_cut (k : Nat) : Cut D := cutS ⟨[(0, .hole), (3, .hole)], []⟩ [.kl 29, .ki .i64] (fun (x : (List ISpan) × Int × Unit) => S_IsSpanSet_b0 k k x.1 x.2.1) S_IsSpanSet_b0_L
def S_IsSpanSet_b0_cu (k : Nat) : Cuts D := ⟨[], []⟩
theorem S_IsSpanSet_b0_ok (k : Nat) : CutFor X S_IsSpanSet_pl k Go.Proofs.Try.f32.results.toList (S_IsSpanSet_b0_cut k) (sub (bodyOf Go.Proofs.Try.f32) [1, 0, 1]) :=
  loopCut_s (X := X) (sg := [.kl 29, .ki .i64]) (cu := S_IsSpanSet_b0_cu k) (cl := S_IsSpanSet_cl k) (tys := [[0]]) (id := 0) (c := sub (bodyOf Go.Proofs.Try.f32) [1, 0, 1, 0, 0]) (f := fun n => fun (x : (List ISpan) × Int × Unit) => S_IsSpanSet_b0 k n x.1 x.2.1) (S_IsSpanSet_ck k) (cutOK_of (l := []) (by kernel_rfl) trivial) (fun _ => rfl) (fun n x Q R h => by
    simp only [S_IsSpanSet_b0, optK_bind, optK_bif, optK_pure, optK_none, optK_oc, optK_guardT, optK_map] at h
    refine hold_of h ?_
    kernel_rfl) (by kernel_rfl)
def S_IsSpanSet_cu (k : Nat) : Cuts D := ⟨[(0, some (S_IsSpanSet_b0_cut k))], []⟩
def S_IsSpanSet_ar : List Ar := [.c (.kl 29)]
def S_IsSpanSet_f (k : Nat) (x : TupA D S_IsSpanSet_ar) : Option (Bool) := S_IsSpanSet k x.1
def S_IsSpanSet_vr (r : Bool) : VR D := .p (.c (.bool r))
theorem S_IsSpanSet_ok (k : Nat) : Does P X 32 S_IsSpanSet_ar (S_IsSpanSet_f k) S_IsSpanSet_vr :=
  does_of (body := bodyOf Go.Proofs.Try.f32) (pl := S_IsSpanSet_pl) (k := k) (cu := S_IsSpanSet_cu k) (tys := [[0]]) (S_IsSpanSet_ck k) ctx mixed Go.Proofs.Try.func32 (by kernel_rfl) (by kernel_rfl) (cutOK_of (l := [(S_IsSpanSet_b0_cut k, sub (bodyOf Go.Proofs.Try.f32) [1, 0, 1])]) (by kernel_rfl) ⟨S_IsSpanSet_b0_ok k, trivial⟩) fun x R h => by
    simp only [S_IsSpanSet_f, S_IsSpanSet, optK_bind, optK_bif, optK_pure, optK_none, optK_oc, optK_guardT, optK_map] at h
    refine hold_of h ?_
    kernel_rfl
def S_IsSpanSet_en (k : Nat) : Entry D := entS S_IsSpanSet_ar (S_IsSpanSet_f k) S_IsSpanSet_vr
theorem S_IsSpanSet_eo (k : Nat) : EntryOK X 32 (S_IsSpanSet_en k) := (S_IsSpanSet_ok k).en rfl
def S_Min_pl : Plan := ⟨[(0, [(0, none), (1, none)]), (1, [(0, none), (1, none), (7, none)]), (2, [(4, none)]), (3, [(4, none)])],
  [],
  [(7, ([(1, none)], [(0, none)]))]⟩
def S_Min_cl (k : Nat) : Calls' D := ⟨[], []⟩
theorem S_Min_ck (k : Nat) : CallsOK X (S_Min_cl k) := .nil cod
def S_Min_cu (k : Nat) : Cuts D := ⟨[], []⟩
def S_Min_ar : List Ar := [.c (.ki .i64), .c (.ki .i64)]
def S_Min_f (k : Nat) (x : TupA D S_Min_ar) : Option (Int) := S_Min k x.1 x.2.1
def S_Min_vr (r : Int) : VR D := .p (.c (.int .i64 r))
theorem S_Min_ok (k : Nat) : Does P X 58 S_Min_ar (S_Min_f k) S_Min_vr :=
  does_of (body := bodyOf Go.Proofs.Try.f58) (pl := S_Min_pl) (k := k) (cu := S_Min_cu k) (tys := [[0]]) (S_Min_ck k) ctx mixed Go.Proofs.Try.func58 (by kernel_rfl) (by kernel_rfl) (cutOK_of (l := []) (by kernel_rfl) trivial) fun x R h => by
    simp only [S_Min_f, S_Min, optK_bind, optK_bif, optK_pure, optK_none, optK_oc, optK_guardT, optK_map] at h
    refine hold_of h ?_
    kernel_rfl
def S_Min_en (k : Nat) : Entry D := entS S_Min_ar (S_Min_f k) S_Min_vr
theorem S_Min_eo (k : Nat) : EntryOK X 58 (S_Min_en k) := (S_Min_ok k).en rfl
def S_Max_pl : Plan := ⟨[(0, [(0, none), (1, none)]), (1, [(0, none), (1, none), (7, none)]), (2, [(4, none)]), (3, [(4, none)])],
  [],
  [(7, ([(1, none)], [(0, none)]))]⟩
def S_Max_cl (k : Nat) : Calls' D := ⟨[], []⟩
theorem S_Max_ck (k : Nat) : CallsOK X (S_Max_cl k) := .nil cod
def S_Max_cu (k : Nat) : Cuts D := ⟨[], []⟩
def S_Max_ar : List Ar := [.c (.ki .i64), .c (.ki .i64)]
def S_Max_f (k : Nat) (x : TupA D S_Max_ar) : Option (Int) := S_Max k x.1 x.2.1
def S_Max_vr (r : Int) : VR D := .p (.c (.int .i64 r))
theorem S_Max_ok (k : Nat) : Does P X 59 S_Max_ar (S_Max_f k) S_Max_vr :=
  does_of (body := bodyOf Go.Proofs.Try.f59) (pl := S_Max_pl) (k := k) (cu := S_Max_cu k) (tys := [[0]]) (S_Max_ck k) ctx mixed Go.Proofs.Try.func59 (by kernel_rfl) (by kernel_rfl) (cutOK_of (l := []) (by kernel_rfl) trivial) fun x R h => by
    simp only [S_Max_f, S_Max, optK_bind, optK_bif, optK_pure, optK_none, optK_oc, optK_guardT, optK_map] at h
    refine hold_of h ?_
    kernel_rfl
def S_Max_en (k : Nat) : Entry D := entS S_Max_ar (S_Max_f k) S_Max_vr
theorem S_Max_eo (k : Nat) : EntryOK X 59 (S_Max_en k) := (S_Max_ok k).en rfl
def S_AddSpan_pl : Plan := ⟨[(0, [(0, some 29), (3, none)]), (1, [(0, some 29), (3, none), (28, none)]), (2, [(4, some 29)]), (3, [(0, some 29), (3, none), (5, some 29)]), (4, [(0, some 29), (3, none), (5, some 29), (6, none)]), (5, [(0, some 29), (3, none), (5, some 29), (6, none), (36, none)]), (6, [(0, some 29), (3, none), (5, some 29), (6, none)]), (7, [(0, some 29), (3, none), (5, some 29), (6, none), (46, none)]), (8, [(0, some 29), (3, none), (5, some 29), (6, none)]), (9, [(0, some 29), (3, none), (5, some 29), (7, none)]), (10, [(0, some 29), (3, none), (5, some 29), (7, none), (57, none)]), (11, [(0, some 29), (3, none), (5, some 29), (7, none)]), (12, [(0, some 29), (3, none), (5, some 29), (7, none), (77, none)]), (13, [(0, some 29), (3, none), (5, some 29), (7, none)]), (14, [(0, some 29), (3, none), (5, some 29)]), (15, [(0, some 29), (3, none), (5, some 29), (8, none)]), (16, [(0, some 29), (3, none), (5, some 29), (8, none), (102, none)]), (17, [(0, some 29), (3, none), (5, some 29), (8, none)]), (18, [(0, some 29), (3, none), (5, some 29), (8, none), (112, none)]), (19, [(0, some 29), (3, none), (5, some 29), (8, none)]), (20, [(4, some 29)])],
  [(0, [(0, some 29), (3, none), (5, some 29)]), (1, [(0, some 29), (3, none), (5, some 29), (6, none)]), (2, [(0, some 29), (3, none), (5, some 29)]), (3, [(0, some 29), (3, none), (5, some 29), (7, none)]), (4, [(5, some 29)]), (5, [(0, some 29), (3, none), (5, some 29), (8, none)])],
  [(28, ([(0, some 29)], [(0, some 29), (3, none)])), (36, ([(0, some 29), (3, none), (5, some 29), (6, none)], [(0, some 29), (3, none), (5, some 29)])), (46, ([(0, some 29), (3, none), (5, some 29), (6, none)], [(0, some 29), (3, none), (5, some 29), (6, none)])), (57, ([(0, some 29), (3, none), (5, some 29), (7, none)], [(0, some 29), (3, none), (5, some 29)])), (77, ([(0, some 29), (3, none), (5, some 29), (7, none)], [(0, some 29), (3, none), (5, some 29), (7, none)])), (102, ([(0, some 29), (3, none), (5, some 29), (8, none)], [(5, some 29)])), (112, ([(0, some 29), (3, none), (5, some 29), (8, none)], [(0, some 29), (3, none), (5, some 29), (8, none)]))]⟩
def S_AddSpan_cl (k : Nat) : Calls' D := ⟨[(32, S_IsSpanSet_en k), (58, S_Min_en k), (59, S_Max_en k)], []⟩
theorem S_AddSpan_ck (k : Nat) : CallsOK X (S_AddSpan_cl k) := .cons (S_IsSpanSet_eo k) (.cons (S_Min_eo k) (.cons (S_Max_eo k) (.nil cod)))
def S_AddSpan_c46_L (x : (List ISpan) × Int × Bool × Int × Int × (List ISpan) × Unit) (o : (List ISpan)) (Q : Ex → VSt D → Prop) (R : VR D → Prop) : Prop := Q .normal (mkSt ⟨[(0, .hole), (3, .ptr 3 0), (5, .ref 500005), (6, .hole)], [(3, .var [.hole, .hole]), (500005, .row)]⟩ [.sl 29 x.1, .int .i64 x.2.1, .int .i64 x.2.2.2.1, .int .i64 x.2.2.2.2.1, .sl 29 o])
def S_AddSpan_c46_cut (k : Nat) : Cut D := cutS ⟨[(0, .hole), (3, .ptr 3 0), (5, .ref 500005), (6, .hole), (46, .hole)], [(3, .var [.hole, .hole]), (500005, .row)]⟩ [.kl 29, .ki .i64, .kb, .ki .i64, .ki .i64, .kl 29] (fun (x : (List ISpan) × Int × Bool × Int × Int × (List ISpan) × Unit) => S_AddSpan_c46 k x.1 x.2.1 x.2.2.1 x.2.2.2.1 x.2.2.2.2.1 x.2.2.2.2.2.1) S_AddSpan_c46_L
def S_AddSpan_c46_cu (k : Nat) : Cuts D := ⟨[], []⟩
theorem S_AddSpan_c46_ok (k : Nat) : CutFor X S_AddSpan_pl k Go.Proofs.Try.f12.results.toList (S_AddSpan_c46_cut k) (sub (bodyOf Go.Proofs.Try.f12) [1, 1, 1, 0, 1, 0, 0, 1, 0, 0, 1]) :=
  joinCut_s (X := X) (sg := [.kl 29, .ki .i64, .kb, .ki .i64, .ki .i64, .kl 29]) (cu := S_AddSpan_c46_cu k) (cl := S_AddSpan_cl k) (tys := [[29]]) (S_AddSpan_ck k) (cutOK_of (l := []) (by kernel_rfl) trivial) fun x Q R h => by
    simp only [S_AddSpan_c46, optK_bind, optK_bif, optK_pure, optK_none, optK_oc, optK_guardT, optK_map] at h
    refine hold_of h ?_
    kernel_rfl
def S_AddSpan_b1_L (x : (List ISpan) × Int × Int × Int × (List ISpan) × Unit) (o : (List ISpan)) (Q : Ex → VSt D → Prop) (R : VR D → Prop) : Prop := Q .normal (mkSt ⟨[(0, .hole), (3, .ptr 3 0), (5, .ref 500005), (6, .hole)], [(3, .var [.hole, .hole]), (500005, .row)]⟩ [.sl 29 x.1, .int .i64 x.2.1, .int .i64 x.2.2.1, .int .i64 x.2.2.2.1, .sl 29 o])
def S_AddSpan_b1_cut (k : Nat) : Cut D := cutS ⟨[(0, .hole), (3, .ptr 3 0), (5, .ref 500005), (6, .hole)], [(3, .var [.hole, .hole]), (500005, .row)]⟩ [.kl 29, .ki .i64, .ki .i64, .ki .i64, .kl 29] (fun (x : (List ISpan) × Int × Int × Int × (List ISpan) × Unit) => S_AddSpan_b1 k x.1 x.2.1 x.2.2.1 x.2.2.2.1 x.2.2.2.2.1) S_AddSpan_b1_L
def S_AddSpan_b1_cu (k : Nat) : Cuts D := ⟨[], [(46, some (S_AddSpan_c46_cut k))]⟩
theorem S_AddSpan_b1_ok (k : Nat) : CutFor X S_AddSpan_pl k Go.Proofs.Try.f12.results.toList (S_AddSpan_b1_cut k) (sub (bodyOf Go.Proofs.Try.f12) [1, 1, 1, 0, 1, 0, 0, 1, 0]) :=
  joinCut_s (X := X) (sg := [.kl 29, .ki .i64, .ki .i64, .ki .i64, .kl 29]) (cu := S_AddSpan_b1_cu k) (cl := S_AddSpan_cl k) (tys := [[29]]) (S_AddSpan_ck k) (cutOK_of (l := [(S_AddSpan_c46_cut k, sub (bodyOf Go.Proofs.Try.f12) [1, 1, 1, 0, 1, 0, 0, 1, 0, 0, 1])]) (by kernel_rfl) ⟨S_AddSpan_c46_ok k, trivial⟩) fun x Q R h => by
    simp only [S_AddSpan_b1, optK_bind, optK_bif, optK_pure, optK_none, optK_oc, optK_guardT, optK_map] at h
    refine hold_of h ?_
    kernel_rfl
def S_AddSpan_b0_L (x : (List ISpan) × Int × Int × Int × (List ISpan) × Unit) (o : (List ISpan)) (Q : Ex → VSt D → Prop) (R : VR D → Prop) : Prop := Q .normal (mkSt ⟨[(0, .hole), (3, .ptr 3 0), (5, .ref 500005)], [(3, .var [.hole, .hole]), (500005, .row)]⟩ [.sl 29 x.1, .int .i64 x.2.2.1, .int .i64 x.2.2.2.1, .sl 29 o])
def S_AddSpan_b0_cut (k : Nat) : Cut D := cutS ⟨[(0, .hole), (3, .ptr 3 0), (5, .ref 500005), (6, .hole)], [(3, .var [.hole, .hole]), (500005, .row)]⟩ [.kl 29, .ki .i64, .ki .i64, .ki .i64, .kl 29] (fun (x : (List ISpan) × Int × Int × Int × (List ISpan) × Unit) => S_AddSpan_b0 k k x.1 x.2.1 x.2.2.1 x.2.2.2.1 x.2.2.2.2.1) S_AddSpan_b0_L
def S_AddSpan_b0_cu (k : Nat) : Cuts D := ⟨[(1, some (S_AddSpan_b1_cut k))], []⟩
theorem S_AddSpan_b0_ok (k : Nat) : CutFor X S_AddSpan_pl k Go.Proofs.Try.f12.results.toList (S_AddSpan_b0_cut k) (sub (bodyOf Go.Proofs.Try.f12) [1, 1, 1, 0, 1]) :=
  loopCut_s (X := X) (sg := [.kl 29, .ki .i64, .ki .i64, .ki .i64, .kl 29]) (cu := S_AddSpan_b0_cu k) (cl := S_AddSpan_cl k) (tys := [[29]]) (id := 0) (c := sub (bodyOf Go.Proofs.Try.f12) [1, 1, 1, 0, 1, 0, 0]) (f := fun n => fun (x : (List ISpan) × Int × Int × Int × (List ISpan) × Unit) => S_AddSpan_b0 k n x.1 x.2.1 x.2.2.1 x.2.2.2.1 x.2.2.2.2.1) (S_AddSpan_ck k) (cutOK_of (l := [(S_AddSpan_b1_cut k, sub (bodyOf Go.Proofs.Try.f12) [1, 1, 1, 0, 1, 0, 0, 1, 0])]) (by kernel_rfl) ⟨S_AddSpan_b1_ok k, trivial⟩) (fun _ => rfl) (fun n x Q R h => by
    simp only [S_AddSpan_b0, optK_bind, optK_bif, optK_pure, optK_none, optK_oc, optK_guardT, optK_map] at h
    refine hold_of h ?_
    kernel_rfl) (by kernel_rfl)
def S_AddSpan_c77_L (x : (List ISpan) × Int × Bool × Int × Int × (List ISpan) × Unit) (o : Int × Int) (Q : Ex → VSt D → Prop) (R : VR D → Prop) : Prop := Q .normal (mkSt ⟨[(0, .hole), (3, .ptr 3 0), (5, .ref 500005), (7, .hole)], [(3, .var [.hole, .hole]), (500005, .row)]⟩ [.sl 29 x.1, .int .i64 x.2.1, .int .i64 o.1, .int .i64 o.2, .sl 29 x.2.2.2.2.2.1])
def S_AddSpan_c77_cut (k : Nat) : Cut D := cutS ⟨[(0, .hole), (3, .ptr 3 0), (5, .ref 500005), (7, .hole), (77, .hole)], [(3, .var [.hole, .hole]), (500005, .row)]⟩ [.kl 29, .ki .i64, .kb, .ki .i64, .ki .i64, .kl 29] (fun (x : (List ISpan) × Int × Bool × Int × Int × (List ISpan) × Unit) => S_AddSpan_c77 k x.1 x.2.1 x.2.2.1 x.2.2.2.1 x.2.2.2.2.1 x.2.2.2.2.2.1) S_AddSpan_c77_L
def S_AddSpan_c77_cu (k : Nat) : Cuts D := ⟨[], []⟩
theorem S_AddSpan_c77_ok (k : Nat) : CutFor X S_AddSpan_pl k Go.Proofs.Try.f12.results.toList (S_AddSpan_c77_cut k) (sub (bodyOf Go.Proofs.Try.f12) [1, 1, 1, 1, 0, 1, 0, 0, 1, 0, 0, 1]) :=
  joinCut_s (X := X) (sg := [.kl 29, .ki .i64, .kb, .ki .i64, .ki .i64, .kl 29]) (cu := S_AddSpan_c77_cu k) (cl := S_AddSpan_cl k) (tys := [[29]]) (S_AddSpan_ck k) (cutOK_of (l := []) (by kernel_rfl) trivial) fun x Q R h => by
    simp only [S_AddSpan_c77, optK_bind, optK_bif, optK_pure, optK_none, optK_oc, optK_guardT, optK_map] at h
    refine hold_of h ?_
    kernel_rfl
def S_AddSpan_b3_L (x : (List ISpan) × Int × Int × Int × (List ISpan) × Unit) (o : Int × Int) (Q : Ex → VSt D → Prop) (R : VR D → Prop) : Prop := Q .normal (mkSt ⟨[(0, .hole), (3, .ptr 3 0), (5, .ref 500005), (7, .hole)], [(3, .var [.hole, .hole]), (500005, .row)]⟩ [.sl 29 x.1, .int .i64 x.2.1, .int .i64 o.1, .int .i64 o.2, .sl 29 x.2.2.2.2.1])
def S_AddSpan_b3_cut (k : Nat) : Cut D := cutS ⟨[(0, .hole), (3, .ptr 3 0), (5, .ref 500005), (7, .hole)], [(3, .var [.hole, .hole]), (500005, .row)]⟩ [.kl 29, .ki .i64, .ki .i64, .ki .i64, .kl 29] (fun (x : (List ISpan) × Int × Int × Int × (List ISpan) × Unit) => S_AddSpan_b3 k x.1 x.2.1 x.2.2.1 x.2.2.2.1 x.2.2.2.2.1) S_AddSpan_b3_L
def S_AddSpan_b3_cu (k : Nat) : Cuts D := ⟨[], [(77, some (S_AddSpan_c77_cut k))]⟩
theorem S_AddSpan_b3_ok (k : Nat) : CutFor X S_AddSpan_pl k Go.Proofs.Try.f12.results.toList (S_AddSpan_b3_cut k) (sub (bodyOf Go.Proofs.Try.f12) [1, 1, 1, 1, 0, 1, 0, 0, 1, 0]) :=
  joinCut_s (X := X) (sg := [.kl 29, .ki .i64, .ki .i64, .ki .i64, .kl 29]) (cu := S_AddSpan_b3_cu k) (cl := S_AddSpan_cl k) (tys := [[29]]) (S_AddSpan_ck k) (cutOK_of (l := [(S_AddSpan_c77_cut k, sub (bodyOf Go.Proofs.Try.f12) [1, 1, 1, 1, 0, 1, 0, 0, 1, 0, 0, 1])]) (by kernel_rfl) ⟨S_AddSpan_c77_ok k, trivial⟩) fun x Q R h => by
    simp only [S_AddSpan_b3, optK_bind, optK_bif, optK_pure, optK_none, optK_oc, optK_guardT, optK_map] at h
    refine hold_of h ?_
    kernel_rfl
def S_AddSpan_b2_L (x : (List ISpan) × Int × Int × Int × (List ISpan) × Unit) (o : Int × Int) (Q : Ex → VSt D → Prop) (R : VR D → Prop) : Prop := Q .normal (mkSt ⟨[(0, .hole), (3, .ptr 3 0), (5, .ref 500005)], [(3, .var [.hole, .hole]), (500005, .row)]⟩ [.sl 29 x.1, .int .i64 o.1, .int .i64 o.2, .sl 29 x.2.2.2.2.1])
def S_AddSpan_b2_cut (k : Nat) : Cut D := cutS ⟨[(0, .hole), (3, .ptr 3 0), (5, .ref 500005), (7, .hole)], [(3, .var [.hole, .hole]), (500005, .row)]⟩ [.kl 29, .ki .i64, .ki .i64, .ki .i64, .kl 29] (fun (x : (List ISpan) × Int × Int × Int × (List ISpan) × Unit) => S_AddSpan_b2 k k x.1 x.2.1 x.2.2.1 x.2.2.2.1 x.2.2.2.2.1) S_AddSpan_b2_L
def S_AddSpan_b2_cu (k : Nat) : Cuts D := ⟨[(3, some (S_AddSpan_b3_cut k))], []⟩
theorem S_AddSpan_b2_ok (k : Nat) : CutFor X S_AddSpan_pl k Go.Proofs.Try.f12.results.toList (S_AddSpan_b2_cut k) (sub (bodyOf Go.Proofs.Try.f12) [1, 1, 1, 1, 0, 1]) :=
  loopCut_s (X := X) (sg := [.kl 29, .ki .i64, .ki .i64, .ki .i64, .kl 29]) (cu := S_AddSpan_b2_cu k) (cl := S_AddSpan_cl k) (tys := [[29]]) (id := 2) (c := sub (bodyOf Go.Proofs.Try.f12) [1, 1, 1, 1, 0, 1, 0, 0]) (f := fun n => fun (x : (List ISpan) × Int × Int × Int × (List ISpan) × Unit) => S_AddSpan_b2 k n x.1 x.2.1 x.2.2.1 x.2.2.2.1 x.2.2.2.2.1) (S_AddSpan_ck k) (cutOK_of (l := [(S_AddSpan_b3_cut k, sub (bodyOf Go.Proofs.Try.f12) [1, 1, 1, 1, 0, 1, 0, 0, 1, 0])]) (by kernel_rfl) ⟨S_AddSpan_b3_ok k, trivial⟩) (fun _ => rfl) (fun n x Q R h => by
    simp only [S_AddSpan_b2, optK_bind, optK_bif, optK_pure, optK_none, optK_oc, optK_guardT, optK_map] at h
    refine hold_of h ?_
    kernel_rfl) (by kernel_rfl)
def S_AddSpan_c112_L (x : (List ISpan) × Int × Bool × Int × Int × (List ISpan) × Unit) (o : (List ISpan)) (Q : Ex → VSt D → Prop) (R : VR D → Prop) : Prop := Q .normal (mkSt ⟨[(0, .hole), (3, .ptr 3 0), (5, .ref 500005), (8, .hole)], [(3, .var [.hole, .hole]), (500005, .row)]⟩ [.sl 29 x.1, .int .i64 x.2.1, .int .i64 x.2.2.2.1, .int .i64 x.2.2.2.2.1, .sl 29 o])
def S_AddSpan_c112_cut (k : Nat) : Cut D := cutS ⟨[(0, .hole), (3, .ptr 3 0), (5, .ref 500005), (8, .hole), (112, .hole)], [(3, .var [.hole, .hole]), (500005, .row)]⟩ [.kl 29, .ki .i64, .kb, .ki .i64, .ki .i64, .kl 29] (fun (x : (List ISpan) × Int × Bool × Int × Int × (List ISpan) × Unit) => S_AddSpan_c112 k x.1 x.2.1 x.2.2.1 x.2.2.2.1 x.2.2.2.2.1 x.2.2.2.2.2.1) S_AddSpan_c112_L
def S_AddSpan_c112_cu (k : Nat) : Cuts D := ⟨[], []⟩
theorem S_AddSpan_c112_ok (k : Nat) : CutFor X S_AddSpan_pl k Go.Proofs.Try.f12.results.toList (S_AddSpan_c112_cut k) (sub (bodyOf Go.Proofs.Try.f12) [1, 1, 1, 1, 1, 1, 0, 1, 0, 0, 1, 0, 0, 1]) :=
  joinCut_s (X := X) (sg := [.kl 29, .ki .i64, .kb, .ki .i64, .ki .i64, .kl 29]) (cu := S_AddSpan_c112_cu k) (cl := S_AddSpan_cl k) (tys := [[29]]) (S_AddSpan_ck k) (cutOK_of (l := []) (by kernel_rfl) trivial) fun x Q R h => by
    simp only [S_AddSpan_c112, optK_bind, optK_bif, optK_pure, optK_none, optK_oc, optK_guardT, optK_map] at h
    refine hold_of h ?_
    kernel_rfl
def S_AddSpan_b5_L (x : (List ISpan) × Int × Int × Int × (List ISpan) × Unit) (o : (List ISpan)) (Q : Ex → VSt D → Prop) (R : VR D → Prop) : Prop := Q .normal (mkSt ⟨[(0, .hole), (3, .ptr 3 0), (5, .ref 500005), (8, .hole)], [(3, .var [.hole, .hole]), (500005, .row)]⟩ [.sl 29 x.1, .int .i64 x.2.1, .int .i64 x.2.2.1, .int .i64 x.2.2.2.1, .sl 29 o])
def S_AddSpan_b5_cut (k : Nat) : Cut D := cutS ⟨[(0, .hole), (3, .ptr 3 0), (5, .ref 500005), (8, .hole)], [(3, .var [.hole, .hole]), (500005, .row)]⟩ [.kl 29, .ki .i64, .ki .i64, .ki .i64, .kl 29] (fun (x : (List ISpan) × Int × Int × Int × (List ISpan) × Unit) => S_AddSpan_b5 k x.1 x.2.1 x.2.2.1 x.2.2.2.1 x.2.2.2.2.1) S_AddSpan_b5_L
def S_AddSpan_b5_cu (k : Nat) : Cuts D := ⟨[], [(112, some (S_AddSpan_c112_cut k))]⟩
theorem S_AddSpan_b5_ok (k : Nat) : CutFor X S_AddSpan_pl k Go.Proofs.Try.f12.results.toList (S_AddSpan_b5_cut k) (sub (bodyOf Go.Proofs.Try.f12) [1, 1, 1, 1, 1, 1, 0, 1, 0, 0, 1, 0]) :=
  joinCut_s (X := X) (sg := [.kl 29, .ki .i64, .ki .i64, .ki .i64, .kl 29]) (cu := S_AddSpan_b5_cu k) (cl := S_AddSpan_cl k) (tys := [[29]]) (S_AddSpan_ck k) (cutOK_of (l := [(S_AddSpan_c112_cut k, sub (bodyOf Go.Proofs.Try.f12) [1, 1, 1, 1, 1, 1, 0, 1, 0, 0, 1, 0, 0, 1])]) (by kernel_rfl) ⟨S_AddSpan_c112_ok k, trivial⟩) fun x Q R h => by
    simp only [S_AddSpan_b5, optK_bind, optK_bif, optK_pure, optK_none, optK_oc, optK_guardT, optK_map] at h
    refine hold_of h ?_
    kernel_rfl
def S_AddSpan_b4_L (x : (List ISpan) × Int × Int × Int × (List ISpan) × Unit) (o : (List ISpan)) (Q : Ex → VSt D → Prop) (R : VR D → Prop) : Prop := Q .normal (mkSt ⟨[(5, .ref 500005)], [(500005, .row)]⟩ [.sl 29 o])
def S_AddSpan_b4_cut (k : Nat) : Cut D := cutS ⟨[(0, .hole), (3, .ptr 3 0), (5, .ref 500005), (8, .hole)], [(3, .var [.hole, .hole]), (500005, .row)]⟩ [.kl 29, .ki .i64, .ki .i64, .ki .i64, .kl 29] (fun (x : (List ISpan) × Int × Int × Int × (List ISpan) × Unit) => S_AddSpan_b4 k k x.1 x.2.1 x.2.2.1 x.2.2.2.1 x.2.2.2.2.1) S_AddSpan_b4_L
def S_AddSpan_b4_cu (k : Nat) : Cuts D := ⟨[(5, some (S_AddSpan_b5_cut k))], []⟩
theorem S_AddSpan_b4_ok (k : Nat) : CutFor X S_AddSpan_pl k Go.Proofs.Try.f12.results.toList (S_AddSpan_b4_cut k) (sub (bodyOf Go.Proofs.Try.f12) [1, 1, 1, 1, 1, 1, 0, 1]) :=
  loopCut_s (X := X) (sg := [.kl 29, .ki .i64, .ki .i64, .ki .i64, .kl 29]) (cu := S_AddSpan_b4_cu k) (cl := S_AddSpan_cl k) (tys := [[29]]) (id := 4) (c := sub (bodyOf Go.Proofs.Try.f12) [1, 1, 1, 1, 1, 1, 0, 1, 0, 0]) (f := fun n => fun (x : (List ISpan) × Int × Int × Int × (List ISpan) × Unit) => S_AddSpan_b4 k n x.1 x.2.1 x.2.2.1 x.2.2.2.1 x.2.2.2.2.1) (S_AddSpan_ck k) (cutOK_of (l := [(S_AddSpan_b5_cut k, sub (bodyOf Go.Proofs.Try.f12) [1, 1, 1, 1, 1, 1, 0, 1, 0, 0, 1, 0])]) (by kernel_rfl) ⟨S_AddSpan_b5_ok k, trivial⟩) (fun _ => rfl) (fun n x Q R h => by
    simp only [S_AddSpan_b4, optK_bind, optK_bif, optK_pure, optK_none, optK_oc, optK_guardT, optK_map] at h
    refine hold_of h ?_
    kernel_rfl) (by kernel_rfl)
def S_AddSpan_cu (k : Nat) : Cuts D := ⟨[(0, some (S_AddSpan_b0_cut k)), (2, some (S_AddSpan_b2_cut k)), (4, some (S_AddSpan_b4_cut k))], []⟩
def S_AddSpan_ar : List Ar := [.c (.kl 29), .a [.ki .i64, .ki .i64]]
def S_AddSpan_f (k : Nat) (x : TupA D S_AddSpan_ar) : Option ((List ISpan)) := S_AddSpan k x.1 (⟨x.2.1.1, x.2.1.2.1⟩ : ISpan)
def S_AddSpan_vr (r : (List ISpan)) : VR D := .p (.c (.sl 29 r))
theorem S_AddSpan_ok (k : Nat) : Does P X 12 S_AddSpan_ar (S_AddSpan_f k) S_AddSpan_vr :=
  does_of (body := bodyOf Go.Proofs.Try.f12) (pl := S_AddSpan_pl) (k := k) (cu := S_AddSpan_cu k) (tys := [[29]]) (S_AddSpan_ck k) ctx mixed Go.Proofs.Try.func12 (by kernel_rfl) (by kernel_rfl) (cutOK_of (l := [(S_AddSpan_b0_cut k, sub (bodyOf Go.Proofs.Try.f12) [1, 1, 1, 0, 1]), (S_AddSpan_b2_cut k, sub (bodyOf Go.Proofs.Try.f12) [1, 1, 1, 1, 0, 1]), (S_AddSpan_b4_cut k, sub (bodyOf Go.Proofs.Try.f12) [1, 1, 1, 1, 1, 1, 0, 1])]) (by kernel_rfl) ⟨S_AddSpan_b0_ok k, S_AddSpan_b2_ok k, S_AddSpan_b4_ok k, trivial⟩) fun x R h => by
    simp only [S_AddSpan_f, S_AddSpan, optK_bind, optK_bif, optK_pure, optK_none, optK_oc, optK_guardT, optK_map] at h
    refine hold_of h ?_
    kernel_rfl
def S_AddSpan_en (k : Nat) : Entry D := entS S_AddSpan_ar (S_AddSpan_f k) S_AddSpan_vr
theorem S_AddSpan_eo (k : Nat) : EntryOK X 12 (S_AddSpan_en k) := (S_AddSpan_ok k).en rfl
def S_UniteSpans_pl : Plan := ⟨[(0, [(0, some 29)]), (1, [(0, some 29), (3, some 29)]), (2, [(0, some 29), (3, some 29), (4, none)]), (3, [(0, some 29), (3, some 29), (4, none), (9, none)]), (4, [(0, some 29), (3, some 29), (4, none)]), (5, [(0, some 29), (3, some 29), (4, none)]), (6, [(2, some 29)])],
  [(0, [(3, some 29)]), (1, [(0, some 29), (3, some 29), (4, none)])],
  [(9, ([(0, some 29), (3, some 29), (4, none)], [(3, some 29)]))]⟩
def S_UniteSpans_cl (k : Nat) : Calls' D := ⟨[(12, S_AddSpan_en k)], []⟩
theorem S_UniteSpans_ck (k : Nat) : CallsOK X (S_UniteSpans_cl k) := .cons (S_AddSpan_eo k) (.nil cod)
def S_UniteSpans_b0_L (x : (List ISpan) × Int × (List ISpan) × Unit) (o : (List ISpan)) (Q : Ex → VSt D → Prop) (R : VR D → Prop) : Prop := Q .normal (mkSt ⟨[(3, .ref 500003)], [(500003, .row)]⟩ [.sl 29 o])
def S_UniteSpans_b0_cut (k : Nat) : Cut D := cutS ⟨[(0, .hole), (3, .ref 500003), (4, .hole)], [(500003, .row)]⟩ [.kl 29, .ki .i64, .kl 29] (fun (x : (List ISpan) × Int × (List ISpan) × Unit) => S_UniteSpans_b0 k k x.1 x.2.1 x.2.2.1) S_UniteSpans_b0_L
def S_UniteSpans_b0_cu (k : Nat) : Cuts D := ⟨[], []⟩
theorem S_UniteSpans_b0_ok (k : Nat) : CutFor X S_UniteSpans_pl k Go.Proofs.Try.f19.results.toList (S_UniteSpans_b0_cut k) (sub (bodyOf Go.Proofs.Try.f19) [1, 1, 0, 1]) :=
  loopCut_s (X := X) (sg := [.kl 29, .ki .i64, .kl 29]) (cu := S_UniteSpans_b0_cu k) (cl := S_UniteSpans_cl k) (tys := [[29]]) (id := 0) (c := sub (bodyOf Go.Proofs.Try.f19) [1, 1, 0, 1, 0, 0]) (f := fun n => fun (x : (List ISpan) × Int × (List ISpan) × Unit) => S_UniteSpans_b0 k n x.1 x.2.1 x.2.2.1) (S_UniteSpans_ck k) (cutOK_of (l := []) (by kernel_rfl) trivial) (fun _ => rfl) (fun n x Q R h => by
    simp only [S_UniteSpans_b0, optK_bind, optK_bif, optK_pure, optK_none, optK_oc, optK_guardT, optK_map] at h
    refine hold_of h ?_
    kernel_rfl) (by kernel_rfl)
def S_UniteSpans_cu (k : Nat) : Cuts D := ⟨[(0, some (S_UniteSpans_b0_cut k))], []⟩
def S_UniteSpans_ar : List Ar := [.c (.kl 29)]
def S_UniteSpans_f (k : Nat) (x : TupA D S_UniteSpans_ar) : Option ((List ISpan)) := S_UniteSpans k x.1
def S_UniteSpans_vr (r : (List ISpan)) : VR D := .p (.c (.sl 29 r))
theorem S_UniteSpans_ok (k : Nat) : Does P X 19 S_UniteSpans_ar (S_UniteSpans_f k) S_UniteSpans_vr :=
  does_of (body := bodyOf Go.Proofs.Try.f19) (pl := S_UniteSpans_pl) (k := k) (cu := S_UniteSpans_cu k) (tys := [[29]]) (S_UniteSpans_ck k) ctx mixed Go.Proofs.Try.func19 (by kernel_rfl) (by kernel_rfl) (cutOK_of (l := [(S_UniteSpans_b0_cut k, sub (bodyOf Go.Proofs.Try.f19) [1, 1, 0, 1])]) (by kernel_rfl) ⟨S_UniteSpans_b0_ok k, trivial⟩) fun x R h => by
    simp only [S_UniteSpans_f, S_UniteSpans, optK_bind, optK_bif, optK_pure, optK_none, optK_oc, optK_guardT, optK_map] at h
    refine hold_of h ?_
    kernel_rfl
def S_UniteSpans_en (k : Nat) : Entry D := entS S_UniteSpans_ar (S_UniteSpans_f k) S_UniteSpans_vr
theorem S_UniteSpans_eo (k : Nat) : EntryOK X 19 (S_UniteSpans_en k) := (S_UniteSpans_ok k).en rfl
def I_IsSpanSet_pl : Plan := ⟨[(0, [(0, some 29)]), (1, [(0, some 29), (5, some 29), (6, none), (7, none)]), (2, [(0, some 29), (5, some 29), (6, none), (7, none), (8, none)]), (3, [(0, some 29), (3, none), (4, none), (5, some 29), (6, none), (7, none)]), (4, [(0, some 29), (5, some 29), (6, none), (7, none), (41, none)]), (5, [(2, none)]), (6, [(0, some 29), (5, some 29), (6, none), (7, none)]), (7, [(2, none)])],
  [(0, []), (1, [(0, some 29), (5, some 29), (6, none), (7, none)])],
  [(8, ([(0, some 29), (5, some 29), (6, none), (7, none)], [])), (41, ([], [(0, some 29), (5, some 29), (6, none), (7, none)]))]⟩
def I_IsSpanSet_cl (k : Nat) : Calls' D := ⟨[], []⟩
theorem I_IsSpanSet_ck (k : Nat) : CallsOK X (I_IsSpanSet_cl k) := .nil cod
def I_IsSpanSet_b0_L (x : (List ISpan) × (List ISpan) × Int × Int × Unit) (o : Oc (Unit) (Bool)) (Q : Ex → VSt D → Prop) (R : VR D → Prop) : Prop := ocP o (fun v0 => Q .normal (mkSt ⟨[], []⟩ [])) (fun w0 => R (.p (.c (.bool w0))))
def I_IsSpanSet_b0_cut (k : Nat) : Cut D := cutS ⟨[(0, .hole), (5, .hole), (6, .hole), (7, .hole)], []⟩ [.kl 29, .kl 29, .ki .i64, .ki .i64] (fun (x : (List ISpan) × (List ISpan) × Int × Int × Unit) => I_IsSpanSet_b0 k k x.1 x.2.1 x.2.2.1 x.2.2.2.1) I_IsSpanSet_b0_L
def I_IsSpanSet_b0_cu (k : Nat) : Cuts D := ⟨[], []⟩
theorem I_IsSpanSet_b0_ok (k : Nat) : CutFor X I_IsSpanSet_pl k Go.Proofs.Try.f36.results.toList (I_IsSpanSet_b0_cut k) (sub (bodyOf Go.Proofs.Try.f36) [1, 0, 1]) :=
  loopCut_s (X := X) (sg := [.kl 29, .kl 29, .ki .i64, .ki .i64]) (cu := I_IsSpanSet_b0_cu k) (cl := I_IsSpanSet_cl k) (tys := [[0]]) (id := 0) (c := sub (bodyOf Go.Proofs.Try.f36) [1, 0, 1, 0, 0]) (f := fun n => fun (x : (List ISpan) × (List ISpan) × Int × Int × Unit) => I_IsSpanSet_b0 k n x.1 x.2.1 x.2.2.1 x.2.2.2.1) (I_IsSpanSet_ck k) (cutOK_of (l := []) (by kernel_rfl) trivial) (fun _ => rfl) (fun n x Q R h => by
    simp only [I_IsSpanSet_b0, optK_bind, optK_bif, optK_pure, optK_none, optK_oc, optK_guardT, optK_map] at h
    refine hold_of h ?_
    kernel_rfl) (by kernel_rfl)
def I_IsSpanSet_cu (k : Nat) : Cuts D := ⟨[(0, some (I_IsSpanSet_b0_cut k))], []⟩
def I_IsSpanSet_ar : List Ar := [.c (.kl 29)]
def I_IsSpanSet_f (k : Nat) (x : TupA D I_IsSpanSet_ar) : Option (Bool) := I_IsSpanSet k x.1
def I_IsSpanSet_vr (r : Bool) : VR D := .p (.c (.bool r))
theorem I_IsSpanSet_ok (k : Nat) : Does P X 36 I_IsSpanSet_ar (I_IsSpanSet_f k) I_IsSpanSet_vr :=
  does_of (body := bodyOf Go.Proofs.Try.f36) (pl := I_IsSpanSet_pl) (k := k) (cu := I_IsSpanSet_cu k) (tys := [[0]]) (I_IsSpanSet_ck k) ctx mixed Go.Proofs.Try.func36 (by kernel_rfl) (by kernel_rfl) (cutOK_of (l := [(I_IsSpanSet_b0_cut k, sub (bodyOf Go.Proofs.Try.f36) [1, 0, 1])]) (by kernel_rfl) ⟨I_IsSpanSet_b0_ok k, trivial⟩) fun x R h => by
    simp only [I_IsSpanSet_f, I_IsSpanSet, optK_bind, optK_bif, optK_pure, optK_none, optK_oc, optK_guardT, optK_map] at h
    refine hold_of h ?_
    kernel_rfl
def I_IsSpanSet_en (k : Nat) : Entry D := entS I_IsSpanSet_ar (I_IsSpanSet_f k) I_IsSpanSet_vr
theorem I_IsSpanSet_eo (k : Nat) : EntryOK X 36 (I_IsSpanSet_en k) := (I_IsSpanSet_ok k).en rfl
def slices_Clone_ISpan_pl : Plan := ⟨[(0, [(0, some 29)]), (1, [(0, some 29), (4, none)]), (2, [(2, some 29)]), (3, [(2, some 29)])],
  [],
  [(4, ([], [(0, some 29)]))]⟩
def slices_Clone_ISpan_cl (k : Nat) : Calls' D := ⟨[], []⟩
theorem slices_Clone_ISpan_ck (k : Nat) : CallsOK X (slices_Clone_ISpan_cl k) := .nil cod
def slices_Clone_ISpan_cu (k : Nat) : Cuts D := ⟨[], []⟩
def slices_Clone_ISpan_ar : List Ar := [.c (.kl 29)]
def slices_Clone_ISpan_f (k : Nat) (x : TupA D slices_Clone_ISpan_ar) : Option ((List ISpan)) := slices_Clone_ISpan k x.1
def slices_Clone_ISpan_vr (r : (List ISpan)) : VR D := .p (.c (.sl 29 r))
theorem slices_Clone_ISpan_ok (k : Nat) : Does P X 60 slices_Clone_ISpan_ar (slices_Clone_ISpan_f k) slices_Clone_ISpan_vr :=
  doesClone_of (body := bodyOf Go.Proofs.Try.f60) (el := 29) (by' := 16) (pl := slices_Clone_ISpan_pl) (k := k) (cu := slices_Clone_ISpan_cu k) (tys := [[29]]) (slices_Clone_ISpan_ck k) ctx mixed Go.Proofs.Try.func60 (by kernel_rfl) (by kernel_rfl) (by kernel_rfl) (cutOK_of (l := []) (by kernel_rfl) trivial) (cutOK_of (l := []) (by kernel_rfl) trivial) (fun R h => by
    refine hold_of h ?_
    kernel_rfl) fun x R h => by
    refine hold_of h ?_
    kernel_rfl
def slices_Clone_ISpan_en (k : Nat) : Entry D := entS slices_Clone_ISpan_ar (slices_Clone_ISpan_f k) slices_Clone_ISpan_vr
theorem slices_Clone_ISpan_eo (k : Nat) : EntryOK X 60 (slices_Clone_ISpan_en k) := (slices_Clone_ISpan_ok k).en rfl
def I_AddSpan_pl : Plan := ⟨[(0, [(0, some 29), (3, none)]), (1, [(0, some 29), (3, none), (26, none)]), (2, [(4, some 29)]), (3, [(0, some 29), (3, none), (5, some 29)]), (4, [(0, some 29), (3, none), (5, some 29), (6, none)]), (5, [(0, some 29), (3, none), (5, some 29), (6, none), (43, none)]), (6, [(0, some 29), (3, none), (5, some 29), (6, none)]), (7, [(0, some 29), (3, none), (5, some 29), (6, none)]), (8, [(0, some 29), (3, none), (5, some 29), (6, none), (66, none)]), (9, [(0, some 29), (3, none), (5, some 29), (6, none)]), (10, [(0, some 29), (3, none), (5, some 29), (6, none)]), (11, [(4, some 29)])],
  [(0, [(0, some 29), (3, none), (5, some 29), (6, none)]), (1, [(0, some 29), (3, none), (5, some 29), (6, none)]), (2, [(0, some 29), (3, none), (5, some 29), (6, none)]), (3, [(0, some 29), (3, none), (5, some 29), (6, none)])],
  [(26, ([(0, some 29)], [(0, some 29), (3, none)])), (43, ([(0, some 29), (3, none), (5, some 29), (6, none)], [(0, some 29), (3, none), (5, some 29), (6, none)])), (66, ([(0, some 29), (3, none), (5, some 29), (6, none)], [(0, some 29), (3, none), (5, some 29), (6, none)]))]⟩
def I_AddSpan_cl (k : Nat) : Calls' D := ⟨[(36, I_IsSpanSet_en k), (60, slices_Clone_ISpan_en k)], []⟩
theorem I_AddSpan_ck (k : Nat) : CallsOK X (I_AddSpan_cl k) := .cons (I_IsSpanSet_eo k) (.cons (slices_Clone_ISpan_eo k) (.nil cod))
def I_AddSpan_b0_L (x : (List ISpan) × Int × Int × Int × (List ISpan) × Unit) (o : Int × (List ISpan)) (Q : Ex → VSt D → Prop) (R : VR D → Prop) : Prop := Q .normal (mkSt ⟨[(0, .hole), (3, .ptr 3 0), (5, .ref 500005), (6, .hole)], [(3, .var [.hole, .hole]), (500005, .row)]⟩ [.sl 29 x.1, .int .i64 o.1, .int .i64 x.2.2.1, .int .i64 x.2.2.2.1, .sl 29 o.2])
def I_AddSpan_b0_cut (k : Nat) : Cut D := cutS ⟨[(0, .hole), (3, .ptr 3 0), (5, .ref 500005), (6, .hole)], [(3, .var [.hole, .hole]), (500005, .row)]⟩ [.kl 29, .ki .i64, .ki .i64, .ki .i64, .kl 29] (fun (x : (List ISpan) × Int × Int × Int × (List ISpan) × Unit) => I_AddSpan_b0 k k x.1 x.2.1 x.2.2.1 x.2.2.2.1 x.2.2.2.2.1) I_AddSpan_b0_L
def I_AddSpan_b0_cu (k : Nat) : Cuts D := ⟨[], []⟩
theorem I_AddSpan_b0_ok (k : Nat) : CutFor X I_AddSpan_pl k Go.Proofs.Try.f15.results.toList (I_AddSpan_b0_cut k) (sub (bodyOf Go.Proofs.Try.f15) [1, 1, 1, 1, 0]) :=
  loopCut_s (X := X) (sg := [.kl 29, .ki .i64, .ki .i64, .ki .i64, .kl 29]) (cu := I_AddSpan_b0_cu k) (cl := I_AddSpan_cl k) (tys := [[29]]) (id := 0) (c := sub (bodyOf Go.Proofs.Try.f15) [1, 1, 1, 1, 0, 0, 0]) (f := fun n => fun (x : (List ISpan) × Int × Int × Int × (List ISpan) × Unit) => I_AddSpan_b0 k n x.1 x.2.1 x.2.2.1 x.2.2.2.1 x.2.2.2.2.1) (I_AddSpan_ck k) (cutOK_of (l := []) (by kernel_rfl) trivial) (fun _ => rfl) (fun n x Q R h => by
    simp only [I_AddSpan_b0, optK_bind, optK_bif, optK_pure, optK_none, optK_oc, optK_guardT, optK_map] at h
    refine hold_of h ?_
    kernel_rfl) (by kernel_rfl)
def I_AddSpan_b2_L (x : (List ISpan) × Int × Int × Int × (List ISpan) × Unit) (o : Int × Int × Int) (Q : Ex → VSt D → Prop) (R : VR D → Prop) : Prop := Q .normal (mkSt ⟨[(0, .hole), (3, .ptr 3 0), (5, .ref 500005), (6, .hole)], [(3, .var [.hole, .hole]), (500005, .row)]⟩ [.sl 29 x.1, .int .i64 o.1, .int .i64 o.2.1, .int .i64 o.2.2, .sl 29 x.2.2.2.2.1])
def I_AddSpan_b2_cut (k : Nat) : Cut D := cutS ⟨[(0, .hole), (3, .ptr 3 0), (5, .ref 500005), (6, .hole)], [(3, .var [.hole, .hole]), (500005, .row)]⟩ [.kl 29, .ki .i64, .ki .i64, .ki .i64, .kl 29] (fun (x : (List ISpan) × Int × Int × Int × (List ISpan) × Unit) => I_AddSpan_b2 k k x.1 x.2.1 x.2.2.1 x.2.2.2.1 x.2.2.2.2.1) I_AddSpan_b2_L
def I_AddSpan_b2_cu (k : Nat) : Cuts D := ⟨[], []⟩
theorem I_AddSpan_b2_ok (k : Nat) : CutFor X I_AddSpan_pl k Go.Proofs.Try.f15.results.toList (I_AddSpan_b2_cut k) (sub (bodyOf Go.Proofs.Try.f15) [1, 1, 1, 1, 1, 0]) :=
  loopCut_s (X := X) (sg := [.kl 29, .ki .i64, .ki .i64, .ki .i64, .kl 29]) (cu := I_AddSpan_b2_cu k) (cl := I_AddSpan_cl k) (tys := [[29]]) (id := 2) (c := sub (bodyOf Go.Proofs.Try.f15) [1, 1, 1, 1, 1, 0, 0, 0]) (f := fun n => fun (x : (List ISpan) × Int × Int × Int × (List ISpan) × Unit) => I_AddSpan_b2 k n x.1 x.2.1 x.2.2.1 x.2.2.2.1 x.2.2.2.2.1) (I_AddSpan_ck k) (cutOK_of (l := []) (by kernel_rfl) trivial) (fun _ => rfl) (fun n x Q R h => by
    simp only [I_AddSpan_b2, optK_bind, optK_bif, optK_pure, optK_none, optK_oc, optK_guardT, optK_map] at h
    refine hold_of h ?_
    kernel_rfl) (by kernel_rfl)
def I_AddSpan_cu (k : Nat) : Cuts D := ⟨[(0, some (I_AddSpan_b0_cut k)), (2, some (I_AddSpan_b2_cut k))], []⟩
def I_AddSpan_ar : List Ar := [.c (.kl 29), .a [.ki .i64, .ki .i64]]
def I_AddSpan_f (k : Nat) (x : TupA D I_AddSpan_ar) : Option ((List ISpan)) := I_AddSpan k x.1 (⟨x.2.1.1, x.2.1.2.1⟩ : ISpan)
def I_AddSpan_vr (r : (List ISpan)) : VR D := .p (.c (.sl 29 r))
theorem I_AddSpan_ok (k : Nat) : Does P X 15 I_AddSpan_ar (I_AddSpan_f k) I_AddSpan_vr :=
  does_of (body := bodyOf Go.Proofs.Try.f15) (pl := I_AddSpan_pl) (k := k) (cu := I_AddSpan_cu k) (tys := [[29]]) (I_AddSpan_ck k) ctx mixed Go.Proofs.Try.func15 (by kernel_rfl) (by kernel_rfl) (cutOK_of (l := [(I_AddSpan_b0_cut k, sub (bodyOf Go.Proofs.Try.f15) [1, 1, 1, 1, 0]), (I_AddSpan_b2_cut k, sub (bodyOf Go.Proofs.Try.f15) [1, 1, 1, 1, 1, 0])]) (by kernel_rfl) ⟨I_AddSpan_b0_ok k, I_AddSpan_b2_ok k, trivial⟩) fun x R h => by
    simp only [I_AddSpan_f, I_AddSpan, optK_bind, optK_bif, optK_pure, optK_none, optK_oc, optK_guardT, optK_map] at h
    refine hold_of h ?_
    kernel_rfl
def I_AddSpan_en (k : Nat) : Entry D := entS I_AddSpan_ar (I_AddSpan_f k) I_AddSpan_vr
theorem I_AddSpan_eo (k : Nat) : EntryOK X 15 (I_AddSpan_en k) := (I_AddSpan_ok k).en rfl
def I_UniteSpans_pl : Plan := ⟨[(0, [(0, some 29)]), (1, [(0, some 29), (3, some 29)]), (2, [(3, some 29), (7, some 29), (8, none), (9, none)]), (3, [(3, some 29), (7, some 29), (8, none), (9, none), (10, none)]), (4, [(3, some 29), (5, none), (7, some 29), (8, none), (9, none)]), (5, [(3, some 29), (7, some 29), (8, none), (9, none)]), (6, [(3, some 29), (7, some 29), (8, none), (9, none)]), (7, [(2, some 29)])],
  [(0, [(3, some 29)]), (1, [(3, some 29), (7, some 29), (8, none), (9, none)])],
  [(10, ([(3, some 29), (7, some 29), (8, none), (9, none)], [(3, some 29)]))]⟩
def I_UniteSpans_cl (k : Nat) : Calls' D := ⟨[(15, I_AddSpan_en k)], []⟩
theorem I_UniteSpans_ck (k : Nat) : CallsOK X (I_UniteSpans_cl k) := .cons (I_AddSpan_eo k) (.nil cod)
def I_UniteSpans_b0_L (x : (List ISpan) × Int × Int × (List ISpan) × Unit) (o : (List ISpan)) (Q : Ex → VSt D → Prop) (R : VR D → Prop) : Prop := Q .normal (mkSt ⟨[(3, .ref 500003)], [(500003, .row)]⟩ [.sl 29 o])
def I_UniteSpans_b0_cut (k : Nat) : Cut D := cutS ⟨[(3, .ref 500003), (7, .hole), (8, .hole), (9, .hole)], [(500003, .row)]⟩ [.kl 29, .ki .i64, .ki .i64, .kl 29] (fun (x : (List ISpan) × Int × Int × (List ISpan) × Unit) => I_UniteSpans_b0 k k x.1 x.2.1 x.2.2.1 x.2.2.2.1) I_UniteSpans_b0_L
def I_UniteSpans_b0_cu (k : Nat) : Cuts D := ⟨[], []⟩
theorem I_UniteSpans_b0_ok (k : Nat) : CutFor X I_UniteSpans_pl k Go.Proofs.Try.f20.results.toList (I_UniteSpans_b0_cut k) (sub (bodyOf Go.Proofs.Try.f20) [1, 1, 0, 1]) :=
  loopCut_s (X := X) (sg := [.kl 29, .ki .i64, .ki .i64, .kl 29]) (cu := I_UniteSpans_b0_cu k) (cl := I_UniteSpans_cl k) (tys := [[29]]) (id := 0) (c := sub (bodyOf Go.Proofs.Try.f20) [1, 1, 0, 1, 0, 0]) (f := fun n => fun (x : (List ISpan) × Int × Int × (List ISpan) × Unit) => I_UniteSpans_b0 k n x.1 x.2.1 x.2.2.1 x.2.2.2.1) (I_UniteSpans_ck k) (cutOK_of (l := []) (by kernel_rfl) trivial) (fun _ => rfl) (fun n x Q R h => by
    simp only [I_UniteSpans_b0, optK_bind, optK_bif, optK_pure, optK_none, optK_oc, optK_guardT, optK_map] at h
    refine hold_of h ?_
    kernel_rfl) (by kernel_rfl)
def I_UniteSpans_cu (k : Nat) : Cuts D := ⟨[(0, some (I_UniteSpans_b0_cut k))], []⟩
def I_UniteSpans_ar : List Ar := [.c (.kl 29)]
def I_UniteSpans_f (k : Nat) (x : TupA D I_UniteSpans_ar) : Option ((List ISpan)) := I_UniteSpans k x.1
def I_UniteSpans_vr (r : (List ISpan)) : VR D := .p (.c (.sl 29 r))
theorem I_UniteSpans_ok (k : Nat) : Does P X 20 I_UniteSpans_ar (I_UniteSpans_f k) I_UniteSpans_vr :=
  does_of (body := bodyOf Go.Proofs.Try.f20) (pl := I_UniteSpans_pl) (k := k) (cu := I_UniteSpans_cu k) (tys := [[29]]) (I_UniteSpans_ck k) ctx mixed Go.Proofs.Try.func20 (by kernel_rfl) (by kernel_rfl) (cutOK_of (l := [(I_UniteSpans_b0_cut k, sub (bodyOf Go.Proofs.Try.f20) [1, 1, 0, 1])]) (by kernel_rfl) ⟨I_UniteSpans_b0_ok k, trivial⟩) fun x R h => by
    simp only [I_UniteSpans_f, I_UniteSpans, optK_bind, optK_bif, optK_pure, optK_none, optK_oc, optK_guardT, optK_map] at h
    refine hold_of h ?_
    kernel_rfl
def I_UniteSpans_en (k : Nat) : Entry D := entS I_UniteSpans_ar (I_UniteSpans_f k) I_UniteSpans_vr
theorem I_UniteSpans_eo (k : Nat) : EntryOK X 20 (I_UniteSpans_en k) := (I_UniteSpans_ok k).en rfl
def L_eqSpan_pl : Plan := ⟨[(0, [(2, none), (3, none)]), (1, [(2, none), (3, none), (9, none)]), (2, [(4, none)]), (3, [(14, none)]), (4, [(4, none)]), (5, [(4, none)])],
  [],
  [(9, ([], [(2, none), (3, none)])), (14, ([], []))]⟩
def L_eqSpan_cl (k : Nat) : Calls' D := ⟨[], []⟩
theorem L_eqSpan_ck (k : Nat) : CallsOK X (L_eqSpan_cl k) := .nil cod
def L_eqSpan_cu (k : Nat) : Cuts D := ⟨[], []⟩
def L_eqSpan_ar : List Ar := [.a [.ki .i64, .ki .i64], .a [.ki .i64, .ki .i64]]
def L_eqSpan_f (k : Nat) (x : TupA D L_eqSpan_ar) : Option (Bool) := L_eqSpan k (⟨x.1.1, x.1.2.1⟩ : ISpan) (⟨x.2.1.1, x.2.1.2.1⟩ : ISpan)
def L_eqSpan_vr (r : Bool) : VR D := .p (.c (.bool r))
theorem L_eqSpan_ok (k : Nat) : Does P X 61 L_eqSpan_ar (L_eqSpan_f k) L_eqSpan_vr :=
  does_of (body := bodyOf Go.Proofs.Try.f61) (pl := L_eqSpan_pl) (k := k) (cu := L_eqSpan_cu k) (tys := [[0]]) (L_eqSpan_ck k) ctx mixed Go.Proofs.Try.func61 (by kernel_rfl) (by kernel_rfl) (cutOK_of (l := []) (by kernel_rfl) trivial) fun x R h => by
    simp only [L_eqSpan_f, L_eqSpan, optK_bind, optK_bif, optK_pure, optK_none, optK_oc, optK_guardT, optK_map] at h
    refine hold_of h ?_
    kernel_rfl
def L_eqSpan_en (k : Nat) : Entry D := entS L_eqSpan_ar (L_eqSpan_f k) L_eqSpan_vr
theorem L_eqSpan_eo (k : Nat) : EntryOK X 61 (L_eqSpan_en k) := (L_eqSpan_ok k).en rfl
def L_eqSpanS_pl : Plan := ⟨[(0, [(0, some 29), (1, some 29)]), (1, [(0, some 29), (1, some 29), (10, none)]), (2, [(4, none)]), (3, [(0, some 29), (1, some 29), (5, none)]), (4, [(0, some 29), (1, some 29), (5, none), (14, none)]), (5, [(0, some 29), (1, some 29), (5, none)]), (6, [(0, some 29), (1, some 29), (5, none), (26, none)]), (7, [(4, none)]), (8, [(4, none)])],
  [(0, []), (1, [(0, some 29), (1, some 29), (5, none)])],
  [(10, ([], [(0, some 29), (1, some 29)])), (14, ([(0, some 29), (1, some 29), (5, none)], [])), (26, ([], [(0, some 29), (1, some 29), (5, none)]))]⟩
def L_eqSpanS_cl (k : Nat) : Calls' D := ⟨[(61, L_eqSpan_en k)], []⟩
theorem L_eqSpanS_ck (k : Nat) : CallsOK X (L_eqSpanS_cl k) := .cons (L_eqSpan_eo k) (.nil cod)
def L_eqSpanS_b0_L (x : (List ISpan) × (List ISpan) × Int × Unit) (o : Oc (Unit) (Bool)) (Q : Ex → VSt D → Prop) (R : VR D → Prop) : Prop := ocP o (fun v0 => Q .normal (mkSt ⟨[], []⟩ [])) (fun w0 => R (.p (.c (.bool w0))))
def L_eqSpanS_b0_cut (k : Nat) : Cut D := cutS ⟨[(0, .hole), (1, .hole), (5, .hole)], []⟩ [.kl 29, .kl 29, .ki .i64] (fun (x : (List ISpan) × (List ISpan) × Int × Unit) => L_eqSpanS_b0 k k x.1 x.2.1 x.2.2.1) L_eqSpanS_b0_L
def L_eqSpanS_b0_cu (k : Nat) : Cuts D := ⟨[], []⟩
theorem L_eqSpanS_b0_ok (k : Nat) : CutFor X L_eqSpanS_pl k Go.Proofs.Try.f16.results.toList (L_eqSpanS_b0_cut k) (sub (bodyOf Go.Proofs.Try.f16) [1, 1, 0, 1]) :=
  loopCut_s (X := X) (sg := [.kl 29, .kl 29, .ki .i64]) (cu := L_eqSpanS_b0_cu k) (cl := L_eqSpanS_cl k) (tys := [[0]]) (id := 0) (c := sub (bodyOf Go.Proofs.Try.f16) [1, 1, 0, 1, 0, 0]) (f := fun n => fun (x : (List ISpan) × (List ISpan) × Int × Unit) => L_eqSpanS_b0 k n x.1 x.2.1 x.2.2.1) (L_eqSpanS_ck k) (cutOK_of (l := []) (by kernel_rfl) trivial) (fun _ => rfl) (fun n x Q R h => by
    simp only [L_eqSpanS_b0, optK_bind, optK_bif, optK_pure, optK_none, optK_oc, optK_guardT, optK_map] at h
    refine hold_of h ?_
    kernel_rfl) (by kernel_rfl)
def L_eqSpanS_cu (k : Nat) : Cuts D := ⟨[(0, some (L_eqSpanS_b0_cut k))], []⟩
def L_eqSpanS_ar : List Ar := [.c (.kl 29), .c (.kl 29)]
def L_eqSpanS_f (k : Nat) (x : TupA D L_eqSpanS_ar) : Option (Bool) := L_eqSpanS k x.1 x.2.1
def L_eqSpanS_vr (r : Bool) : VR D := .p (.c (.bool r))
theorem L_eqSpanS_ok (k : Nat) : Does P X 16 L_eqSpanS_ar (L_eqSpanS_f k) L_eqSpanS_vr :=
  does_of (body := bodyOf Go.Proofs.Try.f16) (pl := L_eqSpanS_pl) (k := k) (cu := L_eqSpanS_cu k) (tys := [[0]]) (L_eqSpanS_ck k) ctx mixed Go.Proofs.Try.func16 (by kernel_rfl) (by kernel_rfl) (cutOK_of (l := [(L_eqSpanS_b0_cut k, sub (bodyOf Go.Proofs.Try.f16) [1, 1, 0, 1])]) (by kernel_rfl) ⟨L_eqSpanS_b0_ok k, trivial⟩) fun x R h => by
    simp only [L_eqSpanS_f, L_eqSpanS, optK_bind, optK_bif, optK_pure, optK_none, optK_oc, optK_guardT, optK_map] at h
    refine hold_of h ?_
    kernel_rfl
def L_eqSpanS_en (k : Nat) : Entry D := entS L_eqSpanS_ar (L_eqSpanS_f k) L_eqSpanS_vr
theorem L_eqSpanS_eo (k : Nat) : EntryOK X 16 (L_eqSpanS_en k) := (L_eqSpanS_ok k).en rfl
def L_markSpanS_pl : Plan := ⟨[(0, [(0, some 29), (1, none)]), (1, [(0, some 29), (1, none), (5, none)]), (2, [(0, some 29), (1, none), (5, none), (9, none)]), (3, [(0, some 29), (1, none), (5, none)]), (4, [(0, some 29), (1, none), (5, none)]), (5, [(0, some 29), (1, none), (5, none)]), (6, [(0, some 29), (1, none), (5, none)]), (7, [(0, some 29), (1, none), (5, none)]), (8, [(0, some 29), (4, none)])],
  [(0, [(0, some 29), (1, none)]), (1, [(0, some 29), (1, none), (5, none)])],
  [(9, ([(0, some 29), (1, none), (5, none)], [(0, some 29), (1, none)]))]⟩
def L_markSpanS_cl (k : Nat) : Calls' D := ⟨[], []⟩
theorem L_markSpanS_ck (k : Nat) : CallsOK X (L_markSpanS_cl k) := .nil cod
def L_markSpanS_b0_L (x : Int × Int × (List ISpan) × Unit) (o : Int × (List ISpan)) (Q : Ex → VSt D → Prop) (R : VR D → Prop) : Prop := Q .normal (mkSt ⟨[(0, .ref 500000), (1, .hole)], [(500000, .row)]⟩ [.int .i64 o.1, .sl 29 o.2])
def L_markSpanS_b0_cut (k : Nat) : Cut D := cutS ⟨[(0, .ref 500000), (1, .hole), (5, .hole)], [(500000, .row)]⟩ [.ki .i64, .ki .i64, .kl 29] (fun (x : Int × Int × (List ISpan) × Unit) => L_markSpanS_b0 k k x.1 x.2.1 x.2.2.1) L_markSpanS_b0_L
def L_markSpanS_b0_cu (k : Nat) : Cuts D := ⟨[], []⟩
theorem L_markSpanS_b0_ok (k : Nat) : CutFor X L_markSpanS_pl k [.tmp 4, .tmp 0] (L_markSpanS_b0_cut k) (sub (bodyOf Go.Proofs.Try.f17) [1, 0, 1]) :=
  loopCut_s (X := X) (sg := [.ki .i64, .ki .i64, .kl 29]) (cu := L_markSpanS_b0_cu k) (cl := L_markSpanS_cl k) (tys := [[0], [29]]) (id := 0) (c := sub (bodyOf Go.Proofs.Try.f17) [1, 0, 1, 0, 0]) (f := fun n => fun (x : Int × Int × (List ISpan) × Unit) => L_markSpanS_b0 k n x.1 x.2.1 x.2.2.1) (L_markSpanS_ck k) (cutOK_of (l := []) (by kernel_rfl) trivial) (fun _ => rfl) (fun n x Q R h => by
    simp only [L_markSpanS_b0, optK_bind, optK_bif, optK_pure, optK_none, optK_oc, optK_guardT, optK_map] at h
    refine hold_of h ?_
    kernel_rfl) (by kernel_rfl)
def L_markSpanS_cu (k : Nat) : Cuts D := ⟨[(0, some (L_markSpanS_b0_cut k))], []⟩
def L_markSpanS_f (k : Nat) : ArT D (.c (.kl 29)) → Int → Option (Int × ArT D (.c (.kl 29))) := fun x n => L_markSpanS k x n
theorem L_markSpanS_ok (k : Nat) : DoesW P X 17 (.c (.kl 29)) (L_markSpanS_f k) :=
  doesW_of (body := bodyOf Go.Proofs.Try.f17) (pl := L_markSpanS_pl) (k := k) (cu := L_markSpanS_cu k) (tys := [[0], [29]]) (L_markSpanS_ck k) ctx mixed Go.Proofs.Try.func17 (by kernel_rfl) (by kernel_rfl) (by kernel_rfl) (by kernel_rfl) (cutOK_of (l := [(L_markSpanS_b0_cut k, sub (bodyOf Go.Proofs.Try.f17) [1, 0, 1])]) (by kernel_rfl) ⟨L_markSpanS_b0_ok k, trivial⟩) fun x n R h => by
    simp only [L_markSpanS_f, L_markSpanS, optK_bind, optK_bif, optK_pure, optK_none, optK_oc, optK_guardT, optK_map] at h
    refine hold_of h ?_
    kernel_rfl
def L_markSpanS_en (k : Nat) : EntryW D := entW (.c (.kl 29)) (L_markSpanS_f k)
theorem L_markSpanS_eo (k : Nat) : EntryWOK X 17 (L_markSpanS_en k) := (L_markSpanS_ok k).en rfl
def L_heldSpanS_pl : Plan := ⟨[(0, [(0, some 29), (1, none)]), (1, [(0, some 29), (1, none), (5, none)]), (2, [(0, some 29), (1, none), (5, none), (9, none)]), (3, [(0, some 29), (1, none), (5, none)]), (4, [(0, some 29), (1, none), (5, none), (18, none)]), (5, [(4, none)]), (6, [(0, some 29), (1, none), (5, none)]), (7, [(0, some 29), (1, none), (5, none), (27, none)]), (8, [(4, none)]), (9, [(0, some 29), (1, none), (5, none)]), (10, [(4, none)])],
  [(0, [(1, none)]), (1, [(0, some 29), (1, none), (5, none)])],
  [(9, ([(0, some 29), (1, none), (5, none)], [(1, none)])), (18, ([], [(0, some 29), (1, none), (5, none)])), (27, ([], [(0, some 29), (1, none), (5, none)]))]⟩
def L_heldSpanS_cl (k : Nat) : Calls' D := ⟨[], []⟩
theorem L_heldSpanS_ck (k : Nat) : CallsOK X (L_heldSpanS_cl k) := .nil cod
def L_heldSpanS_b0_L (x : (List ISpan) × Int × Int × Unit) (o : Oc (Int) (Int)) (Q : Ex → VSt D → Prop) (R : VR D → Prop) : Prop := ocP o (fun v0 => Q .normal (mkSt ⟨[(1, .hole)], []⟩ [.int .i64 v0])) (fun w0 => R (.p (.c (.int .i64 w0))))
def L_heldSpanS_b0_cut (k : Nat) : Cut D := cutS ⟨[(0, .hole), (1, .hole), (5, .hole)], []⟩ [.kl 29, .ki .i64, .ki .i64] (fun (x : (List ISpan) × Int × Int × Unit) => L_heldSpanS_b0 k k x.1 x.2.1 x.2.2.1) L_heldSpanS_b0_L
def L_heldSpanS_b0_cu (k : Nat) : Cuts D := ⟨[], []⟩
theorem L_heldSpanS_b0_ok (k : Nat) : CutFor X L_heldSpanS_pl k Go.Proofs.Try.f18.results.toList (L_heldSpanS_b0_cut k) (sub (bodyOf Go.Proofs.Try.f18) [1, 0, 1]) :=
  loopCut_s (X := X) (sg := [.kl 29, .ki .i64, .ki .i64]) (cu := L_heldSpanS_b0_cu k) (cl := L_heldSpanS_cl k) (tys := [[0]]) (id := 0) (c := sub (bodyOf Go.Proofs.Try.f18) [1, 0, 1, 0, 0]) (f := fun n => fun (x : (List ISpan) × Int × Int × Unit) => L_heldSpanS_b0 k n x.1 x.2.1 x.2.2.1) (L_heldSpanS_ck k) (cutOK_of (l := []) (by kernel_rfl) trivial) (fun _ => rfl) (fun n x Q R h => by
    simp only [L_heldSpanS_b0, optK_bind, optK_bif, optK_pure, optK_none, optK_oc, optK_guardT, optK_map] at h
    refine hold_of h ?_
    kernel_rfl) (by kernel_rfl)
def L_heldSpanS_cu (k : Nat) : Cuts D := ⟨[(0, some (L_heldSpanS_b0_cut k))], []⟩
def L_heldSpanS_ar : List Ar := [.c (.kl 29), .c (.ki .i64)]
def L_heldSpanS_f (k : Nat) (x : TupA D L_heldSpanS_ar) : Option (Int) := L_heldSpanS k x.1 x.2.1
def L_heldSpanS_vr (r : Int) : VR D := .p (.c (.int .i64 r))
theorem L_heldSpanS_ok (k : Nat) : Does P X 18 L_heldSpanS_ar (L_heldSpanS_f k) L_heldSpanS_vr :=
  does_of (body := bodyOf Go.Proofs.Try.f18) (pl := L_heldSpanS_pl) (k := k) (cu := L_heldSpanS_cu k) (tys := [[0]]) (L_heldSpanS_ck k) ctx mixed Go.Proofs.Try.func18 (by kernel_rfl) (by kernel_rfl) (cutOK_of (l := [(L_heldSpanS_b0_cut k, sub (bodyOf Go.Proofs.Try.f18) [1, 0, 1])]) (by kernel_rfl) ⟨L_heldSpanS_b0_ok k, trivial⟩) fun x R h => by
    simp only [L_heldSpanS_f, L_heldSpanS, optK_bind, optK_bif, optK_pure, optK_none, optK_oc, optK_guardT, optK_map] at h
    refine hold_of h ?_
    kernel_rfl
def L_heldSpanS_en (k : Nat) : Entry D := entS L_heldSpanS_ar (L_heldSpanS_f k) L_heldSpanS_vr
theorem L_heldSpanS_eo (k : Nat) : EntryOK X 18 (L_heldSpanS_en k) := (L_heldSpanS_ok k).en rfl
def L_FnExactUniteSpans_pl : Plan := ⟨[(0, [(0, some 24)]), (1, [(0, some 24), (3, none)]), (2, [(0, some 24), (3, none)]), (3, [(0, some 24), (15, none)]), (4, [(2, none)]), (5, [(0, some 24), (4, some 29)]), (6, [(0, some 24), (4, some 29), (5, some 29)]), (7, [(0, some 24), (4, some 29), (5, some 29), (6, some 29)]), (8, [(0, some 24), (4, some 29), (5, some 29), (6, some 29), (26, none)]), (9, [(2, none)]), (10, [(0, some 24), (4, some 29), (5, some 29), (6, some 29), (31, none)]), (11, [(2, none)]), (12, [(0, some 24), (4, some 29), (5, some 29), (6, some 29), (7, none)]), (13, [(0, some 24), (4, some 29), (6, some 29), (7, none)]), (14, [(0, some 24), (4, some 29), (6, some 29), (42, none)]), (15, [(2, none)]), (16, [(0, some 24), (4, some 29), (6, some 29), (8, none)]), (17, [(0, some 24), (4, some 29), (6, some 29), (8, none)]), (18, [(0, some 24), (4, some 29), (6, some 29), (8, none), (9, none)]), (19, [(0, some 24), (4, some 29), (6, some 29), (8, none), (9, none)]), (20, [(0, some 24), (4, some 29), (6, some 29), (8, none), (9, none), (50, none)]), (21, [(2, none)]), (22, [(0, some 24), (4, some 29), (6, some 29), (8, none), (53, none)]), (23, [(2, none)]), (24, [(4, some 29), (6, some 29), (8, none), (10, some 29)]), (25, [(6, some 29), (8, none), (60, none)]), (26, [(2, none)]), (27, [(6, some 29), (8, none), (9, none)]), (28, [(8, none), (9, none)]), (29, [(8, none), (9, none), (65, none)]), (30, [(2, none)]), (31, [(68, none)]), (32, [(2, none)]), (33, [(2, none)])],
  [],
  [(15, ([], [(0, some 24)])), (26, ([], [(0, some 24), (4, some 29), (5, some 29), (6, some 29)])), (31, ([], [(0, some 24), (4, some 29), (5, some 29), (6, some 29)])), (42, ([], [(0, some 24), (4, some 29), (6, some 29)])), (50, ([], [(0, some 24), (4, some 29), (6, some 29), (8, none), (9, none)])), (53, ([], [(0, some 24), (4, some 29), (6, some 29), (8, none)])), (60, ([], [(6, some 29), (8, none)])), (65, ([], [(8, none), (9, none)])), (68, ([], []))]⟩
def L_FnExactUniteSpans_cl (k : Nat) : Calls' D := ⟨[(11, L_szSpanS_en k), (13, L_toSpanS_en k), (19, S_UniteSpans_en k), (20, I_UniteSpans_en k), (16, L_eqSpanS_en k), (18, L_heldSpanS_en k)], [(17, L_markSpanS_en k)]⟩
theorem L_FnExactUniteSpans_ck (k : Nat) : CallsOK X (L_FnExactUniteSpans_cl k) := .cons (L_szSpanS_eo k) (.cons (L_toSpanS_eo k) (.cons (S_UniteSpans_eo k) (.cons (I_UniteSpans_eo k) (.cons (L_eqSpanS_eo k) (.cons (L_heldSpanS_eo k) (.consW (L_markSpanS_eo k) (.nil cod)))))))
def L_FnExactUniteSpans_cu (k : Nat) : Cuts D := ⟨[], []⟩
def L_FnExactUniteSpans_ar : List Ar := [.c (.kl 24)]
def L_FnExactUniteSpans_f (k : Nat) (x : TupA D L_FnExactUniteSpans_ar) : Option (Bool) := L_FnExactUniteSpans k x.1
def L_FnExactUniteSpans_vr (r : Bool) : VR D := .p (.c (.bool r))
theorem L_FnExactUniteSpans_ok (k : Nat) : Does P X 4 L_FnExactUniteSpans_ar (L_FnExactUniteSpans_f k) L_FnExactUniteSpans_vr :=
  does_of (body := bodyOf Go.Proofs.Try.f4) (pl := L_FnExactUniteSpans_pl) (k := k) (cu := L_FnExactUniteSpans_cu k) (tys := [[0]]) (L_FnExactUniteSpans_ck k) ctx mixed Go.Proofs.Try.func4 (by kernel_rfl) (by kernel_rfl) (cutOK_of (l := []) (by kernel_rfl) trivial) fun x R h => by
    simp only [L_FnExactUniteSpans_f, L_FnExactUniteSpans, optK_bind, optK_bif, optK_pure, optK_none, optK_oc, optK_guardT, optK_map] at h
    refine hold_of h ?_
    kernel_rfl
def L_FnExactUniteSpans_en (k : Nat) : Entry D := entS L_FnExactUniteSpans_ar (L_FnExactUniteSpans_f k) L_FnExactUniteSpans_vr
theorem L_FnExactUniteSpans_eo (k : Nat) : EntryOK X 4 (L_FnExactUniteSpans_en k) := (L_FnExactUniteSpans_ok k).en rfl

end
end Go.Ytdninebapdohkaa
