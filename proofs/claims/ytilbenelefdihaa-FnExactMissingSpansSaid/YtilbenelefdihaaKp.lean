/- The machine computes the functions. Nothing is claimed here. -/
import Derived.Test.YtilbenelefdihaaKf
set_option linter.unusedVariables false
set_option linter.unusedSimpArgs false
set_option maxRecDepth 100000
namespace Go.Ytilbenelefdihaa
open Go Go.RowKit Go.Pv
noncomputable section

def L_szSpanS_pl : Plan := ⟨[(0, [(0, some 34), (1, none)]), (1, [(1, none)]), (2, [(1, none), (10, none)]), (3, [(4, none)]), (4, [(4, none)])],
  [],
  [(10, ([], [(1, none)]))]⟩
def L_szSpanS_cl (k : Nat) : Calls' D := ⟨[], []⟩
theorem L_szSpanS_ck (k : Nat) : CallsOK X (L_szSpanS_cl k) := .nil cod
def L_szSpanS_cu (k : Nat) : Cuts D := ⟨[], []⟩
def L_szSpanS_ar : List Ar := [.c (.kl 34), .c (.ki .i64)]
def L_szSpanS_f (k : Nat) (x : TupA D L_szSpanS_ar) : Option (Int) := L_szSpanS k x.1 x.2.1
def L_szSpanS_vr (r : Int) : VR D := .p (.c (.int .i64 r))
theorem L_szSpanS_ok (k : Nat) : Does P X 23 L_szSpanS_ar (L_szSpanS_f k) L_szSpanS_vr :=
  does_of (body := bodyOf Go.Proofs.Try.f23) (pl := L_szSpanS_pl) (k := k) (cu := L_szSpanS_cu k) (tys := [[0]]) (L_szSpanS_ck k) ctx mixed Go.Proofs.Try.func23 (by kernel_rfl) (by kernel_rfl) (cutOK_of (l := []) (by kernel_rfl) trivial) fun x R h => by
    simp only [L_szSpanS_f, L_szSpanS, optK_bind, optK_bif, optK_pure, optK_none, optK_oc, optK_guardT, optK_map] at h
    refine hold_of h ?_
    kernel_rfl
def L_szSpanS_en (k : Nat) : Entry D := entS L_szSpanS_ar (L_szSpanS_f k) L_szSpanS_vr
theorem L_szSpanS_eo (k : Nat) : EntryOK X 23 (L_szSpanS_en k) := (L_szSpanS_ok k).en rfl
def L_toSpan_pl : Plan := ⟨[(0, [(1, none), (2, none)]), (1, [(1, none), (2, none), (3, none)]), (2, [(1, none), (2, none), (3, none)]), (3, [(2, none), (3, none)]), (4, [(2, none)])],
  [],
  []⟩
def L_toSpan_cl (k : Nat) : Calls' D := ⟨[], []⟩
theorem L_toSpan_ck (k : Nat) : CallsOK X (L_toSpan_cl k) := .nil cod
def L_toSpan_cu (k : Nat) : Cuts D := ⟨[], []⟩
def L_toSpan_ar : List Ar := [.a [.ki .i64, .ki .i64]]
def L_toSpan_f (k : Nat) (x : TupA D L_toSpan_ar) : Option (ISpan) := L_toSpan k (⟨x.1.1, x.1.2.1⟩ : LSpan)
def L_toSpan_vr (r : ISpan) : VR D := .p (.agg [.int .i64 r.From, .int .i64 r.To])
theorem L_toSpan_ok (k : Nat) : Does P X 26 L_toSpan_ar (L_toSpan_f k) L_toSpan_vr :=
  does_of (body := bodyOf Go.Proofs.Try.f26) (pl := L_toSpan_pl) (k := k) (cu := L_toSpan_cu k) (tys := [[0, 0]]) (L_toSpan_ck k) ctx mixed Go.Proofs.Try.func26 (by kernel_rfl) (by kernel_rfl) (cutOK_of (l := []) (by kernel_rfl) trivial) fun x R h => by
    simp only [L_toSpan_f, L_toSpan, optK_bind, optK_bif, optK_pure, optK_none, optK_oc, optK_guardT, optK_map] at h
    refine hold_of h ?_
    kernel_rfl
def L_toSpan_en (k : Nat) : Entry D := entS L_toSpan_ar (L_toSpan_f k) L_toSpan_vr
theorem L_toSpan_eo (k : Nat) : EntryOK X 26 (L_toSpan_en k) := (L_toSpan_ok k).en rfl
def L_toSpanS_pl : Plan := ⟨[(0, [(0, some 34)]), (1, [(0, some 34), (3, some 39)]), (2, [(0, some 34), (3, some 39), (4, none)]), (3, [(0, some 34), (3, some 39), (4, none), (11, none)]), (4, [(0, some 34), (3, some 39), (4, none)]), (5, [(0, some 34), (3, some 39), (4, none)]), (6, [(2, some 39)])],
  [(0, [(3, some 39)]), (1, [(0, some 34), (3, some 39), (4, none)])],
  [(11, ([(0, some 34), (3, some 39), (4, none)], [(3, some 39)]))]⟩
def L_toSpanS_cl (k : Nat) : Calls' D := ⟨[(26, L_toSpan_en k)], []⟩
theorem L_toSpanS_ck (k : Nat) : CallsOK X (L_toSpanS_cl k) := .cons (L_toSpan_eo k) (.nil cod)
def L_toSpanS_b0_L (x : (List LSpan) × Int × (List ISpan) × Unit) (o : (List ISpan)) (Q : Ex → VSt D → Prop) (R : VR D → Prop) : Prop := Q .normal (mkSt ⟨[(3, .ref 500003)], [(500003, .row)]⟩ [.sl 39 o])
def L_toSpanS_b0_cut (k : Nat) : Cut D := cutS ⟨[(0, .hole), (3, .ref 500003), (4, .hole)], [(500003, .row)]⟩ [.kl 34, .ki .i64, .kl 39] (fun (x : (List LSpan) × Int × (List ISpan) × Unit) => L_toSpanS_b0 k k x.1 x.2.1 x.2.2.1) L_toSpanS_b0_L
def L_toSpanS_b0_cu (k : Nat) : Cuts D := ⟨[], []⟩
theorem L_toSpanS_b0_ok (k : Nat) : CutFor X L_toSpanS_pl k Go.Proofs.Try.f25.results.toList (L_toSpanS_b0_cut k) (sub (bodyOf Go.Proofs.Try.f25) [1, 1, 0, 1]) :=
  loopCut_s (X := X) (sg := [.kl 34, .ki .i64, .kl 39]) (cu := L_toSpanS_b0_cu k) (cl := L_toSpanS_cl k) (tys := [[39]]) (id := 0) (c := sub (bodyOf Go.Proofs.Try.f25) [1, 1, 0, 1, 0, 0]) (f := fun n => fun (x : (List LSpan) × Int × (List ISpan) × Unit) => L_toSpanS_b0 k n x.1 x.2.1 x.2.2.1) (L_toSpanS_ck k) (cutOK_of (l := []) (by kernel_rfl) trivial) (fun _ => rfl) (fun n x Q R h => by
    simp only [L_toSpanS_b0, optK_bind, optK_bif, optK_pure, optK_none, optK_oc, optK_guardT, optK_map] at h
    refine hold_of h ?_
    kernel_rfl) (by kernel_rfl)
def L_toSpanS_cu (k : Nat) : Cuts D := ⟨[(0, some (L_toSpanS_b0_cut k))], []⟩
def L_toSpanS_ar : List Ar := [.c (.kl 34)]
def L_toSpanS_f (k : Nat) (x : TupA D L_toSpanS_ar) : Option ((List ISpan)) := L_toSpanS k x.1
def L_toSpanS_vr (r : (List ISpan)) : VR D := .p (.c (.sl 39 r))
theorem L_toSpanS_ok (k : Nat) : Does P X 25 L_toSpanS_ar (L_toSpanS_f k) L_toSpanS_vr :=
  does_of (body := bodyOf Go.Proofs.Try.f25) (pl := L_toSpanS_pl) (k := k) (cu := L_toSpanS_cu k) (tys := [[39]]) (L_toSpanS_ck k) ctx mixed Go.Proofs.Try.func25 (by kernel_rfl) (by kernel_rfl) (cutOK_of (l := [(L_toSpanS_b0_cut k, sub (bodyOf Go.Proofs.Try.f25) [1, 1, 0, 1])]) (by kernel_rfl) ⟨L_toSpanS_b0_ok k, trivial⟩) fun x R h => by
    simp only [L_toSpanS_f, L_toSpanS, optK_bind, optK_bif, optK_pure, optK_none, optK_oc, optK_guardT, optK_map] at h
    refine hold_of h ?_
    kernel_rfl
def L_toSpanS_en (k : Nat) : Entry D := entS L_toSpanS_ar (L_toSpanS_f k) L_toSpanS_vr
theorem L_toSpanS_eo (k : Nat) : EntryOK X 25 (L_toSpanS_en k) := (L_toSpanS_ok k).en rfl
def S_IsSpanSet_pl : Plan := ⟨[(0, [(0, some 39)]), (1, [(0, some 39), (3, none)]), (2, [(0, some 39), (3, none), (7, none)]), (3, [(0, some 39), (3, none)]), (4, [(0, some 39), (3, none), (54, none)]), (5, [(2, none)]), (6, [(2, none)])],
  [(0, []), (1, [(0, some 39), (3, none)])],
  [(7, ([(0, some 39), (3, none)], [])), (54, ([], [(0, some 39), (3, none)]))]⟩
def S_IsSpanSet_cl (k : Nat) : Calls' D := ⟨[], []⟩
theorem S_IsSpanSet_ck (k : Nat) : CallsOK X (S_IsSpanSet_cl k) := .nil cod
def S_IsSpanSet_b0_L (x : (List ISpan) × Int × Unit) (o : Oc (Unit) (Bool)) (Q : Ex → VSt D → Prop) (R : VR D → Prop) : Prop := ocP o (fun v0 => Q .normal (mkSt ⟨[], []⟩ [])) (fun w0 => R (.p (.c (.bool w0))))
def S_IsSpanSet_b0_cut (k : Nat) : Cut D := cutS ⟨[(0, .hole), (3, .hole)], []⟩ [.kl 39, .ki .i64] (fun (x : (List ISpan) × Int × Unit) => S_IsSpanSet_b0 k k x.1 x.2.1) S_IsSpanSet_b0_L
def S_IsSpanSet_b0_cu (k : Nat) : Cuts D := ⟨[], []⟩
theorem S_IsSpanSet_b0_ok (k : Nat) : CutFor X S_IsSpanSet_pl k Go.Proofs.Try.f69.results.toList (S_IsSpanSet_b0_cut k) (sub (bodyOf Go.Proofs.Try.f69) [1, 0, 1]) :=
  loopCut_s (X := X) (sg := [.kl 39, .ki .i64]) (cu := S_IsSpanSet_b0_cu k) (cl := S_IsSpanSet_cl k) (tys := [[0]]) (id := 0) (c := sub (bodyOf Go.Proofs.Try.f69) [1, 0, 1, 0, 0]) (f := fun n => fun (x : (List ISpan) × Int × Unit) => S_IsSpanSet_b0 k n x.1 x.2.1) (S_IsSpanSet_ck k) (cutOK_of (l := []) (by kernel_rfl) trivial) (fun _ => rfl) (fun n x Q R h => by
    simp only [S_IsSpanSet_b0, optK_bind, optK_bif, optK_pure, optK_none, optK_oc, optK_guardT, optK_map] at h
    refine hold_of h ?_
    kernel_rfl) (by kernel_rfl)
def S_IsSpanSet_cu (k : Nat) : Cuts D := ⟨[(0, some (S_IsSpanSet_b0_cut k))], []⟩
def S_IsSpanSet_ar : List Ar := [.c (.kl 39)]
def S_IsSpanSet_f (k : Nat) (x : TupA D S_IsSpanSet_ar) : Option (Bool) := S_IsSpanSet k x.1
def S_IsSpanSet_vr (r : Bool) : VR D := .p (.c (.bool r))
theorem S_IsSpanSet_ok (k : Nat) : Does P X 69 S_IsSpanSet_ar (S_IsSpanSet_f k) S_IsSpanSet_vr :=
  does_of (body := bodyOf Go.Proofs.Try.f69) (pl := S_IsSpanSet_pl) (k := k) (cu := S_IsSpanSet_cu k) (tys := [[0]]) (S_IsSpanSet_ck k) ctx mixed Go.Proofs.Try.func69 (by kernel_rfl) (by kernel_rfl) (cutOK_of (l := [(S_IsSpanSet_b0_cut k, sub (bodyOf Go.Proofs.Try.f69) [1, 0, 1])]) (by kernel_rfl) ⟨S_IsSpanSet_b0_ok k, trivial⟩) fun x R h => by
    simp only [S_IsSpanSet_f, S_IsSpanSet, optK_bind, optK_bif, optK_pure, optK_none, optK_oc, optK_guardT, optK_map] at h
    refine hold_of h ?_
    kernel_rfl
def S_IsSpanSet_en (k : Nat) : Entry D := entS S_IsSpanSet_ar (S_IsSpanSet_f k) S_IsSpanSet_vr
theorem S_IsSpanSet_eo (k : Nat) : EntryOK X 69 (S_IsSpanSet_en k) := (S_IsSpanSet_ok k).en rfl
def S_Min_pl : Plan := ⟨[(0, [(0, none), (1, none)]), (1, [(0, none), (1, none), (7, none)]), (2, [(4, none)]), (3, [(4, none)])],
  [],
  [(7, ([(1, none)], [(0, none)]))]⟩
def S_Min_cl (k : Nat) : Calls' D := ⟨[], []⟩
theorem S_Min_ck (k : Nat) : CallsOK X (S_Min_cl k) := .nil cod
def S_Min_cu (k : Nat) : Cuts D := ⟨[], []⟩
def S_Min_ar : List Ar := [.c (.ki .i64), .c (.ki .i64)]
def S_Min_f (k : Nat) (x : TupA D S_Min_ar) : Option (Int) := S_Min k x.1 x.2.1
def S_Min_vr (r : Int) : VR D := .p (.c (.int .i64 r))
theorem S_Min_ok (k : Nat) : Does P X 58 S_Min_ar (S_Min_f k) S_Min_vr :=
  does_of (body := bodyOf Go.Proofs.Try.f58) (pl := S_Min_pl) (k := k) (cu := S_Min_cu k) (tys := [[0]]) (S_Min_ck k) ctx mixed Go.Proofs.Try.func58 (by kernel_rfl) (by kernel_rfl) (cutOK_of (l := []) (by kernel_rfl) trivial) fun x R h => by
    simp only [S_Min_f, S_Min, optK_bind, optK_bif, optK_pure, optK_none, optK_oc, optK_guardT, optK_map] at h
    refine hold_of h ?_
    kernel_rfl
def S_Min_en (k : Nat) : Entry D := entS S_Min_ar (S_Min_f k) S_Min_vr
theorem S_Min_eo (k : Nat) : EntryOK X 58 (S_Min_en k) := (S_Min_ok k).en rfl
def S_Max_pl : Plan := ⟨[(0, [(0, none), (1, none)]), (1, [(0, none), (1, none), (7, none)]), (2, [(4, none)]), (3, [(4, none)])],
  [],
  [(7, ([(1, none)], [(0, none)]))]⟩
def S_Max_cl (k : Nat) : Calls' D := ⟨[], []⟩
theorem S_Max_ck (k : Nat) : CallsOK X (S_Max_cl k) := .nil cod
def S_Max_cu (k : Nat) : Cuts D := ⟨[], []⟩
def S_Max_ar : List Ar := [.c (.ki .i64), .c (.ki .i64)]
def S_Max_f (k : Nat) (x : TupA D S_Max_ar) : Option (Int) := S_Max k x.1 x.2.1
def S_Max_vr (r : Int) : VR D := .p (.c (.int .i64 r))
theorem S_Max_ok (k : Nat) : Does P X 57 S_Max_ar (S_Max_f k) S_Max_vr :=
  does_of (body := bodyOf Go.Proofs.Try.f57) (pl := S_Max_pl) (k := k) (cu := S_Max_cu k) (tys := [[0]]) (S_Max_ck k) ctx mixed Go.Proofs.Try.func57 (by kernel_rfl) (by kernel_rfl) (cutOK_of (l := []) (by kernel_rfl) trivial) fun x R h => by
    simp only [S_Max_f, S_Max, optK_bind, optK_bif, optK_pure, optK_none, optK_oc, optK_guardT, optK_map] at h
    refine hold_of h ?_
    kernel_rfl
def S_Max_en (k : Nat) : Entry D := entS S_Max_ar (S_Max_f k) S_Max_vr
theorem S_Max_eo (k : Nat) : EntryOK X 57 (S_Max_en k) := (S_Max_ok k).en rfl
def S_MissingSpans_pl : Plan := ⟨[(0, [(0, some 39), (3, none)]), (1, [(0, some 39), (3, none), (5, some 39)]), (2, [(0, some 39), (3, none), (5, some 39), (6, none)]), (3, [(0, some 39), (3, none), (5, some 39), (6, none), (7, none)]), (4, [(0, some 39), (3, none), (5, some 39), (6, none), (7, none), (18, none)]), (5, [(0, some 39), (3, none), (5, some 39), (6, none), (7, none)]), (6, [(0, some 39), (3, none), (5, some 39), (6, none), (7, none), (33, none)]), (7, [(0, some 39), (3, none), (5, some 39), (6, none), (7, none)]), (8, [(0, some 39), (3, none), (5, some 39), (6, none), (7, none)]), (9, [(3, none), (5, some 39), (6, none), (57, none)]), (10, [(5, some 39)]), (11, [(4, some 39)])],
  [(0, [(3, none), (5, some 39), (6, none)]), (1, [(0, some 39), (3, none), (5, some 39), (6, none), (7, none)])],
  [(18, ([(0, some 39), (3, none), (5, some 39), (6, none), (7, none)], [(3, none), (5, some 39), (6, none)])), (33, ([(0, some 39), (3, none), (5, some 39), (6, none), (7, none)], [(0, some 39), (3, none), (5, some 39), (6, none), (7, none)])), (57, ([(3, none), (5, some 39), (6, none)], [(5, some 39)]))]⟩
def S_MissingSpans_cl (k : Nat) : Calls' D := ⟨[(69, S_IsSpanSet_en k), (58, S_Min_en k), (57, S_Max_en k)], []⟩
theorem S_MissingSpans_ck (k : Nat) : CallsOK X (S_MissingSpans_cl k) := .cons (S_IsSpanSet_eo k) (.cons (S_Min_eo k) (.cons (S_Max_eo k) (.nil cod)))
def S_MissingSpans_c33_L (x : (List ISpan) × Int × Int × Bool × Int × Int × (List ISpan) × Unit) (o : (List ISpan)) (Q : Ex → VSt D → Prop) (R : VR D → Prop) : Prop := Q .normal (mkSt ⟨[(0, .hole), (3, .ptr 3 0), (5, .ref 500005), (6, .hole), (7, .hole)], [(3, .var [.hole, .hole]), (500005, .row)]⟩ [.sl 39 x.1, .int .i64 x.2.1, .int .i64 x.2.2.1, .int .i64 x.2.2.2.2.1, .int .i64 x.2.2.2.2.2.1, .sl 39 o])
def S_MissingSpans_c33_cut (k : Nat) : Cut D := cutS ⟨[(0, .hole), (3, .ptr 3 0), (5, .ref 500005), (6, .hole), (7, .hole), (33, .hole)], [(3, .var [.hole, .hole]), (500005, .row)]⟩ [.kl 39, .ki .i64, .ki .i64, .kb, .ki .i64, .ki .i64, .kl 39] (fun (x : (List ISpan) × Int × Int × Bool × Int × Int × (List ISpan) × Unit) => S_MissingSpans_c33 k x.1 x.2.1 x.2.2.1 x.2.2.2.1 x.2.2.2.2.1 x.2.2.2.2.2.1 x.2.2.2.2.2.2.1) S_MissingSpans_c33_L
def S_MissingSpans_c33_cu (k : Nat) : Cuts D := ⟨[], []⟩
theorem S_MissingSpans_c33_ok (k : Nat) : CutFor X S_MissingSpans_pl k Go.Proofs.Try.f50.results.toList (S_MissingSpans_c33_cut k) (sub (bodyOf Go.Proofs.Try.f50) [1, 1, 1, 0, 1, 0, 0, 1, 0, 0, 0, 1]) :=
  joinCut_s (X := X) (sg := [.kl 39, .ki .i64, .ki .i64, .kb, .ki .i64, .ki .i64, .kl 39]) (cu := S_MissingSpans_c33_cu k) (cl := S_MissingSpans_cl k) (tys := [[39]]) (S_MissingSpans_ck k) (cutOK_of (l := []) (by kernel_rfl) trivial) fun x Q R h => by
    simp only [S_MissingSpans_c33, optK_bind, optK_bif, optK_pure, optK_none, optK_oc, optK_guardT, optK_map] at h
    refine hold_of h ?_
    kernel_rfl
def S_MissingSpans_b1_L (x : (List ISpan) × Int × Int × Int × Int × (List ISpan) × Unit) (o : Int × (List ISpan)) (Q : Ex → VSt D → Prop) (R : VR D → Prop) : Prop := Q .normal (mkSt ⟨[(0, .hole), (3, .ptr 3 0), (5, .ref 500005), (6, .hole), (7, .hole)], [(3, .var [.hole, .hole]), (500005, .row)]⟩ [.sl 39 x.1, .int .i64 o.1, .int .i64 x.2.2.1, .int .i64 x.2.2.2.1, .int .i64 x.2.2.2.2.1, .sl 39 o.2])
def S_MissingSpans_b1_cut (k : Nat) : Cut D := cutS ⟨[(0, .hole), (3, .ptr 3 0), (5, .ref 500005), (6, .hole), (7, .hole)], [(3, .var [.hole, .hole]), (500005, .row)]⟩ [.kl 39, .ki .i64, .ki .i64, .ki .i64, .ki .i64, .kl 39] (fun (x : (List ISpan) × Int × Int × Int × Int × (List ISpan) × Unit) => S_MissingSpans_b1 k x.1 x.2.1 x.2.2.1 x.2.2.2.1 x.2.2.2.2.1 x.2.2.2.2.2.1) S_MissingSpans_b1_L
def S_MissingSpans_b1_cu (k : Nat) : Cuts D := ⟨[], [(33, some (S_MissingSpans_c33_cut k))]⟩
theorem S_MissingSpans_b1_ok (k : Nat) : CutFor X S_MissingSpans_pl k Go.Proofs.Try.f50.results.toList (S_MissingSpans_b1_cut k) (sub (bodyOf Go.Proofs.Try.f50) [1, 1, 1, 0, 1, 0, 0, 1, 0]) :=
  joinCut_s (X := X) (sg := [.kl 39, .ki .i64, .ki .i64, .ki .i64, .ki .i64, .kl 39]) (cu := S_MissingSpans_b1_cu k) (cl := S_MissingSpans_cl k) (tys := [[39]]) (S_MissingSpans_ck k) (cutOK_of (l := [(S_MissingSpans_c33_cut k, sub (bodyOf Go.Proofs.Try.f50) [1, 1, 1, 0, 1, 0, 0, 1, 0, 0, 0, 1])]) (by kernel_rfl) ⟨S_MissingSpans_c33_ok k, trivial⟩) fun x Q R h => by
    simp only [S_MissingSpans_b1, optK_bind, optK_bif, optK_pure, optK_none, optK_oc, optK_guardT, optK_map] at h
    refine hold_of h ?_
    kernel_rfl
def S_MissingSpans_b0_L (x : (List ISpan) × Int × Int × Int × Int × (List ISpan) × Unit) (o : Int × (List ISpan)) (Q : Ex → VSt D → Prop) (R : VR D → Prop) : Prop := Q .normal (mkSt ⟨[(3, .ptr 3 0), (5, .ref 500005), (6, .hole)], [(3, .var [.hole, .hole]), (500005, .row)]⟩ [.int .i64 o.1, .int .i64 x.2.2.2.1, .int .i64 x.2.2.2.2.1, .sl 39 o.2])
def S_MissingSpans_b0_cut (k : Nat) : Cut D := cutS ⟨[(0, .hole), (3, .ptr 3 0), (5, .ref 500005), (6, .hole), (7, .hole)], [(3, .var [.hole, .hole]), (500005, .row)]⟩ [.kl 39, .ki .i64, .ki .i64, .ki .i64, .ki .i64, .kl 39] (fun (x : (List ISpan) × Int × Int × Int × Int × (List ISpan) × Unit) => S_MissingSpans_b0 k k x.1 x.2.1 x.2.2.1 x.2.2.2.1 x.2.2.2.2.1 x.2.2.2.2.2.1) S_MissingSpans_b0_L
def S_MissingSpans_b0_cu (k : Nat) : Cuts D := ⟨[(1, some (S_MissingSpans_b1_cut k))], []⟩
theorem S_MissingSpans_b0_ok (k : Nat) : CutFor X S_MissingSpans_pl k Go.Proofs.Try.f50.results.toList (S_MissingSpans_b0_cut k) (sub (bodyOf Go.Proofs.Try.f50) [1, 1, 1, 0, 1]) :=
  loopCut_s (X := X) (sg := [.kl 39, .ki .i64, .ki .i64, .ki .i64, .ki .i64, .kl 39]) (cu := S_MissingSpans_b0_cu k) (cl := S_MissingSpans_cl k) (tys := [[39]]) (id := 0) (c := sub (bodyOf Go.Proofs.Try.f50) [1, 1, 1, 0, 1, 0, 0]) (f := fun n => fun (x : (List ISpan) × Int × Int × Int × Int × (List ISpan) × Unit) => S_MissingSpans_b0 k n x.1 x.2.1 x.2.2.1 x.2.2.2.1 x.2.2.2.2.1 x.2.2.2.2.2.1) (S_MissingSpans_ck k) (cutOK_of (l := [(S_MissingSpans_b1_cut k, sub (bodyOf Go.Proofs.Try.f50) [1, 1, 1, 0, 1, 0, 0, 1, 0])]) (by kernel_rfl) ⟨S_MissingSpans_b1_ok k, trivial⟩) (fun _ => rfl) (fun n x Q R h => by
    simp only [S_MissingSpans_b0, optK_bind, optK_bif, optK_pure, optK_none, optK_oc, optK_guardT, optK_map] at h
    refine hold_of h ?_
    kernel_rfl) (by kernel_rfl)
def S_MissingSpans_c57_L (x : Int × Bool × Int × Int × (List ISpan) × Unit) (o : (List ISpan)) (Q : Ex → VSt D → Prop) (R : VR D → Prop) : Prop := Q .normal (mkSt ⟨[(5, .ref 500005)], [(500005, .row)]⟩ [.sl 39 o])
def S_MissingSpans_c57_cut (k : Nat) : Cut D := cutS ⟨[(3, .ptr 3 0), (5, .ref 500005), (6, .hole), (57, .hole)], [(3, .var [.hole, .hole]), (500005, .row)]⟩ [.ki .i64, .kb, .ki .i64, .ki .i64, .kl 39] (fun (x : Int × Bool × Int × Int × (List ISpan) × Unit) => S_MissingSpans_c57 k x.1 x.2.1 x.2.2.1 x.2.2.2.1 x.2.2.2.2.1) S_MissingSpans_c57_L
def S_MissingSpans_c57_cu (k : Nat) : Cuts D := ⟨[], []⟩
theorem S_MissingSpans_c57_ok (k : Nat) : CutFor X S_MissingSpans_pl k Go.Proofs.Try.f50.results.toList (S_MissingSpans_c57_cut k) (sub (bodyOf Go.Proofs.Try.f50) [1, 1, 1, 1, 0, 1]) :=
  joinCut_s (X := X) (sg := [.ki .i64, .kb, .ki .i64, .ki .i64, .kl 39]) (cu := S_MissingSpans_c57_cu k) (cl := S_MissingSpans_cl k) (tys := [[39]]) (S_MissingSpans_ck k) (cutOK_of (l := []) (by kernel_rfl) trivial) fun x Q R h => by
    simp only [S_MissingSpans_c57, optK_bind, optK_bif, optK_pure, optK_none, optK_oc, optK_guardT, optK_map] at h
    refine hold_of h ?_
    kernel_rfl
def S_MissingSpans_cu (k : Nat) : Cuts D := ⟨[(0, some (S_MissingSpans_b0_cut k))], [(57, some (S_MissingSpans_c57_cut k))]⟩
def S_MissingSpans_ar : List Ar := [.c (.kl 39), .a [.ki .i64, .ki .i64]]
def S_MissingSpans_f (k : Nat) (x : TupA D S_MissingSpans_ar) : Option ((List ISpan)) := S_MissingSpans k x.1 (⟨x.2.1.1, x.2.1.2.1⟩ : ISpan)
def S_MissingSpans_vr (r : (List ISpan)) : VR D := .p (.c (.sl 39 r))
theorem S_MissingSpans_ok (k : Nat) : Does P X 50 S_MissingSpans_ar (S_MissingSpans_f k) S_MissingSpans_vr :=
  does_of (body := bodyOf Go.Proofs.Try.f50) (pl := S_MissingSpans_pl) (k := k) (cu := S_MissingSpans_cu k) (tys := [[39]]) (S_MissingSpans_ck k) ctx mixed Go.Proofs.Try.func50 (by kernel_rfl) (by kernel_rfl) (cutOK_of (l := [(S_MissingSpans_b0_cut k, sub (bodyOf Go.Proofs.Try.f50) [1, 1, 1, 0, 1]), (S_MissingSpans_c57_cut k, sub (bodyOf Go.Proofs.Try.f50) [1, 1, 1, 1, 0, 1])]) (by kernel_rfl) ⟨S_MissingSpans_b0_ok k, S_MissingSpans_c57_ok k, trivial⟩) fun x R h => by
    simp only [S_MissingSpans_f, S_MissingSpans, optK_bind, optK_bif, optK_pure, optK_none, optK_oc, optK_guardT, optK_map] at h
    refine hold_of h ?_
    kernel_rfl
def S_MissingSpans_en (k : Nat) : Entry D := entS S_MissingSpans_ar (S_MissingSpans_f k) S_MissingSpans_vr
theorem S_MissingSpans_eo (k : Nat) : EntryOK X 50 (S_MissingSpans_en k) := (S_MissingSpans_ok k).en rfl
def I_IsSpanSet_pl : Plan := ⟨[(0, [(0, some 39)]), (1, [(0, some 39), (5, some 39), (6, none), (7, none)]), (2, [(0, some 39), (5, some 39), (6, none), (7, none), (8, none)]), (3, [(0, some 39), (3, none), (4, none), (5, some 39), (6, none), (7, none)]), (4, [(0, some 39), (5, some 39), (6, none), (7, none), (41, none)]), (5, [(2, none)]), (6, [(0, some 39), (5, some 39), (6, none), (7, none)]), (7, [(2, none)])],
  [(0, []), (1, [(0, some 39), (5, some 39), (6, none), (7, none)])],
  [(8, ([(0, some 39), (5, some 39), (6, none), (7, none)], [])), (41, ([], [(0, some 39), (5, some 39), (6, none), (7, none)]))]⟩
def I_IsSpanSet_cl (k : Nat) : Calls' D := ⟨[], []⟩
theorem I_IsSpanSet_ck (k : Nat) : CallsOK X (I_IsSpanSet_cl k) := .nil cod
def I_IsSpanSet_b0_L (x : (List ISpan) × (List ISpan) × Int × Int × Unit) (o : Oc (Unit) (Bool)) (Q : Ex → VSt D → Prop) (R : VR D → Prop) : Prop := ocP o (fun v0 => Q .normal (mkSt ⟨[], []⟩ [])) (fun w0 => R (.p (.c (.bool w0))))
def I_IsSpanSet_b0_cut (k : Nat) : Cut D := cutS ⟨[(0, .hole), (5, .hole), (6, .hole), (7, .hole)], []⟩ [.kl 39, .kl 39, .ki .i64, .ki .i64] (fun (x : (List ISpan) × (List ISpan) × Int × Int × Unit) => I_IsSpanSet_b0 k k x.1 x.2.1 x.2.2.1 x.2.2.2.1) I_IsSpanSet_b0_L
def I_IsSpanSet_b0_cu (k : Nat) : Cuts D := ⟨[], []⟩
theorem I_IsSpanSet_b0_ok (k : Nat) : CutFor X I_IsSpanSet_pl k Go.Proofs.Try.f71.results.toList (I_IsSpanSet_b0_cut k) (sub (bodyOf Go.Proofs.Try.f71) [1, 0, 1]) :=
  loopCut_s (X := X) (sg := [.kl 39, .kl 39, .ki .i64, .ki .i64]) (cu := I_IsSpanSet_b0_cu k) (cl := I_IsSpanSet_cl k) (tys := [[0]]) (id := 0) (c := sub (bodyOf Go.Proofs.Try.f71) [1, 0, 1, 0, 0]) (f := fun n => fun (x : (List ISpan) × (List ISpan) × Int × Int × Unit) => I_IsSpanSet_b0 k n x.1 x.2.1 x.2.2.1 x.2.2.2.1) (I_IsSpanSet_ck k) (cutOK_of (l := []) (by kernel_rfl) trivial) (fun _ => rfl) (fun n x Q R h => by
    simp only [I_IsSpanSet_b0, optK_bind, optK_bif, optK_pure, optK_none, optK_oc, optK_guardT, optK_map] at h
    refine hold_of h ?_
    kernel_rfl) (by kernel_rfl)
def I_IsSpanSet_cu (k : Nat) : Cuts D := ⟨[(0, some (I_IsSpanSet_b0_cut k))], []⟩
def I_IsSpanSet_ar : List Ar := [.c (.kl 39)]
def I_IsSpanSet_f (k : Nat) (x : TupA D I_IsSpanSet_ar) : Option (Bool) := I_IsSpanSet k x.1
def I_IsSpanSet_vr (r : Bool) : VR D := .p (.c (.bool r))
theorem I_IsSpanSet_ok (k : Nat) : Does P X 71 I_IsSpanSet_ar (I_IsSpanSet_f k) I_IsSpanSet_vr :=
  does_of (body := bodyOf Go.Proofs.Try.f71) (pl := I_IsSpanSet_pl) (k := k) (cu := I_IsSpanSet_cu k) (tys := [[0]]) (I_IsSpanSet_ck k) ctx mixed Go.Proofs.Try.func71 (by kernel_rfl) (by kernel_rfl) (cutOK_of (l := [(I_IsSpanSet_b0_cut k, sub (bodyOf Go.Proofs.Try.f71) [1, 0, 1])]) (by kernel_rfl) ⟨I_IsSpanSet_b0_ok k, trivial⟩) fun x R h => by
    simp only [I_IsSpanSet_f, I_IsSpanSet, optK_bind, optK_bif, optK_pure, optK_none, optK_oc, optK_guardT, optK_map] at h
    refine hold_of h ?_
    kernel_rfl
def I_IsSpanSet_en (k : Nat) : Entry D := entS I_IsSpanSet_ar (I_IsSpanSet_f k) I_IsSpanSet_vr
theorem I_IsSpanSet_eo (k : Nat) : EntryOK X 71 (I_IsSpanSet_en k) := (I_IsSpanSet_ok k).en rfl
def I_MissingSpans_pl : Plan := ⟨[(0, [(0, some 39), (3, none), (1000000, some 39)]), (1, [(0, some 39), (3, none), (5, some 39), (1000000, some 39)]), (2, [(0, some 39), (3, none), (5, some 39), (12, none), (1000000, some 39)]), (3, [(0, some 39), (3, none), (5, some 39), (1000000, some 39)]), (4, [(0, some 39), (3, none), (5, some 39), (6, none), (1000000, some 39)]), (5, [(3, none), (5, some 39), (6, none), (15, some 39), (16, none), (17, none)]), (6, [(3, none), (5, some 39), (6, none), (15, some 39), (16, none), (17, none), (18, none)]), (7, [(3, none), (5, some 39), (6, none), (8, none), (15, some 39), (16, none), (17, none)]), (8, [(3, none), (5, some 39), (6, none), (8, none), (15, some 39), (16, none), (17, none), (31, none)]), (9, [(3, none), (5, some 39), (6, none), (8, none), (15, some 39), (16, none), (17, none), (35, none)]), (10, [(3, none), (5, some 39), (8, none), (15, some 39), (16, none), (17, none)]), (11, [(3, none), (5, some 39), (6, none), (15, some 39), (16, none), (17, none)]), (12, [(3, none), (5, some 39), (6, none), (15, some 39), (16, none), (17, none)]), (13, [(3, none), (5, some 39), (6, none), (49, none)]), (14, [(5, some 39)]), (15, [(4, some 39)])],
  [(0, [(3, none), (5, some 39), (6, none)]), (1, [(3, none), (5, some 39), (6, none), (15, some 39), (16, none), (17, none)])],
  [(12, ([(3, none), (5, some 39)], [(0, some 39), (3, none), (5, some 39), (1000000, some 39)])), (18, ([(3, none), (5, some 39), (6, none), (15, some 39), (16, none), (17, none)], [(3, none), (5, some 39), (6, none)])), (31, ([(3, none), (5, some 39), (6, none), (15, some 39), (16, none), (17, none)], [(3, none), (5, some 39), (6, none), (8, none), (15, some 39), (16, none), (17, none)])), (35, ([(3, none), (5, some 39), (6, none), (8, none), (15, some 39), (16, none), (17, none)], [(3, none), (5, some 39), (8, none), (15, some 39), (16, none), (17, none)])), (49, ([(3, none), (5, some 39), (6, none)], [(5, some 39)]))]⟩
def I_MissingSpans_cl (k : Nat) : Calls' D := ⟨[(71, I_IsSpanSet_en k)], []⟩
theorem I_MissingSpans_ck (k : Nat) : CallsOK X (I_MissingSpans_cl k) := .cons (I_IsSpanSet_eo k) (.nil cod)
def I_MissingSpans_c12_L (x : (List ISpan) × Bool × Int × Int × (List ISpan) × Unit) (o : (List ISpan)) (Q : Ex → VSt D → Prop) (R : VR D → Prop) : Prop := Q .normal (mkSt ⟨[(0, .hole), (3, .ptr 3 0), (5, .ref 500005), (1000000, .gone)], [(3, .var [.hole, .hole]), (500005, .row)]⟩ [.sl 39 o, .int .i64 x.2.2.1, .int .i64 x.2.2.2.1, .sl 39 x.2.2.2.2.1])
def I_MissingSpans_c12_cut (k : Nat) : Cut D := cutS ⟨[(0, .hole), (3, .ptr 3 0), (5, .ref 500005), (12, .hole), (1000000, .gone)], [(3, .var [.hole, .hole]), (500005, .row)]⟩ [.kl 39, .kb, .ki .i64, .ki .i64, .kl 39] (fun (x : (List ISpan) × Bool × Int × Int × (List ISpan) × Unit) => I_MissingSpans_c12 k x.1 x.2.1 x.2.2.1 x.2.2.2.1 x.2.2.2.2.1) I_MissingSpans_c12_L
def I_MissingSpans_c12_cu (k : Nat) : Cuts D := ⟨[], []⟩
theorem I_MissingSpans_c12_ok (k : Nat) : CutFor X I_MissingSpans_pl k Go.Proofs.Try.f51.results.toList (I_MissingSpans_c12_cut k) (sub (bodyOf Go.Proofs.Try.f51) [1, 1, 0, 1]) :=
  joinCut_s (X := X) (sg := [.kl 39, .kb, .ki .i64, .ki .i64, .kl 39]) (cu := I_MissingSpans_c12_cu k) (cl := I_MissingSpans_cl k) (tys := [[39]]) (I_MissingSpans_ck k) (cutOK_of (l := []) (by kernel_rfl) trivial) fun x Q R h => by
    simp only [I_MissingSpans_c12, optK_bind, optK_bif, optK_pure, optK_none, optK_oc, optK_guardT, optK_map] at h
    refine hold_of h ?_
    kernel_rfl
def I_MissingSpans_c35_L (x : Int × (List ISpan) × Int × Int × Bool × Int × Int × (List ISpan) × Int × Int × Unit) (o : (List ISpan)) (Q : Ex → VSt D → Prop) (R : VR D → Prop) : Prop := Q .normal (mkSt ⟨[(3, .ptr 3 0), (5, .ref 500005), (8, .ptr 8 0), (15, .hole), (16, .hole), (17, .hole)], [(3, .var [.hole, .hole]), (500005, .row), (8, .var [.hole, .hole])]⟩ [.sl 39 x.2.1, .int .i64 x.2.2.1, .int .i64 x.2.2.2.1, .int .i64 x.2.2.2.2.2.1, .int .i64 x.2.2.2.2.2.2.1, .sl 39 o, .int .i64 x.2.2.2.2.2.2.2.2.1, .int .i64 x.2.2.2.2.2.2.2.2.2.1])
def I_MissingSpans_c35_cut (k : Nat) : Cut D := cutS ⟨[(3, .ptr 3 0), (5, .ref 500005), (6, .hole), (8, .ptr 8 0), (15, .hole), (16, .hole), (17, .hole), (35, .hole)], [(3, .var [.hole, .hole]), (500005, .row), (8, .var [.hole, .hole])]⟩ [.ki .i64, .kl 39, .ki .i64, .ki .i64, .kb, .ki .i64, .ki .i64, .kl 39, .ki .i64, .ki .i64] (fun (x : Int × (List ISpan) × Int × Int × Bool × Int × Int × (List ISpan) × Int × Int × Unit) => I_MissingSpans_c35 k x.1 x.2.1 x.2.2.1 x.2.2.2.1 x.2.2.2.2.1 x.2.2.2.2.2.1 x.2.2.2.2.2.2.1 x.2.2.2.2.2.2.2.1 x.2.2.2.2.2.2.2.2.1 x.2.2.2.2.2.2.2.2.2.1) I_MissingSpans_c35_L
def I_MissingSpans_c35_cu (k : Nat) : Cuts D := ⟨[], []⟩
theorem I_MissingSpans_c35_ok (k : Nat) : CutFor X I_MissingSpans_pl k Go.Proofs.Try.f51.results.toList (I_MissingSpans_c35_cut k) (sub (bodyOf Go.Proofs.Try.f51) [1, 1, 1, 1, 0, 1, 0, 0, 1, 1, 0, 0, 1, 1, 0, 1]) :=
  joinCut_s (X := X) (sg := [.ki .i64, .kl 39, .ki .i64, .ki .i64, .kb, .ki .i64, .ki .i64, .kl 39, .ki .i64, .ki .i64]) (cu := I_MissingSpans_c35_cu k) (cl := I_MissingSpans_cl k) (tys := [[39]]) (I_MissingSpans_ck k) (cutOK_of (l := []) (by kernel_rfl) trivial) fun x Q R h => by
    simp only [I_MissingSpans_c35, optK_bind, optK_bif, optK_pure, optK_none, optK_oc, optK_guardT, optK_map] at h
    refine hold_of h ?_
    kernel_rfl
def I_MissingSpans_b1_L (x : Int × (List ISpan) × Int × Int × Int × Int × (List ISpan) × Unit) (o : Int × (List ISpan)) (Q : Ex → VSt D → Prop) (R : VR D → Prop) : Prop := Q .normal (mkSt ⟨[(3, .ptr 3 0), (5, .ref 500005), (6, .hole), (15, .hole), (16, .hole), (17, .hole)], [(3, .var [.hole, .hole]), (500005, .row)]⟩ [.int .i64 o.1, .sl 39 x.2.1, .int .i64 x.2.2.1, .int .i64 x.2.2.2.1, .int .i64 x.2.2.2.2.1, .int .i64 x.2.2.2.2.2.1, .sl 39 o.2])
def I_MissingSpans_b1_cut (k : Nat) : Cut D := cutS ⟨[(3, .ptr 3 0), (5, .ref 500005), (6, .hole), (15, .hole), (16, .hole), (17, .hole)], [(3, .var [.hole, .hole]), (500005, .row)]⟩ [.ki .i64, .kl 39, .ki .i64, .ki .i64, .ki .i64, .ki .i64, .kl 39] (fun (x : Int × (List ISpan) × Int × Int × Int × Int × (List ISpan) × Unit) => I_MissingSpans_b1 k x.1 x.2.1 x.2.2.1 x.2.2.2.1 x.2.2.2.2.1 x.2.2.2.2.2.1 x.2.2.2.2.2.2.1) I_MissingSpans_b1_L
def I_MissingSpans_b1_cu (k : Nat) : Cuts D := ⟨[], [(35, some (I_MissingSpans_c35_cut k))]⟩
theorem I_MissingSpans_b1_ok (k : Nat) : CutFor X I_MissingSpans_pl k Go.Proofs.Try.f51.results.toList (I_MissingSpans_b1_cut k) (sub (bodyOf Go.Proofs.Try.f51) [1, 1, 1, 1, 0, 1, 0, 0, 1, 1, 0]) :=
  joinCut_s (X := X) (sg := [.ki .i64, .kl 39, .ki .i64, .ki .i64, .ki .i64, .ki .i64, .kl 39]) (cu := I_MissingSpans_b1_cu k) (cl := I_MissingSpans_cl k) (tys := [[39]]) (I_MissingSpans_ck k) (cutOK_of (l := [(I_MissingSpans_c35_cut k, sub (bodyOf Go.Proofs.Try.f51) [1, 1, 1, 1, 0, 1, 0, 0, 1, 1, 0, 0, 1, 1, 0, 1])]) (by kernel_rfl) ⟨I_MissingSpans_c35_ok k, trivial⟩) fun x Q R h => by
    simp only [I_MissingSpans_b1, optK_bind, optK_bif, optK_pure, optK_none, optK_oc, optK_guardT, optK_map] at h
    refine hold_of h ?_
    kernel_rfl
def I_MissingSpans_b0_L (x : Int × (List ISpan) × Int × Int × Int × Int × (List ISpan) × Unit) (o : Int × (List ISpan)) (Q : Ex → VSt D → Prop) (R : VR D → Prop) : Prop := Q .normal (mkSt ⟨[(3, .ptr 3 0), (5, .ref 500005), (6, .hole)], [(3, .var [.hole, .hole]), (500005, .row)]⟩ [.int .i64 o.1, .int .i64 x.2.2.2.2.1, .int .i64 x.2.2.2.2.2.1, .sl 39 o.2])
def I_MissingSpans_b0_cut (k : Nat) : Cut D := cutS ⟨[(3, .ptr 3 0), (5, .ref 500005), (6, .hole), (15, .hole), (16, .hole), (17, .hole)], [(3, .var [.hole, .hole]), (500005, .row)]⟩ [.ki .i64, .kl 39, .ki .i64, .ki .i64, .ki .i64, .ki .i64, .kl 39] (fun (x : Int × (List ISpan) × Int × Int × Int × Int × (List ISpan) × Unit) => I_MissingSpans_b0 k k x.1 x.2.1 x.2.2.1 x.2.2.2.1 x.2.2.2.2.1 x.2.2.2.2.2.1 x.2.2.2.2.2.2.1) I_MissingSpans_b0_L
def I_MissingSpans_b0_cu (k : Nat) : Cuts D := ⟨[(1, some (I_MissingSpans_b1_cut k))], []⟩
theorem I_MissingSpans_b0_ok (k : Nat) : CutFor X I_MissingSpans_pl k Go.Proofs.Try.f51.results.toList (I_MissingSpans_b0_cut k) (sub (bodyOf Go.Proofs.Try.f51) [1, 1, 1, 1, 0, 1]) :=
  loopCut_s (X := X) (sg := [.ki .i64, .kl 39, .ki .i64, .ki .i64, .ki .i64, .ki .i64, .kl 39]) (cu := I_MissingSpans_b0_cu k) (cl := I_MissingSpans_cl k) (tys := [[39]]) (id := 0) (c := sub (bodyOf Go.Proofs.Try.f51) [1, 1, 1, 1, 0, 1, 0, 0]) (f := fun n => fun (x : Int × (List ISpan) × Int × Int × Int × Int × (List ISpan) × Unit) => I_MissingSpans_b0 k n x.1 x.2.1 x.2.2.1 x.2.2.2.1 x.2.2.2.2.1 x.2.2.2.2.2.1 x.2.2.2.2.2.2.1) (I_MissingSpans_ck k) (cutOK_of (l := [(I_MissingSpans_b1_cut k, sub (bodyOf Go.Proofs.Try.f51) [1, 1, 1, 1, 0, 1, 0, 0, 1, 1, 0])]) (by kernel_rfl) ⟨I_MissingSpans_b1_ok k, trivial⟩) (fun _ => rfl) (fun n x Q R h => by
    simp only [I_MissingSpans_b0, optK_bind, optK_bif, optK_pure, optK_none, optK_oc, optK_guardT, optK_map] at h
    refine hold_of h ?_
    kernel_rfl) (by kernel_rfl)
def I_MissingSpans_c49_L (x : Int × Bool × Int × Int × (List ISpan) × Unit) (o : (List ISpan)) (Q : Ex → VSt D → Prop) (R : VR D → Prop) : Prop := Q .normal (mkSt ⟨[(5, .ref 500005)], [(500005, .row)]⟩ [.sl 39 o])
def I_MissingSpans_c49_cut (k : Nat) : Cut D := cutS ⟨[(3, .ptr 3 0), (5, .ref 500005), (6, .hole), (49, .hole)], [(3, .var [.hole, .hole]), (500005, .row)]⟩ [.ki .i64, .kb, .ki .i64, .ki .i64, .kl 39] (fun (x : Int × Bool × Int × Int × (List ISpan) × Unit) => I_MissingSpans_c49 k x.1 x.2.1 x.2.2.1 x.2.2.2.1 x.2.2.2.2.1) I_MissingSpans_c49_L
def I_MissingSpans_c49_cu (k : Nat) : Cuts D := ⟨[], []⟩
theorem I_MissingSpans_c49_ok (k : Nat) : CutFor X I_MissingSpans_pl k Go.Proofs.Try.f51.results.toList (I_MissingSpans_c49_cut k) (sub (bodyOf Go.Proofs.Try.f51) [1, 1, 1, 1, 1, 0, 1]) :=
  joinCut_s (X := X) (sg := [.ki .i64, .kb, .ki .i64, .ki .i64, .kl 39]) (cu := I_MissingSpans_c49_cu k) (cl := I_MissingSpans_cl k) (tys := [[39]]) (I_MissingSpans_ck k) (cutOK_of (l := []) (by kernel_rfl) trivial) fun x Q R h => by
    simp only [I_MissingSpans_c49, optK_bind, optK_bif, optK_pure, optK_none, optK_oc, optK_guardT, optK_map] at h
    refine hold_of h ?_
    kernel_rfl
def I_MissingSpans_cu (k : Nat) : Cuts D := ⟨[(0, some (I_MissingSpans_b0_cut k))], [(12, some (I_MissingSpans_c12_cut k)), (49, some (I_MissingSpans_c49_cut k))]⟩
def I_MissingSpans_ar : List Ar := [.c (.kl 39), .a [.ki .i64, .ki .i64]]
def I_MissingSpans_f (k : Nat) (x : TupA D I_MissingSpans_ar) : Option ((List ISpan)) := I_MissingSpans k x.1 (⟨x.2.1.1, x.2.1.2.1⟩ : ISpan)
def I_MissingSpans_vr (r : (List ISpan)) : VR D := .p (.c (.sl 39 r))
theorem I_MissingSpans_ok (k : Nat) : Does P X 51 I_MissingSpans_ar (I_MissingSpans_f k) I_MissingSpans_vr :=
  does_of (body := bodyOf Go.Proofs.Try.f51) (pl := I_MissingSpans_pl) (k := k) (cu := I_MissingSpans_cu k) (tys := [[39]]) (I_MissingSpans_ck k) ctx mixed Go.Proofs.Try.func51 (by kernel_rfl) (by kernel_rfl) (cutOK_of (l := [(I_MissingSpans_c12_cut k, sub (bodyOf Go.Proofs.Try.f51) [1, 1, 0, 1]), (I_MissingSpans_b0_cut k, sub (bodyOf Go.Proofs.Try.f51) [1, 1, 1, 1, 0, 1]), (I_MissingSpans_c49_cut k, sub (bodyOf Go.Proofs.Try.f51) [1, 1, 1, 1, 1, 0, 1])]) (by kernel_rfl) ⟨I_MissingSpans_c12_ok k, I_MissingSpans_b0_ok k, I_MissingSpans_c49_ok k, trivial⟩) fun x R h => by
    simp only [I_MissingSpans_f, I_MissingSpans, optK_bind, optK_bif, optK_pure, optK_none, optK_oc, optK_guardT, optK_map] at h
    refine hold_of h ?_
    kernel_rfl
def I_MissingSpans_en (k : Nat) : Entry D := entS I_MissingSpans_ar (I_MissingSpans_f k) I_MissingSpans_vr
theorem I_MissingSpans_eo (k : Nat) : EntryOK X 51 (I_MissingSpans_en k) := (I_MissingSpans_ok k).en rfl
def L_eqSpan_pl : Plan := ⟨[(0, [(2, none), (3, none)]), (1, [(2, none), (3, none), (9, none)]), (2, [(4, none)]), (3, [(14, none)]), (4, [(4, none)]), (5, [(4, none)])],
  [],
  [(9, ([], [(2, none), (3, none)])), (14, ([], []))]⟩
def L_eqSpan_cl (k : Nat) : Calls' D := ⟨[], []⟩
theorem L_eqSpan_ck (k : Nat) : CallsOK X (L_eqSpan_cl k) := .nil cod
def L_eqSpan_cu (k : Nat) : Cuts D := ⟨[], []⟩
def L_eqSpan_ar : List Ar := [.a [.ki .i64, .ki .i64], .a [.ki .i64, .ki .i64]]
def L_eqSpan_f (k : Nat) (x : TupA D L_eqSpan_ar) : Option (Bool) := L_eqSpan k (⟨x.1.1, x.1.2.1⟩ : ISpan) (⟨x.2.1.1, x.2.1.2.1⟩ : ISpan)
def L_eqSpan_vr (r : Bool) : VR D := .p (.c (.bool r))
theorem L_eqSpan_ok (k : Nat) : Does P X 61 L_eqSpan_ar (L_eqSpan_f k) L_eqSpan_vr :=
  does_of (body := bodyOf Go.Proofs.Try.f61) (pl := L_eqSpan_pl) (k := k) (cu := L_eqSpan_cu k) (tys := [[0]]) (L_eqSpan_ck k) ctx mixed Go.Proofs.Try.func61 (by kernel_rfl) (by kernel_rfl) (cutOK_of (l := []) (by kernel_rfl) trivial) fun x R h => by
    simp only [L_eqSpan_f, L_eqSpan, optK_bind, optK_bif, optK_pure, optK_none, optK_oc, optK_guardT, optK_map] at h
    refine hold_of h ?_
    kernel_rfl
def L_eqSpan_en (k : Nat) : Entry D := entS L_eqSpan_ar (L_eqSpan_f k) L_eqSpan_vr
theorem L_eqSpan_eo (k : Nat) : EntryOK X 61 (L_eqSpan_en k) := (L_eqSpan_ok k).en rfl
def L_eqSpanS_pl : Plan := ⟨[(0, [(0, some 39), (1, some 39)]), (1, [(0, some 39), (1, some 39), (10, none)]), (2, [(4, none)]), (3, [(0, some 39), (1, some 39), (5, none)]), (4, [(0, some 39), (1, some 39), (5, none), (14, none)]), (5, [(0, some 39), (1, some 39), (5, none)]), (6, [(0, some 39), (1, some 39), (5, none), (26, none)]), (7, [(4, none)]), (8, [(4, none)])],
  [(0, []), (1, [(0, some 39), (1, some 39), (5, none)])],
  [(10, ([], [(0, some 39), (1, some 39)])), (14, ([(0, some 39), (1, some 39), (5, none)], [])), (26, ([], [(0, some 39), (1, some 39), (5, none)]))]⟩
def L_eqSpanS_cl (k : Nat) : Calls' D := ⟨[(61, L_eqSpan_en k)], []⟩
theorem L_eqSpanS_ck (k : Nat) : CallsOK X (L_eqSpanS_cl k) := .cons (L_eqSpan_eo k) (.nil cod)
def L_eqSpanS_b0_L (x : (List ISpan) × (List ISpan) × Int × Unit) (o : Oc (Unit) (Bool)) (Q : Ex → VSt D → Prop) (R : VR D → Prop) : Prop := ocP o (fun v0 => Q .normal (mkSt ⟨[], []⟩ [])) (fun w0 => R (.p (.c (.bool w0))))
def L_eqSpanS_b0_cut (k : Nat) : Cut D := cutS ⟨[(0, .hole), (1, .hole), (5, .hole)], []⟩ [.kl 39, .kl 39, .ki .i64] (fun (x : (List ISpan) × (List ISpan) × Int × Unit) => L_eqSpanS_b0 k k x.1 x.2.1 x.2.2.1) L_eqSpanS_b0_L
def L_eqSpanS_b0_cu (k : Nat) : Cuts D := ⟨[], []⟩
theorem L_eqSpanS_b0_ok (k : Nat) : CutFor X L_eqSpanS_pl k Go.Proofs.Try.f28.results.toList (L_eqSpanS_b0_cut k) (sub (bodyOf Go.Proofs.Try.f28) [1, 1, 0, 1]) :=
  loopCut_s (X := X) (sg := [.kl 39, .kl 39, .ki .i64]) (cu := L_eqSpanS_b0_cu k) (cl := L_eqSpanS_cl k) (tys := [[0]]) (id := 0) (c := sub (bodyOf Go.Proofs.Try.f28) [1, 1, 0, 1, 0, 0]) (f := fun n => fun (x : (List ISpan) × (List ISpan) × Int × Unit) => L_eqSpanS_b0 k n x.1 x.2.1 x.2.2.1) (L_eqSpanS_ck k) (cutOK_of (l := []) (by kernel_rfl) trivial) (fun _ => rfl) (fun n x Q R h => by
    simp only [L_eqSpanS_b0, optK_bind, optK_bif, optK_pure, optK_none, optK_oc, optK_guardT, optK_map] at h
    refine hold_of h ?_
    kernel_rfl) (by kernel_rfl)
def L_eqSpanS_cu (k : Nat) : Cuts D := ⟨[(0, some (L_eqSpanS_b0_cut k))], []⟩
def L_eqSpanS_ar : List Ar := [.c (.kl 39), .c (.kl 39)]
def L_eqSpanS_f (k : Nat) (x : TupA D L_eqSpanS_ar) : Option (Bool) := L_eqSpanS k x.1 x.2.1
def L_eqSpanS_vr (r : Bool) : VR D := .p (.c (.bool r))
theorem L_eqSpanS_ok (k : Nat) : Does P X 28 L_eqSpanS_ar (L_eqSpanS_f k) L_eqSpanS_vr :=
  does_of (body := bodyOf Go.Proofs.Try.f28) (pl := L_eqSpanS_pl) (k := k) (cu := L_eqSpanS_cu k) (tys := [[0]]) (L_eqSpanS_ck k) ctx mixed Go.Proofs.Try.func28 (by kernel_rfl) (by kernel_rfl) (cutOK_of (l := [(L_eqSpanS_b0_cut k, sub (bodyOf Go.Proofs.Try.f28) [1, 1, 0, 1])]) (by kernel_rfl) ⟨L_eqSpanS_b0_ok k, trivial⟩) fun x R h => by
    simp only [L_eqSpanS_f, L_eqSpanS, optK_bind, optK_bif, optK_pure, optK_none, optK_oc, optK_guardT, optK_map] at h
    refine hold_of h ?_
    kernel_rfl
def L_eqSpanS_en (k : Nat) : Entry D := entS L_eqSpanS_ar (L_eqSpanS_f k) L_eqSpanS_vr
theorem L_eqSpanS_eo (k : Nat) : EntryOK X 28 (L_eqSpanS_en k) := (L_eqSpanS_ok k).en rfl
def L_markSpanS_pl : Plan := ⟨[(0, [(0, some 39), (1, none)]), (1, [(0, some 39), (1, none), (5, none)]), (2, [(0, some 39), (1, none), (5, none), (9, none)]), (3, [(0, some 39), (1, none), (5, none)]), (4, [(0, some 39), (1, none), (5, none)]), (5, [(0, some 39), (1, none), (5, none)]), (6, [(0, some 39), (1, none), (5, none)]), (7, [(0, some 39), (1, none), (5, none)]), (8, [(0, some 39), (4, none)])],
  [(0, [(0, some 39), (1, none)]), (1, [(0, some 39), (1, none), (5, none)])],
  [(9, ([(0, some 39), (1, none), (5, none)], [(0, some 39), (1, none)]))]⟩
def L_markSpanS_cl (k : Nat) : Calls' D := ⟨[], []⟩
theorem L_markSpanS_ck (k : Nat) : CallsOK X (L_markSpanS_cl k) := .nil cod
def L_markSpanS_b0_L (x : Int × Int × (List ISpan) × Unit) (o : Int × (List ISpan)) (Q : Ex → VSt D → Prop) (R : VR D → Prop) : Prop := Q .normal (mkSt ⟨[(0, .ref 500000), (1, .hole)], [(500000, .row)]⟩ [.int .i64 o.1, .sl 39 o.2])
def L_markSpanS_b0_cut (k : Nat) : Cut D := cutS ⟨[(0, .ref 500000), (1, .hole), (5, .hole)], [(500000, .row)]⟩ [.ki .i64, .ki .i64, .kl 39] (fun (x : Int × Int × (List ISpan) × Unit) => L_markSpanS_b0 k k x.1 x.2.1 x.2.2.1) L_markSpanS_b0_L
def L_markSpanS_b0_cu (k : Nat) : Cuts D := ⟨[], []⟩
theorem L_markSpanS_b0_ok (k : Nat) : CutFor X L_markSpanS_pl k [.tmp 4, .tmp 0] (L_markSpanS_b0_cut k) (sub (bodyOf Go.Proofs.Try.f52) [1, 0, 1]) :=
  loopCut_s (X := X) (sg := [.ki .i64, .ki .i64, .kl 39]) (cu := L_markSpanS_b0_cu k) (cl := L_markSpanS_cl k) (tys := [[0], [39]]) (id := 0) (c := sub (bodyOf Go.Proofs.Try.f52) [1, 0, 1, 0, 0]) (f := fun n => fun (x : Int × Int × (List ISpan) × Unit) => L_markSpanS_b0 k n x.1 x.2.1 x.2.2.1) (L_markSpanS_ck k) (cutOK_of (l := []) (by kernel_rfl) trivial) (fun _ => rfl) (fun n x Q R h => by
    simp only [L_markSpanS_b0, optK_bind, optK_bif, optK_pure, optK_none, optK_oc, optK_guardT, optK_map] at h
    refine hold_of h ?_
    kernel_rfl) (by kernel_rfl)
def L_markSpanS_cu (k : Nat) : Cuts D := ⟨[(0, some (L_markSpanS_b0_cut k))], []⟩
def L_markSpanS_f (k : Nat) : ArT D (.c (.kl 39)) → Int → Option (Int × ArT D (.c (.kl 39))) := fun x n => L_markSpanS k x n
theorem L_markSpanS_ok (k : Nat) : DoesW P X 52 (.c (.kl 39)) (L_markSpanS_f k) :=
  doesW_of (body := bodyOf Go.Proofs.Try.f52) (pl := L_markSpanS_pl) (k := k) (cu := L_markSpanS_cu k) (tys := [[0], [39]]) (L_markSpanS_ck k) ctx mixed Go.Proofs.Try.func52 (by kernel_rfl) (by kernel_rfl) (by kernel_rfl) (by kernel_rfl) (cutOK_of (l := [(L_markSpanS_b0_cut k, sub (bodyOf Go.Proofs.Try.f52) [1, 0, 1])]) (by kernel_rfl) ⟨L_markSpanS_b0_ok k, trivial⟩) fun x n R h => by
    simp only [L_markSpanS_f, L_markSpanS, optK_bind, optK_bif, optK_pure, optK_none, optK_oc, optK_guardT, optK_map] at h
    refine hold_of h ?_
    kernel_rfl
def L_markSpanS_en (k : Nat) : EntryW D := entW (.c (.kl 39)) (L_markSpanS_f k)
theorem L_markSpanS_eo (k : Nat) : EntryWOK X 52 (L_markSpanS_en k) := (L_markSpanS_ok k).en rfl
def L_heldSpanS_pl : Plan := ⟨[(0, [(0, some 39), (1, none)]), (1, [(0, some 39), (1, none), (5, none)]), (2, [(0, some 39), (1, none), (5, none), (9, none)]), (3, [(0, some 39), (1, none), (5, none)]), (4, [(0, some 39), (1, none), (5, none), (18, none)]), (5, [(4, none)]), (6, [(0, some 39), (1, none), (5, none)]), (7, [(0, some 39), (1, none), (5, none), (27, none)]), (8, [(4, none)]), (9, [(0, some 39), (1, none), (5, none)]), (10, [(4, none)])],
  [(0, [(1, none)]), (1, [(0, some 39), (1, none), (5, none)])],
  [(9, ([(0, some 39), (1, none), (5, none)], [(1, none)])), (18, ([], [(0, some 39), (1, none), (5, none)])), (27, ([], [(0, some 39), (1, none), (5, none)]))]⟩
def L_heldSpanS_cl (k : Nat) : Calls' D := ⟨[], []⟩
theorem L_heldSpanS_ck (k : Nat) : CallsOK X (L_heldSpanS_cl k) := .nil cod
def L_heldSpanS_b0_L (x : (List ISpan) × Int × Int × Unit) (o : Oc (Int) (Int)) (Q : Ex → VSt D → Prop) (R : VR D → Prop) : Prop := ocP o (fun v0 => Q .normal (mkSt ⟨[(1, .hole)], []⟩ [.int .i64 v0])) (fun w0 => R (.p (.c (.int .i64 w0))))
def L_heldSpanS_b0_cut (k : Nat) : Cut D := cutS ⟨[(0, .hole), (1, .hole), (5, .hole)], []⟩ [.kl 39, .ki .i64, .ki .i64] (fun (x : (List ISpan) × Int × Int × Unit) => L_heldSpanS_b0 k k x.1 x.2.1 x.2.2.1) L_heldSpanS_b0_L
def L_heldSpanS_b0_cu (k : Nat) : Cuts D := ⟨[], []⟩
theorem L_heldSpanS_b0_ok (k : Nat) : CutFor X L_heldSpanS_pl k Go.Proofs.Try.f53.results.toList (L_heldSpanS_b0_cut k) (sub (bodyOf Go.Proofs.Try.f53) [1, 0, 1]) :=
  loopCut_s (X := X) (sg := [.kl 39, .ki .i64, .ki .i64]) (cu := L_heldSpanS_b0_cu k) (cl := L_heldSpanS_cl k) (tys := [[0]]) (id := 0) (c := sub (bodyOf Go.Proofs.Try.f53) [1, 0, 1, 0, 0]) (f := fun n => fun (x : (List ISpan) × Int × Int × Unit) => L_heldSpanS_b0 k n x.1 x.2.1 x.2.2.1) (L_heldSpanS_ck k) (cutOK_of (l := []) (by kernel_rfl) trivial) (fun _ => rfl) (fun n x Q R h => by
    simp only [L_heldSpanS_b0, optK_bind, optK_bif, optK_pure, optK_none, optK_oc, optK_guardT, optK_map] at h
    refine hold_of h ?_
    kernel_rfl) (by kernel_rfl)
def L_heldSpanS_cu (k : Nat) : Cuts D := ⟨[(0, some (L_heldSpanS_b0_cut k))], []⟩
def L_heldSpanS_ar : List Ar := [.c (.kl 39), .c (.ki .i64)]
def L_heldSpanS_f (k : Nat) (x : TupA D L_heldSpanS_ar) : Option (Int) := L_heldSpanS k x.1 x.2.1
def L_heldSpanS_vr (r : Int) : VR D := .p (.c (.int .i64 r))
theorem L_heldSpanS_ok (k : Nat) : Does P X 53 L_heldSpanS_ar (L_heldSpanS_f k) L_heldSpanS_vr :=
  does_of (body := bodyOf Go.Proofs.Try.f53) (pl := L_heldSpanS_pl) (k := k) (cu := L_heldSpanS_cu k) (tys := [[0]]) (L_heldSpanS_ck k) ctx mixed Go.Proofs.Try.func53 (by kernel_rfl) (by kernel_rfl) (cutOK_of (l := [(L_heldSpanS_b0_cut k, sub (bodyOf Go.Proofs.Try.f53) [1, 0, 1])]) (by kernel_rfl) ⟨L_heldSpanS_b0_ok k, trivial⟩) fun x R h => by
    simp only [L_heldSpanS_f, L_heldSpanS, optK_bind, optK_bif, optK_pure, optK_none, optK_oc, optK_guardT, optK_map] at h
    refine hold_of h ?_
    kernel_rfl
def L_heldSpanS_en (k : Nat) : Entry D := entS L_heldSpanS_ar (L_heldSpanS_f k) L_heldSpanS_vr
theorem L_heldSpanS_eo (k : Nat) : EntryOK X 53 (L_heldSpanS_en k) := (L_heldSpanS_ok k).en rfl
def L_FnExactMissingSpans_pl : Plan := ⟨[(0, [(0, some 34), (3, none)]), (1, [(0, some 34), (3, none), (5, none)]), (2, [(0, some 34), (3, none), (5, none)]), (3, [(0, some 34), (3, none), (17, none)]), (4, [(4, none)]), (5, [(0, some 34), (3, none), (6, some 39)]), (6, [(0, some 34), (3, none), (6, some 39), (7, some 39)]), (7, [(0, some 34), (3, none), (6, some 39), (7, some 39), (8, some 39)]), (8, [(0, some 34), (3, none), (6, some 39), (7, some 39), (8, some 39), (32, none)]), (9, [(4, none)]), (10, [(0, some 34), (3, none), (6, some 39), (7, some 39), (8, some 39), (37, none)]), (11, [(4, none)]), (12, [(0, some 34), (3, none), (6, some 39), (7, some 39), (8, some 39), (9, none)]), (13, [(0, some 34), (3, none), (6, some 39), (8, some 39), (9, none)]), (14, [(0, some 34), (3, none), (6, some 39), (8, some 39), (48, none)]), (15, [(4, none)]), (16, [(0, some 34), (3, none), (6, some 39), (8, some 39), (10, none)]), (17, [(0, some 34), (3, none), (6, some 39), (8, some 39), (10, none)]), (18, [(0, some 34), (3, none), (6, some 39), (8, some 39), (10, none), (11, none)]), (19, [(0, some 34), (3, none), (6, some 39), (8, some 39), (10, none), (11, none)]), (20, [(0, some 34), (3, none), (6, some 39), (8, some 39), (10, none), (11, none), (56, none)]), (21, [(4, none)]), (22, [(0, some 34), (3, none), (6, some 39), (8, some 39), (10, none), (59, none)]), (23, [(4, none)]), (24, [(6, some 39), (8, some 39), (10, none), (12, some 39)]), (25, [(8, some 39), (10, none), (68, none)]), (26, [(4, none)]), (27, [(8, some 39), (10, none), (11, none)]), (28, [(10, none), (11, none)]), (29, [(10, none), (11, none), (73, none)]), (30, [(4, none)]), (31, [(76, none)]), (32, [(4, none)]), (33, [(4, none)])],
  [],
  [(17, ([], [(0, some 34), (3, none)])), (32, ([], [(0, some 34), (3, none), (6, some 39), (7, some 39), (8, some 39)])), (37, ([], [(0, some 34), (3, none), (6, some 39), (7, some 39), (8, some 39)])), (48, ([], [(0, some 34), (3, none), (6, some 39), (8, some 39)])), (56, ([], [(0, some 34), (3, none), (6, some 39), (8, some 39), (10, none), (11, none)])), (59, ([], [(0, some 34), (3, none), (6, some 39), (8, some 39), (10, none)])), (68, ([], [(8, some 39), (10, none)])), (73, ([], [(10, none), (11, none)])), (76, ([], []))]⟩
def L_FnExactMissingSpans_cl (k : Nat) : Calls' D := ⟨[(23, L_szSpanS_en k), (25, L_toSpanS_en k), (26, L_toSpan_en k), (50, S_MissingSpans_en k), (51, I_MissingSpans_en k), (28, L_eqSpanS_en k), (53, L_heldSpanS_en k)], [(52, L_markSpanS_en k)]⟩
theorem L_FnExactMissingSpans_ck (k : Nat) : CallsOK X (L_FnExactMissingSpans_cl k) := .cons (L_szSpanS_eo k) (.cons (L_toSpanS_eo k) (.cons (L_toSpan_eo k) (.cons (S_MissingSpans_eo k) (.cons (I_MissingSpans_eo k) (.cons (L_eqSpanS_eo k) (.cons (L_heldSpanS_eo k) (.consW (L_markSpanS_eo k) (.nil cod))))))))
def L_FnExactMissingSpans_cu (k : Nat) : Cuts D := ⟨[], []⟩
def L_FnExactMissingSpans_ar : List Ar := [.c (.kl 34), .a [.ki .i64, .ki .i64]]
def L_FnExactMissingSpans_f (k : Nat) (x : TupA D L_FnExactMissingSpans_ar) : Option (Bool) := L_FnExactMissingSpans k x.1 (⟨x.2.1.1, x.2.1.2.1⟩ : LSpan)
def L_FnExactMissingSpans_vr (r : Bool) : VR D := .p (.c (.bool r))
theorem L_FnExactMissingSpans_ok (k : Nat) : Does P X 13 L_FnExactMissingSpans_ar (L_FnExactMissingSpans_f k) L_FnExactMissingSpans_vr :=
  does_of (body := bodyOf Go.Proofs.Try.f13) (pl := L_FnExactMissingSpans_pl) (k := k) (cu := L_FnExactMissingSpans_cu k) (tys := [[0]]) (L_FnExactMissingSpans_ck k) ctx mixed Go.Proofs.Try.func13 (by kernel_rfl) (by kernel_rfl) (cutOK_of (l := []) (by kernel_rfl) trivial) fun x R h => by
    simp only [L_FnExactMissingSpans_f, L_FnExactMissingSpans, optK_bind, optK_bif, optK_pure, optK_none, optK_oc, optK_guardT, optK_map] at h
    refine hold_of h ?_
    kernel_rfl
def L_FnExactMissingSpans_en (k : Nat) : Entry D := entS L_FnExactMissingSpans_ar (L_FnExactMissingSpans_f k) L_FnExactMissingSpans_vr
theorem L_FnExactMissingSpans_eo (k : Nat) : EntryOK X 13 (L_FnExactMissingSpans_en k) := (L_FnExactMissingSpans_ok k).en rfl

end
end Go.Ytilbenelefdihaa
