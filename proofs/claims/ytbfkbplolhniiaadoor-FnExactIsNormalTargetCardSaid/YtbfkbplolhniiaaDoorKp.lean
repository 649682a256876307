/- The machine computes the functions. Nothing is claimed here. -/
import Derived.Test.YtbfkbplolhniiaaDoorKf
import Derived.Test.YtbfkbplolhniiaaDoorShelf
set_option linter.unusedVariables false
set_option linter.unusedSimpArgs false
set_option maxRecDepth 100000
namespace Go.YtbfkbplolhniiaaDoor
open Go Go.RowKit Go.Pv
noncomputable section

def S_SplitTarget_pl : Plan := ⟨[(0, [(0, none)]), (1, [(0, none), (5, none)]), (2, [(0, none), (5, none), (9, none)]), (3, [(0, none), (5, none)]), (4, [(0, none), (5, none), (15, none)]), (5, [(2, none), (3, none), (4, none)]), (6, [(2, none), (3, none), (4, none)])],
  [(0, [(0, none)]), (1, [(0, none), (5, none)])],
  [(9, ([(0, none), (5, none)], [(0, none)])), (15, ([(0, none), (5, none)], [(0, none), (5, none)]))]⟩
def S_SplitTarget_cl (k : Nat) : Calls' D := ⟨[], [], [], [], []⟩
theorem S_SplitTarget_ck (k : Nat) : CallsOK X (S_SplitTarget_cl k) := .nil cod
def S_SplitTarget_b0_L (x : (List UInt8) × Int × Unit) (o : Oc (Unit) ((List UInt8) × (List UInt8) × Bool)) (Q : Ex → VSt D → Prop) (R : VR D → Prop) : Prop := ocP o (fun v0 => Q .normal (mkSt ⟨[(0, .hole)], []⟩ [.str x.1])) (fun w0 => R (.tup [.c (.str w0.1), .c (.str w0.2.1), .c (.bool w0.2.2)]))
def S_SplitTarget_b0_cut (k : Nat) : Cut D := cutS ⟨[(0, .hole), (5, .hole)], []⟩ [.ks, .ki .i64] (fun (x : (List UInt8) × Int × Unit) => S_SplitTarget_b0 k k x.1 x.2.1) S_SplitTarget_b0_L
def S_SplitTarget_b0_cu (k : Nat) : Cuts D := ⟨[], []⟩
theorem S_SplitTarget_b0_ok (k : Nat) : CutFor X S_SplitTarget_pl k Go.Proofs.Tryd.f21.results.toList (S_SplitTarget_b0_cut k) (sub (bodyOf Go.Proofs.Tryd.f21) [1, 0, 1]) :=
  loopCut_s (X := X) (sg := [.ks, .ki .i64]) (cu := S_SplitTarget_b0_cu k) (cl := S_SplitTarget_cl k) (tys := [[0], [0], [0]]) (id := 0) (c := sub (bodyOf Go.Proofs.Tryd.f21) [1, 0, 1, 0, 0]) (f := fun n => fun (x : (List UInt8) × Int × Unit) => S_SplitTarget_b0 k n x.1 x.2.1) (S_SplitTarget_ck k) (cutOK_of (l := []) (by kernel_rfl) trivial) (fun _ => rfl) (fun n x Q R h => by
    simp only [S_SplitTarget_b0, optK_bind, optK_bif, optK_pure, optK_none, optK_oc, optK_guardT, optK_map] at h
    refine hold_of h ?_
    kernel_rfl) (by kernel_rfl)
def S_SplitTarget_cu (k : Nat) : Cuts D := ⟨[(0, some (S_SplitTarget_b0_cut k))], []⟩
def S_SplitTarget_ar : List Ar := [.c (.ks)]
def S_SplitTarget_f (k : Nat) (x : TupA D S_SplitTarget_ar) : Option ((List UInt8) × (List UInt8) × Bool) := S_SplitTarget k x.1
def S_SplitTarget_vr (r : (List UInt8) × (List UInt8) × Bool) : VR D := .tup [.c (.str r.1), .c (.str r.2.1), .c (.bool r.2.2)]
theorem S_SplitTarget_ok (k : Nat) : Does P X 21 S_SplitTarget_ar (S_SplitTarget_f k) S_SplitTarget_vr :=
  does_of (body := bodyOf Go.Proofs.Tryd.f21) (pl := S_SplitTarget_pl) (k := k) (cu := S_SplitTarget_cu k) (tys := [[0], [0], [0]]) (S_SplitTarget_ck k) ctx mixed Go.Proofs.Tryd.func21 (by kernel_rfl) (by kernel_rfl) (cutOK_of (l := [(S_SplitTarget_b0_cut k, sub (bodyOf Go.Proofs.Tryd.f21) [1, 0, 1])]) (by kernel_rfl) ⟨S_SplitTarget_b0_ok k, trivial⟩) fun x R h => by
    simp only [S_SplitTarget_f, S_SplitTarget, optK_bind, optK_bif, optK_pure, optK_none, optK_oc, optK_guardT, optK_map] at h
    refine hold_of h ?_
    kernel_rfl
def S_SplitTarget_en (k : Nat) : Entry D := entS S_SplitTarget_ar (S_SplitTarget_f k) S_SplitTarget_vr
theorem S_SplitTarget_eo (k : Nat) : EntryOK X 21 (S_SplitTarget_en k) := (S_SplitTarget_ok k).en rfl
def S_l1In_pl : Plan := ⟨[(0, [(0, none), (1, none), (2, none)]), (1, [(6, none)])],
  [],
  []⟩
def S_l1In_cl (k : Nat) : Calls' D := ⟨[], [], [], [], []⟩
theorem S_l1In_ck (k : Nat) : CallsOK X (S_l1In_cl k) := .nil cod
def S_l1In_cu (k : Nat) : Cuts D := ⟨[], []⟩
def S_l1In_ar : List Ar := [.c (.ki .i64), .c (.ki .i64), .c (.ki .i64)]
def S_l1In_f (k : Nat) (x : TupA D S_l1In_ar) : Option (Bool) := S_l1In k x.1 x.2.1 x.2.2.1
def S_l1In_vr (r : Bool) : VR D := .p (.c (.bool r))
theorem S_l1In_ok (k : Nat) : Does P X 65 S_l1In_ar (S_l1In_f k) S_l1In_vr :=
  does_of (body := bodyOf Go.Proofs.Tryd.f65) (pl := S_l1In_pl) (k := k) (cu := S_l1In_cu k) (tys := [[0]]) (S_l1In_ck k) ctx mixed Go.Proofs.Tryd.func65 (by kernel_rfl) (by kernel_rfl) (cutOK_of (l := []) (by kernel_rfl) trivial) fun x R h => by
    simp only [S_l1In_f, S_l1In, optK_bind, optK_bif, optK_pure, optK_none, optK_oc, optK_guardT, optK_map] at h
    refine hold_of h ?_
    kernel_rfl
def S_l1In_en (k : Nat) : Entry D := entS S_l1In_ar (S_l1In_f k) S_l1In_vr
theorem S_l1In_eo (k : Nat) : EntryOK X 65 (S_l1In_en k) := (S_l1In_ok k).en rfl
def S_l12Hex_pl : Plan := ⟨[(0, [(0, none)]), (1, [(0, none), (3, none)]), (2, [(2, none)]), (3, [(0, none), (10, none)]), (4, [(2, none)]), (5, [(0, none), (18, none)]), (6, [(2, none)]), (7, [(2, none)])],
  [(0, [])],
  [(3, ([(0, none)], [(0, none)])), (10, ([(0, none)], [(0, none)])), (18, ([(0, none)], []))]⟩
def S_l12Hex_cl (k : Nat) : Calls' D := ⟨[(65, S_l1In_en k)], [], [], [], []⟩
theorem S_l12Hex_ck (k : Nat) : CallsOK X (S_l12Hex_cl k) := .cons (S_l1In_eo k) (.nil cod)
def S_l12Hex_cu (k : Nat) : Cuts D := ⟨[], []⟩
def S_l12Hex_ar : List Ar := [.c (.ki .u8)]
def S_l12Hex_f (k : Nat) (x : TupA D S_l12Hex_ar) : Option (Int) := S_l12Hex k x.1
def S_l12Hex_vr (r : Int) : VR D := .p (.c (.int .i64 r))
theorem S_l12Hex_ok (k : Nat) : Does P X 48 S_l12Hex_ar (S_l12Hex_f k) S_l12Hex_vr :=
  does_of (body := bodyOf Go.Proofs.Tryd.f48) (pl := S_l12Hex_pl) (k := k) (cu := S_l12Hex_cu k) (tys := [[0]]) (S_l12Hex_ck k) ctx mixed Go.Proofs.Tryd.func48 (by kernel_rfl) (by kernel_rfl) (cutOK_of (l := []) (by kernel_rfl) trivial) fun x R h => by
    simp only [S_l12Hex_f, S_l12Hex, optK_bind, optK_bif, optK_pure, optK_none, optK_oc, optK_guardT, optK_map] at h
    refine hold_of h ?_
    kernel_rfl
def S_l12Hex_en (k : Nat) : Entry D := entS S_l12Hex_ar (S_l12Hex_f k) S_l12Hex_vr
theorem S_l12Hex_eo (k : Nat) : EntryOK X 48 (S_l12Hex_en k) := (S_l12Hex_ok k).en rfl
def S_l4Letter_pl : Plan := ⟨[(0, [(0, none)]), (1, [(2, none)])],
  [],
  []⟩
def S_l4Letter_cl (k : Nat) : Calls' D := ⟨[(65, S_l1In_en k)], [], [], [], []⟩
theorem S_l4Letter_ck (k : Nat) : CallsOK X (S_l4Letter_cl k) := .cons (S_l1In_eo k) (.nil cod)
def S_l4Letter_cu (k : Nat) : Cuts D := ⟨[], []⟩
def S_l4Letter_ar : List Ar := [.c (.ki .u8)]
def S_l4Letter_f (k : Nat) (x : TupA D S_l4Letter_ar) : Option (Bool) := S_l4Letter k x.1
def S_l4Letter_vr (r : Bool) : VR D := .p (.c (.bool r))
theorem S_l4Letter_ok (k : Nat) : Does P X 49 S_l4Letter_ar (S_l4Letter_f k) S_l4Letter_vr :=
  does_of (body := bodyOf Go.Proofs.Tryd.f49) (pl := S_l4Letter_pl) (k := k) (cu := S_l4Letter_cu k) (tys := [[0]]) (S_l4Letter_ck k) ctx mixed Go.Proofs.Tryd.func49 (by kernel_rfl) (by kernel_rfl) (cutOK_of (l := []) (by kernel_rfl) trivial) fun x R h => by
    simp only [S_l4Letter_f, S_l4Letter, optK_bind, optK_bif, optK_pure, optK_none, optK_oc, optK_guardT, optK_map] at h
    refine hold_of h ?_
    kernel_rfl
def S_l4Letter_en (k : Nat) : Entry D := entS S_l4Letter_ar (S_l4Letter_f k) S_l4Letter_vr
theorem S_l4Letter_eo (k : Nat) : EntryOK X 49 (S_l4Letter_en k) := (S_l4Letter_ok k).en rfl
def S_l12Plain_pl : Plan := ⟨[(0, [(0, none)]), (1, [(0, none), (4, some 5)]), (2, [(0, none), (4, some 5), (5, none)]), (3, [(0, none), (4, some 5), (5, none), (11, none)]), (4, [(0, none), (4, some 5), (5, none)]), (5, [(0, none), (4, some 5), (5, none), (17, none)]), (6, [(0, none), (4, some 5), (5, none)]), (7, [(0, none), (4, some 5), (5, none), (44, none)]), (8, [(2, none), (3, none)]), (9, [(0, none), (4, some 5), (5, none), (6, none)]), (10, [(0, none), (4, some 5), (5, none), (6, none), (75, none)]), (11, [(0, none), (4, some 5), (5, none)]), (12, [(0, none), (4, some 5), (5, none)]), (13, [(0, none), (4, some 5), (5, none)]), (14, [(2, none), (3, none)])],
  [(0, [(4, some 5)]), (1, [(0, none), (4, some 5), (5, none)])],
  [(11, ([(0, none), (4, some 5), (5, none)], [(4, some 5)])), (17, ([(0, none), (4, some 5), (5, none)], [(0, none), (4, some 5), (5, none)])), (44, ([], [(0, none), (4, some 5), (5, none)])), (75, ([(0, none), (4, some 5), (5, none), (6, none)], [(0, none), (4, some 5), (5, none), (6, none)]))]⟩
def S_l12Plain_cl (k : Nat) : Calls' D := ⟨[(48, S_l12Hex_en k), (49, S_l4Letter_en k)], [], [], [], []⟩
theorem S_l12Plain_ck (k : Nat) : CallsOK X (S_l12Plain_cl k) := .cons (S_l12Hex_eo k) (.cons (S_l4Letter_eo k) (.nil cod))
def S_l12Plain_c75_L (x : (List UInt8) × Int × Int × Bool × (List Int) × Unit) (o : (List Int)) (Q : Ex → VSt D → Prop) (R : VR D → Prop) : Prop := Q .normal (mkSt ⟨[(0, .hole), (4, .ref 500004), (5, .hole)], [(500004, .row)]⟩ [.str x.1, .int .i64 x.2.1, .sl 5 o])
def S_l12Plain_c75_cut (k : Nat) : Cut D := cutS ⟨[(0, .hole), (4, .ref 500004), (5, .hole), (6, .hole), (75, .hole)], [(500004, .row)]⟩ [.ks, .ki .i64, .ki .u8, .kb, .kl 5] (fun (x : (List UInt8) × Int × Int × Bool × (List Int) × Unit) => S_l12Plain_c75 k x.1 x.2.1 x.2.2.1 x.2.2.2.1 x.2.2.2.2.1) S_l12Plain_c75_L
def S_l12Plain_c75_cu (k : Nat) : Cuts D := ⟨[], []⟩
theorem S_l12Plain_c75_ok (k : Nat) : CutFor X S_l12Plain_pl k Go.Proofs.Tryd.f22.results.toList (S_l12Plain_c75_cut k) (sub (bodyOf Go.Proofs.Tryd.f22) [1, 1, 0, 1, 0, 0, 1, 0, 0, 1, 1, 1, 0, 1]) :=
  joinCut_s (X := X) (sg := [.ks, .ki .i64, .ki .u8, .kb, .kl 5]) (cu := S_l12Plain_c75_cu k) (cl := S_l12Plain_cl k) (tys := [[0], [0]]) (S_l12Plain_ck k) (cutOK_of (l := []) (by kernel_rfl) trivial) fun x Q R h => by
    simp only [S_l12Plain_c75, optK_bind, optK_bif, optK_pure, optK_none, optK_oc, optK_guardT, optK_map] at h
    refine hold_of h ?_
    kernel_rfl
def S_l12Plain_b1_L (x : (List UInt8) × Int × (List Int) × Unit) (o : Oc (Int × (List Int)) ((List UInt8) × Bool)) (Q : Ex → VSt D → Prop) (R : VR D → Prop) : Prop := ocP o (fun v0 => Q .normal (mkSt ⟨[(0, .hole), (4, .ref 500004), (5, .hole)], [(500004, .row)]⟩ [.str x.1, .int .i64 v0.1, .sl 5 v0.2])) (fun w0 => R (.tup [.c (.str w0.1), .c (.bool w0.2)]))
def S_l12Plain_b1_cut (k : Nat) : Cut D := cutS ⟨[(0, .hole), (4, .ref 500004), (5, .hole)], [(500004, .row)]⟩ [.ks, .ki .i64, .kl 5] (fun (x : (List UInt8) × Int × (List Int) × Unit) => S_l12Plain_b1 k x.1 x.2.1 x.2.2.1) S_l12Plain_b1_L
def S_l12Plain_b1_cu (k : Nat) : Cuts D := ⟨[], [(75, some (S_l12Plain_c75_cut k))]⟩
theorem S_l12Plain_b1_ok (k : Nat) : CutFor X S_l12Plain_pl k Go.Proofs.Tryd.f22.results.toList (S_l12Plain_b1_cut k) (sub (bodyOf Go.Proofs.Tryd.f22) [1, 1, 0, 1, 0, 0, 1, 0]) :=
  joinCut_s (X := X) (sg := [.ks, .ki .i64, .kl 5]) (cu := S_l12Plain_b1_cu k) (cl := S_l12Plain_cl k) (tys := [[0], [0]]) (S_l12Plain_ck k) (cutOK_of (l := [(S_l12Plain_c75_cut k, sub (bodyOf Go.Proofs.Tryd.f22) [1, 1, 0, 1, 0, 0, 1, 0, 0, 1, 1, 1, 0, 1])]) (by kernel_rfl) ⟨S_l12Plain_c75_ok k, trivial⟩) fun x Q R h => by
    simp only [S_l12Plain_b1, optK_bind, optK_bif, optK_pure, optK_none, optK_oc, optK_guardT, optK_map] at h
    refine hold_of h ?_
    kernel_rfl
def S_l12Plain_b0_L (x : (List UInt8) × Int × (List Int) × Unit) (o : Oc ((List Int)) ((List UInt8) × Bool)) (Q : Ex → VSt D → Prop) (R : VR D → Prop) : Prop := ocP o (fun v0 => Q .normal (mkSt ⟨[(4, .ref 500004)], [(500004, .row)]⟩ [.sl 5 v0])) (fun w0 => R (.tup [.c (.str w0.1), .c (.bool w0.2)]))
def S_l12Plain_b0_cut (k : Nat) : Cut D := cutS ⟨[(0, .hole), (4, .ref 500004), (5, .hole)], [(500004, .row)]⟩ [.ks, .ki .i64, .kl 5] (fun (x : (List UInt8) × Int × (List Int) × Unit) => S_l12Plain_b0 k k x.1 x.2.1 x.2.2.1) S_l12Plain_b0_L
def S_l12Plain_b0_cu (k : Nat) : Cuts D := ⟨[(1, some (S_l12Plain_b1_cut k))], []⟩
theorem S_l12Plain_b0_ok (k : Nat) : CutFor X S_l12Plain_pl k Go.Proofs.Tryd.f22.results.toList (S_l12Plain_b0_cut k) (sub (bodyOf Go.Proofs.Tryd.f22) [1, 1, 0, 1]) :=
  loopCut_s (X := X) (sg := [.ks, .ki .i64, .kl 5]) (cu := S_l12Plain_b0_cu k) (cl := S_l12Plain_cl k) (tys := [[0], [0]]) (id := 0) (c := sub (bodyOf Go.Proofs.Tryd.f22) [1, 1, 0, 1, 0, 0]) (f := fun n => fun (x : (List UInt8) × Int × (List Int) × Unit) => S_l12Plain_b0 k n x.1 x.2.1 x.2.2.1) (S_l12Plain_ck k) (cutOK_of (l := [(S_l12Plain_b1_cut k, sub (bodyOf Go.Proofs.Tryd.f22) [1, 1, 0, 1, 0, 0, 1, 0])]) (by kernel_rfl) ⟨S_l12Plain_b1_ok k, trivial⟩) (fun _ => rfl) (fun n x Q R h => by
    simp only [S_l12Plain_b0, optK_bind, optK_bif, optK_pure, optK_none, optK_oc, optK_guardT, optK_map] at h
    refine hold_of h ?_
    kernel_rfl) (by kernel_rfl)
def S_l12Plain_cu (k : Nat) : Cuts D := ⟨[(0, some (S_l12Plain_b0_cut k))], []⟩
def S_l12Plain_ar : List Ar := [.c (.ks)]
def S_l12Plain_f (k : Nat) (x : TupA D S_l12Plain_ar) : Option ((List UInt8) × Bool) := S_l12Plain k x.1
def S_l12Plain_vr (r : (List UInt8) × Bool) : VR D := .tup [.c (.str r.1), .c (.bool r.2)]
theorem S_l12Plain_ok (k : Nat) : Does P X 22 S_l12Plain_ar (S_l12Plain_f k) S_l12Plain_vr :=
  does_of (body := bodyOf Go.Proofs.Tryd.f22) (pl := S_l12Plain_pl) (k := k) (cu := S_l12Plain_cu k) (tys := [[0], [0]]) (S_l12Plain_ck k) ctx mixed Go.Proofs.Tryd.func22 (by kernel_rfl) (by kernel_rfl) (cutOK_of (l := [(S_l12Plain_b0_cut k, sub (bodyOf Go.Proofs.Tryd.f22) [1, 1, 0, 1])]) (by kernel_rfl) ⟨S_l12Plain_b0_ok k, trivial⟩) fun x R h => by
    simp only [S_l12Plain_f, S_l12Plain, optK_bind, optK_bif, optK_pure, optK_none, optK_oc, optK_guardT, optK_map] at h
    refine hold_of h ?_
    kernel_rfl
def S_l12Plain_en (k : Nat) : Entry D := entS S_l12Plain_ar (S_l12Plain_f k) S_l12Plain_vr
theorem S_l12Plain_eo (k : Nat) : EntryOK X 22 (S_l12Plain_en k) := (S_l12Plain_ok k).en rfl
def S_l12Split_pl : Plan := ⟨[(0, [(0, none), (1, none)]), (1, [(0, none), (1, none), (5, some 9)]), (2, [(0, none), (1, none), (5, some 9), (6, none)]), (3, [(0, none), (1, none), (5, some 9), (6, none), (7, none)]), (4, [(0, none), (1, none), (5, some 9), (6, none), (7, none), (12, none)]), (5, [(0, none), (1, none), (5, some 9), (6, none), (7, none)]), (6, [(0, none), (1, none), (5, some 9), (6, none), (7, none), (19, none)]), (7, [(0, none), (1, none), (5, some 9), (7, none)]), (8, [(0, none), (1, none), (5, some 9), (6, none), (7, none)]), (9, [(4, some 9)])],
  [(0, [(0, none), (5, some 9), (6, none)]), (1, [(0, none), (1, none), (5, some 9), (6, none), (7, none)])],
  [(12, ([(0, none), (1, none), (5, some 9), (6, none), (7, none)], [(0, none), (5, some 9), (6, none)])), (19, ([(0, none), (1, none), (5, some 9), (6, none), (7, none)], [(0, none), (1, none), (5, some 9), (6, none), (7, none)]))]⟩
def S_l12Split_cl (k : Nat) : Calls' D := ⟨[], [], [], [], []⟩
theorem S_l12Split_ck (k : Nat) : CallsOK X (S_l12Split_cl k) := .nil cod
def S_l12Split_c19_L (x : (List UInt8) × Int × Int × Int × Bool × (List (List UInt8)) × Unit) (o : Int × (List (List UInt8))) (Q : Ex → VSt D → Prop) (R : VR D → Prop) : Prop := Q .normal (mkSt ⟨[(0, .hole), (1, .hole), (5, .ref 500005), (6, .hole), (7, .hole)], [(500005, .row)]⟩ [.str x.1, .int .u8 x.2.1, .int .i64 o.1, .int .i64 x.2.2.2.1, .sl 9 o.2])
def S_l12Split_c19_cut (k : Nat) : Cut D := cutS ⟨[(0, .hole), (1, .hole), (5, .ref 500005), (6, .hole), (7, .hole), (19, .hole)], [(500005, .row)]⟩ [.ks, .ki .u8, .ki .i64, .ki .i64, .kb, .kl 9] (fun (x : (List UInt8) × Int × Int × Int × Bool × (List (List UInt8)) × Unit) => S_l12Split_c19 k x.1 x.2.1 x.2.2.1 x.2.2.2.1 x.2.2.2.2.1 x.2.2.2.2.2.1) S_l12Split_c19_L
def S_l12Split_c19_cu (k : Nat) : Cuts D := ⟨[], []⟩
theorem S_l12Split_c19_ok (k : Nat) : CutFor X S_l12Split_pl k Go.Proofs.Tryd.f50.results.toList (S_l12Split_c19_cut k) (sub (bodyOf Go.Proofs.Tryd.f50) [1, 1, 1, 0, 1, 0, 0, 1, 0, 0, 1]) :=
  joinCut_s (X := X) (sg := [.ks, .ki .u8, .ki .i64, .ki .i64, .kb, .kl 9]) (cu := S_l12Split_c19_cu k) (cl := S_l12Split_cl k) (tys := [[9]]) (S_l12Split_ck k) (cutOK_of (l := []) (by kernel_rfl) trivial) fun x Q R h => by
    simp only [S_l12Split_c19, optK_bind, optK_bif, optK_pure, optK_none, optK_oc, optK_guardT, optK_map] at h
    refine hold_of h ?_
    kernel_rfl
def S_l12Split_b1_L (x : (List UInt8) × Int × Int × Int × (List (List UInt8)) × Unit) (o : Int × (List (List UInt8))) (Q : Ex → VSt D → Prop) (R : VR D → Prop) : Prop := Q .normal (mkSt ⟨[(0, .hole), (1, .hole), (5, .ref 500005), (6, .hole), (7, .hole)], [(500005, .row)]⟩ [.str x.1, .int .u8 x.2.1, .int .i64 o.1, .int .i64 x.2.2.2.1, .sl 9 o.2])
def S_l12Split_b1_cut (k : Nat) : Cut D := cutS ⟨[(0, .hole), (1, .hole), (5, .ref 500005), (6, .hole), (7, .hole)], [(500005, .row)]⟩ [.ks, .ki .u8, .ki .i64, .ki .i64, .kl 9] (fun (x : (List UInt8) × Int × Int × Int × (List (List UInt8)) × Unit) => S_l12Split_b1 k x.1 x.2.1 x.2.2.1 x.2.2.2.1 x.2.2.2.2.1) S_l12Split_b1_L
def S_l12Split_b1_cu (k : Nat) : Cuts D := ⟨[], [(19, some (S_l12Split_c19_cut k))]⟩
theorem S_l12Split_b1_ok (k : Nat) : CutFor X S_l12Split_pl k Go.Proofs.Tryd.f50.results.toList (S_l12Split_b1_cut k) (sub (bodyOf Go.Proofs.Tryd.f50) [1, 1, 1, 0, 1, 0, 0, 1, 0]) :=
  joinCut_s (X := X) (sg := [.ks, .ki .u8, .ki .i64, .ki .i64, .kl 9]) (cu := S_l12Split_b1_cu k) (cl := S_l12Split_cl k) (tys := [[9]]) (S_l12Split_ck k) (cutOK_of (l := [(S_l12Split_c19_cut k, sub (bodyOf Go.Proofs.Tryd.f50) [1, 1, 1, 0, 1, 0, 0, 1, 0, 0, 1])]) (by kernel_rfl) ⟨S_l12Split_c19_ok k, trivial⟩) fun x Q R h => by
    simp only [S_l12Split_b1, optK_bind, optK_bif, optK_pure, optK_none, optK_oc, optK_guardT, optK_map] at h
    refine hold_of h ?_
    kernel_rfl
def S_l12Split_b0_L (x : (List UInt8) × Int × Int × Int × (List (List UInt8)) × Unit) (o : Int × (List (List UInt8))) (Q : Ex → VSt D → Prop) (R : VR D → Prop) : Prop := Q .normal (mkSt ⟨[(0, .hole), (5, .ref 500005), (6, .hole)], [(500005, .row)]⟩ [.str x.1, .int .i64 o.1, .sl 9 o.2])
def S_l12Split_b0_cut (k : Nat) : Cut D := cutS ⟨[(0, .hole), (1, .hole), (5, .ref 500005), (6, .hole), (7, .hole)], [(500005, .row)]⟩ [.ks, .ki .u8, .ki .i64, .ki .i64, .kl 9] (fun (x : (List UInt8) × Int × Int × Int × (List (List UInt8)) × Unit) => S_l12Split_b0 k k x.1 x.2.1 x.2.2.1 x.2.2.2.1 x.2.2.2.2.1) S_l12Split_b0_L
def S_l12Split_b0_cu (k : Nat) : Cuts D := ⟨[(1, some (S_l12Split_b1_cut k))], []⟩
theorem S_l12Split_b0_ok (k : Nat) : CutFor X S_l12Split_pl k Go.Proofs.Tryd.f50.results.toList (S_l12Split_b0_cut k) (sub (bodyOf Go.Proofs.Tryd.f50) [1, 1, 1, 0, 1]) :=
  loopCut_s (X := X) (sg := [.ks, .ki .u8, .ki .i64, .ki .i64, .kl 9]) (cu := S_l12Split_b0_cu k) (cl := S_l12Split_cl k) (tys := [[9]]) (id := 0) (c := sub (bodyOf Go.Proofs.Tryd.f50) [1, 1, 1, 0, 1, 0, 0]) (f := fun n => fun (x : (List UInt8) × Int × Int × Int × (List (List UInt8)) × Unit) => S_l12Split_b0 k n x.1 x.2.1 x.2.2.1 x.2.2.2.1 x.2.2.2.2.1) (S_l12Split_ck k) (cutOK_of (l := [(S_l12Split_b1_cut k, sub (bodyOf Go.Proofs.Tryd.f50) [1, 1, 1, 0, 1, 0, 0, 1, 0])]) (by kernel_rfl) ⟨S_l12Split_b1_ok k, trivial⟩) (fun _ => rfl) (fun n x Q R h => by
    simp only [S_l12Split_b0, optK_bind, optK_bif, optK_pure, optK_none, optK_oc, optK_guardT, optK_map] at h
    refine hold_of h ?_
    kernel_rfl) (by kernel_rfl)
def S_l12Split_cu (k : Nat) : Cuts D := ⟨[(0, some (S_l12Split_b0_cut k))], []⟩
def S_l12Split_ar : List Ar := [.c (.ks), .c (.ki .u8)]
def S_l12Split_f (k : Nat) (x : TupA D S_l12Split_ar) : Option ((List (List UInt8))) := S_l12Split k x.1 x.2.1
def S_l12Split_vr (r : (List (List UInt8))) : VR D := .p (.c (.sl 9 r))
theorem S_l12Split_ok (k : Nat) : Does P X 50 S_l12Split_ar (S_l12Split_f k) S_l12Split_vr :=
  does_of (body := bodyOf Go.Proofs.Tryd.f50) (pl := S_l12Split_pl) (k := k) (cu := S_l12Split_cu k) (tys := [[9]]) (S_l12Split_ck k) ctx mixed Go.Proofs.Tryd.func50 (by kernel_rfl) (by kernel_rfl) (cutOK_of (l := [(S_l12Split_b0_cut k, sub (bodyOf Go.Proofs.Tryd.f50) [1, 1, 1, 0, 1])]) (by kernel_rfl) ⟨S_l12Split_b0_ok k, trivial⟩) fun x R h => by
    simp only [S_l12Split_f, S_l12Split, optK_bind, optK_bif, optK_pure, optK_none, optK_oc, optK_guardT, optK_map] at h
    refine hold_of h ?_
    kernel_rfl
def S_l12Split_en (k : Nat) : Entry D := entS S_l12Split_ar (S_l12Split_f k) S_l12Split_vr
theorem S_l12Split_eo (k : Nat) : EntryOK X 50 (S_l12Split_en k) := (S_l12Split_ok k).en rfl
def S_l12Path_pl : Plan := ⟨[(0, [(0, none)]), (1, [(3, some 9)]), (2, [(3, some 9), (4, some 9)]), (3, [(3, some 9), (4, some 9), (5, none)]), (4, [(3, some 9), (4, some 9), (5, none), (16, none)]), (5, [(3, some 9), (4, some 9), (5, none)]), (6, [(3, some 9), (4, some 9), (5, none), (6, none)]), (7, [(3, some 9), (4, some 9), (5, none), (6, none), (24, none)]), (8, [(3, some 9), (4, some 9), (5, none), (6, none)]), (9, [(3, some 9), (4, some 9), (5, none), (6, none), (40, none)]), (10, [(3, some 9), (4, some 9), (5, none)]), (11, [(3, some 9), (4, some 9), (5, none), (6, none)]), (12, [(3, some 9), (4, some 9), (5, none), (60, none)]), (13, [(3, some 9), (4, some 9), (5, none)]), (14, [(4, some 9), (7, none)]), (15, [(4, some 9), (7, none), (8, none)]), (16, [(4, some 9), (7, none), (8, none), (67, none)]), (17, [(4, some 9), (7, none), (8, none)]), (18, [(4, some 9), (7, none), (8, none)]), (19, [(2, none)])],
  [(0, [(4, some 9)]), (1, [(3, some 9), (4, some 9), (5, none)]), (2, [(3, some 9), (4, some 9), (5, none), (6, none)]), (3, [(7, none)]), (4, [(4, some 9), (7, none), (8, none)])],
  [(16, ([(3, some 9), (4, some 9), (5, none)], [(4, some 9)])), (24, ([(3, some 9), (4, some 9), (5, none), (6, none)], [(3, some 9), (4, some 9), (5, none), (6, none)])), (40, ([(3, some 9), (4, some 9), (5, none)], [(3, some 9), (4, some 9), (5, none), (6, none)])), (60, ([(3, some 9), (4, some 9), (5, none)], [(3, some 9), (4, some 9), (5, none)])), (67, ([(4, some 9), (7, none), (8, none)], [(7, none)]))]⟩
def S_l12Path_cl (k : Nat) : Calls' D := ⟨[(50, S_l12Split_en k)], [], [], [], []⟩
theorem S_l12Path_ck (k : Nat) : CallsOK X (S_l12Path_cl k) := .cons (S_l12Split_eo k) (.nil cod)
def S_l12Path_c40_L (x : Int × Bool × Bool × (List (List UInt8)) × (List (List UInt8)) × Unit) (o : Bool × (List (List UInt8))) (Q : Ex → VSt D → Prop) (R : VR D → Prop) : Prop := Q .normal (mkSt ⟨[(3, .ref 500003), (4, .ref 500004), (5, .hole), (6, .hole)], [(500003, .row), (500004, .row)]⟩ [.int .i64 x.1, .bool o.1, .sl 9 x.2.2.2.1, .sl 9 o.2])
def S_l12Path_c40_cut (k : Nat) : Cut D := cutS ⟨[(3, .ref 500003), (4, .ref 500004), (5, .hole), (6, .hole), (40, .hole)], [(500003, .row), (500004, .row)]⟩ [.ki .i64, .kb, .kb, .kl 9, .kl 9] (fun (x : Int × Bool × Bool × (List (List UInt8)) × (List (List UInt8)) × Unit) => S_l12Path_c40 k x.1 x.2.1 x.2.2.1 x.2.2.2.1 x.2.2.2.2.1) S_l12Path_c40_L
def S_l12Path_c40_cu (k : Nat) : Cuts D := ⟨[], []⟩
theorem S_l12Path_c40_ok (k : Nat) : CutFor X S_l12Path_pl k Go.Proofs.Tryd.f23.results.toList (S_l12Path_c40_cut k) (sub (bodyOf Go.Proofs.Tryd.f23) [1, 1, 1, 0, 1, 0, 0, 1, 0, 0, 1, 0, 0, 1, 1, 1]) :=
  joinCut_s (X := X) (sg := [.ki .i64, .kb, .kb, .kl 9, .kl 9]) (cu := S_l12Path_c40_cu k) (cl := S_l12Path_cl k) (tys := [[0]]) (S_l12Path_ck k) (cutOK_of (l := []) (by kernel_rfl) trivial) fun x Q R h => by
    simp only [S_l12Path_c40, optK_bind, optK_bif, optK_pure, optK_none, optK_oc, optK_guardT, optK_map] at h
    refine hold_of h ?_
    kernel_rfl
def S_l12Path_c24_L (x : Int × Bool × Bool × (List (List UInt8)) × (List (List UInt8)) × Unit) (o : Bool × (List (List UInt8))) (Q : Ex → VSt D → Prop) (R : VR D → Prop) : Prop := Q .normal (mkSt ⟨[(3, .ref 500003), (4, .ref 500004), (5, .hole), (6, .hole)], [(500003, .row), (500004, .row)]⟩ [.int .i64 x.1, .bool o.1, .sl 9 x.2.2.2.1, .sl 9 o.2])
def S_l12Path_c24_cut (k : Nat) : Cut D := cutS ⟨[(3, .ref 500003), (4, .ref 500004), (5, .hole), (6, .hole), (24, .hole)], [(500003, .row), (500004, .row)]⟩ [.ki .i64, .kb, .kb, .kl 9, .kl 9] (fun (x : Int × Bool × Bool × (List (List UInt8)) × (List (List UInt8)) × Unit) => S_l12Path_c24 k x.1 x.2.1 x.2.2.1 x.2.2.2.1 x.2.2.2.2.1) S_l12Path_c24_L
def S_l12Path_c24_cu (k : Nat) : Cuts D := ⟨[], [(40, some (S_l12Path_c40_cut k))]⟩
theorem S_l12Path_c24_ok (k : Nat) : CutFor X S_l12Path_pl k Go.Proofs.Tryd.f23.results.toList (S_l12Path_c24_cut k) (sub (bodyOf Go.Proofs.Tryd.f23) [1, 1, 1, 0, 1, 0, 0, 1, 0, 0, 1, 0, 0, 1]) :=
  joinCut_s (X := X) (sg := [.ki .i64, .kb, .kb, .kl 9, .kl 9]) (cu := S_l12Path_c24_cu k) (cl := S_l12Path_cl k) (tys := [[0]]) (S_l12Path_ck k) (cutOK_of (l := [(S_l12Path_c40_cut k, sub (bodyOf Go.Proofs.Tryd.f23) [1, 1, 1, 0, 1, 0, 0, 1, 0, 0, 1, 0, 0, 1, 1, 1])]) (by kernel_rfl) ⟨S_l12Path_c40_ok k, trivial⟩) fun x Q R h => by
    simp only [S_l12Path_c24, optK_bind, optK_bif, optK_pure, optK_none, optK_oc, optK_guardT, optK_map] at h
    refine hold_of h ?_
    kernel_rfl
def S_l12Path_b2_L (x : Int × Bool × (List (List UInt8)) × (List (List UInt8)) × Unit) (o : Bool × (List (List UInt8))) (Q : Ex → VSt D → Prop) (R : VR D → Prop) : Prop := Q .normal (mkSt ⟨[(3, .ref 500003), (4, .ref 500004), (5, .hole), (6, .hole)], [(500003, .row), (500004, .row)]⟩ [.int .i64 x.1, .bool o.1, .sl 9 x.2.2.1, .sl 9 o.2])
def S_l12Path_b2_cut (k : Nat) : Cut D := cutS ⟨[(3, .ref 500003), (4, .ref 500004), (5, .hole), (6, .hole)], [(500003, .row), (500004, .row)]⟩ [.ki .i64, .kb, .kl 9, .kl 9] (fun (x : Int × Bool × (List (List UInt8)) × (List (List UInt8)) × Unit) => S_l12Path_b2 k x.1 x.2.1 x.2.2.1 x.2.2.2.1) S_l12Path_b2_L
def S_l12Path_b2_cu (k : Nat) : Cuts D := ⟨[], [(24, some (S_l12Path_c24_cut k))]⟩
theorem S_l12Path_b2_ok (k : Nat) : CutFor X S_l12Path_pl k Go.Proofs.Tryd.f23.results.toList (S_l12Path_b2_cut k) (sub (bodyOf Go.Proofs.Tryd.f23) [1, 1, 1, 0, 1, 0, 0, 1, 0, 0, 1, 0]) :=
  joinCut_s (X := X) (sg := [.ki .i64, .kb, .kl 9, .kl 9]) (cu := S_l12Path_b2_cu k) (cl := S_l12Path_cl k) (tys := [[0]]) (S_l12Path_ck k) (cutOK_of (l := [(S_l12Path_c24_cut k, sub (bodyOf Go.Proofs.Tryd.f23) [1, 1, 1, 0, 1, 0, 0, 1, 0, 0, 1, 0, 0, 1])]) (by kernel_rfl) ⟨S_l12Path_c24_ok k, trivial⟩) fun x Q R h => by
    simp only [S_l12Path_b2, optK_bind, optK_bif, optK_pure, optK_none, optK_oc, optK_guardT, optK_map] at h
    refine hold_of h ?_
    kernel_rfl
def S_l12Path_c60_L (x : Int × Bool × (List (List UInt8)) × (List (List UInt8)) × Unit) (o : (List (List UInt8))) (Q : Ex → VSt D → Prop) (R : VR D → Prop) : Prop := Q .normal (mkSt ⟨[(3, .ref 500003), (4, .ref 500004), (5, .hole)], [(500003, .row), (500004, .row)]⟩ [.int .i64 x.1, .sl 9 x.2.2.1, .sl 9 o])
def S_l12Path_c60_cut (k : Nat) : Cut D := cutS ⟨[(3, .ref 500003), (4, .ref 500004), (5, .hole), (60, .hole)], [(500003, .row), (500004, .row)]⟩ [.ki .i64, .kb, .kl 9, .kl 9] (fun (x : Int × Bool × (List (List UInt8)) × (List (List UInt8)) × Unit) => S_l12Path_c60 k x.1 x.2.1 x.2.2.1 x.2.2.2.1) S_l12Path_c60_L
def S_l12Path_c60_cu (k : Nat) : Cuts D := ⟨[], []⟩
theorem S_l12Path_c60_ok (k : Nat) : CutFor X S_l12Path_pl k Go.Proofs.Tryd.f23.results.toList (S_l12Path_c60_cut k) (sub (bodyOf Go.Proofs.Tryd.f23) [1, 1, 1, 0, 1, 0, 0, 1, 0, 0, 1, 1, 1]) :=
  joinCut_s (X := X) (sg := [.ki .i64, .kb, .kl 9, .kl 9]) (cu := S_l12Path_c60_cu k) (cl := S_l12Path_cl k) (tys := [[0]]) (S_l12Path_ck k) (cutOK_of (l := []) (by kernel_rfl) trivial) fun x Q R h => by
    simp only [S_l12Path_c60, optK_bind, optK_bif, optK_pure, optK_none, optK_oc, optK_guardT, optK_map] at h
    refine hold_of h ?_
    kernel_rfl
def S_l12Path_b1_L (x : Int × (List (List UInt8)) × (List (List UInt8)) × Unit) (o : (List (List UInt8))) (Q : Ex → VSt D → Prop) (R : VR D → Prop) : Prop := Q .normal (mkSt ⟨[(3, .ref 500003), (4, .ref 500004), (5, .hole)], [(500003, .row), (500004, .row)]⟩ [.int .i64 x.1, .sl 9 x.2.1, .sl 9 o])
def S_l12Path_b1_cut (k : Nat) : Cut D := cutS ⟨[(3, .ref 500003), (4, .ref 500004), (5, .hole)], [(500003, .row), (500004, .row)]⟩ [.ki .i64, .kl 9, .kl 9] (fun (x : Int × (List (List UInt8)) × (List (List UInt8)) × Unit) => S_l12Path_b1 k x.1 x.2.1 x.2.2.1) S_l12Path_b1_L
def S_l12Path_b1_cu (k : Nat) : Cuts D := ⟨[(2, some (S_l12Path_b2_cut k))], [(60, some (S_l12Path_c60_cut k))]⟩
theorem S_l12Path_b1_ok (k : Nat) : CutFor X S_l12Path_pl k Go.Proofs.Tryd.f23.results.toList (S_l12Path_b1_cut k) (sub (bodyOf Go.Proofs.Tryd.f23) [1, 1, 1, 0, 1, 0, 0, 1, 0]) :=
  joinCut_s (X := X) (sg := [.ki .i64, .kl 9, .kl 9]) (cu := S_l12Path_b1_cu k) (cl := S_l12Path_cl k) (tys := [[0]]) (S_l12Path_ck k) (cutOK_of (l := [(S_l12Path_b2_cut k, sub (bodyOf Go.Proofs.Tryd.f23) [1, 1, 1, 0, 1, 0, 0, 1, 0, 0, 1, 0]), (S_l12Path_c60_cut k, sub (bodyOf Go.Proofs.Tryd.f23) [1, 1, 1, 0, 1, 0, 0, 1, 0, 0, 1, 1, 1])]) (by kernel_rfl) ⟨S_l12Path_b2_ok k, S_l12Path_c60_ok k, trivial⟩) fun x Q R h => by
    simp only [S_l12Path_b1, optK_bind, optK_bif, optK_pure, optK_none, optK_oc, optK_guardT, optK_map] at h
    refine hold_of h ?_
    kernel_rfl
def S_l12Path_b0_L (x : Int × (List (List UInt8)) × (List (List UInt8)) × Unit) (o : (List (List UInt8))) (Q : Ex → VSt D → Prop) (R : VR D → Prop) : Prop := Q .normal (mkSt ⟨[(4, .ref 500004)], [(500004, .row)]⟩ [.sl 9 o])
def S_l12Path_b0_cut (k : Nat) : Cut D := cutS ⟨[(3, .ref 500003), (4, .ref 500004), (5, .hole)], [(500003, .row), (500004, .row)]⟩ [.ki .i64, .kl 9, .kl 9] (fun (x : Int × (List (List UInt8)) × (List (List UInt8)) × Unit) => S_l12Path_b0 k k x.1 x.2.1 x.2.2.1) S_l12Path_b0_L
def S_l12Path_b0_cu (k : Nat) : Cuts D := ⟨[(1, some (S_l12Path_b1_cut k))], []⟩
theorem S_l12Path_b0_ok (k : Nat) : CutFor X S_l12Path_pl k Go.Proofs.Tryd.f23.results.toList (S_l12Path_b0_cut k) (sub (bodyOf Go.Proofs.Tryd.f23) [1, 1, 1, 0, 1]) :=
  loopCut_s (X := X) (sg := [.ki .i64, .kl 9, .kl 9]) (cu := S_l12Path_b0_cu k) (cl := S_l12Path_cl k) (tys := [[0]]) (id := 0) (c := sub (bodyOf Go.Proofs.Tryd.f23) [1, 1, 1, 0, 1, 0, 0]) (f := fun n => fun (x : Int × (List (List UInt8)) × (List (List UInt8)) × Unit) => S_l12Path_b0 k n x.1 x.2.1 x.2.2.1) (S_l12Path_ck k) (cutOK_of (l := [(S_l12Path_b1_cut k, sub (bodyOf Go.Proofs.Tryd.f23) [1, 1, 1, 0, 1, 0, 0, 1, 0])]) (by kernel_rfl) ⟨S_l12Path_b1_ok k, trivial⟩) (fun _ => rfl) (fun n x Q R h => by
    simp only [S_l12Path_b0, optK_bind, optK_bif, optK_pure, optK_none, optK_oc, optK_guardT, optK_map] at h
    refine hold_of h ?_
    kernel_rfl) (by kernel_rfl)
def S_l12Path_b3_L (x : (List UInt8) × Int × (List (List UInt8)) × Unit) (o : (List UInt8)) (Q : Ex → VSt D → Prop) (R : VR D → Prop) : Prop := Q .normal (mkSt ⟨[(7, .hole)], []⟩ [.str o])
def S_l12Path_b3_cut (k : Nat) : Cut D := cutS ⟨[(4, .ref 500004), (7, .hole), (8, .hole)], [(500004, .row)]⟩ [.ks, .ki .i64, .kl 9] (fun (x : (List UInt8) × Int × (List (List UInt8)) × Unit) => S_l12Path_b3 k k x.1 x.2.1 x.2.2.1) S_l12Path_b3_L
def S_l12Path_b3_cu (k : Nat) : Cuts D := ⟨[], []⟩
theorem S_l12Path_b3_ok (k : Nat) : CutFor X S_l12Path_pl k Go.Proofs.Tryd.f23.results.toList (S_l12Path_b3_cut k) (sub (bodyOf Go.Proofs.Tryd.f23) [1, 1, 1, 1, 1, 0, 1]) :=
  loopCut_s (X := X) (sg := [.ks, .ki .i64, .kl 9]) (cu := S_l12Path_b3_cu k) (cl := S_l12Path_cl k) (tys := [[0]]) (id := 3) (c := sub (bodyOf Go.Proofs.Tryd.f23) [1, 1, 1, 1, 1, 0, 1, 0, 0]) (f := fun n => fun (x : (List UInt8) × Int × (List (List UInt8)) × Unit) => S_l12Path_b3 k n x.1 x.2.1 x.2.2.1) (S_l12Path_ck k) (cutOK_of (l := []) (by kernel_rfl) trivial) (fun _ => rfl) (fun n x Q R h => by
    simp only [S_l12Path_b3, optK_bind, optK_bif, optK_pure, optK_none, optK_oc, optK_guardT, optK_map] at h
    refine hold_of h ?_
    kernel_rfl) (by kernel_rfl)
def S_l12Path_cu (k : Nat) : Cuts D := ⟨[(0, some (S_l12Path_b0_cut k)), (3, some (S_l12Path_b3_cut k))], []⟩
def S_l12Path_ar : List Ar := [.c (.ks)]
def S_l12Path_f (k : Nat) (x : TupA D S_l12Path_ar) : Option ((List UInt8)) := S_l12Path k x.1
def S_l12Path_vr (r : (List UInt8)) : VR D := .p (.c (.str r))
theorem S_l12Path_ok (k : Nat) : Does P X 23 S_l12Path_ar (S_l12Path_f k) S_l12Path_vr :=
  does_of (body := bodyOf Go.Proofs.Tryd.f23) (pl := S_l12Path_pl) (k := k) (cu := S_l12Path_cu k) (tys := [[0]]) (S_l12Path_ck k) ctx mixed Go.Proofs.Tryd.func23 (by kernel_rfl) (by kernel_rfl) (cutOK_of (l := [(S_l12Path_b0_cut k, sub (bodyOf Go.Proofs.Tryd.f23) [1, 1, 1, 0, 1]), (S_l12Path_b3_cut k, sub (bodyOf Go.Proofs.Tryd.f23) [1, 1, 1, 1, 1, 0, 1])]) (by kernel_rfl) ⟨S_l12Path_b0_ok k, S_l12Path_b3_ok k, trivial⟩) fun x R h => by
    simp only [S_l12Path_f, S_l12Path, optK_bind, optK_bif, optK_pure, optK_none, optK_oc, optK_guardT, optK_map] at h
    refine hold_of h ?_
    kernel_rfl
def S_l12Path_en (k : Nat) : Entry D := entS S_l12Path_ar (S_l12Path_f k) S_l12Path_vr
theorem S_l12Path_eo (k : Nat) : EntryOK X 23 (S_l12Path_en k) := (S_l12Path_ok k).en rfl
def S_l12Query_pl : Plan := ⟨[(0, [(0, none)]), (1, [(3, some 9)]), (2, [(3, some 9), (4, some 9)]), (3, [(3, some 9), (4, some 9), (5, none)]), (4, [(3, some 9), (4, some 9), (5, none), (15, none)]), (5, [(3, some 9), (4, some 9), (5, none)]), (6, [(3, some 9), (4, some 9), (5, none), (6, none)]), (7, [(3, some 9), (4, some 9), (5, none), (6, none), (33, none)]), (8, [(3, some 9), (4, some 9), (5, none), (6, none)]), (9, [(3, some 9), (4, some 9), (5, none), (6, none), (40, none)]), (10, [(3, some 9), (4, some 9), (5, none)]), (11, [(4, some 9), (7, none)]), (12, [(4, some 9), (7, none), (8, none)]), (13, [(4, some 9), (7, none), (8, none), (59, none)]), (14, [(4, some 9), (7, none), (8, none)]), (15, [(4, some 9), (7, none), (8, none), (63, none)]), (16, [(4, some 9), (7, none), (8, none)]), (17, [(4, some 9), (7, none), (8, none)]), (18, [(2, none)])],
  [(0, [(4, some 9)]), (1, [(3, some 9), (4, some 9), (5, none)]), (2, [(3, some 9), (4, some 9), (5, none), (6, none)]), (3, [(3, some 9), (4, some 9), (5, none), (6, none)]), (4, [(7, none)]), (5, [(4, some 9), (7, none), (8, none)])],
  [(15, ([(3, some 9), (4, some 9), (5, none)], [(4, some 9)])), (33, ([(3, some 9), (4, some 9), (5, none), (6, none)], [(3, some 9), (4, some 9), (5, none), (6, none)])), (40, ([(3, some 9), (4, some 9), (5, none), (6, none), (1000004, some 9)], [(3, some 9), (4, some 9), (5, none)])), (59, ([(4, some 9), (7, none), (8, none)], [(7, none)])), (63, ([(4, some 9), (7, none), (8, none)], [(4, some 9), (7, none), (8, none)]))]⟩
def S_l12Query_cl (k : Nat) : Calls' D := ⟨[(50, S_l12Split_en k)], [], [], [], []⟩
theorem S_l12Query_ck (k : Nat) : CallsOK X (S_l12Query_cl k) := .cons (S_l12Split_eo k) (.nil cod)
def S_l12Query_b2_L (x : Int × Int × (List (List UInt8)) × (List (List UInt8)) × Unit) (o : Int) (Q : Ex → VSt D → Prop) (R : VR D → Prop) : Prop := Q .normal (mkSt ⟨[(3, .ref 500003), (4, .ref 500004), (5, .hole), (6, .hole)], [(500003, .row), (500004, .row)]⟩ [.int .i64 x.1, .int .i64 o, .sl 9 x.2.2.1, .sl 9 x.2.2.2.1])
def S_l12Query_b2_cut (k : Nat) : Cut D := cutS ⟨[(3, .ref 500003), (4, .ref 500004), (5, .hole), (6, .hole)], [(500003, .row), (500004, .row)]⟩ [.ki .i64, .ki .i64, .kl 9, .kl 9] (fun (x : Int × Int × (List (List UInt8)) × (List (List UInt8)) × Unit) => S_l12Query_b2 k k x.1 x.2.1 x.2.2.1 x.2.2.2.1) S_l12Query_b2_L
def S_l12Query_b2_cu (k : Nat) : Cuts D := ⟨[], []⟩
theorem S_l12Query_b2_ok (k : Nat) : CutFor X S_l12Query_pl k Go.Proofs.Tryd.f24.results.toList (S_l12Query_b2_cut k) (sub (bodyOf Go.Proofs.Tryd.f24) [1, 1, 1, 0, 1, 0, 0, 1, 0, 0, 1, 0]) :=
  loopCut_s (X := X) (sg := [.ki .i64, .ki .i64, .kl 9, .kl 9]) (cu := S_l12Query_b2_cu k) (cl := S_l12Query_cl k) (tys := [[0]]) (id := 2) (c := sub (bodyOf Go.Proofs.Tryd.f24) [1, 1, 1, 0, 1, 0, 0, 1, 0, 0, 1, 0, 0, 0]) (f := fun n => fun (x : Int × Int × (List (List UInt8)) × (List (List UInt8)) × Unit) => S_l12Query_b2 k n x.1 x.2.1 x.2.2.1 x.2.2.2.1) (S_l12Query_ck k) (cutOK_of (l := []) (by kernel_rfl) trivial) (fun _ => rfl) (fun n x Q R h => by
    simp only [S_l12Query_b2, optK_bind, optK_bif, optK_pure, optK_none, optK_oc, optK_guardT, optK_map] at h
    refine hold_of h ?_
    kernel_rfl) (by kernel_rfl)
def S_l12Query_c40_L (x : Int × Int × Bool × (List (List UInt8)) × (List (List UInt8)) × Unit) (o : (List (List UInt8))) (Q : Ex → VSt D → Prop) (R : VR D → Prop) : Prop := Q .normal (mkSt ⟨[(3, .ref 500003), (4, .ref 500004), (5, .hole)], [(500003, .row), (500004, .row)]⟩ [.int .i64 x.1, .sl 9 x.2.2.2.1, .sl 9 o])
def S_l12Query_c40_cut (k : Nat) : Cut D := cutS ⟨[(3, .ref 500003), (4, .ref 500004), (5, .hole), (6, .hole), (40, .hole)], [(500003, .row), (500004, .row)]⟩ [.ki .i64, .ki .i64, .kb, .kl 9, .kl 9] (fun (x : Int × Int × Bool × (List (List UInt8)) × (List (List UInt8)) × Unit) => S_l12Query_c40 k x.1 x.2.1 x.2.2.1 x.2.2.2.1 x.2.2.2.2.1) S_l12Query_c40_L
def S_l12Query_c40_cu (k : Nat) : Cuts D := ⟨[], []⟩
theorem S_l12Query_c40_ok (k : Nat) : CutFor X S_l12Query_pl k Go.Proofs.Tryd.f24.results.toList (S_l12Query_c40_cut k) (sub (bodyOf Go.Proofs.Tryd.f24) [1, 1, 1, 0, 1, 0, 0, 1, 0, 0, 1, 1, 1]) :=
  joinCut_s (X := X) (sg := [.ki .i64, .ki .i64, .kb, .kl 9, .kl 9]) (cu := S_l12Query_c40_cu k) (cl := S_l12Query_cl k) (tys := [[0]]) (S_l12Query_ck k) (cutOK_of (l := []) (by kernel_rfl) trivial) fun x Q R h => by
    simp only [S_l12Query_c40, optK_bind, optK_bif, optK_pure, optK_none, optK_oc, optK_guardT, optK_map] at h
    refine hold_of h ?_
    kernel_rfl
def S_l12Query_b1_L (x : Int × (List (List UInt8)) × (List (List UInt8)) × Unit) (o : (List (List UInt8))) (Q : Ex → VSt D → Prop) (R : VR D → Prop) : Prop := Q .normal (mkSt ⟨[(3, .ref 500003), (4, .ref 500004), (5, .hole)], [(500003, .row), (500004, .row)]⟩ [.int .i64 x.1, .sl 9 x.2.1, .sl 9 o])
def S_l12Query_b1_cut (k : Nat) : Cut D := cutS ⟨[(3, .ref 500003), (4, .ref 500004), (5, .hole)], [(500003, .row), (500004, .row)]⟩ [.ki .i64, .kl 9, .kl 9] (fun (x : Int × (List (List UInt8)) × (List (List UInt8)) × Unit) => S_l12Query_b1 k x.1 x.2.1 x.2.2.1) S_l12Query_b1_L
def S_l12Query_b1_cu (k : Nat) : Cuts D := ⟨[(2, some (S_l12Query_b2_cut k))], [(40, some (S_l12Query_c40_cut k))]⟩
theorem S_l12Query_b1_ok (k : Nat) : CutFor X S_l12Query_pl k Go.Proofs.Tryd.f24.results.toList (S_l12Query_b1_cut k) (sub (bodyOf Go.Proofs.Tryd.f24) [1, 1, 1, 0, 1, 0, 0, 1, 0]) :=
  joinCut_s (X := X) (sg := [.ki .i64, .kl 9, .kl 9]) (cu := S_l12Query_b1_cu k) (cl := S_l12Query_cl k) (tys := [[0]]) (S_l12Query_ck k) (cutOK_of (l := [(S_l12Query_b2_cut k, sub (bodyOf Go.Proofs.Tryd.f24) [1, 1, 1, 0, 1, 0, 0, 1, 0, 0, 1, 0]), (S_l12Query_c40_cut k, sub (bodyOf Go.Proofs.Tryd.f24) [1, 1, 1, 0, 1, 0, 0, 1, 0, 0, 1, 1, 1])]) (by kernel_rfl) ⟨S_l12Query_b2_ok k, S_l12Query_c40_ok k, trivial⟩) fun x Q R h => by
    simp only [S_l12Query_b1, optK_bind, optK_bif, optK_pure, optK_none, optK_oc, optK_guardT, optK_map] at h
    refine hold_of h ?_
    kernel_rfl
def S_l12Query_b0_L (x : Int × (List (List UInt8)) × (List (List UInt8)) × Unit) (o : (List (List UInt8))) (Q : Ex → VSt D → Prop) (R : VR D → Prop) : Prop := Q .normal (mkSt ⟨[(4, .ref 500004)], [(500004, .row)]⟩ [.sl 9 o])
def S_l12Query_b0_cut (k : Nat) : Cut D := cutS ⟨[(3, .ref 500003), (4, .ref 500004), (5, .hole)], [(500003, .row), (500004, .row)]⟩ [.ki .i64, .kl 9, .kl 9] (fun (x : Int × (List (List UInt8)) × (List (List UInt8)) × Unit) => S_l12Query_b0 k k x.1 x.2.1 x.2.2.1) S_l12Query_b0_L
def S_l12Query_b0_cu (k : Nat) : Cuts D := ⟨[(1, some (S_l12Query_b1_cut k))], []⟩
theorem S_l12Query_b0_ok (k : Nat) : CutFor X S_l12Query_pl k Go.Proofs.Tryd.f24.results.toList (S_l12Query_b0_cut k) (sub (bodyOf Go.Proofs.Tryd.f24) [1, 1, 1, 0, 1]) :=
  loopCut_s (X := X) (sg := [.ki .i64, .kl 9, .kl 9]) (cu := S_l12Query_b0_cu k) (cl := S_l12Query_cl k) (tys := [[0]]) (id := 0) (c := sub (bodyOf Go.Proofs.Tryd.f24) [1, 1, 1, 0, 1, 0, 0]) (f := fun n => fun (x : Int × (List (List UInt8)) × (List (List UInt8)) × Unit) => S_l12Query_b0 k n x.1 x.2.1 x.2.2.1) (S_l12Query_ck k) (cutOK_of (l := [(S_l12Query_b1_cut k, sub (bodyOf Go.Proofs.Tryd.f24) [1, 1, 1, 0, 1, 0, 0, 1, 0])]) (by kernel_rfl) ⟨S_l12Query_b1_ok k, trivial⟩) (fun _ => rfl) (fun n x Q R h => by
    simp only [S_l12Query_b0, optK_bind, optK_bif, optK_pure, optK_none, optK_oc, optK_guardT, optK_map] at h
    refine hold_of h ?_
    kernel_rfl) (by kernel_rfl)
def S_l12Query_c63_L (x : (List UInt8) × Int × Bool × (List (List UInt8)) × Unit) (o : (List UInt8)) (Q : Ex → VSt D → Prop) (R : VR D → Prop) : Prop := Q .normal (mkSt ⟨[(4, .ref 500004), (7, .hole), (8, .hole)], [(500004, .row)]⟩ [.str o, .int .i64 x.2.1, .sl 9 x.2.2.2.1])
def S_l12Query_c63_cut (k : Nat) : Cut D := cutS ⟨[(4, .ref 500004), (7, .hole), (8, .hole), (63, .hole)], [(500004, .row)]⟩ [.ks, .ki .i64, .kb, .kl 9] (fun (x : (List UInt8) × Int × Bool × (List (List UInt8)) × Unit) => S_l12Query_c63 k x.1 x.2.1 x.2.2.1 x.2.2.2.1) S_l12Query_c63_L
def S_l12Query_c63_cu (k : Nat) : Cuts D := ⟨[], []⟩
theorem S_l12Query_c63_ok (k : Nat) : CutFor X S_l12Query_pl k Go.Proofs.Tryd.f24.results.toList (S_l12Query_c63_cut k) (sub (bodyOf Go.Proofs.Tryd.f24) [1, 1, 1, 1, 1, 0, 1, 0, 0, 1, 0, 0, 0, 1]) :=
  joinCut_s (X := X) (sg := [.ks, .ki .i64, .kb, .kl 9]) (cu := S_l12Query_c63_cu k) (cl := S_l12Query_cl k) (tys := [[0]]) (S_l12Query_ck k) (cutOK_of (l := []) (by kernel_rfl) trivial) fun x Q R h => by
    simp only [S_l12Query_c63, optK_bind, optK_bif, optK_pure, optK_none, optK_oc, optK_guardT, optK_map] at h
    refine hold_of h ?_
    kernel_rfl
def S_l12Query_b5_L (x : (List UInt8) × Int × (List (List UInt8)) × Unit) (o : (List UInt8)) (Q : Ex → VSt D → Prop) (R : VR D → Prop) : Prop := Q .normal (mkSt ⟨[(4, .ref 500004), (7, .hole), (8, .hole)], [(500004, .row)]⟩ [.str o, .int .i64 x.2.1, .sl 9 x.2.2.1])
def S_l12Query_b5_cut (k : Nat) : Cut D := cutS ⟨[(4, .ref 500004), (7, .hole), (8, .hole)], [(500004, .row)]⟩ [.ks, .ki .i64, .kl 9] (fun (x : (List UInt8) × Int × (List (List UInt8)) × Unit) => S_l12Query_b5 k x.1 x.2.1 x.2.2.1) S_l12Query_b5_L
def S_l12Query_b5_cu (k : Nat) : Cuts D := ⟨[], [(63, some (S_l12Query_c63_cut k))]⟩
theorem S_l12Query_b5_ok (k : Nat) : CutFor X S_l12Query_pl k Go.Proofs.Tryd.f24.results.toList (S_l12Query_b5_cut k) (sub (bodyOf Go.Proofs.Tryd.f24) [1, 1, 1, 1, 1, 0, 1, 0, 0, 1, 0]) :=
  joinCut_s (X := X) (sg := [.ks, .ki .i64, .kl 9]) (cu := S_l12Query_b5_cu k) (cl := S_l12Query_cl k) (tys := [[0]]) (S_l12Query_ck k) (cutOK_of (l := [(S_l12Query_c63_cut k, sub (bodyOf Go.Proofs.Tryd.f24) [1, 1, 1, 1, 1, 0, 1, 0, 0, 1, 0, 0, 0, 1])]) (by kernel_rfl) ⟨S_l12Query_c63_ok k, trivial⟩) fun x Q R h => by
    simp only [S_l12Query_b5, optK_bind, optK_bif, optK_pure, optK_none, optK_oc, optK_guardT, optK_map] at h
    refine hold_of h ?_
    kernel_rfl
def S_l12Query_b4_L (x : (List UInt8) × Int × (List (List UInt8)) × Unit) (o : (List UInt8)) (Q : Ex → VSt D → Prop) (R : VR D → Prop) : Prop := Q .normal (mkSt ⟨[(7, .hole)], []⟩ [.str o])
def S_l12Query_b4_cut (k : Nat) : Cut D := cutS ⟨[(4, .ref 500004), (7, .hole), (8, .hole)], [(500004, .row)]⟩ [.ks, .ki .i64, .kl 9] (fun (x : (List UInt8) × Int × (List (List UInt8)) × Unit) => S_l12Query_b4 k k x.1 x.2.1 x.2.2.1) S_l12Query_b4_L
def S_l12Query_b4_cu (k : Nat) : Cuts D := ⟨[(5, some (S_l12Query_b5_cut k))], []⟩
theorem S_l12Query_b4_ok (k : Nat) : CutFor X S_l12Query_pl k Go.Proofs.Tryd.f24.results.toList (S_l12Query_b4_cut k) (sub (bodyOf Go.Proofs.Tryd.f24) [1, 1, 1, 1, 1, 0, 1]) :=
  loopCut_s (X := X) (sg := [.ks, .ki .i64, .kl 9]) (cu := S_l12Query_b4_cu k) (cl := S_l12Query_cl k) (tys := [[0]]) (id := 4) (c := sub (bodyOf Go.Proofs.Tryd.f24) [1, 1, 1, 1, 1, 0, 1, 0, 0]) (f := fun n => fun (x : (List UInt8) × Int × (List (List UInt8)) × Unit) => S_l12Query_b4 k n x.1 x.2.1 x.2.2.1) (S_l12Query_ck k) (cutOK_of (l := [(S_l12Query_b5_cut k, sub (bodyOf Go.Proofs.Tryd.f24) [1, 1, 1, 1, 1, 0, 1, 0, 0, 1, 0])]) (by kernel_rfl) ⟨S_l12Query_b5_ok k, trivial⟩) (fun _ => rfl) (fun n x Q R h => by
    simp only [S_l12Query_b4, optK_bind, optK_bif, optK_pure, optK_none, optK_oc, optK_guardT, optK_map] at h
    refine hold_of h ?_
    kernel_rfl) (by kernel_rfl)
def S_l12Query_cu (k : Nat) : Cuts D := ⟨[(0, some (S_l12Query_b0_cut k)), (4, some (S_l12Query_b4_cut k))], []⟩
def S_l12Query_ar : List Ar := [.c (.ks)]
def S_l12Query_f (k : Nat) (x : TupA D S_l12Query_ar) : Option ((List UInt8)) := S_l12Query k x.1
def S_l12Query_vr (r : (List UInt8)) : VR D := .p (.c (.str r))
theorem S_l12Query_ok (k : Nat) : Does P X 24 S_l12Query_ar (S_l12Query_f k) S_l12Query_vr :=
  does_of (body := bodyOf Go.Proofs.Tryd.f24) (pl := S_l12Query_pl) (k := k) (cu := S_l12Query_cu k) (tys := [[0]]) (S_l12Query_ck k) ctx mixed Go.Proofs.Tryd.func24 (by kernel_rfl) (by kernel_rfl) (cutOK_of (l := [(S_l12Query_b0_cut k, sub (bodyOf Go.Proofs.Tryd.f24) [1, 1, 1, 0, 1]), (S_l12Query_b4_cut k, sub (bodyOf Go.Proofs.Tryd.f24) [1, 1, 1, 1, 1, 0, 1])]) (by kernel_rfl) ⟨S_l12Query_b0_ok k, S_l12Query_b4_ok k, trivial⟩) fun x R h => by
    simp only [S_l12Query_f, S_l12Query, optK_bind, optK_bif, optK_pure, optK_none, optK_oc, optK_guardT, optK_map] at h
    refine hold_of h ?_
    kernel_rfl
def S_l12Query_en (k : Nat) : Entry D := entS S_l12Query_ar (S_l12Query_f k) S_l12Query_vr
theorem S_l12Query_eo (k : Nat) : EntryOK X 24 (S_l12Query_en k) := (S_l12Query_ok k).en rfl
def S_NormalTarget_pl : Plan := ⟨[(0, [(0, none)]), (1, [(4, none), (5, none)]), (2, [(5, none), (7, none), (8, none)]), (3, [(7, none), (8, none), (9, none), (10, none)]), (4, [(7, none), (9, none), (44, none)]), (5, [(2, none), (3, none)]), (6, [(9, none), (11, none)]), (7, [(11, none), (12, none)]), (8, [(11, none), (12, none), (50, none)]), (9, [(11, none)]), (10, [(2, none), (3, none)])],
  [],
  [(44, ([], [(7, none), (9, none)])), (50, ([(11, none), (12, none)], [(11, none)]))]⟩
def S_NormalTarget_cl (k : Nat) : Calls' D := ⟨[(21, S_SplitTarget_en k), (22, S_l12Plain_en k), (23, S_l12Path_en k), (24, S_l12Query_en k)], [], [], [], []⟩
theorem S_NormalTarget_ck (k : Nat) : CallsOK X (S_NormalTarget_cl k) := .cons (S_SplitTarget_eo k) (.cons (S_l12Plain_eo k) (.cons (S_l12Path_eo k) (.cons (S_l12Query_eo k) (.nil cod))))
def S_NormalTarget_c50_L (x : (List UInt8) × (List UInt8) × Bool × Unit) (o : (List UInt8)) (Q : Ex → VSt D → Prop) (R : VR D → Prop) : Prop := Q .normal (mkSt ⟨[(11, .hole)], []⟩ [.str o])
def S_NormalTarget_c50_cut (k : Nat) : Cut D := cutS ⟨[(11, .hole), (12, .hole), (50, .hole)], []⟩ [.ks, .ks, .kb] (fun (x : (List UInt8) × (List UInt8) × Bool × Unit) => S_NormalTarget_c50 k x.1 x.2.1 x.2.2.1) S_NormalTarget_c50_L
def S_NormalTarget_c50_cu (k : Nat) : Cuts D := ⟨[], []⟩
theorem S_NormalTarget_c50_ok (k : Nat) : CutFor X S_NormalTarget_pl k Go.Proofs.Tryd.f7.results.toList (S_NormalTarget_c50_cut k) (sub (bodyOf Go.Proofs.Tryd.f7) [1, 1, 1, 1, 1, 1, 0, 1, 1]) :=
  joinCut_s (X := X) (sg := [.ks, .ks, .kb]) (cu := S_NormalTarget_c50_cu k) (cl := S_NormalTarget_cl k) (tys := [[0], [0]]) (S_NormalTarget_ck k) (cutOK_of (l := []) (by kernel_rfl) trivial) fun x Q R h => by
    simp only [S_NormalTarget_c50, optK_bind, optK_bif, optK_pure, optK_none, optK_oc, optK_guardT, optK_map] at h
    refine hold_of h ?_
    kernel_rfl
def S_NormalTarget_cu (k : Nat) : Cuts D := ⟨[], [(50, some (S_NormalTarget_c50_cut k))]⟩
def S_NormalTarget_ar : List Ar := [.c (.ks)]
def S_NormalTarget_f (k : Nat) (x : TupA D S_NormalTarget_ar) : Option ((List UInt8) × Bool) := S_NormalTarget k x.1
def S_NormalTarget_vr (r : (List UInt8) × Bool) : VR D := .tup [.c (.str r.1), .c (.bool r.2)]
theorem S_NormalTarget_ok (k : Nat) : Does P X 7 S_NormalTarget_ar (S_NormalTarget_f k) S_NormalTarget_vr :=
  does_of (body := bodyOf Go.Proofs.Tryd.f7) (pl := S_NormalTarget_pl) (k := k) (cu := S_NormalTarget_cu k) (tys := [[0], [0]]) (S_NormalTarget_ck k) ctx mixed Go.Proofs.Tryd.func7 (by kernel_rfl) (by kernel_rfl) (cutOK_of (l := [(S_NormalTarget_c50_cut k, sub (bodyOf Go.Proofs.Tryd.f7) [1, 1, 1, 1, 1, 1, 0, 1, 1])]) (by kernel_rfl) ⟨S_NormalTarget_c50_ok k, trivial⟩) fun x R h => by
    simp only [S_NormalTarget_f, S_NormalTarget, optK_bind, optK_bif, optK_pure, optK_none, optK_oc, optK_guardT, optK_map] at h
    refine hold_of h ?_
    kernel_rfl
def S_NormalTarget_en (k : Nat) : Entry D := entS S_NormalTarget_ar (S_NormalTarget_f k) S_NormalTarget_vr
theorem S_NormalTarget_eo (k : Nat) : EntryOK X 7 (S_NormalTarget_en k) := (S_NormalTarget_ok k).en rfl
def S_IsNormalTarget_pl : Plan := ⟨[(0, [(0, none)]), (1, [(0, none), (3, none), (4, none)]), (2, [(2, none)])],
  [],
  []⟩
def S_IsNormalTarget_cl (k : Nat) : Calls' D := ⟨[(7, S_NormalTarget_en k)], [], [], [], []⟩
theorem S_IsNormalTarget_ck (k : Nat) : CallsOK X (S_IsNormalTarget_cl k) := .cons (S_NormalTarget_eo k) (.nil cod)
def S_IsNormalTarget_cu (k : Nat) : Cuts D := ⟨[], []⟩
def S_IsNormalTarget_ar : List Ar := [.c (.ks)]
def S_IsNormalTarget_f (k : Nat) (x : TupA D S_IsNormalTarget_ar) : Option (Bool) := S_IsNormalTarget k x.1
def S_IsNormalTarget_vr (r : Bool) : VR D := .p (.c (.bool r))
theorem S_IsNormalTarget_ok (k : Nat) : Does P X 9 S_IsNormalTarget_ar (S_IsNormalTarget_f k) S_IsNormalTarget_vr :=
  does_of (body := bodyOf Go.Proofs.Tryd.f9) (pl := S_IsNormalTarget_pl) (k := k) (cu := S_IsNormalTarget_cu k) (tys := [[0]]) (S_IsNormalTarget_ck k) ctx mixed Go.Proofs.Tryd.func9 (by kernel_rfl) (by kernel_rfl) (cutOK_of (l := []) (by kernel_rfl) trivial) fun x R h => by
    simp only [S_IsNormalTarget_f, S_IsNormalTarget, optK_bind, optK_bif, optK_pure, optK_none, optK_oc, optK_guardT, optK_map] at h
    refine hold_of h ?_
    kernel_rfl
def S_IsNormalTarget_en (k : Nat) : Entry D := entS S_IsNormalTarget_ar (S_IsNormalTarget_f k) S_IsNormalTarget_vr
theorem S_IsNormalTarget_eo (k : Nat) : EntryOK X 9 (S_IsNormalTarget_en k) := (S_IsNormalTarget_ok k).en rfl
def strings_Cut_ar : List Ar := [.c (.ks), .c (.ks)]
def strings_Cut_f (k : Nat) (x : TupA D strings_Cut_ar) : Option ((List UInt8) × (List UInt8) × Bool) := strings_Cut k x.1 x.2.1
def strings_Cut_vr (r : (List UInt8) × (List UInt8) × Bool) : VR D := .tup [.c (.str r.1), .c (.str r.2.1), .c (.bool r.2.2)]
theorem strings_Cut_ok (k : Nat) : Does P X 51 strings_Cut_ar (strings_Cut_f k) strings_Cut_vr := does_cut ⟨Go.Proofs.Tryd.f51, Go.Proofs.Tryd.func51, by kernel_rfl, by kernel_rfl⟩ (fun s sep w hg hs => let ⟨m, hm⟩ := hg; Go.Proofs.Tryd.strings_Cut s sep m w hs hm)
def strings_Cut_en (k : Nat) : Entry D := entS strings_Cut_ar (strings_Cut_f k) strings_Cut_vr
theorem strings_Cut_eo (k : Nat) : EntryOK X 51 (strings_Cut_en k) := (strings_Cut_ok k).en rfl
def I_SplitTarget_pl : Plan := ⟨[(0, [(0, none)]), (1, [(2, none), (3, none), (4, none)])],
  [],
  []⟩
def I_SplitTarget_cl (k : Nat) : Calls' D := ⟨[(51, strings_Cut_en k)], [], [], [], []⟩
theorem I_SplitTarget_ck (k : Nat) : CallsOK X (I_SplitTarget_cl k) := .cons (strings_Cut_eo k) (.nil cod)
def I_SplitTarget_cu (k : Nat) : Cuts D := ⟨[], []⟩
def I_SplitTarget_ar : List Ar := [.c (.ks)]
def I_SplitTarget_f (k : Nat) (x : TupA D I_SplitTarget_ar) : Option ((List UInt8) × (List UInt8) × Bool) := I_SplitTarget k x.1
def I_SplitTarget_vr (r : (List UInt8) × (List UInt8) × Bool) : VR D := .tup [.c (.str r.1), .c (.str r.2.1), .c (.bool r.2.2)]
theorem I_SplitTarget_ok (k : Nat) : Does P X 25 I_SplitTarget_ar (I_SplitTarget_f k) I_SplitTarget_vr :=
  does_of (body := bodyOf Go.Proofs.Tryd.f25) (pl := I_SplitTarget_pl) (k := k) (cu := I_SplitTarget_cu k) (tys := [[0], [0], [0]]) (I_SplitTarget_ck k) ctx mixed Go.Proofs.Tryd.func25 (by kernel_rfl) (by kernel_rfl) (cutOK_of (l := []) (by kernel_rfl) trivial) fun x R h => by
    simp only [I_SplitTarget_f, I_SplitTarget, optK_bind, optK_bif, optK_pure, optK_none, optK_oc, optK_guardT, optK_map] at h
    refine hold_of h ?_
    kernel_rfl
def I_SplitTarget_en (k : Nat) : Entry D := entS I_SplitTarget_ar (I_SplitTarget_f k) I_SplitTarget_vr
theorem I_SplitTarget_eo (k : Nat) : EntryOK X 25 (I_SplitTarget_en k) := (I_SplitTarget_ok k).en rfl
def strings_IndexByte_ar : List Ar := [.c (.ks), .c (.ki .u8)]
def strings_IndexByte_f (k : Nat) (x : TupA D strings_IndexByte_ar) : Option (Int) := strings_IndexByte k x.1 x.2.1
def strings_IndexByte_vr (r : Int) : VR D := .p (.c (.int .i64 r))
theorem strings_IndexByte_ok (k : Nat) : Does P X 53 strings_IndexByte_ar (strings_IndexByte_f k) strings_IndexByte_vr := does_indexByte ⟨Go.Proofs.Tryd.f53, Go.Proofs.Tryd.func53, by kernel_rfl, by kernel_rfl⟩ (fun s c w hg => Go.Proofs.Tryd.strings_IndexByte s c w)
def strings_IndexByte_en (k : Nat) : Entry D := entS strings_IndexByte_ar (strings_IndexByte_f k) strings_IndexByte_vr
theorem strings_IndexByte_eo (k : Nat) : EntryOK X 53 (strings_IndexByte_en k) := (strings_IndexByte_ok k).en rfl
def I_hexDigit_pl : Plan := ⟨[(0, [(0, none)]), (1, [(0, none), (8, none)]), (2, [(0, none)]), (3, [(2, none)])],
  [],
  [(8, ([(0, none)], [(0, none)]))]⟩
def I_hexDigit_cl (k : Nat) : Calls' D := ⟨[(53, strings_IndexByte_en k)], [], [], [], []⟩
theorem I_hexDigit_ck (k : Nat) : CallsOK X (I_hexDigit_cl k) := .cons (strings_IndexByte_eo k) (.nil cod)
def I_hexDigit_c8_L (x : Int × Bool × Unit) (o : Int) (Q : Ex → VSt D → Prop) (R : VR D → Prop) : Prop := Q .normal (mkSt ⟨[(0, .hole)], []⟩ [.int .u8 o])
def I_hexDigit_c8_cut (k : Nat) : Cut D := cutS ⟨[(0, .hole), (8, .hole)], []⟩ [.ki .u8, .kb] (fun (x : Int × Bool × Unit) => I_hexDigit_c8 k x.1 x.2.1) I_hexDigit_c8_L
def I_hexDigit_c8_cu (k : Nat) : Cuts D := ⟨[], []⟩
theorem I_hexDigit_c8_ok (k : Nat) : CutFor X I_hexDigit_pl k Go.Proofs.Tryd.f52.results.toList (I_hexDigit_c8_cut k) (sub (bodyOf Go.Proofs.Tryd.f52) [1, 0, 1]) :=
  joinCut_s (X := X) (sg := [.ki .u8, .kb]) (cu := I_hexDigit_c8_cu k) (cl := I_hexDigit_cl k) (tys := [[0]]) (I_hexDigit_ck k) (cutOK_of (l := []) (by kernel_rfl) trivial) fun x Q R h => by
    simp only [I_hexDigit_c8, optK_bind, optK_bif, optK_pure, optK_none, optK_oc, optK_guardT, optK_map] at h
    refine hold_of h ?_
    kernel_rfl
def I_hexDigit_cu (k : Nat) : Cuts D := ⟨[], [(8, some (I_hexDigit_c8_cut k))]⟩
def I_hexDigit_ar : List Ar := [.c (.ki .u8)]
def I_hexDigit_f (k : Nat) (x : TupA D I_hexDigit_ar) : Option (Int) := I_hexDigit k x.1
def I_hexDigit_vr (r : Int) : VR D := .p (.c (.int .i64 r))
theorem I_hexDigit_ok (k : Nat) : Does P X 52 I_hexDigit_ar (I_hexDigit_f k) I_hexDigit_vr :=
  does_of (body := bodyOf Go.Proofs.Tryd.f52) (pl := I_hexDigit_pl) (k := k) (cu := I_hexDigit_cu k) (tys := [[0]]) (I_hexDigit_ck k) ctx mixed Go.Proofs.Tryd.func52 (by kernel_rfl) (by kernel_rfl) (cutOK_of (l := [(I_hexDigit_c8_cut k, sub (bodyOf Go.Proofs.Tryd.f52) [1, 0, 1])]) (by kernel_rfl) ⟨I_hexDigit_c8_ok k, trivial⟩) fun x R h => by
    simp only [I_hexDigit_f, I_hexDigit, optK_bind, optK_bif, optK_pure, optK_none, optK_oc, optK_guardT, optK_map] at h
    refine hold_of h ?_
    kernel_rfl
def I_hexDigit_en (k : Nat) : Entry D := entS I_hexDigit_ar (I_hexDigit_f k) I_hexDigit_vr
theorem I_hexDigit_eo (k : Nat) : EntryOK X 52 (I_hexDigit_en k) := (I_hexDigit_ok k).en rfl
def I_decodedTarget_pl : Plan := ⟨[(0, [(0, none)]), (1, [(0, none), (4, some 5)]), (2, [(0, none), (4, some 5), (5, none)]), (3, [(0, none), (4, some 5), (5, none), (13, none)]), (4, [(0, none), (4, some 5), (5, none)]), (5, [(0, none), (4, some 5), (5, none), (19, none)]), (6, [(0, none), (4, some 5), (5, none)]), (7, [(0, none), (4, some 5), (5, none), (46, none)]), (8, [(2, none), (3, none)]), (9, [(0, none), (4, some 5), (5, none), (6, none), (7, none)]), (10, [(0, none), (4, some 5), (5, none), (6, none), (7, none), (8, none)]), (11, [(0, none), (4, some 5), (5, none), (6, none), (7, none), (8, none), (88, none)]), (12, [(0, none), (4, some 5), (5, none)]), (13, [(0, none), (4, some 5), (5, none)]), (14, [(0, none), (4, some 5), (5, none)]), (15, [(2, none), (3, none)])],
  [(0, [(4, some 5)]), (1, [(0, none), (4, some 5), (5, none)])],
  [(13, ([(0, none), (4, some 5), (5, none)], [(4, some 5)])), (19, ([(0, none), (4, some 5), (5, none)], [(0, none), (4, some 5), (5, none)])), (46, ([], [(0, none), (4, some 5), (5, none)])), (88, ([(0, none), (4, some 5), (5, none), (8, none)], [(0, none), (4, some 5), (5, none), (6, none), (7, none)]))]⟩
def I_decodedTarget_cl (k : Nat) : Calls' D := ⟨[(52, I_hexDigit_en k), (53, strings_IndexByte_en k)], [], [], [], []⟩
theorem I_decodedTarget_ck (k : Nat) : CallsOK X (I_decodedTarget_cl k) := .cons (I_hexDigit_eo k) (.cons (strings_IndexByte_eo k) (.nil cod))
def I_decodedTarget_c88_L (x : (List UInt8) × Int × Int × Int × Int × Bool × (List Int) × Unit) (o : (List Int)) (Q : Ex → VSt D → Prop) (R : VR D → Prop) : Prop := Q .normal (mkSt ⟨[(0, .hole), (4, .ref 500004), (5, .hole)], [(500004, .row)]⟩ [.str x.1, .int .i64 x.2.1, .sl 5 o])
def I_decodedTarget_c88_cut (k : Nat) : Cut D := cutS ⟨[(0, .hole), (4, .ref 500004), (5, .hole), (6, .hole), (7, .hole), (8, .hole), (88, .hole)], [(500004, .row)]⟩ [.ks, .ki .i64, .ki .i64, .ki .i64, .ki .u8, .kb, .kl 5] (fun (x : (List UInt8) × Int × Int × Int × Int × Bool × (List Int) × Unit) => I_decodedTarget_c88 k x.1 x.2.1 x.2.2.1 x.2.2.2.1 x.2.2.2.2.1 x.2.2.2.2.2.1 x.2.2.2.2.2.2.1) I_decodedTarget_c88_L
def I_decodedTarget_c88_cu (k : Nat) : Cuts D := ⟨[], []⟩
theorem I_decodedTarget_c88_ok (k : Nat) : CutFor X I_decodedTarget_pl k Go.Proofs.Tryd.f26.results.toList (I_decodedTarget_c88_cut k) (sub (bodyOf Go.Proofs.Tryd.f26) [1, 1, 0, 1, 0, 0, 1, 0, 0, 1, 1, 1, 1, 0, 1]) :=
  joinCut_s (X := X) (sg := [.ks, .ki .i64, .ki .i64, .ki .i64, .ki .u8, .kb, .kl 5]) (cu := I_decodedTarget_c88_cu k) (cl := I_decodedTarget_cl k) (tys := [[0], [0]]) (I_decodedTarget_ck k) (cutOK_of (l := []) (by kernel_rfl) trivial) fun x Q R h => by
    simp only [I_decodedTarget_c88, optK_bind, optK_bif, optK_pure, optK_none, optK_oc, optK_guardT, optK_map] at h
    refine hold_of h ?_
    kernel_rfl
def I_decodedTarget_b1_L (x : (List UInt8) × Int × (List Int) × Unit) (o : Oc (Int × (List Int)) ((List UInt8) × Bool)) (Q : Ex → VSt D → Prop) (R : VR D → Prop) : Prop := ocP o (fun v0 => Q .normal (mkSt ⟨[(0, .hole), (4, .ref 500004), (5, .hole)], [(500004, .row)]⟩ [.str x.1, .int .i64 v0.1, .sl 5 v0.2])) (fun w0 => R (.tup [.c (.str w0.1), .c (.bool w0.2)]))
def I_decodedTarget_b1_cut (k : Nat) : Cut D := cutS ⟨[(0, .hole), (4, .ref 500004), (5, .hole)], [(500004, .row)]⟩ [.ks, .ki .i64, .kl 5] (fun (x : (List UInt8) × Int × (List Int) × Unit) => I_decodedTarget_b1 k x.1 x.2.1 x.2.2.1) I_decodedTarget_b1_L
def I_decodedTarget_b1_cu (k : Nat) : Cuts D := ⟨[], [(88, some (I_decodedTarget_c88_cut k))]⟩
theorem I_decodedTarget_b1_ok (k : Nat) : CutFor X I_decodedTarget_pl k Go.Proofs.Tryd.f26.results.toList (I_decodedTarget_b1_cut k) (sub (bodyOf Go.Proofs.Tryd.f26) [1, 1, 0, 1, 0, 0, 1, 0]) :=
  joinCut_s (X := X) (sg := [.ks, .ki .i64, .kl 5]) (cu := I_decodedTarget_b1_cu k) (cl := I_decodedTarget_cl k) (tys := [[0], [0]]) (I_decodedTarget_ck k) (cutOK_of (l := [(I_decodedTarget_c88_cut k, sub (bodyOf Go.Proofs.Tryd.f26) [1, 1, 0, 1, 0, 0, 1, 0, 0, 1, 1, 1, 1, 0, 1])]) (by kernel_rfl) ⟨I_decodedTarget_c88_ok k, trivial⟩) fun x Q R h => by
    simp only [I_decodedTarget_b1, optK_bind, optK_bif, optK_pure, optK_none, optK_oc, optK_guardT, optK_map] at h
    refine hold_of h ?_
    kernel_rfl
def I_decodedTarget_b0_L (x : (List UInt8) × Int × (List Int) × Unit) (o : Oc ((List Int)) ((List UInt8) × Bool)) (Q : Ex → VSt D → Prop) (R : VR D → Prop) : Prop := ocP o (fun v0 => Q .normal (mkSt ⟨[(4, .ref 500004)], [(500004, .row)]⟩ [.sl 5 v0])) (fun w0 => R (.tup [.c (.str w0.1), .c (.bool w0.2)]))
def I_decodedTarget_b0_cut (k : Nat) : Cut D := cutS ⟨[(0, .hole), (4, .ref 500004), (5, .hole)], [(500004, .row)]⟩ [.ks, .ki .i64, .kl 5] (fun (x : (List UInt8) × Int × (List Int) × Unit) => I_decodedTarget_b0 k k x.1 x.2.1 x.2.2.1) I_decodedTarget_b0_L
def I_decodedTarget_b0_cu (k : Nat) : Cuts D := ⟨[(1, some (I_decodedTarget_b1_cut k))], []⟩
theorem I_decodedTarget_b0_ok (k : Nat) : CutFor X I_decodedTarget_pl k Go.Proofs.Tryd.f26.results.toList (I_decodedTarget_b0_cut k) (sub (bodyOf Go.Proofs.Tryd.f26) [1, 1, 0, 1]) :=
  loopCut_s (X := X) (sg := [.ks, .ki .i64, .kl 5]) (cu := I_decodedTarget_b0_cu k) (cl := I_decodedTarget_cl k) (tys := [[0], [0]]) (id := 0) (c := sub (bodyOf Go.Proofs.Tryd.f26) [1, 1, 0, 1, 0, 0]) (f := fun n => fun (x : (List UInt8) × Int × (List Int) × Unit) => I_decodedTarget_b0 k n x.1 x.2.1 x.2.2.1) (I_decodedTarget_ck k) (cutOK_of (l := [(I_decodedTarget_b1_cut k, sub (bodyOf Go.Proofs.Tryd.f26) [1, 1, 0, 1, 0, 0, 1, 0])]) (by kernel_rfl) ⟨I_decodedTarget_b1_ok k, trivial⟩) (fun _ => rfl) (fun n x Q R h => by
    simp only [I_decodedTarget_b0, optK_bind, optK_bif, optK_pure, optK_none, optK_oc, optK_guardT, optK_map] at h
    refine hold_of h ?_
    kernel_rfl) (by kernel_rfl)
def I_decodedTarget_cu (k : Nat) : Cuts D := ⟨[(0, some (I_decodedTarget_b0_cut k))], []⟩
def I_decodedTarget_ar : List Ar := [.c (.ks)]
def I_decodedTarget_f (k : Nat) (x : TupA D I_decodedTarget_ar) : Option ((List UInt8) × Bool) := I_decodedTarget k x.1
def I_decodedTarget_vr (r : (List UInt8) × Bool) : VR D := .tup [.c (.str r.1), .c (.bool r.2)]
theorem I_decodedTarget_ok (k : Nat) : Does P X 26 I_decodedTarget_ar (I_decodedTarget_f k) I_decodedTarget_vr :=
  does_of (body := bodyOf Go.Proofs.Tryd.f26) (pl := I_decodedTarget_pl) (k := k) (cu := I_decodedTarget_cu k) (tys := [[0], [0]]) (I_decodedTarget_ck k) ctx mixed Go.Proofs.Tryd.func26 (by kernel_rfl) (by kernel_rfl) (cutOK_of (l := [(I_decodedTarget_b0_cut k, sub (bodyOf Go.Proofs.Tryd.f26) [1, 1, 0, 1])]) (by kernel_rfl) ⟨I_decodedTarget_b0_ok k, trivial⟩) fun x R h => by
    simp only [I_decodedTarget_f, I_decodedTarget, optK_bind, optK_bif, optK_pure, optK_none, optK_oc, optK_guardT, optK_map] at h
    refine hold_of h ?_
    kernel_rfl
def I_decodedTarget_en (k : Nat) : Entry D := entS I_decodedTarget_ar (I_decodedTarget_f k) I_decodedTarget_vr
theorem I_decodedTarget_eo (k : Nat) : EntryOK X 26 (I_decodedTarget_en k) := (I_decodedTarget_ok k).en rfl
def internal_stringslite_HasPrefix_pl : Plan := ⟨[(0, [(0, none), (1, none)]), (1, [(4, none)])],
  [],
  []⟩
def internal_stringslite_HasPrefix_cl (k : Nat) : Calls' D := ⟨[], [], [], [], []⟩
theorem internal_stringslite_HasPrefix_ck (k : Nat) : CallsOK X (internal_stringslite_HasPrefix_cl k) := .nil cod
def internal_stringslite_HasPrefix_cu (k : Nat) : Cuts D := ⟨[], []⟩
def internal_stringslite_HasPrefix_ar : List Ar := [.c (.ks), .c (.ks)]
def internal_stringslite_HasPrefix_f (k : Nat) (x : TupA D internal_stringslite_HasPrefix_ar) : Option (Bool) := internal_stringslite_HasPrefix k x.1 x.2.1
def internal_stringslite_HasPrefix_vr (r : Bool) : VR D := .p (.c (.bool r))
theorem internal_stringslite_HasPrefix_ok (k : Nat) : Does P X 54 internal_stringslite_HasPrefix_ar (internal_stringslite_HasPrefix_f k) internal_stringslite_HasPrefix_vr :=
  does_of (body := bodyOf Go.Proofs.Tryd.f54) (pl := internal_stringslite_HasPrefix_pl) (k := k) (cu := internal_stringslite_HasPrefix_cu k) (tys := [[0]]) (internal_stringslite_HasPrefix_ck k) ctx mixed Go.Proofs.Tryd.func54 (by kernel_rfl) (by kernel_rfl) (cutOK_of (l := []) (by kernel_rfl) trivial) fun x R h => by
    simp only [internal_stringslite_HasPrefix_f, internal_stringslite_HasPrefix, optK_bind, optK_bif, optK_pure, optK_none, optK_oc, optK_guardT, optK_map] at h
    refine hold_of h ?_
    kernel_rfl
def internal_stringslite_HasPrefix_en (k : Nat) : Entry D := entS internal_stringslite_HasPrefix_ar (internal_stringslite_HasPrefix_f k) internal_stringslite_HasPrefix_vr
theorem internal_stringslite_HasPrefix_eo (k : Nat) : EntryOK X 54 (internal_stringslite_HasPrefix_en k) := (internal_stringslite_HasPrefix_ok k).en rfl
def strings_HasPrefix_pl : Plan := ⟨[(0, [(0, none), (1, none)]), (1, [(4, none)])],
  [],
  []⟩
def strings_HasPrefix_cl (k : Nat) : Calls' D := ⟨[(54, internal_stringslite_HasPrefix_en k)], [], [], [], []⟩
theorem strings_HasPrefix_ck (k : Nat) : CallsOK X (strings_HasPrefix_cl k) := .cons (internal_stringslite_HasPrefix_eo k) (.nil cod)
def strings_HasPrefix_cu (k : Nat) : Cuts D := ⟨[], []⟩
def strings_HasPrefix_ar : List Ar := [.c (.ks), .c (.ks)]
def strings_HasPrefix_f (k : Nat) (x : TupA D strings_HasPrefix_ar) : Option (Bool) := strings_HasPrefix k x.1 x.2.1
def strings_HasPrefix_vr (r : Bool) : VR D := .p (.c (.bool r))
theorem strings_HasPrefix_ok (k : Nat) : Does P X 27 strings_HasPrefix_ar (strings_HasPrefix_f k) strings_HasPrefix_vr :=
  does_of (body := bodyOf Go.Proofs.Tryd.f27) (pl := strings_HasPrefix_pl) (k := k) (cu := strings_HasPrefix_cu k) (tys := [[0]]) (strings_HasPrefix_ck k) ctx mixed Go.Proofs.Tryd.func27 (by kernel_rfl) (by kernel_rfl) (cutOK_of (l := []) (by kernel_rfl) trivial) fun x R h => by
    simp only [strings_HasPrefix_f, strings_HasPrefix, optK_bind, optK_bif, optK_pure, optK_none, optK_oc, optK_guardT, optK_map] at h
    refine hold_of h ?_
    kernel_rfl
def strings_HasPrefix_en (k : Nat) : Entry D := entS strings_HasPrefix_ar (strings_HasPrefix_f k) strings_HasPrefix_vr
theorem strings_HasPrefix_eo (k : Nat) : EntryOK X 27 (strings_HasPrefix_en k) := (strings_HasPrefix_ok k).en rfl
def strings_Split_ar : List Ar := [.c (.ks), .c (.ks)]
def strings_Split_f (k : Nat) (x : TupA D strings_Split_ar) : Option ((List (List UInt8))) := strings_Split k x.1 x.2.1
def strings_Split_vr (r : (List (List UInt8))) : VR D := .p (.c (.sl 9 r))
theorem strings_Split_ok (k : Nat) : Does P X 30 strings_Split_ar (strings_Split_f k) strings_Split_vr := does_split (P := P) (D := D) (X := X) (el := 9) ⟨Go.Proofs.Tryd.f30, Go.Proofs.Tryd.func30, by kernel_rfl, by kernel_rfl⟩ (fun (s : List UInt8) => s) (fun l s => splitO l s) (fun _ => rfl) (by kernel_rfl) (fun l s => (split_id l s).symm) (fun s sep w hg h1 h2 => let ⟨m, hm⟩ := hg; Go.Proofs.Tryd.strings_Split s sep m w h1 hm h2) (fun s sep h => Go.Lib.splitB_all sep h 0 _ s rfl)
def strings_Split_en (k : Nat) : Entry D := entS strings_Split_ar (strings_Split_f k) strings_Split_vr
theorem strings_Split_eo (k : Nat) : EntryOK X 30 (strings_Split_en k) := (strings_Split_ok k).en rfl
def I_cleanComponents_pl : Plan := ⟨[(0, [(0, some 9)]), (1, [(0, some 9), (3, some 9)]), (2, [(0, some 9), (3, some 9), (7, some 9), (8, none), (9, none)]), (3, [(0, some 9), (3, some 9), (7, some 9), (8, none), (9, none), (10, none)]), (4, [(0, some 9), (3, some 9), (4, none), (5, none), (7, some 9), (8, none), (9, none)]), (5, [(0, some 9), (3, some 9), (4, none), (5, none), (7, some 9), (8, none), (9, none), (20, none)]), (6, [(0, some 9), (3, some 9), (4, none), (5, none), (7, some 9), (8, none), (9, none)]), (7, [(0, some 9), (3, some 9), (4, none), (5, none), (7, some 9), (8, none), (9, none), (26, none)]), (8, [(0, some 9), (3, some 9), (7, some 9), (8, none), (9, none)]), (9, [(0, some 9), (3, some 9), (7, some 9), (8, none), (9, none), (37, none)]), (10, [(0, some 9), (3, some 9), (7, some 9), (8, none), (9, none)]), (11, [(0, some 9), (3, some 9), (7, some 9), (8, none), (9, none)]), (12, [(2, some 9)])],
  [(0, [(3, some 9)]), (1, [(0, some 9), (3, some 9), (7, some 9), (8, none), (9, none)]), (2, [(0, some 9), (3, some 9), (7, some 9), (8, none), (9, none)])],
  [(10, ([(0, some 9), (3, some 9), (7, some 9), (8, none), (9, none)], [(3, some 9)])), (20, ([(0, some 9), (3, some 9), (4, none), (5, none), (7, some 9), (8, none), (9, none)], [(0, some 9), (3, some 9), (4, none), (5, none), (7, some 9), (8, none), (9, none)])), (26, ([(0, some 9), (3, some 9), (5, none), (7, some 9), (8, none), (9, none)], [(0, some 9), (3, some 9), (4, none), (7, some 9), (8, none), (9, none)])), (37, ([(0, some 9), (3, some 9), (7, some 9), (8, none), (9, none)], [(0, some 9), (3, some 9), (7, some 9), (8, none), (9, none)]))]⟩
def I_cleanComponents_cl (k : Nat) : Calls' D := ⟨[], [], [], [], []⟩
theorem I_cleanComponents_ck (k : Nat) : CallsOK X (I_cleanComponents_cl k) := .nil cod
def I_cleanComponents_c20_L (x : (List (List UInt8)) × Int × (List UInt8) × (List (List UInt8)) × Int × Int × Bool × (List (List UInt8)) × Unit) (o : (List (List UInt8))) (Q : Ex → VSt D → Prop) (R : VR D → Prop) : Prop := Q .normal (mkSt ⟨[(0, .hole), (3, .ref 500003), (4, .hole), (5, .hole), (7, .hole), (8, .hole), (9, .hole)], [(500003, .row)]⟩ [.sl 9 x.1, .int .i64 x.2.1, .str x.2.2.1, .sl 9 x.2.2.2.1, .int .i64 x.2.2.2.2.1, .int .i64 x.2.2.2.2.2.1, .sl 9 o])
def I_cleanComponents_c20_cut (k : Nat) : Cut D := cutS ⟨[(0, .hole), (3, .ref 500003), (4, .hole), (5, .hole), (7, .hole), (8, .hole), (9, .hole), (20, .hole)], [(500003, .row)]⟩ [.kl 9, .ki .i64, .ks, .kl 9, .ki .i64, .ki .i64, .kb, .kl 9] (fun (x : (List (List UInt8)) × Int × (List UInt8) × (List (List UInt8)) × Int × Int × Bool × (List (List UInt8)) × Unit) => I_cleanComponents_c20 k x.1 x.2.1 x.2.2.1 x.2.2.2.1 x.2.2.2.2.1 x.2.2.2.2.2.1 x.2.2.2.2.2.2.1 x.2.2.2.2.2.2.2.1) I_cleanComponents_c20_L
def I_cleanComponents_c20_cu (k : Nat) : Cuts D := ⟨[], []⟩
theorem I_cleanComponents_c20_ok (k : Nat) : CutFor X I_cleanComponents_pl k Go.Proofs.Tryd.f29.results.toList (I_cleanComponents_c20_cut k) (sub (bodyOf Go.Proofs.Tryd.f29) [1, 1, 0, 1, 0, 0, 1, 1, 0, 0, 1, 0, 1]) :=
  joinCut_s (X := X) (sg := [.kl 9, .ki .i64, .ks, .kl 9, .ki .i64, .ki .i64, .kb, .kl 9]) (cu := I_cleanComponents_c20_cu k) (cl := I_cleanComponents_cl k) (tys := [[9]]) (I_cleanComponents_ck k) (cutOK_of (l := []) (by kernel_rfl) trivial) fun x Q R h => by
    simp only [I_cleanComponents_c20, optK_bind, optK_bif, optK_pure, optK_none, optK_oc, optK_guardT, optK_map] at h
    refine hold_of h ?_
    kernel_rfl
def I_cleanComponents_c37_L (x : (List (List UInt8)) × (List (List UInt8)) × Int × Int × Bool × (List (List UInt8)) × Unit) (o : (List (List UInt8))) (Q : Ex → VSt D → Prop) (R : VR D → Prop) : Prop := Q .normal (mkSt ⟨[(0, .hole), (3, .ref 500003), (7, .hole), (8, .hole), (9, .hole)], [(500003, .row)]⟩ [.sl 9 x.1, .sl 9 x.2.1, .int .i64 x.2.2.1, .int .i64 x.2.2.2.1, .sl 9 o])
def I_cleanComponents_c37_cut (k : Nat) : Cut D := cutS ⟨[(0, .hole), (3, .ref 500003), (7, .hole), (8, .hole), (9, .hole), (37, .hole)], [(500003, .row)]⟩ [.kl 9, .kl 9, .ki .i64, .ki .i64, .kb, .kl 9] (fun (x : (List (List UInt8)) × (List (List UInt8)) × Int × Int × Bool × (List (List UInt8)) × Unit) => I_cleanComponents_c37 k x.1 x.2.1 x.2.2.1 x.2.2.2.1 x.2.2.2.2.1 x.2.2.2.2.2.1) I_cleanComponents_c37_L
def I_cleanComponents_c37_cu (k : Nat) : Cuts D := ⟨[], []⟩
theorem I_cleanComponents_c37_ok (k : Nat) : CutFor X I_cleanComponents_pl k Go.Proofs.Tryd.f29.results.toList (I_cleanComponents_c37_cut k) (sub (bodyOf Go.Proofs.Tryd.f29) [1, 1, 0, 1, 0, 0, 1, 1, 0, 0, 1, 1, 0, 1, 1, 1]) :=
  joinCut_s (X := X) (sg := [.kl 9, .kl 9, .ki .i64, .ki .i64, .kb, .kl 9]) (cu := I_cleanComponents_c37_cu k) (cl := I_cleanComponents_cl k) (tys := [[9]]) (I_cleanComponents_ck k) (cutOK_of (l := []) (by kernel_rfl) trivial) fun x Q R h => by
    simp only [I_cleanComponents_c37, optK_bind, optK_bif, optK_pure, optK_none, optK_oc, optK_guardT, optK_map] at h
    refine hold_of h ?_
    kernel_rfl
def I_cleanComponents_c26_L (x : (List (List UInt8)) × Int × (List UInt8) × (List (List UInt8)) × Int × Int × Bool × (List (List UInt8)) × Unit) (o : (List (List UInt8))) (Q : Ex → VSt D → Prop) (R : VR D → Prop) : Prop := Q .normal (mkSt ⟨[(0, .hole), (3, .ref 500003), (7, .hole), (8, .hole), (9, .hole)], [(500003, .row)]⟩ [.sl 9 x.1, .sl 9 x.2.2.2.1, .int .i64 x.2.2.2.2.1, .int .i64 x.2.2.2.2.2.1, .sl 9 o])
def I_cleanComponents_c26_cut (k : Nat) : Cut D := cutS ⟨[(0, .hole), (3, .ref 500003), (4, .hole), (5, .hole), (7, .hole), (8, .hole), (9, .hole), (26, .hole)], [(500003, .row)]⟩ [.kl 9, .ki .i64, .ks, .kl 9, .ki .i64, .ki .i64, .kb, .kl 9] (fun (x : (List (List UInt8)) × Int × (List UInt8) × (List (List UInt8)) × Int × Int × Bool × (List (List UInt8)) × Unit) => I_cleanComponents_c26 k x.1 x.2.1 x.2.2.1 x.2.2.2.1 x.2.2.2.2.1 x.2.2.2.2.2.1 x.2.2.2.2.2.2.1 x.2.2.2.2.2.2.2.1) I_cleanComponents_c26_L
def I_cleanComponents_c26_cu (k : Nat) : Cuts D := ⟨[], [(37, some (I_cleanComponents_c37_cut k))]⟩
theorem I_cleanComponents_c26_ok (k : Nat) : CutFor X I_cleanComponents_pl k Go.Proofs.Tryd.f29.results.toList (I_cleanComponents_c26_cut k) (sub (bodyOf Go.Proofs.Tryd.f29) [1, 1, 0, 1, 0, 0, 1, 1, 0, 0, 1, 1, 0, 1]) :=
  joinCut_s (X := X) (sg := [.kl 9, .ki .i64, .ks, .kl 9, .ki .i64, .ki .i64, .kb, .kl 9]) (cu := I_cleanComponents_c26_cu k) (cl := I_cleanComponents_cl k) (tys := [[9]]) (I_cleanComponents_ck k) (cutOK_of (l := [(I_cleanComponents_c37_cut k, sub (bodyOf Go.Proofs.Tryd.f29) [1, 1, 0, 1, 0, 0, 1, 1, 0, 0, 1, 1, 0, 1, 1, 1])]) (by kernel_rfl) ⟨I_cleanComponents_c37_ok k, trivial⟩) fun x Q R h => by
    simp only [I_cleanComponents_c26, optK_bind, optK_bif, optK_pure, optK_none, optK_oc, optK_guardT, optK_map] at h
    refine hold_of h ?_
    kernel_rfl
def I_cleanComponents_b2_L (x : (List (List UInt8)) × Int × (List UInt8) × (List (List UInt8)) × Int × Int × (List (List UInt8)) × Unit) (o : (List (List UInt8))) (Q : Ex → VSt D → Prop) (R : VR D → Prop) : Prop := Q .normal (mkSt ⟨[(0, .hole), (3, .ref 500003), (7, .hole), (8, .hole), (9, .hole)], [(500003, .row)]⟩ [.sl 9 x.1, .sl 9 x.2.2.2.1, .int .i64 x.2.2.2.2.1, .int .i64 x.2.2.2.2.2.1, .sl 9 o])
def I_cleanComponents_b2_cut (k : Nat) : Cut D := cutS ⟨[(0, .hole), (3, .ref 500003), (4, .hole), (5, .hole), (7, .hole), (8, .hole), (9, .hole)], [(500003, .row)]⟩ [.kl 9, .ki .i64, .ks, .kl 9, .ki .i64, .ki .i64, .kl 9] (fun (x : (List (List UInt8)) × Int × (List UInt8) × (List (List UInt8)) × Int × Int × (List (List UInt8)) × Unit) => I_cleanComponents_b2 k x.1 x.2.1 x.2.2.1 x.2.2.2.1 x.2.2.2.2.1 x.2.2.2.2.2.1 x.2.2.2.2.2.2.1) I_cleanComponents_b2_L
def I_cleanComponents_b2_cu (k : Nat) : Cuts D := ⟨[], [(26, some (I_cleanComponents_c26_cut k))]⟩
theorem I_cleanComponents_b2_ok (k : Nat) : CutFor X I_cleanComponents_pl k Go.Proofs.Tryd.f29.results.toList (I_cleanComponents_b2_cut k) (sub (bodyOf Go.Proofs.Tryd.f29) [1, 1, 0, 1, 0, 0, 1, 1, 0, 0, 1, 1]) :=
  joinCut_s (X := X) (sg := [.kl 9, .ki .i64, .ks, .kl 9, .ki .i64, .ki .i64, .kl 9]) (cu := I_cleanComponents_b2_cu k) (cl := I_cleanComponents_cl k) (tys := [[9]]) (I_cleanComponents_ck k) (cutOK_of (l := [(I_cleanComponents_c26_cut k, sub (bodyOf Go.Proofs.Tryd.f29) [1, 1, 0, 1, 0, 0, 1, 1, 0, 0, 1, 1, 0, 1])]) (by kernel_rfl) ⟨I_cleanComponents_c26_ok k, trivial⟩) fun x Q R h => by
    simp only [I_cleanComponents_b2, optK_bind, optK_bif, optK_pure, optK_none, optK_oc, optK_guardT, optK_map] at h
    refine hold_of h ?_
    kernel_rfl
def I_cleanComponents_b1_L (x : (List (List UInt8)) × (List (List UInt8)) × Int × Int × (List (List UInt8)) × Unit) (o : (List (List UInt8))) (Q : Ex → VSt D → Prop) (R : VR D → Prop) : Prop := Q .normal (mkSt ⟨[(0, .hole), (3, .ref 500003), (7, .hole), (8, .hole), (9, .hole)], [(500003, .row)]⟩ [.sl 9 x.1, .sl 9 x.2.1, .int .i64 x.2.2.1, .int .i64 x.2.2.2.1, .sl 9 o])
def I_cleanComponents_b1_cut (k : Nat) : Cut D := cutS ⟨[(0, .hole), (3, .ref 500003), (7, .hole), (8, .hole), (9, .hole)], [(500003, .row)]⟩ [.kl 9, .kl 9, .ki .i64, .ki .i64, .kl 9] (fun (x : (List (List UInt8)) × (List (List UInt8)) × Int × Int × (List (List UInt8)) × Unit) => I_cleanComponents_b1 k x.1 x.2.1 x.2.2.1 x.2.2.2.1 x.2.2.2.2.1) I_cleanComponents_b1_L
def I_cleanComponents_b1_cu (k : Nat) : Cuts D := ⟨[(2, some (I_cleanComponents_b2_cut k))], [(20, some (I_cleanComponents_c20_cut k))]⟩
theorem I_cleanComponents_b1_ok (k : Nat) : CutFor X I_cleanComponents_pl k Go.Proofs.Tryd.f29.results.toList (I_cleanComponents_b1_cut k) (sub (bodyOf Go.Proofs.Tryd.f29) [1, 1, 0, 1, 0, 0, 1, 1, 0]) :=
  joinCut_s (X := X) (sg := [.kl 9, .kl 9, .ki .i64, .ki .i64, .kl 9]) (cu := I_cleanComponents_b1_cu k) (cl := I_cleanComponents_cl k) (tys := [[9]]) (I_cleanComponents_ck k) (cutOK_of (l := [(I_cleanComponents_c20_cut k, sub (bodyOf Go.Proofs.Tryd.f29) [1, 1, 0, 1, 0, 0, 1, 1, 0, 0, 1, 0, 1]), (I_cleanComponents_b2_cut k, sub (bodyOf Go.Proofs.Tryd.f29) [1, 1, 0, 1, 0, 0, 1, 1, 0, 0, 1, 1])]) (by kernel_rfl) ⟨I_cleanComponents_c20_ok k, I_cleanComponents_b2_ok k, trivial⟩) fun x Q R h => by
    simp only [I_cleanComponents_b1, optK_bind, optK_bif, optK_pure, optK_none, optK_oc, optK_guardT, optK_map] at h
    refine hold_of h ?_
    kernel_rfl
def I_cleanComponents_b0_L (x : (List (List UInt8)) × (List (List UInt8)) × Int × Int × (List (List UInt8)) × Unit) (o : (List (List UInt8))) (Q : Ex → VSt D → Prop) (R : VR D → Prop) : Prop := Q .normal (mkSt ⟨[(3, .ref 500003)], [(500003, .row)]⟩ [.sl 9 o])
def I_cleanComponents_b0_cut (k : Nat) : Cut D := cutS ⟨[(0, .hole), (3, .ref 500003), (7, .hole), (8, .hole), (9, .hole)], [(500003, .row)]⟩ [.kl 9, .kl 9, .ki .i64, .ki .i64, .kl 9] (fun (x : (List (List UInt8)) × (List (List UInt8)) × Int × Int × (List (List UInt8)) × Unit) => I_cleanComponents_b0 k k x.1 x.2.1 x.2.2.1 x.2.2.2.1 x.2.2.2.2.1) I_cleanComponents_b0_L
def I_cleanComponents_b0_cu (k : Nat) : Cuts D := ⟨[(1, some (I_cleanComponents_b1_cut k))], []⟩
theorem I_cleanComponents_b0_ok (k : Nat) : CutFor X I_cleanComponents_pl k Go.Proofs.Tryd.f29.results.toList (I_cleanComponents_b0_cut k) (sub (bodyOf Go.Proofs.Tryd.f29) [1, 1, 0, 1]) :=
  loopCut_s (X := X) (sg := [.kl 9, .kl 9, .ki .i64, .ki .i64, .kl 9]) (cu := I_cleanComponents_b0_cu k) (cl := I_cleanComponents_cl k) (tys := [[9]]) (id := 0) (c := sub (bodyOf Go.Proofs.Tryd.f29) [1, 1, 0, 1, 0, 0]) (f := fun n => fun (x : (List (List UInt8)) × (List (List UInt8)) × Int × Int × (List (List UInt8)) × Unit) => I_cleanComponents_b0 k n x.1 x.2.1 x.2.2.1 x.2.2.2.1 x.2.2.2.2.1) (I_cleanComponents_ck k) (cutOK_of (l := [(I_cleanComponents_b1_cut k, sub (bodyOf Go.Proofs.Tryd.f29) [1, 1, 0, 1, 0, 0, 1, 1, 0])]) (by kernel_rfl) ⟨I_cleanComponents_b1_ok k, trivial⟩) (fun _ => rfl) (fun n x Q R h => by
    simp only [I_cleanComponents_b0, optK_bind, optK_bif, optK_pure, optK_none, optK_oc, optK_guardT, optK_map] at h
    refine hold_of h ?_
    kernel_rfl) (by kernel_rfl)
def I_cleanComponents_cu (k : Nat) : Cuts D := ⟨[(0, some (I_cleanComponents_b0_cut k))], []⟩
def I_cleanComponents_ar : List Ar := [.c (.kl 9)]
def I_cleanComponents_f (k : Nat) (x : TupA D I_cleanComponents_ar) : Option ((List (List UInt8))) := I_cleanComponents k x.1
def I_cleanComponents_vr (r : (List (List UInt8))) : VR D := .p (.c (.sl 9 r))
theorem I_cleanComponents_ok (k : Nat) : Does P X 29 I_cleanComponents_ar (I_cleanComponents_f k) I_cleanComponents_vr :=
  does_of (body := bodyOf Go.Proofs.Tryd.f29) (pl := I_cleanComponents_pl) (k := k) (cu := I_cleanComponents_cu k) (tys := [[9]]) (I_cleanComponents_ck k) ctx mixed Go.Proofs.Tryd.func29 (by kernel_rfl) (by kernel_rfl) (cutOK_of (l := [(I_cleanComponents_b0_cut k, sub (bodyOf Go.Proofs.Tryd.f29) [1, 1, 0, 1])]) (by kernel_rfl) ⟨I_cleanComponents_b0_ok k, trivial⟩) fun x R h => by
    simp only [I_cleanComponents_f, I_cleanComponents, optK_bind, optK_bif, optK_pure, optK_none, optK_oc, optK_guardT, optK_map] at h
    refine hold_of h ?_
    kernel_rfl
def I_cleanComponents_en (k : Nat) : Entry D := entS I_cleanComponents_ar (I_cleanComponents_f k) I_cleanComponents_vr
theorem I_cleanComponents_eo (k : Nat) : EntryOK X 29 (I_cleanComponents_en k) := (I_cleanComponents_ok k).en rfl
def strings_Join_ar : List Ar := [.c (.kl 9), .c (.ks)]
def strings_Join_f (k : Nat) (x : TupA D strings_Join_ar) : Option ((List UInt8)) := strings_Join k x.1 x.2.1
def strings_Join_vr (r : (List UInt8)) : VR D := .p (.c (.str r))
theorem strings_Join_ok (k : Nat) : Does P X 28 strings_Join_ar (strings_Join_f k) strings_Join_vr := does_join (P := P) (D := D) (X := X) (el := 9) ⟨Go.Proofs.Tryd.f28, Go.Proofs.Tryd.func28, by kernel_rfl, by kernel_rfl⟩ (fun (s : List UInt8) => s) (fun (l : List (List UInt8)) s => joinO l s) (fun _ => rfl) (by kernel_rfl) (fun (l : List (List UInt8)) s => congrArg (fun t => joinO t s) (List.map_id' l).symm) (fun a c sep w => Go.Proofs.Tryd.strings_Join_none a c sep w) (fun bk o c xs sep w hg h1 h2 h3 h4 h5 => Go.Proofs.Tryd.strings_Join bk o c xs sep w h1 h2 h3 h4 h5)
def strings_Join_en (k : Nat) : Entry D := entS strings_Join_ar (strings_Join_f k) strings_Join_vr
theorem strings_Join_eo (k : Nat) : EntryOK X 28 (strings_Join_en k) := (strings_Join_ok k).en rfl
def I_NormalTarget_1_pl : Plan := ⟨[(0, [(0, none)]), (1, [(2, none)])],
  [],
  []⟩
def I_NormalTarget_1_cl (k : Nat) : Calls' D := ⟨[], [], [], [], []⟩
theorem I_NormalTarget_1_ck (k : Nat) : CallsOK X (I_NormalTarget_1_cl k) := .nil cod
def I_NormalTarget_1_cu (k : Nat) : Cuts D := ⟨[], []⟩
def I_NormalTarget_1_ar : List Ar := [.c (.ks)]
def I_NormalTarget_1_f (k : Nat) (x : TupA D I_NormalTarget_1_ar) : Option (Bool) := I_NormalTarget_1 k x.1
def I_NormalTarget_1_vr (r : Bool) : VR D := .p (.c (.bool r))
theorem I_NormalTarget_1_ok (k : Nat) : Does P X 32 I_NormalTarget_1_ar (I_NormalTarget_1_f k) I_NormalTarget_1_vr :=
  does_of (body := bodyOf Go.Proofs.Tryd.f32) (pl := I_NormalTarget_1_pl) (k := k) (cu := I_NormalTarget_1_cu k) (tys := [[0]]) (I_NormalTarget_1_ck k) ctx mixed Go.Proofs.Tryd.func32 (by kernel_rfl) (by kernel_rfl) (cutOK_of (l := []) (by kernel_rfl) trivial) fun x R h => by
    simp only [I_NormalTarget_1_f, I_NormalTarget_1, optK_bind, optK_bif, optK_pure, optK_none, optK_oc, optK_guardT, optK_map] at h
    refine hold_of h ?_
    kernel_rfl
def I_NormalTarget_1_en (k : Nat) : Entry D := entS I_NormalTarget_1_ar (I_NormalTarget_1_f k) I_NormalTarget_1_vr
theorem I_NormalTarget_1_eo (k : Nat) : EntryOK X 32 (I_NormalTarget_1_en k) := (I_NormalTarget_1_ok k).en rfl
def slices_IndexFunc_string_at_I_NormalTarget_1_pl : Plan := ⟨[(0, [(0, some 9), (1, none)]), (1, [(0, some 9), (1, none), (7, none), (8, none)]), (2, [(0, some 9), (1, none), (7, none), (8, none), (9, none)]), (3, [(0, some 9), (1, none), (5, none), (7, none), (8, none)]), (4, [(0, some 9), (1, none), (5, none), (7, none), (8, none), (16, none)]), (5, [(4, none)]), (6, [(0, some 9), (1, none), (7, none), (8, none)]), (7, [(4, none)])],
  [(0, []), (1, [(0, some 9), (1, none), (7, none), (8, none)])],
  [(9, ([(0, some 9), (1, none), (7, none), (8, none)], [])), (16, ([(5, none)], [(0, some 9), (1, none), (7, none), (8, none)]))]⟩
def slices_IndexFunc_string_at_I_NormalTarget_1_cl (k : Nat) : Calls' D := ⟨[(32, I_NormalTarget_1_en k)], [], [], [], []⟩
theorem slices_IndexFunc_string_at_I_NormalTarget_1_ck (k : Nat) : CallsOK X (slices_IndexFunc_string_at_I_NormalTarget_1_cl k) := .cons (I_NormalTarget_1_eo k) (.nil cod)
def slices_IndexFunc_string_at_I_NormalTarget_1_b0_L (x : (List (List UInt8)) × Int × Int × Unit) (o : Oc (Unit) (Int)) (Q : Ex → VSt D → Prop) (R : VR D → Prop) : Prop := ocP o (fun v0 => Q .normal (mkSt ⟨[], []⟩ [])) (fun w0 => R (.p (.c (.int .i64 w0))))
def slices_IndexFunc_string_at_I_NormalTarget_1_b0_cut (k : Nat) : Cut D := cutS ⟨[(0, .hole), (1, .clo 32 []), (7, .hole), (8, .hole)], []⟩ [.kl 9, .ki .i64, .ki .i64] (fun (x : (List (List UInt8)) × Int × Int × Unit) => slices_IndexFunc_string_at_I_NormalTarget_1_b0 k k x.1 x.2.1 x.2.2.1) slices_IndexFunc_string_at_I_NormalTarget_1_b0_L
def slices_IndexFunc_string_at_I_NormalTarget_1_b0_cu (k : Nat) : Cuts D := ⟨[], []⟩
theorem slices_IndexFunc_string_at_I_NormalTarget_1_b0_ok (k : Nat) : CutFor X slices_IndexFunc_string_at_I_NormalTarget_1_pl k Go.Proofs.Tryd.f59.results.toList (slices_IndexFunc_string_at_I_NormalTarget_1_b0_cut k) (sub (bodyOf Go.Proofs.Tryd.f59) [1, 0, 1]) :=
  loopCut_s (X := X) (sg := [.kl 9, .ki .i64, .ki .i64]) (cu := slices_IndexFunc_string_at_I_NormalTarget_1_b0_cu k) (cl := slices_IndexFunc_string_at_I_NormalTarget_1_cl k) (tys := [[0]]) (id := 0) (c := sub (bodyOf Go.Proofs.Tryd.f59) [1, 0, 1, 0, 0]) (f := fun n => fun (x : (List (List UInt8)) × Int × Int × Unit) => slices_IndexFunc_string_at_I_NormalTarget_1_b0 k n x.1 x.2.1 x.2.2.1) (slices_IndexFunc_string_at_I_NormalTarget_1_ck k) (cutOK_of (l := []) (by kernel_rfl) trivial) (fun _ => rfl) (fun n x Q R h => by
    simp only [slices_IndexFunc_string_at_I_NormalTarget_1_b0, optK_bind, optK_bif, optK_pure, optK_none, optK_oc, optK_guardT, optK_map] at h
    refine hold_of h ?_
    kernel_rfl) (by kernel_rfl)
def slices_IndexFunc_string_at_I_NormalTarget_1_cu (k : Nat) : Cuts D := ⟨[(0, some (slices_IndexFunc_string_at_I_NormalTarget_1_b0_cut k))], []⟩
def slices_IndexFunc_string_at_I_NormalTarget_1_ar : List Ar := [.c (.kl 9), .f 32 []]
def slices_IndexFunc_string_at_I_NormalTarget_1_f (k : Nat) (x : TupA D slices_IndexFunc_string_at_I_NormalTarget_1_ar) : Option (Int) := slices_IndexFunc_string_at_I_NormalTarget_1 k x.1
def slices_IndexFunc_string_at_I_NormalTarget_1_vr (r : Int) : VR D := .p (.c (.int .i64 r))
theorem slices_IndexFunc_string_at_I_NormalTarget_1_ok (k : Nat) : Does P X 59 slices_IndexFunc_string_at_I_NormalTarget_1_ar (slices_IndexFunc_string_at_I_NormalTarget_1_f k) slices_IndexFunc_string_at_I_NormalTarget_1_vr :=
  does_of (body := bodyOf Go.Proofs.Tryd.f59) (pl := slices_IndexFunc_string_at_I_NormalTarget_1_pl) (k := k) (cu := slices_IndexFunc_string_at_I_NormalTarget_1_cu k) (tys := [[0]]) (slices_IndexFunc_string_at_I_NormalTarget_1_ck k) ctx mixed Go.Proofs.Tryd.func59 (by kernel_rfl) (by kernel_rfl) (cutOK_of (l := [(slices_IndexFunc_string_at_I_NormalTarget_1_b0_cut k, sub (bodyOf Go.Proofs.Tryd.f59) [1, 0, 1])]) (by kernel_rfl) ⟨slices_IndexFunc_string_at_I_NormalTarget_1_b0_ok k, trivial⟩) fun x R h => by
    simp only [slices_IndexFunc_string_at_I_NormalTarget_1_f, slices_IndexFunc_string_at_I_NormalTarget_1, optK_bind, optK_bif, optK_pure, optK_none, optK_oc, optK_guardT, optK_map] at h
    refine hold_of h ?_
    kernel_rfl
def slices_IndexFunc_string_at_I_NormalTarget_1_en (k : Nat) : Entry D := entS slices_IndexFunc_string_at_I_NormalTarget_1_ar (slices_IndexFunc_string_at_I_NormalTarget_1_f k) slices_IndexFunc_string_at_I_NormalTarget_1_vr
theorem slices_IndexFunc_string_at_I_NormalTarget_1_eo (k : Nat) : EntryOK X 59 (slices_IndexFunc_string_at_I_NormalTarget_1_en k) := (slices_IndexFunc_string_at_I_NormalTarget_1_ok k).en rfl
def slices_DeleteFunc_string_at_I_NormalTarget_1_pl : Plan := ⟨[(0, [(0, some 9), (1, none)]), (1, [(0, some 9), (1, none), (5, none)]), (2, [(0, some 9), (1, none), (5, none), (12, none)]), (3, [(4, some 9)]), (4, [(0, some 9), (1, none), (5, none), (6, none)]), (5, [(0, some 9), (1, none), (5, none), (6, none), (19, none)]), (6, [(0, some 9), (1, none), (5, none), (6, none)]), (7, [(0, some 9), (1, none), (5, none), (6, none), (7, none)]), (8, [(0, some 9), (1, none), (5, none), (6, none), (7, none), (29, none)]), (9, [(0, some 9), (1, none), (5, none), (6, none)]), (10, [(0, some 9), (1, none), (5, none), (6, none)]), (11, [(0, some 9), (5, none)]), (12, [(4, some 9)])],
  [(0, [(0, some 9), (5, none)]), (1, [(0, some 9), (1, none), (5, none), (6, none)])],
  [(12, ([(0, some 9)], [(0, some 9), (1, none), (5, none)])), (19, ([(0, some 9), (1, none), (5, none), (6, none)], [(0, some 9), (5, none)])), (29, ([(0, some 9), (1, none), (5, none), (6, none), (7, none)], [(0, some 9), (1, none), (5, none), (6, none)]))]⟩
def slices_DeleteFunc_string_at_I_NormalTarget_1_cl (k : Nat) : Calls' D := ⟨[(59, slices_IndexFunc_string_at_I_NormalTarget_1_en k), (32, I_NormalTarget_1_en k)], [], [], [], []⟩
theorem slices_DeleteFunc_string_at_I_NormalTarget_1_ck (k : Nat) : CallsOK X (slices_DeleteFunc_string_at_I_NormalTarget_1_cl k) := .cons (slices_IndexFunc_string_at_I_NormalTarget_1_eo k) (.cons (I_NormalTarget_1_eo k) (.nil cod))
def slices_DeleteFunc_string_at_I_NormalTarget_1_c29_L (x : Int × Int × (List UInt8) × Bool × (List (List UInt8)) × Unit) (o : Int × (List (List UInt8))) (Q : Ex → VSt D → Prop) (R : VR D → Prop) : Prop := Q .normal (mkSt ⟨[(0, .ref 500000), (1, .clo 32 []), (5, .hole), (6, .hole)], [(500000, .row)]⟩ [.int .i64 o.1, .int .i64 x.2.1, .sl 9 o.2])
def slices_DeleteFunc_string_at_I_NormalTarget_1_c29_cut (k : Nat) : Cut D := cutS ⟨[(0, .ref 500000), (1, .clo 32 []), (5, .hole), (6, .hole), (7, .hole), (29, .hole)], [(500000, .row)]⟩ [.ki .i64, .ki .i64, .ks, .kb, .kl 9] (fun (x : Int × Int × (List UInt8) × Bool × (List (List UInt8)) × Unit) => slices_DeleteFunc_string_at_I_NormalTarget_1_c29 k x.1 x.2.1 x.2.2.1 x.2.2.2.1 x.2.2.2.2.1) slices_DeleteFunc_string_at_I_NormalTarget_1_c29_L
def slices_DeleteFunc_string_at_I_NormalTarget_1_c29_cu (k : Nat) : Cuts D := ⟨[], []⟩
theorem slices_DeleteFunc_string_at_I_NormalTarget_1_c29_ok (k : Nat) : CutFor X slices_DeleteFunc_string_at_I_NormalTarget_1_pl k Go.Proofs.Tryd.f31.results.toList (slices_DeleteFunc_string_at_I_NormalTarget_1_c29_cut k) (sub (bodyOf Go.Proofs.Tryd.f31) [1, 1, 1, 0, 1, 0, 0, 1, 0, 0, 1, 1]) :=
  joinCut_s (X := X) (sg := [.ki .i64, .ki .i64, .ks, .kb, .kl 9]) (cu := slices_DeleteFunc_string_at_I_NormalTarget_1_c29_cu k) (cl := slices_DeleteFunc_string_at_I_NormalTarget_1_cl k) (tys := [[9]]) (slices_DeleteFunc_string_at_I_NormalTarget_1_ck k) (cutOK_of (l := []) (by kernel_rfl) trivial) fun x Q R h => by
    simp only [slices_DeleteFunc_string_at_I_NormalTarget_1_c29, optK_bind, optK_bif, optK_pure, optK_none, optK_oc, optK_guardT, optK_map] at h
    refine hold_of h ?_
    kernel_rfl
def slices_DeleteFunc_string_at_I_NormalTarget_1_b1_L (x : Int × Int × (List (List UInt8)) × Unit) (o : Int × (List (List UInt8))) (Q : Ex → VSt D → Prop) (R : VR D → Prop) : Prop := Q .normal (mkSt ⟨[(0, .ref 500000), (1, .clo 32 []), (5, .hole), (6, .hole)], [(500000, .row)]⟩ [.int .i64 o.1, .int .i64 x.2.1, .sl 9 o.2])
def slices_DeleteFunc_string_at_I_NormalTarget_1_b1_cut (k : Nat) : Cut D := cutS ⟨[(0, .ref 500000), (1, .clo 32 []), (5, .hole), (6, .hole)], [(500000, .row)]⟩ [.ki .i64, .ki .i64, .kl 9] (fun (x : Int × Int × (List (List UInt8)) × Unit) => slices_DeleteFunc_string_at_I_NormalTarget_1_b1 k x.1 x.2.1 x.2.2.1) slices_DeleteFunc_string_at_I_NormalTarget_1_b1_L
def slices_DeleteFunc_string_at_I_NormalTarget_1_b1_cu (k : Nat) : Cuts D := ⟨[], [(29, some (slices_DeleteFunc_string_at_I_NormalTarget_1_c29_cut k))]⟩
theorem slices_DeleteFunc_string_at_I_NormalTarget_1_b1_ok (k : Nat) : CutFor X slices_DeleteFunc_string_at_I_NormalTarget_1_pl k Go.Proofs.Tryd.f31.results.toList (slices_DeleteFunc_string_at_I_NormalTarget_1_b1_cut k) (sub (bodyOf Go.Proofs.Tryd.f31) [1, 1, 1, 0, 1, 0, 0, 1, 0]) :=
  joinCut_s (X := X) (sg := [.ki .i64, .ki .i64, .kl 9]) (cu := slices_DeleteFunc_string_at_I_NormalTarget_1_b1_cu k) (cl := slices_DeleteFunc_string_at_I_NormalTarget_1_cl k) (tys := [[9]]) (slices_DeleteFunc_string_at_I_NormalTarget_1_ck k) (cutOK_of (l := [(slices_DeleteFunc_string_at_I_NormalTarget_1_c29_cut k, sub (bodyOf Go.Proofs.Tryd.f31) [1, 1, 1, 0, 1, 0, 0, 1, 0, 0, 1, 1])]) (by kernel_rfl) ⟨slices_DeleteFunc_string_at_I_NormalTarget_1_c29_ok k, trivial⟩) fun x Q R h => by
    simp only [slices_DeleteFunc_string_at_I_NormalTarget_1_b1, optK_bind, optK_bif, optK_pure, optK_none, optK_oc, optK_guardT, optK_map] at h
    refine hold_of h ?_
    kernel_rfl
def slices_DeleteFunc_string_at_I_NormalTarget_1_b0_L (x : Int × Int × (List (List UInt8)) × Unit) (o : Int × (List (List UInt8))) (Q : Ex → VSt D → Prop) (R : VR D → Prop) : Prop := Q .normal (mkSt ⟨[(0, .ref 500000), (5, .hole)], [(500000, .row)]⟩ [.int .i64 o.1, .sl 9 o.2])
def slices_DeleteFunc_string_at_I_NormalTarget_1_b0_cut (k : Nat) : Cut D := cutS ⟨[(0, .ref 500000), (1, .clo 32 []), (5, .hole), (6, .hole)], [(500000, .row)]⟩ [.ki .i64, .ki .i64, .kl 9] (fun (x : Int × Int × (List (List UInt8)) × Unit) => slices_DeleteFunc_string_at_I_NormalTarget_1_b0 k k x.1 x.2.1 x.2.2.1) slices_DeleteFunc_string_at_I_NormalTarget_1_b0_L
def slices_DeleteFunc_string_at_I_NormalTarget_1_b0_cu (k : Nat) : Cuts D := ⟨[(1, some (slices_DeleteFunc_string_at_I_NormalTarget_1_b1_cut k))], []⟩
theorem slices_DeleteFunc_string_at_I_NormalTarget_1_b0_ok (k : Nat) : CutFor X slices_DeleteFunc_string_at_I_NormalTarget_1_pl k Go.Proofs.Tryd.f31.results.toList (slices_DeleteFunc_string_at_I_NormalTarget_1_b0_cut k) (sub (bodyOf Go.Proofs.Tryd.f31) [1, 1, 1, 0, 1]) :=
  loopCut_s (X := X) (sg := [.ki .i64, .ki .i64, .kl 9]) (cu := slices_DeleteFunc_string_at_I_NormalTarget_1_b0_cu k) (cl := slices_DeleteFunc_string_at_I_NormalTarget_1_cl k) (tys := [[9]]) (id := 0) (c := sub (bodyOf Go.Proofs.Tryd.f31) [1, 1, 1, 0, 1, 0, 0]) (f := fun n => fun (x : Int × Int × (List (List UInt8)) × Unit) => slices_DeleteFunc_string_at_I_NormalTarget_1_b0 k n x.1 x.2.1 x.2.2.1) (slices_DeleteFunc_string_at_I_NormalTarget_1_ck k) (cutOK_of (l := [(slices_DeleteFunc_string_at_I_NormalTarget_1_b1_cut k, sub (bodyOf Go.Proofs.Tryd.f31) [1, 1, 1, 0, 1, 0, 0, 1, 0])]) (by kernel_rfl) ⟨slices_DeleteFunc_string_at_I_NormalTarget_1_b1_ok k, trivial⟩) (fun _ => rfl) (fun n x Q R h => by
    simp only [slices_DeleteFunc_string_at_I_NormalTarget_1_b0, optK_bind, optK_bif, optK_pure, optK_none, optK_oc, optK_guardT, optK_map] at h
    refine hold_of h ?_
    kernel_rfl) (by kernel_rfl)
def slices_DeleteFunc_string_at_I_NormalTarget_1_cu (k : Nat) : Cuts D := ⟨[(0, some (slices_DeleteFunc_string_at_I_NormalTarget_1_b0_cut k))], []⟩
def slices_DeleteFunc_string_at_I_NormalTarget_1_ar : List Ar := [.f 32 []]
def slices_DeleteFunc_string_at_I_NormalTarget_1_f (k : Nat) (l : List (D 9)) (x : TupA D slices_DeleteFunc_string_at_I_NormalTarget_1_ar) : Option ((List (List UInt8))) := slices_DeleteFunc_string_at_I_NormalTarget_1 k l
def slices_DeleteFunc_string_at_I_NormalTarget_1_vr (r : (List (List UInt8))) : VR D := .p (.c (.sl 9 r))
theorem slices_DeleteFunc_string_at_I_NormalTarget_1_ok (k : Nat) : DoesT P X 31 9 slices_DeleteFunc_string_at_I_NormalTarget_1_ar (slices_DeleteFunc_string_at_I_NormalTarget_1_f k) slices_DeleteFunc_string_at_I_NormalTarget_1_vr (fun _ => none) :=
  doesT_of (body := bodyOf Go.Proofs.Tryd.f31) (pl := slices_DeleteFunc_string_at_I_NormalTarget_1_pl) (k := k) (cu := slices_DeleteFunc_string_at_I_NormalTarget_1_cu k) (tys := [[9]]) (slices_DeleteFunc_string_at_I_NormalTarget_1_ck k) ctx mixed Go.Proofs.Tryd.func31 (by kernel_rfl) (by kernel_rfl) (cutOK_of (l := [(slices_DeleteFunc_string_at_I_NormalTarget_1_b0_cut k, sub (bodyOf Go.Proofs.Tryd.f31) [1, 1, 1, 0, 1])]) (by kernel_rfl) ⟨slices_DeleteFunc_string_at_I_NormalTarget_1_b0_ok k, trivial⟩) fun l x R h => by
    simp only [slices_DeleteFunc_string_at_I_NormalTarget_1_f, slices_DeleteFunc_string_at_I_NormalTarget_1, optK_bind, optK_bif, optK_pure, optK_none, optK_oc, optK_guardT, optK_map] at h
    refine hold_of h ?_
    kernel_rfl
def slices_DeleteFunc_string_at_I_NormalTarget_1_en (k : Nat) : EntryT D := entT 9 slices_DeleteFunc_string_at_I_NormalTarget_1_ar (slices_DeleteFunc_string_at_I_NormalTarget_1_f k) slices_DeleteFunc_string_at_I_NormalTarget_1_vr (fun _ => none)
theorem slices_DeleteFunc_string_at_I_NormalTarget_1_eo (k : Nat) : EntryTOK X 31 (slices_DeleteFunc_string_at_I_NormalTarget_1_en k) := (slices_DeleteFunc_string_at_I_NormalTarget_1_ok k).en rfl
def slices_Sort_string_f (k : Nat) (l : List (D 9)) (x : TupA D []) : Option (List (D 9)) := slices_Sort_string k l
def slices_Sort_string_vr (r : List (D 9)) : VR D := .tup []
def slices_Sort_string_ot (r : List (D 9)) : Option (List (D 9)) := some r
theorem slices_Sort_string_ok (k : Nat) : DoesT P X 33 9 [] (slices_Sort_string_f k) slices_Sort_string_vr slices_Sort_string_ot := does_sort (P := P) (D := D) (X := X) (el := 9) ⟨Go.Proofs.Tryd.f33, Go.Proofs.Tryd.func33, by kernel_rfl, by kernel_rfl⟩ (fun (s : List UInt8) => s) (fun (l : List (List UInt8)) => sortO l) (fun _ => rfl) (by kernel_rfl) sort_hf (fun p cap w => Go.Proofs.Tryd.slices_Sort_string_none p cap w) (fun blk off cap ss w h1 h2 h3 => Go.Proofs.Tryd.slices_Sort_string blk off cap ss w h1 h2 h3)
def slices_Sort_string_en (k : Nat) : EntryT D := entT 9 [] (slices_Sort_string_f k) slices_Sort_string_vr slices_Sort_string_ot
theorem slices_Sort_string_eo (k : Nat) : EntryTOK X 33 (slices_Sort_string_en k) := (slices_Sort_string_ok k).en rfl
def I_NormalTarget_pl : Plan := ⟨[(0, [(0, none)]), (1, [(4, none), (5, none)]), (2, [(4, none), (5, none), (7, none)]), (3, [(4, none), (5, none), (7, none), (8, none)]), (4, [(4, none), (5, none), (37, none)]), (5, [(2, none), (3, none)]), (6, [(5, none), (9, none)]), (7, [(9, none), (10, some 9)]), (8, [(9, none), (10, some 9)]), (9, [(9, none), (10, some 9), (51, none)]), (10, [(9, none)]), (11, [(2, none), (3, none)])],
  [],
  [(37, ([], [(4, none), (5, none)])), (51, ([(9, none), (10, some 9)], [(9, none)]))]⟩
def I_NormalTarget_cl (k : Nat) : Calls' D := ⟨[(25, I_SplitTarget_en k), (26, I_decodedTarget_en k), (27, strings_HasPrefix_en k), (30, strings_Split_en k), (29, I_cleanComponents_en k), (28, strings_Join_en k)], [], [], [], [(31, slices_DeleteFunc_string_at_I_NormalTarget_1_en k), (33, slices_Sort_string_en k)]⟩
theorem I_NormalTarget_ck (k : Nat) : CallsOK X (I_NormalTarget_cl k) := .cons (I_SplitTarget_eo k) (.cons (I_decodedTarget_eo k) (.cons (strings_HasPrefix_eo k) (.cons (strings_Split_eo k) (.cons (I_cleanComponents_eo k) (.cons (strings_Join_eo k) (.consT (slices_DeleteFunc_string_at_I_NormalTarget_1_eo k) (.consT (slices_Sort_string_eo k) (.nil cod))))))))
def I_NormalTarget_c51_L (x : (List UInt8) × Bool × (List (List UInt8)) × Unit) (o : (List UInt8)) (Q : Ex → VSt D → Prop) (R : VR D → Prop) : Prop := Q .normal (mkSt ⟨[(9, .hole)], []⟩ [.str o])
def I_NormalTarget_c51_cut (k : Nat) : Cut D := cutS ⟨[(9, .hole), (10, .ref 500010), (51, .hole)], [(500010, .row)]⟩ [.ks, .kb, .kl 9] (fun (x : (List UInt8) × Bool × (List (List UInt8)) × Unit) => I_NormalTarget_c51 k x.1 x.2.1 x.2.2.1) I_NormalTarget_c51_L
def I_NormalTarget_c51_cu (k : Nat) : Cuts D := ⟨[], []⟩
theorem I_NormalTarget_c51_ok (k : Nat) : CutFor X I_NormalTarget_pl k Go.Proofs.Tryd.f8.results.toList (I_NormalTarget_c51_cut k) (sub (bodyOf Go.Proofs.Tryd.f8) [1, 1, 1, 1, 1, 1, 1, 1, 0, 1]) :=
  joinCut_s (X := X) (sg := [.ks, .kb, .kl 9]) (cu := I_NormalTarget_c51_cu k) (cl := I_NormalTarget_cl k) (tys := [[0], [0]]) (I_NormalTarget_ck k) (cutOK_of (l := []) (by kernel_rfl) trivial) fun x Q R h => by
    simp only [I_NormalTarget_c51, optK_bind, optK_bif, optK_pure, optK_none, optK_oc, optK_guardT, optK_map] at h
    refine hold_of h ?_
    kernel_rfl
def I_NormalTarget_cu (k : Nat) : Cuts D := ⟨[], [(51, some (I_NormalTarget_c51_cut k))]⟩
def I_NormalTarget_ar : List Ar := [.c (.ks)]
def I_NormalTarget_f (k : Nat) (x : TupA D I_NormalTarget_ar) : Option ((List UInt8) × Bool) := I_NormalTarget k x.1
def I_NormalTarget_vr (r : (List UInt8) × Bool) : VR D := .tup [.c (.str r.1), .c (.bool r.2)]
theorem I_NormalTarget_ok (k : Nat) : Does P X 8 I_NormalTarget_ar (I_NormalTarget_f k) I_NormalTarget_vr :=
  does_of (body := bodyOf Go.Proofs.Tryd.f8) (pl := I_NormalTarget_pl) (k := k) (cu := I_NormalTarget_cu k) (tys := [[0], [0]]) (I_NormalTarget_ck k) ctx mixed Go.Proofs.Tryd.func8 (by kernel_rfl) (by kernel_rfl) (cutOK_of (l := [(I_NormalTarget_c51_cut k, sub (bodyOf Go.Proofs.Tryd.f8) [1, 1, 1, 1, 1, 1, 1, 1, 0, 1])]) (by kernel_rfl) ⟨I_NormalTarget_c51_ok k, trivial⟩) fun x R h => by
    simp only [I_NormalTarget_f, I_NormalTarget, optK_bind, optK_bif, optK_pure, optK_none, optK_oc, optK_guardT, optK_map] at h
    refine hold_of h ?_
    kernel_rfl
def I_NormalTarget_en (k : Nat) : Entry D := entS I_NormalTarget_ar (I_NormalTarget_f k) I_NormalTarget_vr
theorem I_NormalTarget_eo (k : Nat) : EntryOK X 8 (I_NormalTarget_en k) := (I_NormalTarget_ok k).en rfl
def I_IsNormalTarget_pl : Plan := ⟨[(0, [(0, none)]), (1, [(0, none), (3, none), (4, none)]), (2, [(2, none)])],
  [],
  []⟩
def I_IsNormalTarget_cl (k : Nat) : Calls' D := ⟨[(8, I_NormalTarget_en k)], [], [], [], []⟩
theorem I_IsNormalTarget_ck (k : Nat) : CallsOK X (I_IsNormalTarget_cl k) := .cons (I_NormalTarget_eo k) (.nil cod)
def I_IsNormalTarget_cu (k : Nat) : Cuts D := ⟨[], []⟩
def I_IsNormalTarget_ar : List Ar := [.c (.ks)]
def I_IsNormalTarget_f (k : Nat) (x : TupA D I_IsNormalTarget_ar) : Option (Bool) := I_IsNormalTarget k x.1
def I_IsNormalTarget_vr (r : Bool) : VR D := .p (.c (.bool r))
theorem I_IsNormalTarget_ok (k : Nat) : Does P X 10 I_IsNormalTarget_ar (I_IsNormalTarget_f k) I_IsNormalTarget_vr :=
  does_of (body := bodyOf Go.Proofs.Tryd.f10) (pl := I_IsNormalTarget_pl) (k := k) (cu := I_IsNormalTarget_cu k) (tys := [[0]]) (I_IsNormalTarget_ck k) ctx mixed Go.Proofs.Tryd.func10 (by kernel_rfl) (by kernel_rfl) (cutOK_of (l := []) (by kernel_rfl) trivial) fun x R h => by
    simp only [I_IsNormalTarget_f, I_IsNormalTarget, optK_bind, optK_bif, optK_pure, optK_none, optK_oc, optK_guardT, optK_map] at h
    refine hold_of h ?_
    kernel_rfl
def I_IsNormalTarget_en (k : Nat) : Entry D := entS I_IsNormalTarget_ar (I_IsNormalTarget_f k) I_IsNormalTarget_vr
theorem I_IsNormalTarget_eo (k : Nat) : EntryOK X 10 (I_IsNormalTarget_en k) := (I_IsNormalTarget_ok k).en rfl
def L_FnExactIsNormalTarget_pl : Plan := ⟨[(0, [(0, none)]), (1, [(0, none), (7, none)]), (2, [(2, none)]), (3, [(0, none), (3, none)]), (4, [(3, none), (4, none)]), (5, [(14, none)]), (6, [(2, none)]), (7, [(2, none)])],
  [],
  [(7, ([], [(0, none)])), (14, ([], []))]⟩
def L_FnExactIsNormalTarget_cl (k : Nat) : Calls' D := ⟨[(9, S_IsNormalTarget_en k), (10, I_IsNormalTarget_en k)], [], [], [], []⟩
theorem L_FnExactIsNormalTarget_ck (k : Nat) : CallsOK X (L_FnExactIsNormalTarget_cl k) := .cons (S_IsNormalTarget_eo k) (.cons (I_IsNormalTarget_eo k) (.nil cod))
def L_FnExactIsNormalTarget_cu (k : Nat) : Cuts D := ⟨[], []⟩
def L_FnExactIsNormalTarget_ar : List Ar := [.c (.ks)]
def L_FnExactIsNormalTarget_f (k : Nat) (x : TupA D L_FnExactIsNormalTarget_ar) : Option (Bool) := L_FnExactIsNormalTarget k x.1
def L_FnExactIsNormalTarget_vr (r : Bool) : VR D := .p (.c (.bool r))
theorem L_FnExactIsNormalTarget_ok (k : Nat) : Does P X 4 L_FnExactIsNormalTarget_ar (L_FnExactIsNormalTarget_f k) L_FnExactIsNormalTarget_vr :=
  does_of (body := bodyOf Go.Proofs.Tryd.f4) (pl := L_FnExactIsNormalTarget_pl) (k := k) (cu := L_FnExactIsNormalTarget_cu k) (tys := [[0]]) (L_FnExactIsNormalTarget_ck k) ctx mixed Go.Proofs.Tryd.func4 (by kernel_rfl) (by kernel_rfl) (cutOK_of (l := []) (by kernel_rfl) trivial) fun x R h => by
    simp only [L_FnExactIsNormalTarget_f, L_FnExactIsNormalTarget, optK_bind, optK_bif, optK_pure, optK_none, optK_oc, optK_guardT, optK_map] at h
    refine hold_of h ?_
    kernel_rfl
def L_FnExactIsNormalTarget_en (k : Nat) : Entry D := entS L_FnExactIsNormalTarget_ar (L_FnExactIsNormalTarget_f k) L_FnExactIsNormalTarget_vr
theorem L_FnExactIsNormalTarget_eo (k : Nat) : EntryOK X 4 (L_FnExactIsNormalTarget_en k) := (L_FnExactIsNormalTarget_ok k).en rfl

end
end Go.YtbfkbplolhniiaaDoor
