/- The machine computes the functions. Nothing is claimed here. -/
import Derived.Test.YtilbenelefdihaaKf
import Derived.Test.YtilbenelefdihaaShelf
set_option linter.unusedVariables false
set_option linter.unusedSimpArgs false
set_option maxRecDepth 100000
namespace Go.Ytilbenelefdihaa
open Go Go.RowKit Go.Pv
noncomputable section

def S_SplitTarget_pl : Plan := ⟨[(0, [(0, none)]), (1, [(0, none), (5, none)]), (2, [(0, none), (5, none), (9, none)]), (3, [(0, none), (5, none)]), (4, [(0, none), (5, none), (15, none)]), (5, [(2, none), (3, none), (4, none)]), (6, [(2, none), (3, none), (4, none)])],
  [(0, [(0, none)]), (1, [(0, none), (5, none)])],
  [(9, ([(0, none), (5, none)], [(0, none)])), (15, ([(0, none), (5, none)], [(0, none), (5, none)]))]⟩
def S_SplitTarget_cl (k : Nat) : Calls' D := ⟨[], []⟩
theorem S_SplitTarget_ck (k : Nat) : CallsOK X (S_SplitTarget_cl k) := .nil cod
def S_SplitTarget_b0_L (x : (List UInt8) × Int × Unit) (o : Oc (Unit) ((List UInt8) × (List UInt8) × Bool)) (Q : Ex → VSt D → Prop) (R : VR D → Prop) : Prop := ocP o (fun v0 => Q .normal (mkSt ⟨[(0, .hole)], []⟩ [.str x.1])) (fun w0 => R (.tup [.c (.str w0.1), .c (.str w0.2.1), .c (.bool w0.2.2)]))
def S_SplitTarget_b0_cut (k : Nat) : Cut D := cutS ⟨[(0, .hole), (5, .hole)], []⟩ [.ks, .ki .i64] (fun (x : (List UInt8) × Int × Unit) => S_SplitTarget_b0 k k x.1 x.2.1) S_SplitTarget_b0_L
def S_SplitTarget_b0_cu (k : Nat) : Cuts D := ⟨[], []⟩
theorem S_SplitTarget_b0_ok (k : Nat) : CutFor X S_SplitTarget_pl k Go.Proofs.Try.f43.results.toList (S_SplitTarget_b0_cut k) (sub (bodyOf Go.Proofs.Try.f43) [1, 0, 1]) :=
  loopCut_s (X := X) (sg := [.ks, .ki .i64]) (cu := S_SplitTarget_b0_cu k) (cl := S_SplitTarget_cl k) (tys := [[0], [0], [0]]) (id := 0) (c := sub (bodyOf Go.Proofs.Try.f43) [1, 0, 1, 0, 0]) (f := fun n => fun (x : (List UInt8) × Int × Unit) => S_SplitTarget_b0 k n x.1 x.2.1) (S_SplitTarget_ck k) (cutOK_of (l := []) (by kernel_rfl) trivial) (fun _ => rfl) (fun n x Q R h => by
    simp only [S_SplitTarget_b0, optK_bind, optK_bif, optK_pure, optK_none, optK_oc, optK_guardT, optK_map] at h
    refine hold_of h ?_
    kernel_rfl) (by kernel_rfl)
def S_SplitTarget_cu (k : Nat) : Cuts D := ⟨[(0, some (S_SplitTarget_b0_cut k))], []⟩
def S_SplitTarget_ar : List Ar := [.c (.ks)]
def S_SplitTarget_f (k : Nat) (x : TupA D S_SplitTarget_ar) : Option ((List UInt8) × (List UInt8) × Bool) := S_SplitTarget k x.1
def S_SplitTarget_vr (r : (List UInt8) × (List UInt8) × Bool) : VR D := .tup [.c (.str r.1), .c (.str r.2.1), .c (.bool r.2.2)]
theorem S_SplitTarget_ok (k : Nat) : Does P X 43 S_SplitTarget_ar (S_SplitTarget_f k) S_SplitTarget_vr :=
  does_of (body := bodyOf Go.Proofs.Try.f43) (pl := S_SplitTarget_pl) (k := k) (cu := S_SplitTarget_cu k) (tys := [[0], [0], [0]]) (S_SplitTarget_ck k) ctx mixed Go.Proofs.Try.func43 (by kernel_rfl) (by kernel_rfl) (cutOK_of (l := [(S_SplitTarget_b0_cut k, sub (bodyOf Go.Proofs.Try.f43) [1, 0, 1])]) (by kernel_rfl) ⟨S_SplitTarget_b0_ok k, trivial⟩) fun x R h => by
    simp only [S_SplitTarget_f, S_SplitTarget, optK_bind, optK_bif, optK_pure, optK_none, optK_oc, optK_guardT, optK_map] at h
    refine hold_of h ?_
    kernel_rfl
def S_SplitTarget_en (k : Nat) : Entry D := entS S_SplitTarget_ar (S_SplitTarget_f k) S_SplitTarget_vr
theorem S_SplitTarget_eo (k : Nat) : EntryOK X 43 (S_SplitTarget_en k) := (S_SplitTarget_ok k).en rfl
def strings_Cut_ar : List Ar := [.c (.ks), .c (.ks)]
def strings_Cut_f (k : Nat) (x : TupA D strings_Cut_ar) : Option ((List UInt8) × (List UInt8) × Bool) := strings_Cut k x.1 x.2.1
def strings_Cut_vr (r : (List UInt8) × (List UInt8) × Bool) : VR D := .tup [.c (.str r.1), .c (.str r.2.1), .c (.bool r.2.2)]
theorem strings_Cut_ok (k : Nat) : Does P X 72 strings_Cut_ar (strings_Cut_f k) strings_Cut_vr := does_cut ⟨Go.Proofs.Try.f72, Go.Proofs.Try.func72, by kernel_rfl, by kernel_rfl⟩ (fun s sep w ⟨m, hm⟩ hs => Go.Proofs.Try.strings_Cut s sep m w hs hm)
def strings_Cut_en (k : Nat) : Entry D := entS strings_Cut_ar (strings_Cut_f k) strings_Cut_vr
theorem strings_Cut_eo (k : Nat) : EntryOK X 72 (strings_Cut_en k) := (strings_Cut_ok k).en rfl
def I_SplitTarget_pl : Plan := ⟨[(0, [(0, none)]), (1, [(2, none), (3, none), (4, none)])],
  [],
  []⟩
def I_SplitTarget_cl (k : Nat) : Calls' D := ⟨[(72, strings_Cut_en k)], []⟩
theorem I_SplitTarget_ck (k : Nat) : CallsOK X (I_SplitTarget_cl k) := .cons (strings_Cut_eo k) (.nil cod)
def I_SplitTarget_cu (k : Nat) : Cuts D := ⟨[], []⟩
def I_SplitTarget_ar : List Ar := [.c (.ks)]
def I_SplitTarget_f (k : Nat) (x : TupA D I_SplitTarget_ar) : Option ((List UInt8) × (List UInt8) × Bool) := I_SplitTarget k x.1
def I_SplitTarget_vr (r : (List UInt8) × (List UInt8) × Bool) : VR D := .tup [.c (.str r.1), .c (.str r.2.1), .c (.bool r.2.2)]
theorem I_SplitTarget_ok (k : Nat) : Does P X 44 I_SplitTarget_ar (I_SplitTarget_f k) I_SplitTarget_vr :=
  does_of (body := bodyOf Go.Proofs.Try.f44) (pl := I_SplitTarget_pl) (k := k) (cu := I_SplitTarget_cu k) (tys := [[0], [0], [0]]) (I_SplitTarget_ck k) ctx mixed Go.Proofs.Try.func44 (by kernel_rfl) (by kernel_rfl) (cutOK_of (l := []) (by kernel_rfl) trivial) fun x R h => by
    simp only [I_SplitTarget_f, I_SplitTarget, optK_bind, optK_bif, optK_pure, optK_none, optK_oc, optK_guardT, optK_map] at h
    refine hold_of h ?_
    kernel_rfl
def I_SplitTarget_en (k : Nat) : Entry D := entS I_SplitTarget_ar (I_SplitTarget_f k) I_SplitTarget_vr
theorem I_SplitTarget_eo (k : Nat) : EntryOK X 44 (I_SplitTarget_en k) := (I_SplitTarget_ok k).en rfl
def L_FnExactSplitTarget_pl : Plan := ⟨[(0, [(0, none)]), (1, [(0, none), (11, none)]), (2, [(2, none)]), (3, [(0, none), (3, none), (4, none), (5, none)]), (4, [(3, none), (4, none), (5, none), (6, none), (7, none), (8, none)]), (5, [(36, none)]), (6, [(2, none)]), (7, [(2, none)])],
  [],
  [(11, ([], [(0, none)])), (36, ([], []))]⟩
def L_FnExactSplitTarget_cl (k : Nat) : Calls' D := ⟨[(43, S_SplitTarget_en k), (44, I_SplitTarget_en k)], []⟩
theorem L_FnExactSplitTarget_ck (k : Nat) : CallsOK X (L_FnExactSplitTarget_cl k) := .cons (S_SplitTarget_eo k) (.cons (I_SplitTarget_eo k) (.nil cod))
def L_FnExactSplitTarget_cu (k : Nat) : Cuts D := ⟨[], []⟩
def L_FnExactSplitTarget_ar : List Ar := [.c (.ks)]
def L_FnExactSplitTarget_f (k : Nat) (x : TupA D L_FnExactSplitTarget_ar) : Option (Bool) := L_FnExactSplitTarget k x.1
def L_FnExactSplitTarget_vr (r : Bool) : VR D := .p (.c (.bool r))
theorem L_FnExactSplitTarget_ok (k : Nat) : Does P X 11 L_FnExactSplitTarget_ar (L_FnExactSplitTarget_f k) L_FnExactSplitTarget_vr :=
  does_of (body := bodyOf Go.Proofs.Try.f11) (pl := L_FnExactSplitTarget_pl) (k := k) (cu := L_FnExactSplitTarget_cu k) (tys := [[0]]) (L_FnExactSplitTarget_ck k) ctx mixed Go.Proofs.Try.func11 (by kernel_rfl) (by kernel_rfl) (cutOK_of (l := []) (by kernel_rfl) trivial) fun x R h => by
    simp only [L_FnExactSplitTarget_f, L_FnExactSplitTarget, optK_bind, optK_bif, optK_pure, optK_none, optK_oc, optK_guardT, optK_map] at h
    refine hold_of h ?_
    kernel_rfl
def L_FnExactSplitTarget_en (k : Nat) : Entry D := entS L_FnExactSplitTarget_ar (L_FnExactSplitTarget_f k) L_FnExactSplitTarget_vr
theorem L_FnExactSplitTarget_eo (k : Nat) : EntryOK X 11 (L_FnExactSplitTarget_en k) := (L_FnExactSplitTarget_ok k).en rfl

end
end Go.Ytilbenelefdihaa
