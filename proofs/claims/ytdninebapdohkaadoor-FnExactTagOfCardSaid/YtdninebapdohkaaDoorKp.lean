/- The machine computes the functions. Nothing is claimed here. -/
import Derived.Test.YtdninebapdohkaaDoorKf
import Derived.Test.YtdninebapdohkaaDoorShelf
set_option linter.unusedVariables false
set_option linter.unusedSimpArgs false
set_option maxRecDepth 100000
namespace Go.YtdninebapdohkaaDoor
open Go Go.RowKit Go.Pv
noncomputable section

def S_FormatInt_pl : Plan := ⟨[(0, [(0, none)]), (1, [(0, none), (7, none)]), (2, [(2, none)]), (3, [(0, none), (3, none)]), (4, [(0, none), (3, none), (4, none)]), (5, [(0, none), (3, none), (4, none), (10, none)]), (6, [(0, none), (3, none), (4, none)]), (7, [(0, none), (3, none), (4, none), (5, none)]), (8, [(0, none), (3, none), (4, none), (5, none), (16, none)]), (9, [(0, none), (3, none), (4, none), (5, none)]), (10, [(0, none), (3, none), (4, none)]), (11, [(3, none), (27, none)]), (12, [(2, none)]), (13, [(2, none)])],
  [(0, [(0, none), (3, none)]), (1, [(0, none), (3, none), (4, none)])],
  [(7, ([], [(0, none)])), (10, ([(0, none), (3, none), (4, none)], [(0, none), (3, none)])), (16, ([(0, none), (3, none), (4, none), (5, none)], [(0, none), (3, none), (4, none), (5, none)])), (27, ([(3, none)], [(3, none)]))]⟩
def S_FormatInt_cl (k : Nat) : Calls' D := ⟨[], []⟩
theorem S_FormatInt_ck (k : Nat) : CallsOK X (S_FormatInt_cl k) := .nil cod
def S_FormatInt_c16_L (x : Int × (List UInt8) × Int × Int × Bool × Unit) (o : Int) (Q : Ex → VSt D → Prop) (R : VR D → Prop) : Prop := Q .normal (mkSt ⟨[(0, .hole), (3, .hole), (4, .hole), (5, .hole)], []⟩ [.int .i64 x.1, .str x.2.1, .int .i64 x.2.2.1, .int .i64 o])
def S_FormatInt_c16_cut (k : Nat) : Cut D := cutS ⟨[(0, .hole), (3, .hole), (4, .hole), (5, .hole), (16, .hole)], []⟩ [.ki .i64, .ks, .ki .i64, .ki .i64, .kb] (fun (x : Int × (List UInt8) × Int × Int × Bool × Unit) => S_FormatInt_c16 k x.1 x.2.1 x.2.2.1 x.2.2.2.1 x.2.2.2.2.1) S_FormatInt_c16_L
def S_FormatInt_c16_cu (k : Nat) : Cuts D := ⟨[], []⟩
theorem S_FormatInt_c16_ok (k : Nat) : CutFor X S_FormatInt_pl k Go.Proofs.Tryd.f7.results.toList (S_FormatInt_c16_cut k) (sub (bodyOf Go.Proofs.Tryd.f7) [1, 1, 1, 0, 1, 0, 0, 1, 0, 0, 1, 0, 1]) :=
  joinCut_s (X := X) (sg := [.ki .i64, .ks, .ki .i64, .ki .i64, .kb]) (cu := S_FormatInt_c16_cu k) (cl := S_FormatInt_cl k) (tys := [[0]]) (S_FormatInt_ck k) (cutOK_of (l := []) (by kernel_rfl) trivial) fun x Q R h => by
    simp only [S_FormatInt_c16, optK_bind, optK_bif, optK_pure, optK_none, optK_oc, optK_guardT, optK_map] at h
    refine hold_of h ?_
    kernel_rfl
def S_FormatInt_b1_L (x : Int × (List UInt8) × Int × Unit) (o : (List UInt8)) (Q : Ex → VSt D → Prop) (R : VR D → Prop) : Prop := Q .normal (mkSt ⟨[(0, .hole), (3, .hole), (4, .hole)], []⟩ [.int .i64 x.1, .str o, .int .i64 x.2.2.1])
def S_FormatInt_b1_cut (k : Nat) : Cut D := cutS ⟨[(0, .hole), (3, .hole), (4, .hole)], []⟩ [.ki .i64, .ks, .ki .i64] (fun (x : Int × (List UInt8) × Int × Unit) => S_FormatInt_b1 k x.1 x.2.1 x.2.2.1) S_FormatInt_b1_L
def S_FormatInt_b1_cu (k : Nat) : Cuts D := ⟨[], [(16, some (S_FormatInt_c16_cut k))]⟩
theorem S_FormatInt_b1_ok (k : Nat) : CutFor X S_FormatInt_pl k Go.Proofs.Tryd.f7.results.toList (S_FormatInt_b1_cut k) (sub (bodyOf Go.Proofs.Tryd.f7) [1, 1, 1, 0, 1, 0, 0, 1, 0]) :=
  joinCut_s (X := X) (sg := [.ki .i64, .ks, .ki .i64]) (cu := S_FormatInt_b1_cu k) (cl := S_FormatInt_cl k) (tys := [[0]]) (S_FormatInt_ck k) (cutOK_of (l := [(S_FormatInt_c16_cut k, sub (bodyOf Go.Proofs.Tryd.f7) [1, 1, 1, 0, 1, 0, 0, 1, 0, 0, 1, 0, 1])]) (by kernel_rfl) ⟨S_FormatInt_c16_ok k, trivial⟩) fun x Q R h => by
    simp only [S_FormatInt_b1, optK_bind, optK_bif, optK_pure, optK_none, optK_oc, optK_guardT, optK_map] at h
    refine hold_of h ?_
    kernel_rfl
def S_FormatInt_b0_L (x : Int × (List UInt8) × Int × Unit) (o : (List UInt8)) (Q : Ex → VSt D → Prop) (R : VR D → Prop) : Prop := Q .normal (mkSt ⟨[(0, .hole), (3, .hole)], []⟩ [.int .i64 x.1, .str o])
def S_FormatInt_b0_cut (k : Nat) : Cut D := cutS ⟨[(0, .hole), (3, .hole), (4, .hole)], []⟩ [.ki .i64, .ks, .ki .i64] (fun (x : Int × (List UInt8) × Int × Unit) => S_FormatInt_b0 k k x.1 x.2.1 x.2.2.1) S_FormatInt_b0_L
def S_FormatInt_b0_cu (k : Nat) : Cuts D := ⟨[(1, some (S_FormatInt_b1_cut k))], []⟩
theorem S_FormatInt_b0_ok (k : Nat) : CutFor X S_FormatInt_pl k Go.Proofs.Tryd.f7.results.toList (S_FormatInt_b0_cut k) (sub (bodyOf Go.Proofs.Tryd.f7) [1, 1, 1, 0, 1]) :=
  loopCut_s (X := X) (sg := [.ki .i64, .ks, .ki .i64]) (cu := S_FormatInt_b0_cu k) (cl := S_FormatInt_cl k) (tys := [[0]]) (id := 0) (c := sub (bodyOf Go.Proofs.Tryd.f7) [1, 1, 1, 0, 1, 0, 0]) (f := fun n => fun (x : Int × (List UInt8) × Int × Unit) => S_FormatInt_b0 k n x.1 x.2.1 x.2.2.1) (S_FormatInt_ck k) (cutOK_of (l := [(S_FormatInt_b1_cut k, sub (bodyOf Go.Proofs.Tryd.f7) [1, 1, 1, 0, 1, 0, 0, 1, 0])]) (by kernel_rfl) ⟨S_FormatInt_b1_ok k, trivial⟩) (fun _ => rfl) (fun n x Q R h => by
    simp only [S_FormatInt_b0, optK_bind, optK_bif, optK_pure, optK_none, optK_oc, optK_guardT, optK_map] at h
    refine hold_of h ?_
    kernel_rfl) (by kernel_rfl)
def S_FormatInt_cu (k : Nat) : Cuts D := ⟨[(0, some (S_FormatInt_b0_cut k))], []⟩
def S_FormatInt_ar : List Ar := [.c (.ki .i64)]
def S_FormatInt_f (k : Nat) (x : TupA D S_FormatInt_ar) : Option ((List UInt8)) := S_FormatInt k x.1
def S_FormatInt_vr (r : (List UInt8)) : VR D := .p (.c (.str r))
theorem S_FormatInt_ok (k : Nat) : Does P X 7 S_FormatInt_ar (S_FormatInt_f k) S_FormatInt_vr :=
  does_of (body := bodyOf Go.Proofs.Tryd.f7) (pl := S_FormatInt_pl) (k := k) (cu := S_FormatInt_cu k) (tys := [[0]]) (S_FormatInt_ck k) ctx mixed Go.Proofs.Tryd.func7 (by kernel_rfl) (by kernel_rfl) (cutOK_of (l := [(S_FormatInt_b0_cut k, sub (bodyOf Go.Proofs.Tryd.f7) [1, 1, 1, 0, 1])]) (by kernel_rfl) ⟨S_FormatInt_b0_ok k, trivial⟩) fun x R h => by
    simp only [S_FormatInt_f, S_FormatInt, optK_bind, optK_bif, optK_pure, optK_none, optK_oc, optK_guardT, optK_map] at h
    refine hold_of h ?_
    kernel_rfl
def S_FormatInt_en (k : Nat) : Entry D := entS S_FormatInt_ar (S_FormatInt_f k) S_FormatInt_vr
theorem S_FormatInt_eo (k : Nat) : EntryOK X 7 (S_FormatInt_en k) := (S_FormatInt_ok k).en rfl
def S_TagOf_pl : Plan := ⟨[(0, [(0, none), (1, none), (2, none), (6, none)]), (1, [(6, none)])],
  [],
  []⟩
def S_TagOf_cl (k : Nat) : Calls' D := ⟨[(7, S_FormatInt_en k)], []⟩
theorem S_TagOf_ck (k : Nat) : CallsOK X (S_TagOf_cl k) := .cons (S_FormatInt_eo k) (.nil cod)
def S_TagOf_cu (k : Nat) : Cuts D := ⟨[], []⟩
def S_TagOf_ar : List Ar := [.c (.ki .i64), .c (.ks), .c (.ks)]
def S_TagOf_f (k : Nat) (x : TupA D S_TagOf_ar) : Option (ITag) := S_TagOf k x.1 x.2.1 x.2.2.1
def S_TagOf_vr (r : ITag) : VR D := .p (.agg [.bool r.Weak, .str r.Text])
theorem S_TagOf_ok (k : Nat) : Does P X 4 S_TagOf_ar (S_TagOf_f k) S_TagOf_vr :=
  does_of (body := bodyOf Go.Proofs.Tryd.f4) (pl := S_TagOf_pl) (k := k) (cu := S_TagOf_cu k) (tys := [[0, 0]]) (S_TagOf_ck k) ctx mixed Go.Proofs.Tryd.func4 (by kernel_rfl) (by kernel_rfl) (cutOK_of (l := []) (by kernel_rfl) trivial) fun x R h => by
    simp only [S_TagOf_f, S_TagOf, optK_bind, optK_bif, optK_pure, optK_none, optK_oc, optK_guardT, optK_map] at h
    refine hold_of h ?_
    kernel_rfl
def S_TagOf_en (k : Nat) : Entry D := entS S_TagOf_ar (S_TagOf_f k) S_TagOf_vr
theorem S_TagOf_eo (k : Nat) : EntryOK X 4 (S_TagOf_en k) := (S_TagOf_ok k).en rfl
def strconv_Itoa_ar : List Ar := [.c (.ki .i64)]
def strconv_Itoa_f (k : Nat) (x : TupA D strconv_Itoa_ar) : Option ((List UInt8)) := strconv_Itoa k x.1
def strconv_Itoa_vr (r : (List UInt8)) : VR D := .p (.c (.str r))
theorem strconv_Itoa_ok (k : Nat) : Does P X 9 strconv_Itoa_ar (strconv_Itoa_f k) strconv_Itoa_vr := does_itoa ⟨Go.Proofs.Tryd.f9, Go.Proofs.Tryd.func9, by kernel_rfl, by kernel_rfl⟩ (fun n w hg h0 h1 => Go.Proofs.Tryd.strconv_Itoa n h0 h1 w hg)
def strconv_Itoa_en (k : Nat) : Entry D := entS strconv_Itoa_ar (strconv_Itoa_f k) strconv_Itoa_vr
theorem strconv_Itoa_eo (k : Nat) : EntryOK X 9 (strconv_Itoa_en k) := (strconv_Itoa_ok k).en rfl
def I_FormatInt_pl : Plan := ⟨[(0, [(0, none)]), (1, [(2, none)])],
  [],
  []⟩
def I_FormatInt_cl (k : Nat) : Calls' D := ⟨[(9, strconv_Itoa_en k)], []⟩
theorem I_FormatInt_ck (k : Nat) : CallsOK X (I_FormatInt_cl k) := .cons (strconv_Itoa_eo k) (.nil cod)
def I_FormatInt_cu (k : Nat) : Cuts D := ⟨[], []⟩
def I_FormatInt_ar : List Ar := [.c (.ki .i64)]
def I_FormatInt_f (k : Nat) (x : TupA D I_FormatInt_ar) : Option ((List UInt8)) := I_FormatInt k x.1
def I_FormatInt_vr (r : (List UInt8)) : VR D := .p (.c (.str r))
theorem I_FormatInt_ok (k : Nat) : Does P X 8 I_FormatInt_ar (I_FormatInt_f k) I_FormatInt_vr :=
  does_of (body := bodyOf Go.Proofs.Tryd.f8) (pl := I_FormatInt_pl) (k := k) (cu := I_FormatInt_cu k) (tys := [[0]]) (I_FormatInt_ck k) ctx mixed Go.Proofs.Tryd.func8 (by kernel_rfl) (by kernel_rfl) (cutOK_of (l := []) (by kernel_rfl) trivial) fun x R h => by
    simp only [I_FormatInt_f, I_FormatInt, optK_bind, optK_bif, optK_pure, optK_none, optK_oc, optK_guardT, optK_map] at h
    refine hold_of h ?_
    kernel_rfl
def I_FormatInt_en (k : Nat) : Entry D := entS I_FormatInt_ar (I_FormatInt_f k) I_FormatInt_vr
theorem I_FormatInt_eo (k : Nat) : EntryOK X 8 (I_FormatInt_en k) := (I_FormatInt_ok k).en rfl
def I_TagOf_pl : Plan := ⟨[(0, [(0, none), (1, none), (2, none), (6, none)]), (1, [(6, none)])],
  [],
  []⟩
def I_TagOf_cl (k : Nat) : Calls' D := ⟨[(8, I_FormatInt_en k)], []⟩
theorem I_TagOf_ck (k : Nat) : CallsOK X (I_TagOf_cl k) := .cons (I_FormatInt_eo k) (.nil cod)
def I_TagOf_cu (k : Nat) : Cuts D := ⟨[], []⟩
def I_TagOf_ar : List Ar := [.c (.ki .i64), .c (.ks), .c (.ks)]
def I_TagOf_f (k : Nat) (x : TupA D I_TagOf_ar) : Option (ITag) := I_TagOf k x.1 x.2.1 x.2.2.1
def I_TagOf_vr (r : ITag) : VR D := .p (.agg [.bool r.Weak, .str r.Text])
theorem I_TagOf_ok (k : Nat) : Does P X 5 I_TagOf_ar (I_TagOf_f k) I_TagOf_vr :=
  does_of (body := bodyOf Go.Proofs.Tryd.f5) (pl := I_TagOf_pl) (k := k) (cu := I_TagOf_cu k) (tys := [[0, 0]]) (I_TagOf_ck k) ctx mixed Go.Proofs.Tryd.func5 (by kernel_rfl) (by kernel_rfl) (cutOK_of (l := []) (by kernel_rfl) trivial) fun x R h => by
    simp only [I_TagOf_f, I_TagOf, optK_bind, optK_bif, optK_pure, optK_none, optK_oc, optK_guardT, optK_map] at h
    refine hold_of h ?_
    kernel_rfl
def I_TagOf_en (k : Nat) : Entry D := entS I_TagOf_ar (I_TagOf_f k) I_TagOf_vr
theorem I_TagOf_eo (k : Nat) : EntryOK X 5 (I_TagOf_en k) := (I_TagOf_ok k).en rfl
def L_eqTag_pl : Plan := ⟨[(0, [(2, none), (3, none)]), (1, [(2, none), (3, none), (9, none)]), (2, [(4, none)]), (3, [(14, none)]), (4, [(4, none)]), (5, [(4, none)])],
  [],
  [(9, ([], [(2, none), (3, none)])), (14, ([], []))]⟩
def L_eqTag_cl (k : Nat) : Calls' D := ⟨[], []⟩
theorem L_eqTag_ck (k : Nat) : CallsOK X (L_eqTag_cl k) := .nil cod
def L_eqTag_cu (k : Nat) : Cuts D := ⟨[], []⟩
def L_eqTag_ar : List Ar := [.a [.kb, .ks], .a [.kb, .ks]]
def L_eqTag_f (k : Nat) (x : TupA D L_eqTag_ar) : Option (Bool) := L_eqTag k (⟨x.1.1, x.1.2.1⟩ : ITag) (⟨x.2.1.1, x.2.1.2.1⟩ : ITag)
def L_eqTag_vr (r : Bool) : VR D := .p (.c (.bool r))
theorem L_eqTag_ok (k : Nat) : Does P X 6 L_eqTag_ar (L_eqTag_f k) L_eqTag_vr :=
  does_of (body := bodyOf Go.Proofs.Tryd.f6) (pl := L_eqTag_pl) (k := k) (cu := L_eqTag_cu k) (tys := [[0]]) (L_eqTag_ck k) ctx mixed Go.Proofs.Tryd.func6 (by kernel_rfl) (by kernel_rfl) (cutOK_of (l := []) (by kernel_rfl) trivial) fun x R h => by
    simp only [L_eqTag_f, L_eqTag, optK_bind, optK_bif, optK_pure, optK_none, optK_oc, optK_guardT, optK_map] at h
    refine hold_of h ?_
    kernel_rfl
def L_eqTag_en (k : Nat) : Entry D := entS L_eqTag_ar (L_eqTag_f k) L_eqTag_vr
theorem L_eqTag_eo (k : Nat) : EntryOK X 6 (L_eqTag_en k) := (L_eqTag_ok k).en rfl
def L_FnExactTagOf_pl : Plan := ⟨[(0, [(0, none), (1, none), (2, none)]), (1, [(0, none), (1, none), (2, none), (11, none)]), (2, [(6, none)]), (3, [(0, none), (1, none), (2, none), (14, none)]), (4, [(6, none)]), (5, [(0, none), (1, none), (2, none), (7, none)]), (6, [(7, none), (8, none)]), (7, [(26, none)]), (8, [(6, none)]), (9, [(6, none)])],
  [],
  [(11, ([], [(0, none), (1, none), (2, none)])), (14, ([], [(0, none), (1, none), (2, none)])), (26, ([], []))]⟩
def L_FnExactTagOf_cl (k : Nat) : Calls' D := ⟨[(4, S_TagOf_en k), (5, I_TagOf_en k), (6, L_eqTag_en k)], []⟩
theorem L_FnExactTagOf_ck (k : Nat) : CallsOK X (L_FnExactTagOf_cl k) := .cons (S_TagOf_eo k) (.cons (I_TagOf_eo k) (.cons (L_eqTag_eo k) (.nil cod)))
def L_FnExactTagOf_cu (k : Nat) : Cuts D := ⟨[], []⟩
def L_FnExactTagOf_ar : List Ar := [.c (.ki .i64), .c (.ks), .c (.ks)]
def L_FnExactTagOf_f (k : Nat) (x : TupA D L_FnExactTagOf_ar) : Option (Bool) := L_FnExactTagOf k x.1 x.2.1 x.2.2.1
def L_FnExactTagOf_vr (r : Bool) : VR D := .p (.c (.bool r))
theorem L_FnExactTagOf_ok (k : Nat) : Does P X 3 L_FnExactTagOf_ar (L_FnExactTagOf_f k) L_FnExactTagOf_vr :=
  does_of (body := bodyOf Go.Proofs.Tryd.f3) (pl := L_FnExactTagOf_pl) (k := k) (cu := L_FnExactTagOf_cu k) (tys := [[0]]) (L_FnExactTagOf_ck k) ctx mixed Go.Proofs.Tryd.func3 (by kernel_rfl) (by kernel_rfl) (cutOK_of (l := []) (by kernel_rfl) trivial) fun x R h => by
    simp only [L_FnExactTagOf_f, L_FnExactTagOf, optK_bind, optK_bif, optK_pure, optK_none, optK_oc, optK_guardT, optK_map] at h
    refine hold_of h ?_
    kernel_rfl
def L_FnExactTagOf_en (k : Nat) : Entry D := entS L_FnExactTagOf_ar (L_FnExactTagOf_f k) L_FnExactTagOf_vr
theorem L_FnExactTagOf_eo (k : Nat) : EntryOK X 3 (L_FnExactTagOf_en k) := (L_FnExactTagOf_ok k).en rfl

end
end Go.YtdninebapdohkaaDoor
