/- The machine computes the functions. Nothing is claimed here. -/
import Derived.Test.YtgdjicnefdnofaaDoorKf
import Derived.Test.YtgdjicnefdnofaaDoorShelf
import Derived.Shelf.Strings.SlTrimAscii
set_option linter.unusedVariables false
set_option linter.unusedSimpArgs false
set_option maxRecDepth 100000
namespace Go.YtgdjicnefdnofaaDoor
open Go Go.RowKit Go.Pv
noncomputable section

def L_big_pl : Plan := ⟨[(0, [(0, some 5)]), (1, [(2, none)])],
  [],
  []⟩
def L_big_cl (k : Nat) : Calls' D := ⟨[], [], [], []⟩
theorem L_big_ck (k : Nat) : CallsOK X (L_big_cl k) := .nil cod
def L_big_cu (k : Nat) : Cuts D := ⟨[], []⟩
def L_big_ar : List Ar := [.c (.kl 5)]
def L_big_f (k : Nat) (x : TupA D L_big_ar) : Option (Bool) := L_big k x.1
def L_big_vr (r : Bool) : VR D := .p (.c (.bool r))
theorem L_big_ok (k : Nat) : Does P X 28 L_big_ar (L_big_f k) L_big_vr :=
  does_of (body := bodyOf Go.Proofs.Tryd.f28) (pl := L_big_pl) (k := k) (cu := L_big_cu k) (tys := [[0]]) (L_big_ck k) ctx mixed Go.Proofs.Tryd.func28 (by kernel_rfl) (by kernel_rfl) (cutOK_of (l := []) (by kernel_rfl) trivial) fun x R h => by
    simp only [L_big_f, L_big, optK_bind, optK_bif, optK_pure, optK_none, optK_oc, optK_guardT, optK_map] at h
    refine hold_of h ?_
    kernel_rfl
def L_big_en (k : Nat) : Entry D := entS L_big_ar (L_big_f k) L_big_vr
theorem L_big_eo (k : Nat) : EntryOK X 28 (L_big_en k) := (L_big_ok k).en rfl
def S_l1New_pl : Plan := ⟨[(0, [(0, some 5)]), (1, [(0, some 5), (3, none)]), (2, [(0, some 5), (3, none), (4, none)]), (3, [(0, some 5), (3, none), (4, none), (15, none)]), (4, [(0, some 5), (3, none), (4, none)]), (5, [(0, some 5), (3, none), (4, none)]), (6, [(2, none)])],
  [(0, [(0, some 5), (3, none)]), (1, [(0, some 5), (3, none), (4, none)])],
  [(15, ([(0, some 5), (3, none), (4, none)], [(0, some 5), (3, none)]))]⟩
def S_l1New_cl (k : Nat) : Calls' D := ⟨[], [], [], []⟩
theorem S_l1New_ck (k : Nat) : CallsOK X (S_l1New_cl k) := .nil cod
def S_l1New_b0_L (x : (List Int) × Int × Int × Unit) (o : Int) (Q : Ex → VSt D → Prop) (R : VR D → Prop) : Prop := Q .normal (mkSt ⟨[(0, .hole), (3, .hole)], []⟩ [.sl 5 x.1, .int .i64 o])
def S_l1New_b0_cut (k : Nat) : Cut D := cutS ⟨[(0, .hole), (3, .hole), (4, .hole)], []⟩ [.kl 5, .ki .i64, .ki .i64] (fun (x : (List Int) × Int × Int × Unit) => S_l1New_b0 k k x.1 x.2.1 x.2.2.1) S_l1New_b0_L
def S_l1New_b0_cu (k : Nat) : Cuts D := ⟨[], []⟩
theorem S_l1New_b0_ok (k : Nat) : CutFor X S_l1New_pl k [.cell 0 0, .cell 2 118] (S_l1New_b0_cut k) (sub (bodyOf Go.Proofs.Tryd.f79) [1, 1, 0, 1]) :=
  loopCut_s (X := X) (sg := [.kl 5, .ki .i64, .ki .i64]) (cu := S_l1New_b0_cu k) (cl := S_l1New_cl k) (tys := []) (id := 0) (c := sub (bodyOf Go.Proofs.Tryd.f79) [1, 1, 0, 1, 0, 0]) (f := fun n => fun (x : (List Int) × Int × Int × Unit) => S_l1New_b0 k n x.1 x.2.1 x.2.2.1) (S_l1New_ck k) (cutOK_of (l := []) (by kernel_rfl) trivial) (fun _ => rfl) (fun n x Q R h => by
    simp only [S_l1New_b0, optK_bind, optK_bif, optK_pure, optK_none, optK_oc, optK_guardT, optK_map] at h
    refine hold_of h ?_
    kernel_rfl) (by kernel_rfl)
def S_l1New_cu (k : Nat) : Cuts D := ⟨[(0, some (S_l1New_b0_cut k))], []⟩
def S_l1New_ar : List Ar := [.c (.kl 5)]
def S_l1New_f (k : Nat) (x : TupA D S_l1New_ar) : Option (Sl1Cur) := S_l1New k x.1
def S_l1New_cs (r : Sl1Cur) : Tup D [.kl 5, .ki .i64, .ki .i64] := (r.b, r.i, r.h, ())
theorem S_l1New_ok (k : Nat) : DoesB P X 79 [.kl 5, .ki .i64, .ki .i64] S_l1New_ar (S_l1New_f k) S_l1New_cs :=
  doesB_of (r0 := 2) (pt := 118) (body := bodyOf Go.Proofs.Tryd.f79) (pl := S_l1New_pl) (k := k) (cu := S_l1New_cu k) (tys := []) (S_l1New_ck k) ctx mixed Go.Proofs.Tryd.func79 (by kernel_rfl) (by kernel_rfl) (by kernel_rfl) (by kernel_rfl) (cutOK_of (l := [(S_l1New_b0_cut k, sub (bodyOf Go.Proofs.Tryd.f79) [1, 1, 0, 1])]) (by kernel_rfl) ⟨S_l1New_b0_ok k, trivial⟩) fun x R h => by
    simp only [S_l1New_f, S_l1New, optK_bind, optK_bif, optK_pure, optK_none, optK_oc, optK_guardT, optK_map] at h
    refine hold_of h ?_
    kernel_rfl
def S_l1New_en (k : Nat) : EntryB D := entB [.kl 5, .ki .i64, .ki .i64] S_l1New_ar (S_l1New_f k) S_l1New_cs
theorem S_l1New_eo (k : Nat) : EntryBOK X 79 (S_l1New_en k) := (S_l1New_ok k).en rfl
def S_l1Byte_pl : Plan := ⟨[(0, [(0, none)]), (1, [(0, none)]), (2, [(0, none), (3, none)]), (3, [(0, none), (3, none), (34, none)]), (4, [(0, none), (3, none)]), (5, [(0, none), (3, none)]), (6, [(0, none), (2, none)])],
  [],
  [(34, ([(0, none), (3, none)], [(0, none), (3, none)]))]⟩
def S_l1Byte_cl (k : Nat) : Calls' D := ⟨[], [], [], []⟩
theorem S_l1Byte_ck (k : Nat) : CallsOK X (S_l1Byte_cl k) := .nil cod
def S_l1Byte_c34_L (x : Int × Bool × (List Int) × Int × Int × Unit) (o : Int × Int) (Q : Ex → VSt D → Prop) (R : VR D → Prop) : Prop := Q .normal (mkSt ⟨[(0, .ptr 700000 0), (3, .hole)], [(700000, .var [.hole, .hole, .hole])]⟩ [.int .i64 o.1, .sl 5 x.2.2.1, .int .i64 o.2, .int .i64 x.2.2.2.2.1])
def S_l1Byte_c34_cut (k : Nat) : Cut D := cutS ⟨[(0, .ptr 700000 0), (3, .hole), (34, .hole)], [(700000, .var [.hole, .hole, .hole])]⟩ [.ki .i64, .kb, .kl 5, .ki .i64, .ki .i64] (fun (x : Int × Bool × (List Int) × Int × Int × Unit) => S_l1Byte_c34 k x.1 x.2.1 x.2.2.1 x.2.2.2.1 x.2.2.2.2.1) S_l1Byte_c34_L
def S_l1Byte_c34_cu (k : Nat) : Cuts D := ⟨[], []⟩
theorem S_l1Byte_c34_ok (k : Nat) : CutFor X S_l1Byte_pl k (.cell 0 118 :: Go.Proofs.Tryd.f117.results.toList) (S_l1Byte_c34_cut k) (sub (bodyOf Go.Proofs.Tryd.f117) [1, 1, 1, 0, 1]) :=
  joinCut_s (X := X) (sg := [.ki .i64, .kb, .kl 5, .ki .i64, .ki .i64]) (cu := S_l1Byte_c34_cu k) (cl := S_l1Byte_cl k) (tys := [[0]]) (S_l1Byte_ck k) (cutOK_of (l := []) (by kernel_rfl) trivial) fun x Q R h => by
    simp only [S_l1Byte_c34, optK_bind, optK_bif, optK_pure, optK_none, optK_oc, optK_guardT, optK_map] at h
    refine hold_of h ?_
    kernel_rfl
def S_l1Byte_cu (k : Nat) : Cuts D := ⟨[], [(34, some (S_l1Byte_c34_cut k))]⟩
def S_l1Byte_ar : List Ar := []
def S_l1Byte_f (k : Nat) (c : Tup D [.kl 5, .ki .i64, .ki .i64]) (x : TupA D S_l1Byte_ar) : Option (Int × Sl1Cur) := S_l1Byte k (⟨c.1, c.2.1, c.2.2.1⟩ : Sl1Cur)
def S_l1Byte_cs (r : Int × Sl1Cur) : Tup D [.kl 5, .ki .i64, .ki .i64] := (r.2.b, r.2.i, r.2.h, ())
def S_l1Byte_ps (r : Int × Sl1Cur) : List (VP D) := [.c (.int .i64 r.1)]
theorem S_l1Byte_ok (k : Nat) : DoesP P X 117 [.kl 5, .ki .i64, .ki .i64] S_l1Byte_ar (S_l1Byte_f k) S_l1Byte_ps S_l1Byte_cs :=
  doesP_of (pt := 118) (body := bodyOf Go.Proofs.Tryd.f117) (pl := S_l1Byte_pl) (k := k) (cu := S_l1Byte_cu k) (tys := [[0]]) (S_l1Byte_ck k) ctx mixed Go.Proofs.Tryd.func117 (by kernel_rfl) (by kernel_rfl) (by kernel_rfl) (by kernel_rfl) (cutOK_of (l := [(S_l1Byte_c34_cut k, sub (bodyOf Go.Proofs.Tryd.f117) [1, 1, 1, 0, 1])]) (by kernel_rfl) ⟨S_l1Byte_c34_ok k, trivial⟩) fun c x R h => by
    simp only [S_l1Byte_f, S_l1Byte, optK_bind, optK_bif, optK_pure, optK_none, optK_oc, optK_guardT, optK_map] at h
    refine hold_of h ?_
    kernel_rfl
def S_l1Byte_en (k : Nat) : EntryP D := entP [.kl 5, .ki .i64, .ki .i64] S_l1Byte_ar (S_l1Byte_f k) S_l1Byte_ps S_l1Byte_cs
theorem S_l1Byte_eo (k : Nat) : EntryPOK X 117 (S_l1Byte_en k) := (S_l1Byte_ok k).en rfl
def S_l1Below_pl : Plan := ⟨[(0, [(0, none), (1, none)]), (1, [(0, none), (1, none), (9, none)]), (2, [(0, none), (4, none)]), (3, [(0, none), (1, none), (11, none)]), (4, [(0, none), (4, none)]), (5, [(0, none), (1, none), (5, none)]), (6, [(0, none), (1, none), (5, none), (6, none)]), (7, [(0, none), (1, none), (5, none), (6, none), (7, none)]), (8, [(0, none), (4, none)])],
  [],
  [(9, ([(0, none)], [(0, none), (1, none)])), (11, ([(0, none), (1, none)], [(0, none), (1, none)]))]⟩
def S_l1Below_cl (k : Nat) : Calls' D := ⟨[], [], [(117, S_l1Byte_en k)], []⟩
theorem S_l1Below_ck (k : Nat) : CallsOK X (S_l1Below_cl k) := .consP (S_l1Byte_eo k) (.nil cod)
def S_l1Below_cu (k : Nat) : Cuts D := ⟨[], []⟩
def S_l1Below_ar : List Ar := [.c (.ki .i64)]
def S_l1Below_f (k : Nat) (c : Tup D [.kl 5, .ki .i64, .ki .i64]) (x : TupA D S_l1Below_ar) : Option (Int × Sl1Cur) := S_l1Below k (⟨c.1, c.2.1, c.2.2.1⟩ : Sl1Cur) x.1
def S_l1Below_cs (r : Int × Sl1Cur) : Tup D [.kl 5, .ki .i64, .ki .i64] := (r.2.b, r.2.i, r.2.h, ())
def S_l1Below_ps (r : Int × Sl1Cur) : List (VP D) := [.c (.int .i64 r.1)]
theorem S_l1Below_ok (k : Nat) : DoesP P X 82 [.kl 5, .ki .i64, .ki .i64] S_l1Below_ar (S_l1Below_f k) S_l1Below_ps S_l1Below_cs :=
  doesP_of (pt := 118) (body := bodyOf Go.Proofs.Tryd.f82) (pl := S_l1Below_pl) (k := k) (cu := S_l1Below_cu k) (tys := [[0]]) (S_l1Below_ck k) ctx mixed Go.Proofs.Tryd.func82 (by kernel_rfl) (by kernel_rfl) (by kernel_rfl) (by kernel_rfl) (cutOK_of (l := []) (by kernel_rfl) trivial) fun c x R h => by
    simp only [S_l1Below_f, S_l1Below, optK_bind, optK_bif, optK_pure, optK_none, optK_oc, optK_guardT, optK_map] at h
    refine hold_of h ?_
    kernel_rfl
def S_l1Below_en (k : Nat) : EntryP D := entP [.kl 5, .ki .i64, .ki .i64] S_l1Below_ar (S_l1Below_f k) S_l1Below_ps S_l1Below_cs
theorem S_l1Below_eo (k : Nat) : EntryPOK X 82 (S_l1Below_en k) := (S_l1Below_ok k).en rfl
def S_l1Str_pl : Plan := ⟨[(0, [(0, none), (1, some 9)]), (1, [(0, none), (4, none)])],
  [],
  []⟩
def S_l1Str_cl (k : Nat) : Calls' D := ⟨[], [], [(82, S_l1Below_en k)], []⟩
theorem S_l1Str_ck (k : Nat) : CallsOK X (S_l1Str_cl k) := .consP (S_l1Below_eo k) (.nil cod)
def S_l1Str_cu (k : Nat) : Cuts D := ⟨[], []⟩
def S_l1Str_ar : List Ar := [.c (.kl 9)]
def S_l1Str_f (k : Nat) (c : Tup D [.kl 5, .ki .i64, .ki .i64]) (x : TupA D S_l1Str_ar) : Option ((List UInt8) × Sl1Cur) := S_l1Str k (⟨c.1, c.2.1, c.2.2.1⟩ : Sl1Cur) x.1
def S_l1Str_cs (r : (List UInt8) × Sl1Cur) : Tup D [.kl 5, .ki .i64, .ki .i64] := (r.2.b, r.2.i, r.2.h, ())
def S_l1Str_ps (r : (List UInt8) × Sl1Cur) : List (VP D) := [.c (.str r.1)]
theorem S_l1Str_ok (k : Nat) : DoesP P X 83 [.kl 5, .ki .i64, .ki .i64] S_l1Str_ar (S_l1Str_f k) S_l1Str_ps S_l1Str_cs :=
  doesP_of (pt := 118) (body := bodyOf Go.Proofs.Tryd.f83) (pl := S_l1Str_pl) (k := k) (cu := S_l1Str_cu k) (tys := [[0]]) (S_l1Str_ck k) ctx mixed Go.Proofs.Tryd.func83 (by kernel_rfl) (by kernel_rfl) (by kernel_rfl) (by kernel_rfl) (cutOK_of (l := []) (by kernel_rfl) trivial) fun c x R h => by
    simp only [S_l1Str_f, S_l1Str, optK_bind, optK_bif, optK_pure, optK_none, optK_oc, optK_guardT, optK_map] at h
    refine hold_of h ?_
    kernel_rfl
def S_l1Str_en (k : Nat) : EntryP D := entP [.kl 5, .ki .i64, .ki .i64] S_l1Str_ar (S_l1Str_f k) S_l1Str_ps S_l1Str_cs
theorem S_l1Str_eo (k : Nat) : EntryPOK X 83 (S_l1Str_en k) := (S_l1Str_ok k).en rfl
def S_l11Target_pl : Plan := ⟨[(0, [(0, none)]), (1, [(0, none), (2, none)])],
  [],
  []⟩
def S_l11Target_cl (k : Nat) : Calls' D := ⟨[], [], [(83, S_l1Str_en k)], []⟩
theorem S_l11Target_ck (k : Nat) : CallsOK X (S_l11Target_cl k) := .consP (S_l1Str_eo k) (.nil cod)
def S_l11Target_cu (k : Nat) : Cuts D := ⟨[], []⟩
def S_l11Target_ar : List Ar := []
def S_l11Target_f (k : Nat) (c : Tup D [.kl 5, .ki .i64, .ki .i64]) (x : TupA D S_l11Target_ar) : Option ((List UInt8) × Sl1Cur) := S_l11Target k (⟨c.1, c.2.1, c.2.2.1⟩ : Sl1Cur)
def S_l11Target_cs (r : (List UInt8) × Sl1Cur) : Tup D [.kl 5, .ki .i64, .ki .i64] := (r.2.b, r.2.i, r.2.h, ())
def S_l11Target_ps (r : (List UInt8) × Sl1Cur) : List (VP D) := [.c (.str r.1)]
theorem S_l11Target_ok (k : Nat) : DoesP P X 124 [.kl 5, .ki .i64, .ki .i64] S_l11Target_ar (S_l11Target_f k) S_l11Target_ps S_l11Target_cs :=
  doesP_of (pt := 118) (body := bodyOf Go.Proofs.Tryd.f124) (pl := S_l11Target_pl) (k := k) (cu := S_l11Target_cu k) (tys := [[0]]) (S_l11Target_ck k) ctx mixed Go.Proofs.Tryd.func124 (by kernel_rfl) (by kernel_rfl) (by kernel_rfl) (by kernel_rfl) (cutOK_of (l := []) (by kernel_rfl) trivial) fun c x R h => by
    simp only [S_l11Target_f, S_l11Target, optK_bind, optK_bif, optK_pure, optK_none, optK_oc, optK_guardT, optK_map] at h
    refine hold_of h ?_
    kernel_rfl
def S_l11Target_en (k : Nat) : EntryP D := entP [.kl 5, .ki .i64, .ki .i64] S_l11Target_ar (S_l11Target_f k) S_l11Target_ps S_l11Target_cs
theorem S_l11Target_eo (k : Nat) : EntryPOK X 124 (S_l11Target_en k) := (S_l11Target_ok k).en rfl
def S_l5Draw_pl : Plan := ⟨[(0, [(0, none)]), (1, [(0, none), (3, some 79)]), (2, [(0, none), (3, some 79), (4, none)]), (3, [(0, none), (3, some 79), (4, none), (9, none)]), (4, [(0, none), (3, some 79), (4, none)]), (5, [(0, none), (3, some 79), (4, none)]), (6, [(0, none), (2, some 79)])],
  [(0, [(0, none), (3, some 79)]), (1, [(0, none), (3, some 79), (4, none)])],
  [(9, ([(0, none), (3, some 79), (4, none)], [(0, none), (3, some 79)]))]⟩
def S_l5Draw_cl (k : Nat) : Calls' D := ⟨[], [], [(82, S_l1Below_en k), (83, S_l1Str_en k)], []⟩
theorem S_l5Draw_ck (k : Nat) : CallsOK X (S_l5Draw_cl k) := .consP (S_l1Below_eo k) (.consP (S_l1Str_eo k) (.nil cod))
def S_l5Draw_b0_L (x : Int × (List Int) × Int × Int × (List IField) × Unit) (o : (List Int) × Int × Int × (List IField)) (Q : Ex → VSt D → Prop) (R : VR D → Prop) : Prop := Q .normal (mkSt ⟨[(0, .ptr 700000 0), (3, .ref 500003)], [(700000, .var [.hole, .hole, .hole]), (500003, .row)]⟩ [.sl 5 o.1, .int .i64 o.2.1, .int .i64 o.2.2.1, .sl 79 o.2.2.2])
def S_l5Draw_b0_cut (k : Nat) : Cut D := cutS ⟨[(0, .ptr 700000 0), (3, .ref 500003), (4, .hole)], [(700000, .var [.hole, .hole, .hole]), (500003, .row)]⟩ [.ki .i64, .kl 5, .ki .i64, .ki .i64, .kl 79] (fun (x : Int × (List Int) × Int × Int × (List IField) × Unit) => S_l5Draw_b0 k k x.1 x.2.1 x.2.2.1 x.2.2.2.1 x.2.2.2.2.1) S_l5Draw_b0_L
def S_l5Draw_b0_cu (k : Nat) : Cuts D := ⟨[], []⟩
theorem S_l5Draw_b0_ok (k : Nat) : CutFor X S_l5Draw_pl k (.cell 0 118 :: Go.Proofs.Tryd.f125.results.toList) (S_l5Draw_b0_cut k) (sub (bodyOf Go.Proofs.Tryd.f125) [1, 1, 0, 1]) :=
  loopCut_s (X := X) (sg := [.ki .i64, .kl 5, .ki .i64, .ki .i64, .kl 79]) (cu := S_l5Draw_b0_cu k) (cl := S_l5Draw_cl k) (tys := [[79]]) (id := 0) (c := sub (bodyOf Go.Proofs.Tryd.f125) [1, 1, 0, 1, 0, 0]) (f := fun n => fun (x : Int × (List Int) × Int × Int × (List IField) × Unit) => S_l5Draw_b0 k n x.1 x.2.1 x.2.2.1 x.2.2.2.1 x.2.2.2.2.1) (S_l5Draw_ck k) (cutOK_of (l := []) (by kernel_rfl) trivial) (fun _ => rfl) (fun n x Q R h => by
    simp only [S_l5Draw_b0, optK_bind, optK_bif, optK_pure, optK_none, optK_oc, optK_guardT, optK_map] at h
    refine hold_of h ?_
    kernel_rfl) (by kernel_rfl)
def S_l5Draw_cu (k : Nat) : Cuts D := ⟨[(0, some (S_l5Draw_b0_cut k))], []⟩
def S_l5Draw_ar : List Ar := []
def S_l5Draw_f (k : Nat) (c : Tup D [.kl 5, .ki .i64, .ki .i64]) (x : TupA D S_l5Draw_ar) : Option ((List IField) × Sl1Cur) := S_l5Draw k (⟨c.1, c.2.1, c.2.2.1⟩ : Sl1Cur)
def S_l5Draw_cs (r : (List IField) × Sl1Cur) : Tup D [.kl 5, .ki .i64, .ki .i64] := (r.2.b, r.2.i, r.2.h, ())
def S_l5Draw_ps (r : (List IField) × Sl1Cur) : List (VP D) := [.c (.sl 79 r.1)]
theorem S_l5Draw_ok (k : Nat) : DoesP P X 125 [.kl 5, .ki .i64, .ki .i64] S_l5Draw_ar (S_l5Draw_f k) S_l5Draw_ps S_l5Draw_cs :=
  doesP_of (pt := 118) (body := bodyOf Go.Proofs.Tryd.f125) (pl := S_l5Draw_pl) (k := k) (cu := S_l5Draw_cu k) (tys := [[79]]) (S_l5Draw_ck k) ctx mixed Go.Proofs.Tryd.func125 (by kernel_rfl) (by kernel_rfl) (by kernel_rfl) (by kernel_rfl) (cutOK_of (l := [(S_l5Draw_b0_cut k, sub (bodyOf Go.Proofs.Tryd.f125) [1, 1, 0, 1])]) (by kernel_rfl) ⟨S_l5Draw_b0_ok k, trivial⟩) fun c x R h => by
    simp only [S_l5Draw_f, S_l5Draw, optK_bind, optK_bif, optK_pure, optK_none, optK_oc, optK_guardT, optK_map] at h
    refine hold_of h ?_
    kernel_rfl
def S_l5Draw_en (k : Nat) : EntryP D := entP [.kl 5, .ki .i64, .ki .i64] S_l5Draw_ar (S_l5Draw_f k) S_l5Draw_ps S_l5Draw_cs
theorem S_l5Draw_eo (k : Nat) : EntryPOK X 125 (S_l5Draw_en k) := (S_l5Draw_ok k).en rfl
def S_l1Once_pl : Plan := ⟨[(0, [(0, none), (1, none)]), (1, [(0, none), (4, none)])],
  [],
  []⟩
def S_l1Once_cl (k : Nat) : Calls' D := ⟨[], [], [(82, S_l1Below_en k)], []⟩
theorem S_l1Once_ck (k : Nat) : CallsOK X (S_l1Once_cl k) := .consP (S_l1Below_eo k) (.nil cod)
def S_l1Once_cu (k : Nat) : Cuts D := ⟨[], []⟩
def S_l1Once_ar : List Ar := [.c (.ki .i64)]
def S_l1Once_f (k : Nat) (c : Tup D [.kl 5, .ki .i64, .ki .i64]) (x : TupA D S_l1Once_ar) : Option (Bool × Sl1Cur) := S_l1Once k (⟨c.1, c.2.1, c.2.2.1⟩ : Sl1Cur) x.1
def S_l1Once_cs (r : Bool × Sl1Cur) : Tup D [.kl 5, .ki .i64, .ki .i64] := (r.2.b, r.2.i, r.2.h, ())
def S_l1Once_ps (r : Bool × Sl1Cur) : List (VP D) := [.c (.bool r.1)]
theorem S_l1Once_ok (k : Nat) : DoesP P X 126 [.kl 5, .ki .i64, .ki .i64] S_l1Once_ar (S_l1Once_f k) S_l1Once_ps S_l1Once_cs :=
  doesP_of (pt := 118) (body := bodyOf Go.Proofs.Tryd.f126) (pl := S_l1Once_pl) (k := k) (cu := S_l1Once_cu k) (tys := [[0]]) (S_l1Once_ck k) ctx mixed Go.Proofs.Tryd.func126 (by kernel_rfl) (by kernel_rfl) (by kernel_rfl) (by kernel_rfl) (cutOK_of (l := []) (by kernel_rfl) trivial) fun c x R h => by
    simp only [S_l1Once_f, S_l1Once, optK_bind, optK_bif, optK_pure, optK_none, optK_oc, optK_guardT, optK_map] at h
    refine hold_of h ?_
    kernel_rfl
def S_l1Once_en (k : Nat) : EntryP D := entP [.kl 5, .ki .i64, .ki .i64] S_l1Once_ar (S_l1Once_f k) S_l1Once_ps S_l1Once_cs
theorem S_l1Once_eo (k : Nat) : EntryPOK X 126 (S_l1Once_en k) := (S_l1Once_ok k).en rfl
def S_l11Request_pl : Plan := ⟨[(0, [(0, none), (2, none)]), (1, [(0, none), (2, none), (3, none)]), (2, [(0, none), (2, none), (3, none), (16, none)]), (3, [(0, none), (2, none), (3, none)]), (4, [(0, none), (2, none)])],
  [],
  [(16, ([(0, none), (2, none), (3, none)], [(0, none), (2, none), (3, none)]))]⟩
def S_l11Request_cl (k : Nat) : Calls' D := ⟨[], [], [(83, S_l1Str_en k), (124, S_l11Target_en k), (125, S_l5Draw_en k), (126, S_l1Once_en k)], []⟩
theorem S_l11Request_ck (k : Nat) : CallsOK X (S_l11Request_cl k) := .consP (S_l1Str_eo k) (.consP (S_l11Target_eo k) (.consP (S_l5Draw_eo k) (.consP (S_l1Once_eo k) (.nil cod))))
def S_l11Request_c16_L (x : Bool × (List Int) × Int × Int × (List UInt8) × (List UInt8) × (List UInt8) × (List UInt8) × (List UInt8) × (List UInt8) × (List IField) × Unit) (o : (List Int) × Int × Int × (List UInt8)) (Q : Ex → VSt D → Prop) (R : VR D → Prop) : Prop := Q .normal (mkSt ⟨[(0, .ptr 700000 0), (2, .ptr 2 0), (3, .ptr 3 0)], [(700000, .var [.hole, .hole, .hole]), (2, .var [.hole, .hole, .hole, .nil]), (3, .var [.hole, .hole, .hole, .ref 100000303]), (100000303, .row)]⟩ [.sl 5 o.1, .int .i64 o.2.1, .int .i64 o.2.2.1, .str x.2.2.2.2.1, .str x.2.2.2.2.2.1, .str x.2.2.2.2.2.2.1, .str x.2.2.2.2.2.2.2.1, .str x.2.2.2.2.2.2.2.2.1, .str o.2.2.2, .sl 79 x.2.2.2.2.2.2.2.2.2.2.1])
def S_l11Request_c16_cut (k : Nat) : Cut D := cutS ⟨[(0, .ptr 700000 0), (2, .ptr 2 0), (3, .ptr 3 0), (16, .hole)], [(700000, .var [.hole, .hole, .hole]), (2, .var [.hole, .hole, .hole, .nil]), (3, .var [.hole, .hole, .hole, .ref 100000303]), (100000303, .row)]⟩ [.kb, .kl 5, .ki .i64, .ki .i64, .ks, .ks, .ks, .ks, .ks, .ks, .kl 79] (fun (x : Bool × (List Int) × Int × Int × (List UInt8) × (List UInt8) × (List UInt8) × (List UInt8) × (List UInt8) × (List UInt8) × (List IField) × Unit) => S_l11Request_c16 k x.1 x.2.1 x.2.2.1 x.2.2.2.1 x.2.2.2.2.1 x.2.2.2.2.2.1 x.2.2.2.2.2.2.1 x.2.2.2.2.2.2.2.1 x.2.2.2.2.2.2.2.2.1 x.2.2.2.2.2.2.2.2.2.1 x.2.2.2.2.2.2.2.2.2.2.1) S_l11Request_c16_L
def S_l11Request_c16_cu (k : Nat) : Cuts D := ⟨[], []⟩
theorem S_l11Request_c16_ok (k : Nat) : CutFor X S_l11Request_pl k (.cell 0 118 :: Go.Proofs.Tryd.f101.results.toList) (S_l11Request_c16_cut k) (sub (bodyOf Go.Proofs.Tryd.f101) [1, 1, 0, 1]) :=
  joinCut_s (X := X) (sg := [.kb, .kl 5, .ki .i64, .ki .i64, .ks, .ks, .ks, .ks, .ks, .ks, .kl 79]) (cu := S_l11Request_c16_cu k) (cl := S_l11Request_cl k) (tys := [[0, 0, 0, 79]]) (S_l11Request_ck k) (cutOK_of (l := []) (by kernel_rfl) trivial) fun x Q R h => by
    simp only [S_l11Request_c16, optK_bind, optK_bif, optK_pure, optK_none, optK_oc, optK_guardT, optK_map] at h
    refine hold_of h ?_
    kernel_rfl
def S_l11Request_cu (k : Nat) : Cuts D := ⟨[], [(16, some (S_l11Request_c16_cut k))]⟩
def S_l11Request_ar : List Ar := []
def S_l11Request_f (k : Nat) (c : Tup D [.kl 5, .ki .i64, .ki .i64]) (x : TupA D S_l11Request_ar) : Option (IRequest × Sl1Cur) := S_l11Request k (⟨c.1, c.2.1, c.2.2.1⟩ : Sl1Cur)
def S_l11Request_cs (r : IRequest × Sl1Cur) : Tup D [.kl 5, .ki .i64, .ki .i64] := (r.2.b, r.2.i, r.2.h, ())
def S_l11Request_ps (r : IRequest × Sl1Cur) : List (VP D) := [.agg [.str r.1.Method, .str r.1.Host, .str r.1.Target, .sl 79 r.1.Fields]]
theorem S_l11Request_ok (k : Nat) : DoesP P X 101 [.kl 5, .ki .i64, .ki .i64] S_l11Request_ar (S_l11Request_f k) S_l11Request_ps S_l11Request_cs :=
  doesP_of (pt := 118) (body := bodyOf Go.Proofs.Tryd.f101) (pl := S_l11Request_pl) (k := k) (cu := S_l11Request_cu k) (tys := [[0, 0, 0, 79]]) (S_l11Request_ck k) ctx mixed Go.Proofs.Tryd.func101 (by kernel_rfl) (by kernel_rfl) (by kernel_rfl) (by kernel_rfl) (cutOK_of (l := [(S_l11Request_c16_cut k, sub (bodyOf Go.Proofs.Tryd.f101) [1, 1, 0, 1])]) (by kernel_rfl) ⟨S_l11Request_c16_ok k, trivial⟩) fun c x R h => by
    simp only [S_l11Request_f, S_l11Request, optK_bind, optK_bif, optK_pure, optK_none, optK_oc, optK_guardT, optK_map] at h
    refine hold_of h ?_
    kernel_rfl
def S_l11Request_en (k : Nat) : EntryP D := entP [.kl 5, .ki .i64, .ki .i64] S_l11Request_ar (S_l11Request_f k) S_l11Request_ps S_l11Request_cs
theorem S_l11Request_eo (k : Nat) : EntryPOK X 101 (S_l11Request_en k) := (S_l11Request_ok k).en rfl
def S_l14Fields_pl : Plan := ⟨[(0, [(0, none)]), (1, [(0, none), (3, some 79)]), (2, [(0, none), (3, some 79), (4, none)]), (3, [(0, none), (3, some 79), (4, none), (9, none)]), (4, [(0, none), (3, some 79), (4, none)]), (5, [(0, none), (3, some 79), (4, none)]), (6, [(0, none), (2, some 79)])],
  [(0, [(0, none), (3, some 79)]), (1, [(0, none), (3, some 79), (4, none)])],
  [(9, ([(0, none), (3, some 79), (4, none)], [(0, none), (3, some 79)]))]⟩
def S_l14Fields_cl (k : Nat) : Calls' D := ⟨[], [], [(82, S_l1Below_en k), (83, S_l1Str_en k)], []⟩
theorem S_l14Fields_ck (k : Nat) : CallsOK X (S_l14Fields_cl k) := .consP (S_l1Below_eo k) (.consP (S_l1Str_eo k) (.nil cod))
def S_l14Fields_b0_L (x : Int × (List Int) × Int × Int × (List IField) × Unit) (o : (List Int) × Int × Int × (List IField)) (Q : Ex → VSt D → Prop) (R : VR D → Prop) : Prop := Q .normal (mkSt ⟨[(0, .ptr 700000 0), (3, .ref 500003)], [(700000, .var [.hole, .hole, .hole]), (500003, .row)]⟩ [.sl 5 o.1, .int .i64 o.2.1, .int .i64 o.2.2.1, .sl 79 o.2.2.2])
def S_l14Fields_b0_cut (k : Nat) : Cut D := cutS ⟨[(0, .ptr 700000 0), (3, .ref 500003), (4, .hole)], [(700000, .var [.hole, .hole, .hole]), (500003, .row)]⟩ [.ki .i64, .kl 5, .ki .i64, .ki .i64, .kl 79] (fun (x : Int × (List Int) × Int × Int × (List IField) × Unit) => S_l14Fields_b0 k k x.1 x.2.1 x.2.2.1 x.2.2.2.1 x.2.2.2.2.1) S_l14Fields_b0_L
def S_l14Fields_b0_cu (k : Nat) : Cuts D := ⟨[], []⟩
theorem S_l14Fields_b0_ok (k : Nat) : CutFor X S_l14Fields_pl k (.cell 0 118 :: Go.Proofs.Tryd.f102.results.toList) (S_l14Fields_b0_cut k) (sub (bodyOf Go.Proofs.Tryd.f102) [1, 1, 0, 1]) :=
  loopCut_s (X := X) (sg := [.ki .i64, .kl 5, .ki .i64, .ki .i64, .kl 79]) (cu := S_l14Fields_b0_cu k) (cl := S_l14Fields_cl k) (tys := [[79]]) (id := 0) (c := sub (bodyOf Go.Proofs.Tryd.f102) [1, 1, 0, 1, 0, 0]) (f := fun n => fun (x : Int × (List Int) × Int × Int × (List IField) × Unit) => S_l14Fields_b0 k n x.1 x.2.1 x.2.2.1 x.2.2.2.1 x.2.2.2.2.1) (S_l14Fields_ck k) (cutOK_of (l := []) (by kernel_rfl) trivial) (fun _ => rfl) (fun n x Q R h => by
    simp only [S_l14Fields_b0, optK_bind, optK_bif, optK_pure, optK_none, optK_oc, optK_guardT, optK_map] at h
    refine hold_of h ?_
    kernel_rfl) (by kernel_rfl)
def S_l14Fields_cu (k : Nat) : Cuts D := ⟨[(0, some (S_l14Fields_b0_cut k))], []⟩
def S_l14Fields_ar : List Ar := []
def S_l14Fields_f (k : Nat) (c : Tup D [.kl 5, .ki .i64, .ki .i64]) (x : TupA D S_l14Fields_ar) : Option ((List IField) × Sl1Cur) := S_l14Fields k (⟨c.1, c.2.1, c.2.2.1⟩ : Sl1Cur)
def S_l14Fields_cs (r : (List IField) × Sl1Cur) : Tup D [.kl 5, .ki .i64, .ki .i64] := (r.2.b, r.2.i, r.2.h, ())
def S_l14Fields_ps (r : (List IField) × Sl1Cur) : List (VP D) := [.c (.sl 79 r.1)]
theorem S_l14Fields_ok (k : Nat) : DoesP P X 102 [.kl 5, .ki .i64, .ki .i64] S_l14Fields_ar (S_l14Fields_f k) S_l14Fields_ps S_l14Fields_cs :=
  doesP_of (pt := 118) (body := bodyOf Go.Proofs.Tryd.f102) (pl := S_l14Fields_pl) (k := k) (cu := S_l14Fields_cu k) (tys := [[79]]) (S_l14Fields_ck k) ctx mixed Go.Proofs.Tryd.func102 (by kernel_rfl) (by kernel_rfl) (by kernel_rfl) (by kernel_rfl) (cutOK_of (l := [(S_l14Fields_b0_cut k, sub (bodyOf Go.Proofs.Tryd.f102) [1, 1, 0, 1])]) (by kernel_rfl) ⟨S_l14Fields_b0_ok k, trivial⟩) fun c x R h => by
    simp only [S_l14Fields_f, S_l14Fields, optK_bind, optK_bif, optK_pure, optK_none, optK_oc, optK_guardT, optK_map] at h
    refine hold_of h ?_
    kernel_rfl
def S_l14Fields_en (k : Nat) : EntryP D := entP [.kl 5, .ki .i64, .ki .i64] S_l14Fields_ar (S_l14Fields_f k) S_l14Fields_ps S_l14Fields_cs
theorem S_l14Fields_eo (k : Nat) : EntryPOK X 102 (S_l14Fields_en k) := (S_l14Fields_ok k).en rfl
def S_DrawSelectingOf_pl : Plan := ⟨[(0, [(0, some 5), (2, none)]), (1, [(2, none), (4, none)]), (2, [(2, none), (4, none), (5, none)]), (3, [(2, none), (4, none), (5, none)]), (4, [(2, none), (4, none), (5, none), (6, some 9)]), (5, [(2, none), (4, none), (5, none), (6, some 9), (7, none)]), (6, [(2, none), (4, none), (5, none), (6, some 9), (7, none), (19, none)]), (7, [(2, none), (4, none), (5, none), (6, some 9), (7, none)]), (8, [(2, none), (4, none), (5, none), (6, some 9), (7, none)]), (9, [(2, none), (3, some 9)])],
  [(0, [(2, none), (5, none), (6, some 9)]), (1, [(2, none), (4, none), (5, none), (6, some 9), (7, none)])],
  [(19, ([(2, none), (4, none), (5, none), (6, some 9), (7, none)], [(2, none), (5, none), (6, some 9)]))]⟩
def S_DrawSelectingOf_cl (k : Nat) : Calls' D := ⟨[], [], [(101, S_l11Request_en k), (102, S_l14Fields_en k), (82, S_l1Below_en k), (83, S_l1Str_en k)], [(79, S_l1New_en k)]⟩
theorem S_DrawSelectingOf_ck (k : Nat) : CallsOK X (S_DrawSelectingOf_cl k) := .consP (S_l11Request_eo k) (.consP (S_l14Fields_eo k) (.consP (S_l1Below_eo k) (.consP (S_l1Str_eo k) (.consB (S_l1New_eo k) (.nil cod)))))
def S_DrawSelectingOf_b0_L (x : Int × (List UInt8) × (List UInt8) × (List UInt8) × (List Int) × Int × Int × (List UInt8) × (List UInt8) × (List UInt8) × (List IField) × (List (List UInt8)) × Unit) (o : (List (List UInt8))) (Q : Ex → VSt D → Prop) (R : VR D → Prop) : Prop := Q .normal (mkSt ⟨[(2, .ptr 2 0), (5, .ptr 5 0), (6, .ref 500006)], [(2, .var [.hole, .hole, .hole, .nil]), (5, .var [.hole, .hole, .hole, .ref 100000503]), (100000503, .row), (500006, .row)]⟩ [.str x.2.1, .str x.2.2.1, .str x.2.2.2.1, .str x.2.2.2.2.2.2.2.1, .str x.2.2.2.2.2.2.2.2.1, .str x.2.2.2.2.2.2.2.2.2.1, .sl 79 x.2.2.2.2.2.2.2.2.2.2.1, .sl 9 o])
def S_DrawSelectingOf_b0_cut (k : Nat) : Cut D := cutS ⟨[(2, .ptr 2 0), (4, .ptr 9 0), (5, .ptr 5 0), (6, .ref 500006), (7, .hole)], [(2, .var [.hole, .hole, .hole, .nil]), (9, .var [.hole, .hole, .hole]), (5, .var [.hole, .hole, .hole, .ref 100000503]), (100000503, .row), (500006, .row)]⟩ [.ki .i64, .ks, .ks, .ks, .kl 5, .ki .i64, .ki .i64, .ks, .ks, .ks, .kl 79, .kl 9] (fun (x : Int × (List UInt8) × (List UInt8) × (List UInt8) × (List Int) × Int × Int × (List UInt8) × (List UInt8) × (List UInt8) × (List IField) × (List (List UInt8)) × Unit) => S_DrawSelectingOf_b0 k k x.1 x.2.1 x.2.2.1 x.2.2.2.1 x.2.2.2.2.1 x.2.2.2.2.2.1 x.2.2.2.2.2.2.1 x.2.2.2.2.2.2.2.1 x.2.2.2.2.2.2.2.2.1 x.2.2.2.2.2.2.2.2.2.1 x.2.2.2.2.2.2.2.2.2.2.1 x.2.2.2.2.2.2.2.2.2.2.2.1) S_DrawSelectingOf_b0_L
def S_DrawSelectingOf_b0_cu (k : Nat) : Cuts D := ⟨[], []⟩
theorem S_DrawSelectingOf_b0_ok (k : Nat) : CutFor X S_DrawSelectingOf_pl k Go.Proofs.Tryd.f54.results.toList (S_DrawSelectingOf_b0_cut k) (sub (bodyOf Go.Proofs.Tryd.f54) [1, 1, 1, 1, 1, 0, 1]) :=
  loopCut_s (X := X) (sg := [.ki .i64, .ks, .ks, .ks, .kl 5, .ki .i64, .ki .i64, .ks, .ks, .ks, .kl 79, .kl 9]) (cu := S_DrawSelectingOf_b0_cu k) (cl := S_DrawSelectingOf_cl k) (tys := [[0, 0, 0, 79], [9]]) (id := 0) (c := sub (bodyOf Go.Proofs.Tryd.f54) [1, 1, 1, 1, 1, 0, 1, 0, 0]) (f := fun n => fun (x : Int × (List UInt8) × (List UInt8) × (List UInt8) × (List Int) × Int × Int × (List UInt8) × (List UInt8) × (List UInt8) × (List IField) × (List (List UInt8)) × Unit) => S_DrawSelectingOf_b0 k n x.1 x.2.1 x.2.2.1 x.2.2.2.1 x.2.2.2.2.1 x.2.2.2.2.2.1 x.2.2.2.2.2.2.1 x.2.2.2.2.2.2.2.1 x.2.2.2.2.2.2.2.2.1 x.2.2.2.2.2.2.2.2.2.1 x.2.2.2.2.2.2.2.2.2.2.1 x.2.2.2.2.2.2.2.2.2.2.2.1) (S_DrawSelectingOf_ck k) (cutOK_of (l := []) (by kernel_rfl) trivial) (fun _ => rfl) (fun n x Q R h => by
    simp only [S_DrawSelectingOf_b0, optK_bind, optK_bif, optK_pure, optK_none, optK_oc, optK_guardT, optK_map] at h
    refine hold_of h ?_
    kernel_rfl) (by kernel_rfl)
def S_DrawSelectingOf_cu (k : Nat) : Cuts D := ⟨[(0, some (S_DrawSelectingOf_b0_cut k))], []⟩
def S_DrawSelectingOf_ar : List Ar := [.c (.kl 5)]
def S_DrawSelectingOf_f (k : Nat) (x : TupA D S_DrawSelectingOf_ar) : Option (IRequest × (List (List UInt8))) := S_DrawSelectingOf k x.1
def S_DrawSelectingOf_vr (r : IRequest × (List (List UInt8))) : VR D := .tup [.agg [.str r.1.Method, .str r.1.Host, .str r.1.Target, .sl 79 r.1.Fields], .c (.sl 9 r.2)]
theorem S_DrawSelectingOf_ok (k : Nat) : Does P X 54 S_DrawSelectingOf_ar (S_DrawSelectingOf_f k) S_DrawSelectingOf_vr :=
  does_of (body := bodyOf Go.Proofs.Tryd.f54) (pl := S_DrawSelectingOf_pl) (k := k) (cu := S_DrawSelectingOf_cu k) (tys := [[0, 0, 0, 79], [9]]) (S_DrawSelectingOf_ck k) ctx mixed Go.Proofs.Tryd.func54 (by kernel_rfl) (by kernel_rfl) (cutOK_of (l := [(S_DrawSelectingOf_b0_cut k, sub (bodyOf Go.Proofs.Tryd.f54) [1, 1, 1, 1, 1, 0, 1])]) (by kernel_rfl) ⟨S_DrawSelectingOf_b0_ok k, trivial⟩) fun x R h => by
    simp only [S_DrawSelectingOf_f, S_DrawSelectingOf, optK_bind, optK_bif, optK_pure, optK_none, optK_oc, optK_guardT, optK_map] at h
    refine hold_of h ?_
    kernel_rfl
def S_DrawSelectingOf_en (k : Nat) : Entry D := entS S_DrawSelectingOf_ar (S_DrawSelectingOf_f k) S_DrawSelectingOf_vr
theorem S_DrawSelectingOf_eo (k : Nat) : EntryOK X 54 (S_DrawSelectingOf_en k) := (S_DrawSelectingOf_ok k).en rfl
def strings_Join_ar : List Ar := [.c (.kl 9), .c (.ks)]
def strings_Join_f (k : Nat) (x : TupA D strings_Join_ar) : Option ((List UInt8)) := strings_Join k x.1 x.2.1
def strings_Join_vr (r : (List UInt8)) : VR D := .p (.c (.str r))
theorem strings_Join_ok (k : Nat) : Does P X 127 strings_Join_ar (strings_Join_f k) strings_Join_vr := does_join (P := P) (D := D) (X := X) (el := 9) ⟨Go.Proofs.Tryd.f127, Go.Proofs.Tryd.func127, by kernel_rfl, by kernel_rfl⟩ (fun (s : List UInt8) => s) (fun (l : List (List UInt8)) s => joinO l s) (fun _ => rfl) (by kernel_rfl) (fun (l : List (List UInt8)) s => congrArg (fun t => joinO t s) (List.map_id' l).symm) (fun a c sep w => Go.Proofs.Tryd.strings_Join_none a c sep w) (fun bk o c xs sep w hg h1 h2 h3 h4 h5 => Go.Proofs.Tryd.strings_Join bk o c xs sep w h1 h2 h3 h4 h5)
def strings_Join_en (k : Nat) : Entry D := entS strings_Join_ar (strings_Join_f k) strings_Join_vr
theorem strings_Join_eo (k : Nat) : EntryOK X 127 (strings_Join_en k) := (strings_Join_ok k).en rfl
def I_JoinList_pl : Plan := ⟨[(0, [(0, some 9)]), (1, [(2, none)])],
  [],
  []⟩
def I_JoinList_cl (k : Nat) : Calls' D := ⟨[(127, strings_Join_en k)], [], [], []⟩
theorem I_JoinList_ck (k : Nat) : CallsOK X (I_JoinList_cl k) := .cons (strings_Join_eo k) (.nil cod)
def I_JoinList_cu (k : Nat) : Cuts D := ⟨[], []⟩
def I_JoinList_ar : List Ar := [.c (.kl 9)]
def I_JoinList_f (k : Nat) (x : TupA D I_JoinList_ar) : Option ((List UInt8)) := I_JoinList k x.1
def I_JoinList_vr (r : (List UInt8)) : VR D := .p (.c (.str r))
theorem I_JoinList_ok (k : Nat) : Does P X 103 I_JoinList_ar (I_JoinList_f k) I_JoinList_vr :=
  does_of (body := bodyOf Go.Proofs.Tryd.f103) (pl := I_JoinList_pl) (k := k) (cu := I_JoinList_cu k) (tys := [[0]]) (I_JoinList_ck k) ctx mixed Go.Proofs.Tryd.func103 (by kernel_rfl) (by kernel_rfl) (cutOK_of (l := []) (by kernel_rfl) trivial) fun x R h => by
    simp only [I_JoinList_f, I_JoinList, optK_bind, optK_bif, optK_pure, optK_none, optK_oc, optK_guardT, optK_map] at h
    refine hold_of h ?_
    kernel_rfl
def I_JoinList_en (k : Nat) : Entry D := entS I_JoinList_ar (I_JoinList_f k) I_JoinList_vr
theorem I_JoinList_eo (k : Nat) : EntryOK X 103 (I_JoinList_en k) := (I_JoinList_ok k).en rfl
def I_GetField_pl : Plan := ⟨[(0, [(0, some 79), (1, none)]), (1, [(0, some 79), (1, none), (6, some 9)]), (2, [(1, none), (6, some 9), (10, some 79), (11, none), (12, none)]), (3, [(1, none), (6, some 9), (10, some 79), (11, none), (12, none), (13, none)]), (4, [(1, none), (6, some 9), (8, none), (10, some 79), (11, none), (12, none)]), (5, [(1, none), (6, some 9), (8, none), (10, some 79), (11, none), (12, none), (19, none)]), (6, [(1, none), (6, some 9), (10, some 79), (11, none), (12, none)]), (7, [(1, none), (6, some 9), (10, some 79), (11, none), (12, none)]), (8, [(4, none), (5, none)])],
  [(0, [(6, some 9)]), (1, [(1, none), (6, some 9), (10, some 79), (11, none), (12, none)])],
  [(13, ([(1, none), (6, some 9), (10, some 79), (11, none), (12, none)], [(6, some 9)])), (19, ([(1, none), (6, some 9), (8, none), (10, some 79), (11, none), (12, none)], [(1, none), (6, some 9), (10, some 79), (11, none), (12, none)]))]⟩
def I_GetField_cl (k : Nat) : Calls' D := ⟨[(103, I_JoinList_en k)], [], [], []⟩
theorem I_GetField_ck (k : Nat) : CallsOK X (I_GetField_cl k) := .cons (I_JoinList_eo k) (.nil cod)
def I_GetField_c19_L (x : (List UInt8) × (List IField) × Int × Int × Bool × (List (List UInt8)) × (List UInt8) × (List UInt8) × Unit) (o : (List (List UInt8))) (Q : Ex → VSt D → Prop) (R : VR D → Prop) : Prop := Q .normal (mkSt ⟨[(1, .hole), (6, .ref 500006), (10, .hole), (11, .hole), (12, .hole)], [(500006, .row)]⟩ [.str x.1, .sl 79 x.2.1, .int .i64 x.2.2.1, .int .i64 x.2.2.2.1, .sl 9 o])
def I_GetField_c19_cut (k : Nat) : Cut D := cutS ⟨[(1, .hole), (6, .ref 500006), (8, .ptr 8 0), (10, .hole), (11, .hole), (12, .hole), (19, .hole)], [(500006, .row), (8, .var [.hole, .hole])]⟩ [.ks, .kl 79, .ki .i64, .ki .i64, .kb, .kl 9, .ks, .ks] (fun (x : (List UInt8) × (List IField) × Int × Int × Bool × (List (List UInt8)) × (List UInt8) × (List UInt8) × Unit) => I_GetField_c19 k x.1 x.2.1 x.2.2.1 x.2.2.2.1 x.2.2.2.2.1 x.2.2.2.2.2.1 x.2.2.2.2.2.2.1 x.2.2.2.2.2.2.2.1) I_GetField_c19_L
def I_GetField_c19_cu (k : Nat) : Cuts D := ⟨[], []⟩
theorem I_GetField_c19_ok (k : Nat) : CutFor X I_GetField_pl k Go.Proofs.Tryd.f57.results.toList (I_GetField_c19_cut k) (sub (bodyOf Go.Proofs.Tryd.f57) [1, 1, 0, 1, 0, 0, 1, 1, 0, 0, 1, 1]) :=
  joinCut_s (X := X) (sg := [.ks, .kl 79, .ki .i64, .ki .i64, .kb, .kl 9, .ks, .ks]) (cu := I_GetField_c19_cu k) (cl := I_GetField_cl k) (tys := [[0], [0]]) (I_GetField_ck k) (cutOK_of (l := []) (by kernel_rfl) trivial) fun x Q R h => by
    simp only [I_GetField_c19, optK_bind, optK_bif, optK_pure, optK_none, optK_oc, optK_guardT, optK_map] at h
    refine hold_of h ?_
    kernel_rfl
def I_GetField_b1_L (x : (List UInt8) × (List IField) × Int × Int × (List (List UInt8)) × Unit) (o : (List (List UInt8))) (Q : Ex → VSt D → Prop) (R : VR D → Prop) : Prop := Q .normal (mkSt ⟨[(1, .hole), (6, .ref 500006), (10, .hole), (11, .hole), (12, .hole)], [(500006, .row)]⟩ [.str x.1, .sl 79 x.2.1, .int .i64 x.2.2.1, .int .i64 x.2.2.2.1, .sl 9 o])
def I_GetField_b1_cut (k : Nat) : Cut D := cutS ⟨[(1, .hole), (6, .ref 500006), (10, .hole), (11, .hole), (12, .hole)], [(500006, .row)]⟩ [.ks, .kl 79, .ki .i64, .ki .i64, .kl 9] (fun (x : (List UInt8) × (List IField) × Int × Int × (List (List UInt8)) × Unit) => I_GetField_b1 k x.1 x.2.1 x.2.2.1 x.2.2.2.1 x.2.2.2.2.1) I_GetField_b1_L
def I_GetField_b1_cu (k : Nat) : Cuts D := ⟨[], [(19, some (I_GetField_c19_cut k))]⟩
theorem I_GetField_b1_ok (k : Nat) : CutFor X I_GetField_pl k Go.Proofs.Tryd.f57.results.toList (I_GetField_b1_cut k) (sub (bodyOf Go.Proofs.Tryd.f57) [1, 1, 0, 1, 0, 0, 1, 1, 0]) :=
  joinCut_s (X := X) (sg := [.ks, .kl 79, .ki .i64, .ki .i64, .kl 9]) (cu := I_GetField_b1_cu k) (cl := I_GetField_cl k) (tys := [[0], [0]]) (I_GetField_ck k) (cutOK_of (l := [(I_GetField_c19_cut k, sub (bodyOf Go.Proofs.Tryd.f57) [1, 1, 0, 1, 0, 0, 1, 1, 0, 0, 1, 1])]) (by kernel_rfl) ⟨I_GetField_c19_ok k, trivial⟩) fun x Q R h => by
    simp only [I_GetField_b1, optK_bind, optK_bif, optK_pure, optK_none, optK_oc, optK_guardT, optK_map] at h
    refine hold_of h ?_
    kernel_rfl
def I_GetField_b0_L (x : (List UInt8) × (List IField) × Int × Int × (List (List UInt8)) × Unit) (o : (List (List UInt8))) (Q : Ex → VSt D → Prop) (R : VR D → Prop) : Prop := Q .normal (mkSt ⟨[(6, .ref 500006)], [(500006, .row)]⟩ [.sl 9 o])
def I_GetField_b0_cut (k : Nat) : Cut D := cutS ⟨[(1, .hole), (6, .ref 500006), (10, .hole), (11, .hole), (12, .hole)], [(500006, .row)]⟩ [.ks, .kl 79, .ki .i64, .ki .i64, .kl 9] (fun (x : (List UInt8) × (List IField) × Int × Int × (List (List UInt8)) × Unit) => I_GetField_b0 k k x.1 x.2.1 x.2.2.1 x.2.2.2.1 x.2.2.2.2.1) I_GetField_b0_L
def I_GetField_b0_cu (k : Nat) : Cuts D := ⟨[(1, some (I_GetField_b1_cut k))], []⟩
theorem I_GetField_b0_ok (k : Nat) : CutFor X I_GetField_pl k Go.Proofs.Tryd.f57.results.toList (I_GetField_b0_cut k) (sub (bodyOf Go.Proofs.Tryd.f57) [1, 1, 0, 1]) :=
  loopCut_s (X := X) (sg := [.ks, .kl 79, .ki .i64, .ki .i64, .kl 9]) (cu := I_GetField_b0_cu k) (cl := I_GetField_cl k) (tys := [[0], [0]]) (id := 0) (c := sub (bodyOf Go.Proofs.Tryd.f57) [1, 1, 0, 1, 0, 0]) (f := fun n => fun (x : (List UInt8) × (List IField) × Int × Int × (List (List UInt8)) × Unit) => I_GetField_b0 k n x.1 x.2.1 x.2.2.1 x.2.2.2.1 x.2.2.2.2.1) (I_GetField_ck k) (cutOK_of (l := [(I_GetField_b1_cut k, sub (bodyOf Go.Proofs.Tryd.f57) [1, 1, 0, 1, 0, 0, 1, 1, 0])]) (by kernel_rfl) ⟨I_GetField_b1_ok k, trivial⟩) (fun _ => rfl) (fun n x Q R h => by
    simp only [I_GetField_b0, optK_bind, optK_bif, optK_pure, optK_none, optK_oc, optK_guardT, optK_map] at h
    refine hold_of h ?_
    kernel_rfl) (by kernel_rfl)
def I_GetField_cu (k : Nat) : Cuts D := ⟨[(0, some (I_GetField_b0_cut k))], []⟩
def I_GetField_ar : List Ar := [.c (.kl 79), .c (.ks)]
def I_GetField_f (k : Nat) (x : TupA D I_GetField_ar) : Option ((List UInt8) × Bool) := I_GetField k x.1 x.2.1
def I_GetField_vr (r : (List UInt8) × Bool) : VR D := .tup [.c (.str r.1), .c (.bool r.2)]
theorem I_GetField_ok (k : Nat) : Does P X 57 I_GetField_ar (I_GetField_f k) I_GetField_vr :=
  does_of (body := bodyOf Go.Proofs.Tryd.f57) (pl := I_GetField_pl) (k := k) (cu := I_GetField_cu k) (tys := [[0], [0]]) (I_GetField_ck k) ctx mixed Go.Proofs.Tryd.func57 (by kernel_rfl) (by kernel_rfl) (cutOK_of (l := [(I_GetField_b0_cut k, sub (bodyOf Go.Proofs.Tryd.f57) [1, 1, 0, 1])]) (by kernel_rfl) ⟨I_GetField_b0_ok k, trivial⟩) fun x R h => by
    simp only [I_GetField_f, I_GetField, optK_bind, optK_bif, optK_pure, optK_none, optK_oc, optK_guardT, optK_map] at h
    refine hold_of h ?_
    kernel_rfl
def I_GetField_en (k : Nat) : Entry D := entS I_GetField_ar (I_GetField_f k) I_GetField_vr
theorem I_GetField_eo (k : Nat) : EntryOK X 57 (I_GetField_en k) := (I_GetField_ok k).en rfl
def strings_Trim_ar : List Ar := [.c (.ks), .c (.ks)]
def strings_Trim_f (k : Nat) (x : TupA D strings_Trim_ar) : Option ((List UInt8)) := strings_Trim k x.1 x.2.1
def strings_Trim_vr (r : (List UInt8)) : VR D := .p (.c (.str r))
theorem strings_Trim_ok (k : Nat) : Does P X 114 strings_Trim_ar (strings_Trim_f k) strings_Trim_vr := does_trim ⟨Go.Proofs.Tryd.f114, Go.Proofs.Tryd.func114, by kernel_rfl, by kernel_rfl⟩ (fun s cs w hg h1 h2 h3 => Go.Proofs.Any.strings_Trim_laid Go.Proofs.Tryd.lays160 (by kernel_rfl) s cs w h1 h2 h3)
def strings_Trim_en (k : Nat) : Entry D := entS strings_Trim_ar (strings_Trim_f k) strings_Trim_vr
theorem strings_Trim_eo (k : Nat) : EntryOK X 114 (strings_Trim_en k) := (strings_Trim_ok k).en rfl
def I_TrimText_pl : Plan := ⟨[(0, [(0, none)]), (1, [(2, none)])],
  [],
  []⟩
def I_TrimText_cl (k : Nat) : Calls' D := ⟨[(114, strings_Trim_en k)], [], [], []⟩
theorem I_TrimText_ck (k : Nat) : CallsOK X (I_TrimText_cl k) := .cons (strings_Trim_eo k) (.nil cod)
def I_TrimText_cu (k : Nat) : Cuts D := ⟨[], []⟩
def I_TrimText_ar : List Ar := [.c (.ks)]
def I_TrimText_f (k : Nat) (x : TupA D I_TrimText_ar) : Option ((List UInt8)) := I_TrimText k x.1
def I_TrimText_vr (r : (List UInt8)) : VR D := .p (.c (.str r))
theorem I_TrimText_ok (k : Nat) : Does P X 76 I_TrimText_ar (I_TrimText_f k) I_TrimText_vr :=
  does_of (body := bodyOf Go.Proofs.Tryd.f76) (pl := I_TrimText_pl) (k := k) (cu := I_TrimText_cu k) (tys := [[0]]) (I_TrimText_ck k) ctx mixed Go.Proofs.Tryd.func76 (by kernel_rfl) (by kernel_rfl) (cutOK_of (l := []) (by kernel_rfl) trivial) fun x R h => by
    simp only [I_TrimText_f, I_TrimText, optK_bind, optK_bif, optK_pure, optK_none, optK_oc, optK_guardT, optK_map] at h
    refine hold_of h ?_
    kernel_rfl
def I_TrimText_en (k : Nat) : Entry D := entS I_TrimText_ar (I_TrimText_f k) I_TrimText_vr
theorem I_TrimText_eo (k : Nat) : EntryOK X 76 (I_TrimText_en k) := (I_TrimText_ok k).en rfl
def I_SplitList_pl : Plan := ⟨[(0, [(0, none)]), (1, [(0, none), (3, some 9)]), (2, [(0, none), (3, some 9), (4, none)]), (3, [(0, none), (3, some 9), (4, none), (5, none)]), (4, [(0, none), (3, some 9), (4, none), (5, none), (6, none)]), (5, [(0, none), (3, some 9), (4, none), (5, none), (6, none), (13, none)]), (6, [(0, none), (3, some 9), (4, none), (5, none), (6, none)]), (7, [(0, none), (3, some 9), (4, none), (5, none), (6, none), (28, none)]), (8, [(0, none), (3, some 9), (4, none), (5, none), (6, none), (32, none)]), (9, [(0, none), (3, some 9), (4, none), (5, none), (6, none)]), (10, [(0, none), (3, some 9), (4, none), (5, none), (6, none), (41, none)]), (11, [(0, none), (3, some 9), (4, none), (5, none), (6, none)]), (12, [(0, none), (3, some 9), (5, none), (6, none), (7, none)]), (13, [(0, none), (3, some 9), (5, none), (6, none), (7, none), (53, none)]), (14, [(0, none), (3, some 9), (5, none), (6, none)]), (15, [(0, none), (3, some 9), (4, none), (5, none), (6, none)]), (16, [(0, none), (3, some 9), (4, none), (63, none)]), (17, [(3, some 9), (8, none)]), (18, [(3, some 9), (8, none), (69, none)]), (19, [(3, some 9)]), (20, [(2, some 9)])],
  [(0, [(0, none), (3, some 9), (4, none)]), (1, [(0, none), (3, some 9), (4, none), (5, none), (6, none)])],
  [(13, ([(0, none), (3, some 9), (4, none), (5, none), (6, none)], [(0, none), (3, some 9), (4, none)])), (28, ([(0, none), (3, some 9), (4, none), (5, none), (6, none)], [(0, none), (3, some 9), (4, none), (5, none), (6, none)])), (32, ([(0, none), (3, some 9), (4, none), (5, none), (6, none)], [(0, none), (3, some 9), (4, none), (5, none), (6, none)])), (41, ([(0, none), (3, some 9), (4, none), (5, none), (6, none)], [(0, none), (3, some 9), (4, none), (5, none), (6, none)])), (53, ([(0, none), (3, some 9), (5, none), (6, none), (7, none)], [(0, none), (3, some 9), (5, none), (6, none)])), (63, ([(0, none), (3, some 9), (4, none)], [(3, some 9)])), (69, ([(3, some 9), (8, none)], [(3, some 9)]))]⟩
def I_SplitList_cl (k : Nat) : Calls' D := ⟨[(76, I_TrimText_en k)], [], [], []⟩
theorem I_SplitList_ck (k : Nat) : CallsOK X (I_SplitList_cl k) := .cons (I_TrimText_eo k) (.nil cod)
def I_SplitList_c32_L (x : (List UInt8) × Int × Bool × Int × Bool × (List (List UInt8)) × Unit) (o : Bool) (Q : Ex → VSt D → Prop) (R : VR D → Prop) : Prop := Q .normal (mkSt ⟨[(0, .hole), (3, .ref 500003), (4, .hole), (5, .hole), (6, .hole)], [(500003, .row)]⟩ [.str x.1, .int .i64 x.2.1, .bool o, .int .i64 x.2.2.2.1, .sl 9 x.2.2.2.2.2.1])
def I_SplitList_c32_cut (k : Nat) : Cut D := cutS ⟨[(0, .hole), (3, .ref 500003), (4, .hole), (5, .hole), (6, .hole), (32, .hole)], [(500003, .row)]⟩ [.ks, .ki .i64, .kb, .ki .i64, .kb, .kl 9] (fun (x : (List UInt8) × Int × Bool × Int × Bool × (List (List UInt8)) × Unit) => I_SplitList_c32 k x.1 x.2.1 x.2.2.1 x.2.2.2.1 x.2.2.2.2.1 x.2.2.2.2.2.1) I_SplitList_c32_L
def I_SplitList_c32_cu (k : Nat) : Cuts D := ⟨[], []⟩
theorem I_SplitList_c32_ok (k : Nat) : CutFor X I_SplitList_pl k Go.Proofs.Tryd.f73.results.toList (I_SplitList_c32_cut k) (sub (bodyOf Go.Proofs.Tryd.f73) [1, 1, 1, 1, 0, 1, 0, 0, 1, 0, 0, 0, 1, 0, 0, 1]) :=
  joinCut_s (X := X) (sg := [.ks, .ki .i64, .kb, .ki .i64, .kb, .kl 9]) (cu := I_SplitList_c32_cu k) (cl := I_SplitList_cl k) (tys := [[9]]) (I_SplitList_ck k) (cutOK_of (l := []) (by kernel_rfl) trivial) fun x Q R h => by
    simp only [I_SplitList_c32, optK_bind, optK_bif, optK_pure, optK_none, optK_oc, optK_guardT, optK_map] at h
    refine hold_of h ?_
    kernel_rfl
def I_SplitList_c41_L (x : (List UInt8) × Int × Bool × Int × Bool × (List (List UInt8)) × Unit) (o : Int) (Q : Ex → VSt D → Prop) (R : VR D → Prop) : Prop := Q .normal (mkSt ⟨[(0, .hole), (3, .ref 500003), (4, .hole), (5, .hole), (6, .hole)], [(500003, .row)]⟩ [.str x.1, .int .i64 x.2.1, .bool x.2.2.1, .int .i64 o, .sl 9 x.2.2.2.2.2.1])
def I_SplitList_c41_cut (k : Nat) : Cut D := cutS ⟨[(0, .hole), (3, .ref 500003), (4, .hole), (5, .hole), (6, .hole), (41, .hole)], [(500003, .row)]⟩ [.ks, .ki .i64, .kb, .ki .i64, .kb, .kl 9] (fun (x : (List UInt8) × Int × Bool × Int × Bool × (List (List UInt8)) × Unit) => I_SplitList_c41 k x.1 x.2.1 x.2.2.1 x.2.2.2.1 x.2.2.2.2.1 x.2.2.2.2.2.1) I_SplitList_c41_L
def I_SplitList_c41_cu (k : Nat) : Cuts D := ⟨[], []⟩
theorem I_SplitList_c41_ok (k : Nat) : CutFor X I_SplitList_pl k Go.Proofs.Tryd.f73.results.toList (I_SplitList_c41_cut k) (sub (bodyOf Go.Proofs.Tryd.f73) [1, 1, 1, 1, 0, 1, 0, 0, 1, 0, 0, 0, 1, 0, 1, 0, 1]) :=
  joinCut_s (X := X) (sg := [.ks, .ki .i64, .kb, .ki .i64, .kb, .kl 9]) (cu := I_SplitList_c41_cu k) (cl := I_SplitList_cl k) (tys := [[9]]) (I_SplitList_ck k) (cutOK_of (l := []) (by kernel_rfl) trivial) fun x Q R h => by
    simp only [I_SplitList_c41, optK_bind, optK_bif, optK_pure, optK_none, optK_oc, optK_guardT, optK_map] at h
    refine hold_of h ?_
    kernel_rfl
def I_SplitList_c53_L (x : (List UInt8) × Bool × Int × (List UInt8) × Bool × (List (List UInt8)) × Unit) (o : (List (List UInt8))) (Q : Ex → VSt D → Prop) (R : VR D → Prop) : Prop := Q .normal (mkSt ⟨[(0, .hole), (3, .ref 500003), (5, .hole), (6, .hole)], [(500003, .row)]⟩ [.str x.1, .bool x.2.1, .int .i64 x.2.2.1, .sl 9 o])
def I_SplitList_c53_cut (k : Nat) : Cut D := cutS ⟨[(0, .hole), (3, .ref 500003), (5, .hole), (6, .hole), (7, .hole), (53, .hole)], [(500003, .row)]⟩ [.ks, .kb, .ki .i64, .ks, .kb, .kl 9] (fun (x : (List UInt8) × Bool × Int × (List UInt8) × Bool × (List (List UInt8)) × Unit) => I_SplitList_c53 k x.1 x.2.1 x.2.2.1 x.2.2.2.1 x.2.2.2.2.1 x.2.2.2.2.2.1) I_SplitList_c53_L
def I_SplitList_c53_cu (k : Nat) : Cuts D := ⟨[], []⟩
theorem I_SplitList_c53_ok (k : Nat) : CutFor X I_SplitList_pl k Go.Proofs.Tryd.f73.results.toList (I_SplitList_c53_cut k) (sub (bodyOf Go.Proofs.Tryd.f73) [1, 1, 1, 1, 0, 1, 0, 0, 1, 0, 0, 1, 0, 1, 1]) :=
  joinCut_s (X := X) (sg := [.ks, .kb, .ki .i64, .ks, .kb, .kl 9]) (cu := I_SplitList_c53_cu k) (cl := I_SplitList_cl k) (tys := [[9]]) (I_SplitList_ck k) (cutOK_of (l := []) (by kernel_rfl) trivial) fun x Q R h => by
    simp only [I_SplitList_c53, optK_bind, optK_bif, optK_pure, optK_none, optK_oc, optK_guardT, optK_map] at h
    refine hold_of h ?_
    kernel_rfl
def I_SplitList_b1_L (x : (List UInt8) × Int × Bool × Int × (List (List UInt8)) × Unit) (o : Int × Bool × Int × (List (List UInt8))) (Q : Ex → VSt D → Prop) (R : VR D → Prop) : Prop := Q .normal (mkSt ⟨[(0, .hole), (3, .ref 500003), (4, .hole), (5, .hole), (6, .hole)], [(500003, .row)]⟩ [.str x.1, .int .i64 o.1, .bool o.2.1, .int .i64 o.2.2.1, .sl 9 o.2.2.2])
def I_SplitList_b1_cut (k : Nat) : Cut D := cutS ⟨[(0, .hole), (3, .ref 500003), (4, .hole), (5, .hole), (6, .hole)], [(500003, .row)]⟩ [.ks, .ki .i64, .kb, .ki .i64, .kl 9] (fun (x : (List UInt8) × Int × Bool × Int × (List (List UInt8)) × Unit) => I_SplitList_b1 k x.1 x.2.1 x.2.2.1 x.2.2.2.1 x.2.2.2.2.1) I_SplitList_b1_L
def I_SplitList_b1_cu (k : Nat) : Cuts D := ⟨[], [(32, some (I_SplitList_c32_cut k)), (41, some (I_SplitList_c41_cut k)), (53, some (I_SplitList_c53_cut k))]⟩
theorem I_SplitList_b1_ok (k : Nat) : CutFor X I_SplitList_pl k Go.Proofs.Tryd.f73.results.toList (I_SplitList_b1_cut k) (sub (bodyOf Go.Proofs.Tryd.f73) [1, 1, 1, 1, 0, 1, 0, 0, 1, 0]) :=
  joinCut_s (X := X) (sg := [.ks, .ki .i64, .kb, .ki .i64, .kl 9]) (cu := I_SplitList_b1_cu k) (cl := I_SplitList_cl k) (tys := [[9]]) (I_SplitList_ck k) (cutOK_of (l := [(I_SplitList_c32_cut k, sub (bodyOf Go.Proofs.Tryd.f73) [1, 1, 1, 1, 0, 1, 0, 0, 1, 0, 0, 0, 1, 0, 0, 1]), (I_SplitList_c41_cut k, sub (bodyOf Go.Proofs.Tryd.f73) [1, 1, 1, 1, 0, 1, 0, 0, 1, 0, 0, 0, 1, 0, 1, 0, 1]), (I_SplitList_c53_cut k, sub (bodyOf Go.Proofs.Tryd.f73) [1, 1, 1, 1, 0, 1, 0, 0, 1, 0, 0, 1, 0, 1, 1])]) (by kernel_rfl) ⟨I_SplitList_c32_ok k, I_SplitList_c41_ok k, I_SplitList_c53_ok k, trivial⟩) fun x Q R h => by
    simp only [I_SplitList_b1, optK_bind, optK_bif, optK_pure, optK_none, optK_oc, optK_guardT, optK_map] at h
    refine hold_of h ?_
    kernel_rfl
def I_SplitList_b0_L (x : (List UInt8) × Int × Bool × Int × (List (List UInt8)) × Unit) (o : Int × (List (List UInt8))) (Q : Ex → VSt D → Prop) (R : VR D → Prop) : Prop := Q .normal (mkSt ⟨[(0, .hole), (3, .ref 500003), (4, .hole)], [(500003, .row)]⟩ [.str x.1, .int .i64 o.1, .sl 9 o.2])
def I_SplitList_b0_cut (k : Nat) : Cut D := cutS ⟨[(0, .hole), (3, .ref 500003), (4, .hole), (5, .hole), (6, .hole)], [(500003, .row)]⟩ [.ks, .ki .i64, .kb, .ki .i64, .kl 9] (fun (x : (List UInt8) × Int × Bool × Int × (List (List UInt8)) × Unit) => I_SplitList_b0 k k x.1 x.2.1 x.2.2.1 x.2.2.2.1 x.2.2.2.2.1) I_SplitList_b0_L
def I_SplitList_b0_cu (k : Nat) : Cuts D := ⟨[(1, some (I_SplitList_b1_cut k))], []⟩
theorem I_SplitList_b0_ok (k : Nat) : CutFor X I_SplitList_pl k Go.Proofs.Tryd.f73.results.toList (I_SplitList_b0_cut k) (sub (bodyOf Go.Proofs.Tryd.f73) [1, 1, 1, 1, 0, 1]) :=
  loopCut_s (X := X) (sg := [.ks, .ki .i64, .kb, .ki .i64, .kl 9]) (cu := I_SplitList_b0_cu k) (cl := I_SplitList_cl k) (tys := [[9]]) (id := 0) (c := sub (bodyOf Go.Proofs.Tryd.f73) [1, 1, 1, 1, 0, 1, 0, 0]) (f := fun n => fun (x : (List UInt8) × Int × Bool × Int × (List (List UInt8)) × Unit) => I_SplitList_b0 k n x.1 x.2.1 x.2.2.1 x.2.2.2.1 x.2.2.2.2.1) (I_SplitList_ck k) (cutOK_of (l := [(I_SplitList_b1_cut k, sub (bodyOf Go.Proofs.Tryd.f73) [1, 1, 1, 1, 0, 1, 0, 0, 1, 0])]) (by kernel_rfl) ⟨I_SplitList_b1_ok k, trivial⟩) (fun _ => rfl) (fun n x Q R h => by
    simp only [I_SplitList_b0, optK_bind, optK_bif, optK_pure, optK_none, optK_oc, optK_guardT, optK_map] at h
    refine hold_of h ?_
    kernel_rfl) (by kernel_rfl)
def I_SplitList_c69_L (x : (List UInt8) × Bool × (List (List UInt8)) × Unit) (o : (List (List UInt8))) (Q : Ex → VSt D → Prop) (R : VR D → Prop) : Prop := Q .normal (mkSt ⟨[(3, .ref 500003)], [(500003, .row)]⟩ [.sl 9 o])
def I_SplitList_c69_cut (k : Nat) : Cut D := cutS ⟨[(3, .ref 500003), (8, .hole), (69, .hole)], [(500003, .row)]⟩ [.ks, .kb, .kl 9] (fun (x : (List UInt8) × Bool × (List (List UInt8)) × Unit) => I_SplitList_c69 k x.1 x.2.1 x.2.2.1) I_SplitList_c69_L
def I_SplitList_c69_cu (k : Nat) : Cuts D := ⟨[], []⟩
theorem I_SplitList_c69_ok (k : Nat) : CutFor X I_SplitList_pl k Go.Proofs.Tryd.f73.results.toList (I_SplitList_c69_cut k) (sub (bodyOf Go.Proofs.Tryd.f73) [1, 1, 1, 1, 1, 0, 1, 0, 1, 1]) :=
  joinCut_s (X := X) (sg := [.ks, .kb, .kl 9]) (cu := I_SplitList_c69_cu k) (cl := I_SplitList_cl k) (tys := [[9]]) (I_SplitList_ck k) (cutOK_of (l := []) (by kernel_rfl) trivial) fun x Q R h => by
    simp only [I_SplitList_c69, optK_bind, optK_bif, optK_pure, optK_none, optK_oc, optK_guardT, optK_map] at h
    refine hold_of h ?_
    kernel_rfl
def I_SplitList_c63_L (x : (List UInt8) × Int × Bool × (List (List UInt8)) × Unit) (o : (List (List UInt8))) (Q : Ex → VSt D → Prop) (R : VR D → Prop) : Prop := Q .normal (mkSt ⟨[(3, .ref 500003)], [(500003, .row)]⟩ [.sl 9 o])
def I_SplitList_c63_cut (k : Nat) : Cut D := cutS ⟨[(0, .hole), (3, .ref 500003), (4, .hole), (63, .hole)], [(500003, .row)]⟩ [.ks, .ki .i64, .kb, .kl 9] (fun (x : (List UInt8) × Int × Bool × (List (List UInt8)) × Unit) => I_SplitList_c63 k x.1 x.2.1 x.2.2.1 x.2.2.2.1) I_SplitList_c63_L
def I_SplitList_c63_cu (k : Nat) : Cuts D := ⟨[], [(69, some (I_SplitList_c69_cut k))]⟩
theorem I_SplitList_c63_ok (k : Nat) : CutFor X I_SplitList_pl k Go.Proofs.Tryd.f73.results.toList (I_SplitList_c63_cut k) (sub (bodyOf Go.Proofs.Tryd.f73) [1, 1, 1, 1, 1, 0, 1]) :=
  joinCut_s (X := X) (sg := [.ks, .ki .i64, .kb, .kl 9]) (cu := I_SplitList_c63_cu k) (cl := I_SplitList_cl k) (tys := [[9]]) (I_SplitList_ck k) (cutOK_of (l := [(I_SplitList_c69_cut k, sub (bodyOf Go.Proofs.Tryd.f73) [1, 1, 1, 1, 1, 0, 1, 0, 1, 1])]) (by kernel_rfl) ⟨I_SplitList_c69_ok k, trivial⟩) fun x Q R h => by
    simp only [I_SplitList_c63, optK_bind, optK_bif, optK_pure, optK_none, optK_oc, optK_guardT, optK_map] at h
    refine hold_of h ?_
    kernel_rfl
def I_SplitList_cu (k : Nat) : Cuts D := ⟨[(0, some (I_SplitList_b0_cut k))], [(63, some (I_SplitList_c63_cut k))]⟩
def I_SplitList_ar : List Ar := [.c (.ks)]
def I_SplitList_f (k : Nat) (x : TupA D I_SplitList_ar) : Option ((List (List UInt8))) := I_SplitList k x.1
def I_SplitList_vr (r : (List (List UInt8))) : VR D := .p (.c (.sl 9 r))
theorem I_SplitList_ok (k : Nat) : Does P X 73 I_SplitList_ar (I_SplitList_f k) I_SplitList_vr :=
  does_of (body := bodyOf Go.Proofs.Tryd.f73) (pl := I_SplitList_pl) (k := k) (cu := I_SplitList_cu k) (tys := [[9]]) (I_SplitList_ck k) ctx mixed Go.Proofs.Tryd.func73 (by kernel_rfl) (by kernel_rfl) (cutOK_of (l := [(I_SplitList_b0_cut k, sub (bodyOf Go.Proofs.Tryd.f73) [1, 1, 1, 1, 0, 1]), (I_SplitList_c63_cut k, sub (bodyOf Go.Proofs.Tryd.f73) [1, 1, 1, 1, 1, 0, 1])]) (by kernel_rfl) ⟨I_SplitList_b0_ok k, I_SplitList_c63_ok k, trivial⟩) fun x R h => by
    simp only [I_SplitList_f, I_SplitList, optK_bind, optK_bif, optK_pure, optK_none, optK_oc, optK_guardT, optK_map] at h
    refine hold_of h ?_
    kernel_rfl
def I_SplitList_en (k : Nat) : Entry D := entS I_SplitList_ar (I_SplitList_f k) I_SplitList_vr
theorem I_SplitList_eo (k : Nat) : EntryOK X 73 (I_SplitList_en k) := (I_SplitList_ok k).en rfl
def I_SelectingOf_pl : Plan := ⟨[(0, [(1, some 9), (2, none)]), (1, [(1, some 9), (2, none), (5, some 79)]), (2, [(2, none), (5, some 79), (11, some 9), (12, none), (13, none)]), (3, [(2, none), (5, some 79), (11, some 9), (12, none), (13, none), (14, none)]), (4, [(2, none), (5, some 79), (7, none), (11, some 9), (12, none), (13, none)]), (5, [(2, none), (5, some 79), (7, none), (8, none), (11, some 9), (12, none), (13, none)]), (6, [(2, none), (5, some 79), (11, some 9), (12, none), (13, none)]), (7, [(2, none), (5, some 79), (11, some 9), (12, none), (13, none)]), (8, [(4, some 79)])],
  [(0, [(5, some 79)]), (1, [(2, none), (5, some 79), (11, some 9), (12, none), (13, none)])],
  [(14, ([(2, none), (5, some 79), (11, some 9), (12, none), (13, none)], [(5, some 79)]))]⟩
def I_SelectingOf_cl (k : Nat) : Calls' D := ⟨[(57, I_GetField_en k), (73, I_SplitList_en k), (103, I_JoinList_en k)], [], [], []⟩
theorem I_SelectingOf_ck (k : Nat) : CallsOK X (I_SelectingOf_cl k) := .cons (I_GetField_eo k) (.cons (I_SplitList_eo k) (.cons (I_JoinList_eo k) (.nil cod)))
def I_SelectingOf_b0_L (x : (List (List UInt8)) × Int × Int × (List UInt8) × (List UInt8) × (List UInt8) × (List IField) × (List IField) × Unit) (o : (List IField)) (Q : Ex → VSt D → Prop) (R : VR D → Prop) : Prop := Q .normal (mkSt ⟨[(5, .ref 500005)], [(500005, .row)]⟩ [.sl 79 o])
def I_SelectingOf_b0_cut (k : Nat) : Cut D := cutS ⟨[(2, .ptr 2 0), (5, .ref 500005), (11, .hole), (12, .hole), (13, .hole)], [(2, .var [.hole, .hole, .hole, .hole]), (500005, .row)]⟩ [.kl 9, .ki .i64, .ki .i64, .ks, .ks, .ks, .kl 79, .kl 79] (fun (x : (List (List UInt8)) × Int × Int × (List UInt8) × (List UInt8) × (List UInt8) × (List IField) × (List IField) × Unit) => I_SelectingOf_b0 k k x.1 x.2.1 x.2.2.1 x.2.2.2.1 x.2.2.2.2.1 x.2.2.2.2.2.1 x.2.2.2.2.2.2.1 x.2.2.2.2.2.2.2.1) I_SelectingOf_b0_L
def I_SelectingOf_b0_cu (k : Nat) : Cuts D := ⟨[], []⟩
theorem I_SelectingOf_b0_ok (k : Nat) : CutFor X I_SelectingOf_pl k Go.Proofs.Tryd.f55.results.toList (I_SelectingOf_b0_cut k) (sub (bodyOf Go.Proofs.Tryd.f55) [1, 1, 0, 1]) :=
  loopCut_s (X := X) (sg := [.kl 9, .ki .i64, .ki .i64, .ks, .ks, .ks, .kl 79, .kl 79]) (cu := I_SelectingOf_b0_cu k) (cl := I_SelectingOf_cl k) (tys := [[79]]) (id := 0) (c := sub (bodyOf Go.Proofs.Tryd.f55) [1, 1, 0, 1, 0, 0]) (f := fun n => fun (x : (List (List UInt8)) × Int × Int × (List UInt8) × (List UInt8) × (List UInt8) × (List IField) × (List IField) × Unit) => I_SelectingOf_b0 k n x.1 x.2.1 x.2.2.1 x.2.2.2.1 x.2.2.2.2.1 x.2.2.2.2.2.1 x.2.2.2.2.2.2.1 x.2.2.2.2.2.2.2.1) (I_SelectingOf_ck k) (cutOK_of (l := []) (by kernel_rfl) trivial) (fun _ => rfl) (fun n x Q R h => by
    simp only [I_SelectingOf_b0, optK_bind, optK_bif, optK_pure, optK_none, optK_oc, optK_guardT, optK_map] at h
    refine hold_of h ?_
    kernel_rfl) (by kernel_rfl)
def I_SelectingOf_cu (k : Nat) : Cuts D := ⟨[(0, some (I_SelectingOf_b0_cut k))], []⟩
def I_SelectingOf_ar : List Ar := [.a [.ks, .ks, .ks, .kl 79], .c (.kl 9)]
def I_SelectingOf_f (k : Nat) (x : TupA D I_SelectingOf_ar) : Option ((List IField)) := I_SelectingOf k (⟨x.1.1, x.1.2.1, x.1.2.2.1, x.1.2.2.2.1⟩ : IRequest) x.2.1
def I_SelectingOf_vr (r : (List IField)) : VR D := .p (.c (.sl 79 r))
theorem I_SelectingOf_ok (k : Nat) : Does P X 55 I_SelectingOf_ar (I_SelectingOf_f k) I_SelectingOf_vr :=
  does_of (body := bodyOf Go.Proofs.Tryd.f55) (pl := I_SelectingOf_pl) (k := k) (cu := I_SelectingOf_cu k) (tys := [[79]]) (I_SelectingOf_ck k) ctx mixed Go.Proofs.Tryd.func55 (by kernel_rfl) (by kernel_rfl) (cutOK_of (l := [(I_SelectingOf_b0_cut k, sub (bodyOf Go.Proofs.Tryd.f55) [1, 1, 0, 1])]) (by kernel_rfl) ⟨I_SelectingOf_b0_ok k, trivial⟩) fun x R h => by
    simp only [I_SelectingOf_f, I_SelectingOf, optK_bind, optK_bif, optK_pure, optK_none, optK_oc, optK_guardT, optK_map] at h
    refine hold_of h ?_
    kernel_rfl
def I_SelectingOf_en (k : Nat) : Entry D := entS I_SelectingOf_ar (I_SelectingOf_f k) I_SelectingOf_vr
theorem I_SelectingOf_eo (k : Nat) : EntryOK X 55 (I_SelectingOf_en k) := (I_SelectingOf_ok k).en rfl
def S_DrawVaryOf_pl : Plan := ⟨[(0, [(0, some 5)]), (1, [(3, none)]), (2, [(3, none), (4, some 79)]), (3, [(3, none), (4, some 79), (5, none)]), (4, [(3, none), (4, some 79), (5, none), (13, none)]), (5, [(3, none), (4, some 79), (5, none)]), (6, [(3, none), (4, some 79), (5, none)]), (7, [(2, some 79)])],
  [(0, [(4, some 79)]), (1, [(3, none), (4, some 79), (5, none)])],
  [(13, ([(3, none), (4, some 79), (5, none)], [(4, some 79)]))]⟩
def S_DrawVaryOf_cl (k : Nat) : Calls' D := ⟨[], [], [(102, S_l14Fields_en k), (82, S_l1Below_en k), (83, S_l1Str_en k)], [(79, S_l1New_en k)]⟩
theorem S_DrawVaryOf_ck (k : Nat) : CallsOK X (S_DrawVaryOf_cl k) := .consP (S_l14Fields_eo k) (.consP (S_l1Below_eo k) (.consP (S_l1Str_eo k) (.consB (S_l1New_eo k) (.nil cod))))
def S_DrawVaryOf_b0_L (x : Int × (List Int) × Int × Int × (List IField) × Unit) (o : (List IField)) (Q : Ex → VSt D → Prop) (R : VR D → Prop) : Prop := Q .normal (mkSt ⟨[(4, .ref 500004)], [(500004, .row)]⟩ [.sl 79 o])
def S_DrawVaryOf_b0_cut (k : Nat) : Cut D := cutS ⟨[(3, .ptr 7 0), (4, .ref 500004), (5, .hole)], [(7, .var [.hole, .hole, .hole]), (500004, .row)]⟩ [.ki .i64, .kl 5, .ki .i64, .ki .i64, .kl 79] (fun (x : Int × (List Int) × Int × Int × (List IField) × Unit) => S_DrawVaryOf_b0 k k x.1 x.2.1 x.2.2.1 x.2.2.2.1 x.2.2.2.2.1) S_DrawVaryOf_b0_L
def S_DrawVaryOf_b0_cu (k : Nat) : Cuts D := ⟨[], []⟩
theorem S_DrawVaryOf_b0_ok (k : Nat) : CutFor X S_DrawVaryOf_pl k Go.Proofs.Tryd.f56.results.toList (S_DrawVaryOf_b0_cut k) (sub (bodyOf Go.Proofs.Tryd.f56) [1, 1, 1, 0, 1]) :=
  loopCut_s (X := X) (sg := [.ki .i64, .kl 5, .ki .i64, .ki .i64, .kl 79]) (cu := S_DrawVaryOf_b0_cu k) (cl := S_DrawVaryOf_cl k) (tys := [[79]]) (id := 0) (c := sub (bodyOf Go.Proofs.Tryd.f56) [1, 1, 1, 0, 1, 0, 0]) (f := fun n => fun (x : Int × (List Int) × Int × Int × (List IField) × Unit) => S_DrawVaryOf_b0 k n x.1 x.2.1 x.2.2.1 x.2.2.2.1 x.2.2.2.2.1) (S_DrawVaryOf_ck k) (cutOK_of (l := []) (by kernel_rfl) trivial) (fun _ => rfl) (fun n x Q R h => by
    simp only [S_DrawVaryOf_b0, optK_bind, optK_bif, optK_pure, optK_none, optK_oc, optK_guardT, optK_map] at h
    refine hold_of h ?_
    kernel_rfl) (by kernel_rfl)
def S_DrawVaryOf_cu (k : Nat) : Cuts D := ⟨[(0, some (S_DrawVaryOf_b0_cut k))], []⟩
def S_DrawVaryOf_ar : List Ar := [.c (.kl 5)]
def S_DrawVaryOf_f (k : Nat) (x : TupA D S_DrawVaryOf_ar) : Option ((List IField)) := S_DrawVaryOf k x.1
def S_DrawVaryOf_vr (r : (List IField)) : VR D := .p (.c (.sl 79 r))
theorem S_DrawVaryOf_ok (k : Nat) : Does P X 56 S_DrawVaryOf_ar (S_DrawVaryOf_f k) S_DrawVaryOf_vr :=
  does_of (body := bodyOf Go.Proofs.Tryd.f56) (pl := S_DrawVaryOf_pl) (k := k) (cu := S_DrawVaryOf_cu k) (tys := [[79]]) (S_DrawVaryOf_ck k) ctx mixed Go.Proofs.Tryd.func56 (by kernel_rfl) (by kernel_rfl) (cutOK_of (l := [(S_DrawVaryOf_b0_cut k, sub (bodyOf Go.Proofs.Tryd.f56) [1, 1, 1, 0, 1])]) (by kernel_rfl) ⟨S_DrawVaryOf_b0_ok k, trivial⟩) fun x R h => by
    simp only [S_DrawVaryOf_f, S_DrawVaryOf, optK_bind, optK_bif, optK_pure, optK_none, optK_oc, optK_guardT, optK_map] at h
    refine hold_of h ?_
    kernel_rfl
def S_DrawVaryOf_en (k : Nat) : Entry D := entS S_DrawVaryOf_ar (S_DrawVaryOf_f k) S_DrawVaryOf_vr
theorem S_DrawVaryOf_eo (k : Nat) : EntryOK X 56 (S_DrawVaryOf_en k) := (S_DrawVaryOf_ok k).en rfl
def I_LowerText_pl : Plan := ⟨[(0, [(0, none)]), (1, [(3, some 5)]), (2, [(3, some 5), (8, some 5), (9, none), (10, none)]), (3, [(3, some 5), (8, some 5), (9, none), (10, none), (11, none)]), (4, [(3, some 5), (4, none), (5, none), (8, some 5), (9, none), (10, none)]), (5, [(3, some 5), (4, none), (5, none), (8, some 5), (9, none), (10, none), (20, none)]), (6, [(3, some 5), (8, some 5), (9, none), (10, none)]), (7, [(3, some 5), (8, some 5), (9, none), (10, none)]), (8, [(2, none)])],
  [(0, [(3, some 5)]), (1, [(3, some 5), (8, some 5), (9, none), (10, none)])],
  [(11, ([(3, some 5), (8, some 5), (9, none), (10, none)], [(3, some 5)])), (20, ([(3, some 5), (4, none), (5, none), (8, some 5), (9, none), (10, none)], [(3, some 5), (8, some 5), (9, none), (10, none)]))]⟩
def I_LowerText_cl (k : Nat) : Calls' D := ⟨[], [], [], []⟩
theorem I_LowerText_ck (k : Nat) : CallsOK X (I_LowerText_cl k) := .nil cod
def I_LowerText_c20_L (x : Int × Int × Int × Int × Bool × (List Int) × Unit) (o : (List Int)) (Q : Ex → VSt D → Prop) (R : VR D → Prop) : Prop := Q .normal (mkSt ⟨[(3, .ref 500008), (8, .ref 500008), (9, .hole), (10, .hole)], [(500008, .row)]⟩ [.int .i64 x.2.2.1, .int .i64 x.2.2.2.1, .sl 5 o])
def I_LowerText_c20_cut (k : Nat) : Cut D := cutS ⟨[(3, .ref 500008), (4, .hole), (5, .hole), (8, .ref 500008), (9, .hole), (10, .hole), (20, .hole)], [(500008, .row)]⟩ [.ki .i64, .ki .u8, .ki .i64, .ki .i64, .kb, .kl 5] (fun (x : Int × Int × Int × Int × Bool × (List Int) × Unit) => I_LowerText_c20 k x.1 x.2.1 x.2.2.1 x.2.2.2.1 x.2.2.2.2.1 x.2.2.2.2.2.1) I_LowerText_c20_L
def I_LowerText_c20_cu (k : Nat) : Cuts D := ⟨[], []⟩
theorem I_LowerText_c20_ok (k : Nat) : CutFor X I_LowerText_pl k Go.Proofs.Tryd.f75.results.toList (I_LowerText_c20_cut k) (sub (bodyOf Go.Proofs.Tryd.f75) [1, 1, 0, 1, 0, 0, 1, 1, 0, 0, 1, 1]) :=
  joinCut_s (X := X) (sg := [.ki .i64, .ki .u8, .ki .i64, .ki .i64, .kb, .kl 5]) (cu := I_LowerText_c20_cu k) (cl := I_LowerText_cl k) (tys := [[0]]) (I_LowerText_ck k) (cutOK_of (l := []) (by kernel_rfl) trivial) fun x Q R h => by
    simp only [I_LowerText_c20, optK_bind, optK_bif, optK_pure, optK_none, optK_oc, optK_guardT, optK_map] at h
    refine hold_of h ?_
    kernel_rfl
def I_LowerText_b1_L (x : Int × Int × (List Int) × Unit) (o : (List Int)) (Q : Ex → VSt D → Prop) (R : VR D → Prop) : Prop := Q .normal (mkSt ⟨[(3, .ref 500008), (8, .ref 500008), (9, .hole), (10, .hole)], [(500008, .row)]⟩ [.int .i64 x.1, .int .i64 x.2.1, .sl 5 o])
def I_LowerText_b1_cut (k : Nat) : Cut D := cutS ⟨[(3, .ref 500008), (8, .ref 500008), (9, .hole), (10, .hole)], [(500008, .row)]⟩ [.ki .i64, .ki .i64, .kl 5] (fun (x : Int × Int × (List Int) × Unit) => I_LowerText_b1 k x.1 x.2.1 x.2.2.1) I_LowerText_b1_L
def I_LowerText_b1_cu (k : Nat) : Cuts D := ⟨[], [(20, some (I_LowerText_c20_cut k))]⟩
theorem I_LowerText_b1_ok (k : Nat) : CutFor X I_LowerText_pl k Go.Proofs.Tryd.f75.results.toList (I_LowerText_b1_cut k) (sub (bodyOf Go.Proofs.Tryd.f75) [1, 1, 0, 1, 0, 0, 1, 1, 0]) :=
  joinCut_s (X := X) (sg := [.ki .i64, .ki .i64, .kl 5]) (cu := I_LowerText_b1_cu k) (cl := I_LowerText_cl k) (tys := [[0]]) (I_LowerText_ck k) (cutOK_of (l := [(I_LowerText_c20_cut k, sub (bodyOf Go.Proofs.Tryd.f75) [1, 1, 0, 1, 0, 0, 1, 1, 0, 0, 1, 1])]) (by kernel_rfl) ⟨I_LowerText_c20_ok k, trivial⟩) fun x Q R h => by
    simp only [I_LowerText_b1, optK_bind, optK_bif, optK_pure, optK_none, optK_oc, optK_guardT, optK_map] at h
    refine hold_of h ?_
    kernel_rfl
def I_LowerText_b0_L (x : Int × Int × (List Int) × Unit) (o : (List Int)) (Q : Ex → VSt D → Prop) (R : VR D → Prop) : Prop := Q .normal (mkSt ⟨[(3, .ref 500003)], [(500003, .row)]⟩ [.sl 5 o])
def I_LowerText_b0_cut (k : Nat) : Cut D := cutS ⟨[(3, .ref 500008), (8, .ref 500008), (9, .hole), (10, .hole)], [(500008, .row)]⟩ [.ki .i64, .ki .i64, .kl 5] (fun (x : Int × Int × (List Int) × Unit) => I_LowerText_b0 k k x.1 x.2.1 x.2.2.1) I_LowerText_b0_L
def I_LowerText_b0_cu (k : Nat) : Cuts D := ⟨[(1, some (I_LowerText_b1_cut k))], []⟩
theorem I_LowerText_b0_ok (k : Nat) : CutFor X I_LowerText_pl k Go.Proofs.Tryd.f75.results.toList (I_LowerText_b0_cut k) (sub (bodyOf Go.Proofs.Tryd.f75) [1, 1, 0, 1]) :=
  loopCut_s (X := X) (sg := [.ki .i64, .ki .i64, .kl 5]) (cu := I_LowerText_b0_cu k) (cl := I_LowerText_cl k) (tys := [[0]]) (id := 0) (c := sub (bodyOf Go.Proofs.Tryd.f75) [1, 1, 0, 1, 0, 0]) (f := fun n => fun (x : Int × Int × (List Int) × Unit) => I_LowerText_b0 k n x.1 x.2.1 x.2.2.1) (I_LowerText_ck k) (cutOK_of (l := [(I_LowerText_b1_cut k, sub (bodyOf Go.Proofs.Tryd.f75) [1, 1, 0, 1, 0, 0, 1, 1, 0])]) (by kernel_rfl) ⟨I_LowerText_b1_ok k, trivial⟩) (fun _ => rfl) (fun n x Q R h => by
    simp only [I_LowerText_b0, optK_bind, optK_bif, optK_pure, optK_none, optK_oc, optK_guardT, optK_map] at h
    refine hold_of h ?_
    kernel_rfl) (by kernel_rfl)
def I_LowerText_cu (k : Nat) : Cuts D := ⟨[(0, some (I_LowerText_b0_cut k))], []⟩
def I_LowerText_ar : List Ar := [.c (.ks)]
def I_LowerText_f (k : Nat) (x : TupA D I_LowerText_ar) : Option ((List UInt8)) := I_LowerText k x.1
def I_LowerText_vr (r : (List UInt8)) : VR D := .p (.c (.str r))
theorem I_LowerText_ok (k : Nat) : Does P X 75 I_LowerText_ar (I_LowerText_f k) I_LowerText_vr :=
  does_of (body := bodyOf Go.Proofs.Tryd.f75) (pl := I_LowerText_pl) (k := k) (cu := I_LowerText_cu k) (tys := [[0]]) (I_LowerText_ck k) ctx mixed Go.Proofs.Tryd.func75 (by kernel_rfl) (by kernel_rfl) (cutOK_of (l := [(I_LowerText_b0_cut k, sub (bodyOf Go.Proofs.Tryd.f75) [1, 1, 0, 1])]) (by kernel_rfl) ⟨I_LowerText_b0_ok k, trivial⟩) fun x R h => by
    simp only [I_LowerText_f, I_LowerText, optK_bind, optK_bif, optK_pure, optK_none, optK_oc, optK_guardT, optK_map] at h
    refine hold_of h ?_
    kernel_rfl
def I_LowerText_en (k : Nat) : Entry D := entS I_LowerText_ar (I_LowerText_f k) I_LowerText_vr
theorem I_LowerText_eo (k : Nat) : EntryOK X 75 (I_LowerText_en k) := (I_LowerText_ok k).en rfl
def slices_Index_string_pl : Plan := ⟨[(0, [(0, some 9), (1, none)]), (1, [(0, some 9), (1, none), (7, none), (8, none)]), (2, [(0, some 9), (1, none), (7, none), (8, none), (9, none)]), (3, [(0, some 9), (1, none), (5, none), (7, none), (8, none)]), (4, [(0, some 9), (1, none), (5, none), (7, none), (8, none), (16, none)]), (5, [(4, none)]), (6, [(0, some 9), (1, none), (7, none), (8, none)]), (7, [(4, none)])],
  [(0, []), (1, [(0, some 9), (1, none), (7, none), (8, none)])],
  [(9, ([(0, some 9), (1, none), (7, none), (8, none)], [])), (16, ([(5, none)], [(0, some 9), (1, none), (7, none), (8, none)]))]⟩
def slices_Index_string_cl (k : Nat) : Calls' D := ⟨[], [], [], []⟩
theorem slices_Index_string_ck (k : Nat) : CallsOK X (slices_Index_string_cl k) := .nil cod
def slices_Index_string_b0_L (x : (List (List UInt8)) × (List UInt8) × Int × Int × Unit) (o : Oc (Unit) (Int)) (Q : Ex → VSt D → Prop) (R : VR D → Prop) : Prop := ocP o (fun v0 => Q .normal (mkSt ⟨[], []⟩ [])) (fun w0 => R (.p (.c (.int .i64 w0))))
def slices_Index_string_b0_cut (k : Nat) : Cut D := cutS ⟨[(0, .hole), (1, .hole), (7, .hole), (8, .hole)], []⟩ [.kl 9, .ks, .ki .i64, .ki .i64] (fun (x : (List (List UInt8)) × (List UInt8) × Int × Int × Unit) => slices_Index_string_b0 k k x.1 x.2.1 x.2.2.1 x.2.2.2.1) slices_Index_string_b0_L
def slices_Index_string_b0_cu (k : Nat) : Cuts D := ⟨[], []⟩
theorem slices_Index_string_b0_ok (k : Nat) : CutFor X slices_Index_string_pl k Go.Proofs.Tryd.f119.results.toList (slices_Index_string_b0_cut k) (sub (bodyOf Go.Proofs.Tryd.f119) [1, 0, 1]) :=
  loopCut_s (X := X) (sg := [.kl 9, .ks, .ki .i64, .ki .i64]) (cu := slices_Index_string_b0_cu k) (cl := slices_Index_string_cl k) (tys := [[0]]) (id := 0) (c := sub (bodyOf Go.Proofs.Tryd.f119) [1, 0, 1, 0, 0]) (f := fun n => fun (x : (List (List UInt8)) × (List UInt8) × Int × Int × Unit) => slices_Index_string_b0 k n x.1 x.2.1 x.2.2.1 x.2.2.2.1) (slices_Index_string_ck k) (cutOK_of (l := []) (by kernel_rfl) trivial) (fun _ => rfl) (fun n x Q R h => by
    simp only [slices_Index_string_b0, optK_bind, optK_bif, optK_pure, optK_none, optK_oc, optK_guardT, optK_map] at h
    refine hold_of h ?_
    kernel_rfl) (by kernel_rfl)
def slices_Index_string_cu (k : Nat) : Cuts D := ⟨[(0, some (slices_Index_string_b0_cut k))], []⟩
def slices_Index_string_ar : List Ar := [.c (.kl 9), .c (.ks)]
def slices_Index_string_f (k : Nat) (x : TupA D slices_Index_string_ar) : Option (Int) := slices_Index_string k x.1 x.2.1
def slices_Index_string_vr (r : Int) : VR D := .p (.c (.int .i64 r))
theorem slices_Index_string_ok (k : Nat) : Does P X 119 slices_Index_string_ar (slices_Index_string_f k) slices_Index_string_vr :=
  does_of (body := bodyOf Go.Proofs.Tryd.f119) (pl := slices_Index_string_pl) (k := k) (cu := slices_Index_string_cu k) (tys := [[0]]) (slices_Index_string_ck k) ctx mixed Go.Proofs.Tryd.func119 (by kernel_rfl) (by kernel_rfl) (cutOK_of (l := [(slices_Index_string_b0_cut k, sub (bodyOf Go.Proofs.Tryd.f119) [1, 0, 1])]) (by kernel_rfl) ⟨slices_Index_string_b0_ok k, trivial⟩) fun x R h => by
    simp only [slices_Index_string_f, slices_Index_string, optK_bind, optK_bif, optK_pure, optK_none, optK_oc, optK_guardT, optK_map] at h
    refine hold_of h ?_
    kernel_rfl
def slices_Index_string_en (k : Nat) : Entry D := entS slices_Index_string_ar (slices_Index_string_f k) slices_Index_string_vr
theorem slices_Index_string_eo (k : Nat) : EntryOK X 119 (slices_Index_string_en k) := (slices_Index_string_ok k).en rfl
def slices_Contains_string_pl : Plan := ⟨[(0, [(0, some 9), (1, none)]), (1, [(4, none)])],
  [],
  []⟩
def slices_Contains_string_cl (k : Nat) : Calls' D := ⟨[(119, slices_Index_string_en k)], [], [], []⟩
theorem slices_Contains_string_ck (k : Nat) : CallsOK X (slices_Contains_string_cl k) := .cons (slices_Index_string_eo k) (.nil cod)
def slices_Contains_string_cu (k : Nat) : Cuts D := ⟨[], []⟩
def slices_Contains_string_ar : List Ar := [.c (.kl 9), .c (.ks)]
def slices_Contains_string_f (k : Nat) (x : TupA D slices_Contains_string_ar) : Option (Bool) := slices_Contains_string k x.1 x.2.1
def slices_Contains_string_vr (r : Bool) : VR D := .p (.c (.bool r))
theorem slices_Contains_string_ok (k : Nat) : Does P X 86 slices_Contains_string_ar (slices_Contains_string_f k) slices_Contains_string_vr :=
  does_of (body := bodyOf Go.Proofs.Tryd.f86) (pl := slices_Contains_string_pl) (k := k) (cu := slices_Contains_string_cu k) (tys := [[0]]) (slices_Contains_string_ck k) ctx mixed Go.Proofs.Tryd.func86 (by kernel_rfl) (by kernel_rfl) (cutOK_of (l := []) (by kernel_rfl) trivial) fun x R h => by
    simp only [slices_Contains_string_f, slices_Contains_string, optK_bind, optK_bif, optK_pure, optK_none, optK_oc, optK_guardT, optK_map] at h
    refine hold_of h ?_
    kernel_rfl
def slices_Contains_string_en (k : Nat) : Entry D := entS slices_Contains_string_ar (slices_Contains_string_f k) slices_Contains_string_vr
theorem slices_Contains_string_eo (k : Nat) : EntryOK X 86 (slices_Contains_string_en k) := (slices_Contains_string_ok k).en rfl
def I_VaryOf_pl : Plan := ⟨[(0, [(0, some 79)]), (1, [(4, none)]), (2, [(4, none), (6, some 9)]), (3, [(6, some 9), (17, some 9), (18, none), (19, none)]), (4, [(6, some 9), (17, some 9), (18, none), (19, none), (20, none)]), (5, [(6, some 9), (8, none), (17, some 9), (18, none), (19, none)]), (6, [(6, some 9), (9, none), (17, some 9), (18, none), (19, none)]), (7, [(6, some 9), (9, none), (17, some 9), (18, none), (19, none), (26, none)]), (8, [(2, some 9), (3, none)]), (9, [(6, some 9), (9, none), (17, some 9), (18, none), (19, none), (30, none)]), (10, [(6, some 9), (17, some 9), (18, none), (19, none)]), (11, [(6, some 9), (17, some 9), (18, none), (19, none)]), (12, [(2, some 9), (3, none)])],
  [(0, [(6, some 9)]), (1, [(6, some 9), (17, some 9), (18, none), (19, none)])],
  [(20, ([(6, some 9), (17, some 9), (18, none), (19, none)], [(6, some 9)])), (26, ([], [(6, some 9), (9, none), (17, some 9), (18, none), (19, none)])), (30, ([(6, some 9), (9, none), (17, some 9), (18, none), (19, none)], [(6, some 9), (17, some 9), (18, none), (19, none)]))]⟩
def I_VaryOf_cl (k : Nat) : Calls' D := ⟨[(57, I_GetField_en k), (73, I_SplitList_en k), (75, I_LowerText_en k), (86, slices_Contains_string_en k)], [], [], []⟩
theorem I_VaryOf_ck (k : Nat) : CallsOK X (I_VaryOf_cl k) := .cons (I_GetField_eo k) (.cons (I_SplitList_eo k) (.cons (I_LowerText_eo k) (.cons (slices_Contains_string_eo k) (.nil cod))))
def I_VaryOf_c30_L (x : (List UInt8) × Int × Int × Bool × (List (List UInt8)) × (List (List UInt8)) × Unit) (o : (List (List UInt8))) (Q : Ex → VSt D → Prop) (R : VR D → Prop) : Prop := Q .normal (mkSt ⟨[(6, .ref 500006), (17, .ref 500017), (18, .hole), (19, .hole)], [(500006, .row), (500017, .row)]⟩ [.int .i64 x.2.1, .int .i64 x.2.2.1, .sl 9 o, .sl 9 x.2.2.2.2.2.1])
def I_VaryOf_c30_cut (k : Nat) : Cut D := cutS ⟨[(6, .ref 500006), (9, .hole), (17, .ref 500017), (18, .hole), (19, .hole), (30, .hole)], [(500006, .row), (500017, .row)]⟩ [.ks, .ki .i64, .ki .i64, .kb, .kl 9, .kl 9] (fun (x : (List UInt8) × Int × Int × Bool × (List (List UInt8)) × (List (List UInt8)) × Unit) => I_VaryOf_c30 k x.1 x.2.1 x.2.2.1 x.2.2.2.1 x.2.2.2.2.1 x.2.2.2.2.2.1) I_VaryOf_c30_L
def I_VaryOf_c30_cu (k : Nat) : Cuts D := ⟨[], []⟩
theorem I_VaryOf_c30_ok (k : Nat) : CutFor X I_VaryOf_pl k Go.Proofs.Tryd.f38.results.toList (I_VaryOf_c30_cut k) (sub (bodyOf Go.Proofs.Tryd.f38) [1, 1, 1, 0, 1, 0, 0, 1, 1, 0, 0, 1, 1, 1, 1]) :=
  joinCut_s (X := X) (sg := [.ks, .ki .i64, .ki .i64, .kb, .kl 9, .kl 9]) (cu := I_VaryOf_c30_cu k) (cl := I_VaryOf_cl k) (tys := [[9], [0]]) (I_VaryOf_ck k) (cutOK_of (l := []) (by kernel_rfl) trivial) fun x Q R h => by
    simp only [I_VaryOf_c30, optK_bind, optK_bif, optK_pure, optK_none, optK_oc, optK_guardT, optK_map] at h
    refine hold_of h ?_
    kernel_rfl
def I_VaryOf_b1_L (x : Int × Int × (List (List UInt8)) × (List (List UInt8)) × Unit) (o : Oc ((List (List UInt8))) ((List (List UInt8)) × Bool)) (Q : Ex → VSt D → Prop) (R : VR D → Prop) : Prop := ocP o (fun v0 => Q .normal (mkSt ⟨[(6, .ref 500006), (17, .ref 500017), (18, .hole), (19, .hole)], [(500006, .row), (500017, .row)]⟩ [.int .i64 x.1, .int .i64 x.2.1, .sl 9 v0, .sl 9 x.2.2.2.1])) (fun w0 => R (.tup [.c (.sl 9 w0.1), .c (.bool w0.2)]))
def I_VaryOf_b1_cut (k : Nat) : Cut D := cutS ⟨[(6, .ref 500006), (17, .ref 500017), (18, .hole), (19, .hole)], [(500006, .row), (500017, .row)]⟩ [.ki .i64, .ki .i64, .kl 9, .kl 9] (fun (x : Int × Int × (List (List UInt8)) × (List (List UInt8)) × Unit) => I_VaryOf_b1 k x.1 x.2.1 x.2.2.1 x.2.2.2.1) I_VaryOf_b1_L
def I_VaryOf_b1_cu (k : Nat) : Cuts D := ⟨[], [(30, some (I_VaryOf_c30_cut k))]⟩
theorem I_VaryOf_b1_ok (k : Nat) : CutFor X I_VaryOf_pl k Go.Proofs.Tryd.f38.results.toList (I_VaryOf_b1_cut k) (sub (bodyOf Go.Proofs.Tryd.f38) [1, 1, 1, 0, 1, 0, 0, 1, 1, 0]) :=
  joinCut_s (X := X) (sg := [.ki .i64, .ki .i64, .kl 9, .kl 9]) (cu := I_VaryOf_b1_cu k) (cl := I_VaryOf_cl k) (tys := [[9], [0]]) (I_VaryOf_ck k) (cutOK_of (l := [(I_VaryOf_c30_cut k, sub (bodyOf Go.Proofs.Tryd.f38) [1, 1, 1, 0, 1, 0, 0, 1, 1, 0, 0, 1, 1, 1, 1])]) (by kernel_rfl) ⟨I_VaryOf_c30_ok k, trivial⟩) fun x Q R h => by
    simp only [I_VaryOf_b1, optK_bind, optK_bif, optK_pure, optK_none, optK_oc, optK_guardT, optK_map] at h
    refine hold_of h ?_
    kernel_rfl
def I_VaryOf_b0_L (x : Int × Int × (List (List UInt8)) × (List (List UInt8)) × Unit) (o : Oc ((List (List UInt8))) ((List (List UInt8)) × Bool)) (Q : Ex → VSt D → Prop) (R : VR D → Prop) : Prop := ocP o (fun v0 => Q .normal (mkSt ⟨[(6, .ref 500006)], [(500006, .row)]⟩ [.sl 9 v0])) (fun w0 => R (.tup [.c (.sl 9 w0.1), .c (.bool w0.2)]))
def I_VaryOf_b0_cut (k : Nat) : Cut D := cutS ⟨[(6, .ref 500006), (17, .ref 500017), (18, .hole), (19, .hole)], [(500006, .row), (500017, .row)]⟩ [.ki .i64, .ki .i64, .kl 9, .kl 9] (fun (x : Int × Int × (List (List UInt8)) × (List (List UInt8)) × Unit) => I_VaryOf_b0 k k x.1 x.2.1 x.2.2.1 x.2.2.2.1) I_VaryOf_b0_L
def I_VaryOf_b0_cu (k : Nat) : Cuts D := ⟨[(1, some (I_VaryOf_b1_cut k))], []⟩
theorem I_VaryOf_b0_ok (k : Nat) : CutFor X I_VaryOf_pl k Go.Proofs.Tryd.f38.results.toList (I_VaryOf_b0_cut k) (sub (bodyOf Go.Proofs.Tryd.f38) [1, 1, 1, 0, 1]) :=
  loopCut_s (X := X) (sg := [.ki .i64, .ki .i64, .kl 9, .kl 9]) (cu := I_VaryOf_b0_cu k) (cl := I_VaryOf_cl k) (tys := [[9], [0]]) (id := 0) (c := sub (bodyOf Go.Proofs.Tryd.f38) [1, 1, 1, 0, 1, 0, 0]) (f := fun n => fun (x : Int × Int × (List (List UInt8)) × (List (List UInt8)) × Unit) => I_VaryOf_b0 k n x.1 x.2.1 x.2.2.1 x.2.2.2.1) (I_VaryOf_ck k) (cutOK_of (l := [(I_VaryOf_b1_cut k, sub (bodyOf Go.Proofs.Tryd.f38) [1, 1, 1, 0, 1, 0, 0, 1, 1, 0])]) (by kernel_rfl) ⟨I_VaryOf_b1_ok k, trivial⟩) (fun _ => rfl) (fun n x Q R h => by
    simp only [I_VaryOf_b0, optK_bind, optK_bif, optK_pure, optK_none, optK_oc, optK_guardT, optK_map] at h
    refine hold_of h ?_
    kernel_rfl) (by kernel_rfl)
def I_VaryOf_cu (k : Nat) : Cuts D := ⟨[(0, some (I_VaryOf_b0_cut k))], []⟩
def I_VaryOf_ar : List Ar := [.c (.kl 79)]
def I_VaryOf_f (k : Nat) (x : TupA D I_VaryOf_ar) : Option ((List (List UInt8)) × Bool) := I_VaryOf k x.1
def I_VaryOf_vr (r : (List (List UInt8)) × Bool) : VR D := .tup [.c (.sl 9 r.1), .c (.bool r.2)]
theorem I_VaryOf_ok (k : Nat) : Does P X 38 I_VaryOf_ar (I_VaryOf_f k) I_VaryOf_vr :=
  does_of (body := bodyOf Go.Proofs.Tryd.f38) (pl := I_VaryOf_pl) (k := k) (cu := I_VaryOf_cu k) (tys := [[9], [0]]) (I_VaryOf_ck k) ctx mixed Go.Proofs.Tryd.func38 (by kernel_rfl) (by kernel_rfl) (cutOK_of (l := [(I_VaryOf_b0_cut k, sub (bodyOf Go.Proofs.Tryd.f38) [1, 1, 1, 0, 1])]) (by kernel_rfl) ⟨I_VaryOf_b0_ok k, trivial⟩) fun x R h => by
    simp only [I_VaryOf_f, I_VaryOf, optK_bind, optK_bif, optK_pure, optK_none, optK_oc, optK_guardT, optK_map] at h
    refine hold_of h ?_
    kernel_rfl
def I_VaryOf_en (k : Nat) : Entry D := entS I_VaryOf_ar (I_VaryOf_f k) I_VaryOf_vr
theorem I_VaryOf_eo (k : Nat) : EntryOK X 38 (I_VaryOf_en k) := (I_VaryOf_ok k).en rfl
def I_Agrees_pl : Plan := ⟨[(0, [(1, some 79), (2, none)]), (1, [(2, none), (7, some 79), (8, none), (9, none)]), (2, [(2, none), (7, some 79), (8, none), (9, none), (10, none)]), (3, [(2, none), (6, none), (7, some 79), (8, none), (9, none)]), (4, [(2, none), (7, some 79), (8, none), (9, none), (23, none)]), (5, [(4, none)]), (6, [(2, none), (7, some 79), (8, none), (9, none)]), (7, [(4, none)])],
  [(0, []), (1, [(2, none), (7, some 79), (8, none), (9, none)])],
  [(10, ([(2, none), (7, some 79), (8, none), (9, none)], [])), (23, ([], [(2, none), (7, some 79), (8, none), (9, none)]))]⟩
def I_Agrees_cl (k : Nat) : Calls' D := ⟨[(55, I_SelectingOf_en k)], [], [], []⟩
theorem I_Agrees_ck (k : Nat) : CallsOK X (I_Agrees_cl k) := .cons (I_SelectingOf_eo k) (.nil cod)
def I_Agrees_b0_L (x : (List IField) × Int × Int × (List UInt8) × (List UInt8) × (List UInt8) × (List IField) × Unit) (o : Oc (Unit) (Bool)) (Q : Ex → VSt D → Prop) (R : VR D → Prop) : Prop := ocP o (fun v0 => Q .normal (mkSt ⟨[], []⟩ [])) (fun w0 => R (.p (.c (.bool w0))))
def I_Agrees_b0_cut (k : Nat) : Cut D := cutS ⟨[(2, .ptr 2 0), (7, .hole), (8, .hole), (9, .hole)], [(2, .var [.hole, .hole, .hole, .hole])]⟩ [.kl 79, .ki .i64, .ki .i64, .ks, .ks, .ks, .kl 79] (fun (x : (List IField) × Int × Int × (List UInt8) × (List UInt8) × (List UInt8) × (List IField) × Unit) => I_Agrees_b0 k k x.1 x.2.1 x.2.2.1 x.2.2.2.1 x.2.2.2.2.1 x.2.2.2.2.2.1 x.2.2.2.2.2.2.1) I_Agrees_b0_L
def I_Agrees_b0_cu (k : Nat) : Cuts D := ⟨[], []⟩
theorem I_Agrees_b0_ok (k : Nat) : CutFor X I_Agrees_pl k Go.Proofs.Tryd.f25.results.toList (I_Agrees_b0_cut k) (sub (bodyOf Go.Proofs.Tryd.f25) [1, 0, 1]) :=
  loopCut_s (X := X) (sg := [.kl 79, .ki .i64, .ki .i64, .ks, .ks, .ks, .kl 79]) (cu := I_Agrees_b0_cu k) (cl := I_Agrees_cl k) (tys := [[0]]) (id := 0) (c := sub (bodyOf Go.Proofs.Tryd.f25) [1, 0, 1, 0, 0]) (f := fun n => fun (x : (List IField) × Int × Int × (List UInt8) × (List UInt8) × (List UInt8) × (List IField) × Unit) => I_Agrees_b0 k n x.1 x.2.1 x.2.2.1 x.2.2.2.1 x.2.2.2.2.1 x.2.2.2.2.2.1 x.2.2.2.2.2.2.1) (I_Agrees_ck k) (cutOK_of (l := []) (by kernel_rfl) trivial) (fun _ => rfl) (fun n x Q R h => by
    simp only [I_Agrees_b0, optK_bind, optK_bif, optK_pure, optK_none, optK_oc, optK_guardT, optK_map] at h
    refine hold_of h ?_
    kernel_rfl) (by kernel_rfl)
def I_Agrees_cu (k : Nat) : Cuts D := ⟨[(0, some (I_Agrees_b0_cut k))], []⟩
def I_Agrees_ar : List Ar := [.a [.ks, .ks, .ks, .kl 79], .c (.kl 79)]
def I_Agrees_f (k : Nat) (x : TupA D I_Agrees_ar) : Option (Bool) := I_Agrees k (⟨x.1.1, x.1.2.1, x.1.2.2.1, x.1.2.2.2.1⟩ : IRequest) x.2.1
def I_Agrees_vr (r : Bool) : VR D := .p (.c (.bool r))
theorem I_Agrees_ok (k : Nat) : Does P X 25 I_Agrees_ar (I_Agrees_f k) I_Agrees_vr :=
  does_of (body := bodyOf Go.Proofs.Tryd.f25) (pl := I_Agrees_pl) (k := k) (cu := I_Agrees_cu k) (tys := [[0]]) (I_Agrees_ck k) ctx mixed Go.Proofs.Tryd.func25 (by kernel_rfl) (by kernel_rfl) (cutOK_of (l := [(I_Agrees_b0_cut k, sub (bodyOf Go.Proofs.Tryd.f25) [1, 0, 1])]) (by kernel_rfl) ⟨I_Agrees_b0_ok k, trivial⟩) fun x R h => by
    simp only [I_Agrees_f, I_Agrees, optK_bind, optK_bif, optK_pure, optK_none, optK_oc, optK_guardT, optK_map] at h
    refine hold_of h ?_
    kernel_rfl
def I_Agrees_en (k : Nat) : Entry D := entS I_Agrees_ar (I_Agrees_f k) I_Agrees_vr
theorem I_Agrees_eo (k : Nat) : EntryOK X 25 (I_Agrees_en k) := (I_Agrees_ok k).en rfl
def strings_Split_ar : List Ar := [.c (.ks), .c (.ks)]
def strings_Split_f (k : Nat) (x : TupA D strings_Split_ar) : Option ((List (List UInt8))) := strings_Split k x.1 x.2.1
def strings_Split_vr (r : (List (List UInt8))) : VR D := .p (.c (.sl 9 r))
theorem strings_Split_ok (k : Nat) : Does P X 74 strings_Split_ar (strings_Split_f k) strings_Split_vr := does_split (P := P) (D := D) (X := X) (el := 9) ⟨Go.Proofs.Tryd.f74, Go.Proofs.Tryd.func74, by kernel_rfl, by kernel_rfl⟩ (fun (s : List UInt8) => s) (fun l s => splitO l s) (fun _ => rfl) (by kernel_rfl) (fun l s => (split_id l s).symm) (fun s sep w hg h1 h2 => let ⟨m, hm⟩ := hg; Go.Proofs.Tryd.strings_Split s sep m w h1 hm h2) (fun s sep h => Go.Lib.splitB_all sep h 0 _ s rfl)
def strings_Split_en (k : Nat) : Entry D := entS strings_Split_ar (strings_Split_f k) strings_Split_vr
theorem strings_Split_eo (k : Nat) : EntryOK X 74 (strings_Split_en k) := (strings_Split_ok k).en rfl
def strings_IndexByte_ar : List Ar := [.c (.ks), .c (.ki .u8)]
def strings_IndexByte_f (k : Nat) (x : TupA D strings_IndexByte_ar) : Option (Int) := strings_IndexByte k x.1 x.2.1
def strings_IndexByte_vr (r : Int) : VR D := .p (.c (.int .i64 r))
theorem strings_IndexByte_ok (k : Nat) : Does P X 116 strings_IndexByte_ar (strings_IndexByte_f k) strings_IndexByte_vr := does_indexByte ⟨Go.Proofs.Tryd.f116, Go.Proofs.Tryd.func116, by kernel_rfl, by kernel_rfl⟩ (fun s c w hg => Go.Proofs.Tryd.strings_IndexByte s c w)
def strings_IndexByte_en (k : Nat) : Entry D := entS strings_IndexByte_ar (strings_IndexByte_f k) strings_IndexByte_vr
theorem strings_IndexByte_eo (k : Nat) : EntryOK X 116 (strings_IndexByte_en k) := (strings_IndexByte_ok k).en rfl
def I_isTokenByte_pl : Plan := ⟨[(0, [(0, none)]), (1, [(2, none)])],
  [],
  []⟩
def I_isTokenByte_cl (k : Nat) : Calls' D := ⟨[(116, strings_IndexByte_en k)], [], [], []⟩
theorem I_isTokenByte_ck (k : Nat) : CallsOK X (I_isTokenByte_cl k) := .cons (strings_IndexByte_eo k) (.nil cod)
def I_isTokenByte_cu (k : Nat) : Cuts D := ⟨[], []⟩
def I_isTokenByte_ar : List Ar := [.c (.ki .u8)]
def I_isTokenByte_f (k : Nat) (x : TupA D I_isTokenByte_ar) : Option (Bool) := I_isTokenByte k x.1
def I_isTokenByte_vr (r : Bool) : VR D := .p (.c (.bool r))
theorem I_isTokenByte_ok (k : Nat) : Does P X 81 I_isTokenByte_ar (I_isTokenByte_f k) I_isTokenByte_vr :=
  does_of (body := bodyOf Go.Proofs.Tryd.f81) (pl := I_isTokenByte_pl) (k := k) (cu := I_isTokenByte_cu k) (tys := [[0]]) (I_isTokenByte_ck k) ctx mixed Go.Proofs.Tryd.func81 (by kernel_rfl) (by kernel_rfl) (cutOK_of (l := []) (by kernel_rfl) trivial) fun x R h => by
    simp only [I_isTokenByte_f, I_isTokenByte, optK_bind, optK_bif, optK_pure, optK_none, optK_oc, optK_guardT, optK_map] at h
    refine hold_of h ?_
    kernel_rfl
def I_isTokenByte_en (k : Nat) : Entry D := entS I_isTokenByte_ar (I_isTokenByte_f k) I_isTokenByte_vr
theorem I_isTokenByte_eo (k : Nat) : EntryOK X 81 (I_isTokenByte_en k) := (I_isTokenByte_ok k).en rfl
def I_inRange_pl : Plan := ⟨[(0, [(0, none), (1, none), (2, none)]), (1, [(6, none)])],
  [],
  []⟩
def I_inRange_cl (k : Nat) : Calls' D := ⟨[], [], [], []⟩
theorem I_inRange_ck (k : Nat) : CallsOK X (I_inRange_cl k) := .nil cod
def I_inRange_cu (k : Nat) : Cuts D := ⟨[], []⟩
def I_inRange_ar : List Ar := [.c (.ki .i64), .c (.ki .i64), .c (.ki .i64)]
def I_inRange_f (k : Nat) (x : TupA D I_inRange_ar) : Option (Bool) := I_inRange k x.1 x.2.1 x.2.2.1
def I_inRange_vr (r : Bool) : VR D := .p (.c (.bool r))
theorem I_inRange_ok (k : Nat) : Does P X 64 I_inRange_ar (I_inRange_f k) I_inRange_vr :=
  does_of (body := bodyOf Go.Proofs.Tryd.f64) (pl := I_inRange_pl) (k := k) (cu := I_inRange_cu k) (tys := [[0]]) (I_inRange_ck k) ctx mixed Go.Proofs.Tryd.func64 (by kernel_rfl) (by kernel_rfl) (cutOK_of (l := []) (by kernel_rfl) trivial) fun x R h => by
    simp only [I_inRange_f, I_inRange, optK_bind, optK_bif, optK_pure, optK_none, optK_oc, optK_guardT, optK_map] at h
    refine hold_of h ?_
    kernel_rfl
def I_inRange_en (k : Nat) : Entry D := entS I_inRange_ar (I_inRange_f k) I_inRange_vr
theorem I_inRange_eo (k : Nat) : EntryOK X 64 (I_inRange_en k) := (I_inRange_ok k).en rfl
def I_IsToken_pl : Plan := ⟨[(0, [(0, none)]), (1, [(0, none), (5, none), (6, none)]), (2, [(0, none), (5, none), (6, none), (7, none)]), (3, [(0, none), (3, none), (5, none), (6, none)]), (4, [(0, none), (5, none), (6, none), (13, none)]), (5, [(2, none)]), (6, [(0, none), (5, none), (6, none)]), (7, [(2, none)])],
  [(0, [(0, none)]), (1, [(0, none), (5, none), (6, none)])],
  [(7, ([(0, none), (5, none), (6, none)], [(0, none)])), (13, ([], [(0, none), (5, none), (6, none)]))]⟩
def I_IsToken_cl (k : Nat) : Calls' D := ⟨[(81, I_isTokenByte_en k), (64, I_inRange_en k)], [], [], []⟩
theorem I_IsToken_ck (k : Nat) : CallsOK X (I_IsToken_cl k) := .cons (I_isTokenByte_eo k) (.cons (I_inRange_eo k) (.nil cod))
def I_IsToken_b0_L (x : (List UInt8) × Int × Int × Unit) (o : Oc (Unit) (Bool)) (Q : Ex → VSt D → Prop) (R : VR D → Prop) : Prop := ocP o (fun v0 => Q .normal (mkSt ⟨[(0, .hole)], []⟩ [.str x.1])) (fun w0 => R (.p (.c (.bool w0))))
def I_IsToken_b0_cut (k : Nat) : Cut D := cutS ⟨[(0, .hole), (5, .hole), (6, .hole)], []⟩ [.ks, .ki .i64, .ki .i64] (fun (x : (List UInt8) × Int × Int × Unit) => I_IsToken_b0 k k x.1 x.2.1 x.2.2.1) I_IsToken_b0_L
def I_IsToken_b0_cu (k : Nat) : Cuts D := ⟨[], []⟩
theorem I_IsToken_b0_ok (k : Nat) : CutFor X I_IsToken_pl k Go.Proofs.Tryd.f31.results.toList (I_IsToken_b0_cut k) (sub (bodyOf Go.Proofs.Tryd.f31) [1, 0, 1]) :=
  loopCut_s (X := X) (sg := [.ks, .ki .i64, .ki .i64]) (cu := I_IsToken_b0_cu k) (cl := I_IsToken_cl k) (tys := [[0]]) (id := 0) (c := sub (bodyOf Go.Proofs.Tryd.f31) [1, 0, 1, 0, 0]) (f := fun n => fun (x : (List UInt8) × Int × Int × Unit) => I_IsToken_b0 k n x.1 x.2.1 x.2.2.1) (I_IsToken_ck k) (cutOK_of (l := []) (by kernel_rfl) trivial) (fun _ => rfl) (fun n x Q R h => by
    simp only [I_IsToken_b0, optK_bind, optK_bif, optK_pure, optK_none, optK_oc, optK_guardT, optK_map] at h
    refine hold_of h ?_
    kernel_rfl) (by kernel_rfl)
def I_IsToken_cu (k : Nat) : Cuts D := ⟨[(0, some (I_IsToken_b0_cut k))], []⟩
def I_IsToken_ar : List Ar := [.c (.ks)]
def I_IsToken_f (k : Nat) (x : TupA D I_IsToken_ar) : Option (Bool) := I_IsToken k x.1
def I_IsToken_vr (r : Bool) : VR D := .p (.c (.bool r))
theorem I_IsToken_ok (k : Nat) : Does P X 31 I_IsToken_ar (I_IsToken_f k) I_IsToken_vr :=
  does_of (body := bodyOf Go.Proofs.Tryd.f31) (pl := I_IsToken_pl) (k := k) (cu := I_IsToken_cu k) (tys := [[0]]) (I_IsToken_ck k) ctx mixed Go.Proofs.Tryd.func31 (by kernel_rfl) (by kernel_rfl) (cutOK_of (l := [(I_IsToken_b0_cut k, sub (bodyOf Go.Proofs.Tryd.f31) [1, 0, 1])]) (by kernel_rfl) ⟨I_IsToken_b0_ok k, trivial⟩) fun x R h => by
    simp only [I_IsToken_f, I_IsToken, optK_bind, optK_bif, optK_pure, optK_none, optK_oc, optK_guardT, optK_map] at h
    refine hold_of h ?_
    kernel_rfl
def I_IsToken_en (k : Nat) : Entry D := entS I_IsToken_ar (I_IsToken_f k) I_IsToken_vr
theorem I_IsToken_eo (k : Nat) : EntryOK X 31 (I_IsToken_en k) := (I_IsToken_ok k).en rfl
def strings_Cut_ar : List Ar := [.c (.ks), .c (.ks)]
def strings_Cut_f (k : Nat) (x : TupA D strings_Cut_ar) : Option ((List UInt8) × (List UInt8) × Bool) := strings_Cut k x.1 x.2.1
def strings_Cut_vr (r : (List UInt8) × (List UInt8) × Bool) : VR D := .tup [.c (.str r.1), .c (.str r.2.1), .c (.bool r.2.2)]
theorem strings_Cut_ok (k : Nat) : Does P X 115 strings_Cut_ar (strings_Cut_f k) strings_Cut_vr := does_cut ⟨Go.Proofs.Tryd.f115, Go.Proofs.Tryd.func115, by kernel_rfl, by kernel_rfl⟩ (fun s sep w hg hs => let ⟨m, hm⟩ := hg; Go.Proofs.Tryd.strings_Cut s sep m w hs hm)
def strings_Cut_en (k : Nat) : Entry D := entS strings_Cut_ar (strings_Cut_f k) strings_Cut_vr
theorem strings_Cut_eo (k : Nat) : EntryOK X 115 (strings_Cut_en k) := (strings_Cut_ok k).en rfl
def I_SplitPair_pl : Plan := ⟨[(0, [(0, none)]), (1, [(5, none), (6, none), (7, none)]), (2, [(2, none), (3, none), (4, none)])],
  [],
  []⟩
def I_SplitPair_cl (k : Nat) : Calls' D := ⟨[(115, strings_Cut_en k), (76, I_TrimText_en k)], [], [], []⟩
theorem I_SplitPair_ck (k : Nat) : CallsOK X (I_SplitPair_cl k) := .cons (strings_Cut_eo k) (.cons (I_TrimText_eo k) (.nil cod))
def I_SplitPair_cu (k : Nat) : Cuts D := ⟨[], []⟩
def I_SplitPair_ar : List Ar := [.c (.ks)]
def I_SplitPair_f (k : Nat) (x : TupA D I_SplitPair_ar) : Option ((List UInt8) × (List UInt8) × Bool) := I_SplitPair k x.1
def I_SplitPair_vr (r : (List UInt8) × (List UInt8) × Bool) : VR D := .tup [.c (.str r.1), .c (.str r.2.1), .c (.bool r.2.2)]
theorem I_SplitPair_ok (k : Nat) : Does P X 77 I_SplitPair_ar (I_SplitPair_f k) I_SplitPair_vr :=
  does_of (body := bodyOf Go.Proofs.Tryd.f77) (pl := I_SplitPair_pl) (k := k) (cu := I_SplitPair_cu k) (tys := [[0], [0], [0]]) (I_SplitPair_ck k) ctx mixed Go.Proofs.Tryd.func77 (by kernel_rfl) (by kernel_rfl) (cutOK_of (l := []) (by kernel_rfl) trivial) fun x R h => by
    simp only [I_SplitPair_f, I_SplitPair, optK_bind, optK_bif, optK_pure, optK_none, optK_oc, optK_guardT, optK_map] at h
    refine hold_of h ?_
    kernel_rfl
def I_SplitPair_en (k : Nat) : Entry D := entS I_SplitPair_ar (I_SplitPair_f k) I_SplitPair_vr
theorem I_SplitPair_eo (k : Nat) : EntryOK X 77 (I_SplitPair_en k) := (I_SplitPair_ok k).en rfl
def I_weightIn_pl : Plan := ⟨[(0, [(0, none)]), (1, [(4, none), (5, none)]), (2, [(4, none), (5, none), (27, none)]), (3, [(2, none), (3, none)]), (4, [(5, none), (7, none)]), (5, [(5, none), (7, none), (8, none)]), (6, [(7, none), (8, none), (34, some 5), (35, none), (36, none)]), (7, [(7, none), (8, none), (34, some 5), (35, none), (36, none), (37, none)]), (8, [(7, none), (8, none), (10, none), (34, some 5), (35, none), (36, none)]), (9, [(7, none), (8, none), (10, none), (34, some 5), (35, none), (36, none), (45, none)]), (10, [(2, none), (3, none)]), (11, [(7, none), (8, none), (34, some 5), (35, none), (36, none)]), (12, [(7, none), (8, none), (34, some 5), (35, none), (36, none)]), (13, [(7, none), (8, none), (34, some 5), (35, none), (36, none)]), (14, [(2, none), (3, none)])],
  [(0, [(7, none)]), (1, [(7, none), (8, none), (34, some 5), (35, none), (36, none)])],
  [(27, ([], [(4, none), (5, none)])), (37, ([(7, none), (8, none), (34, some 5), (35, none), (36, none)], [(7, none)])), (45, ([], [(7, none), (8, none), (10, none), (34, some 5), (35, none), (36, none)]))]⟩
def I_weightIn_cl (k : Nat) : Calls' D := ⟨[(115, strings_Cut_en k)], [], [], []⟩
theorem I_weightIn_ck (k : Nat) : CallsOK X (I_weightIn_cl k) := .cons (strings_Cut_eo k) (.nil cod)
def I_weightIn_b0_L (x : Int × Int × Int × Int × (List Int) × Unit) (o : Oc (Int) (Int × Bool)) (Q : Ex → VSt D → Prop) (R : VR D → Prop) : Prop := ocP o (fun v0 => Q .normal (mkSt ⟨[(7, .hole)], []⟩ [.int .i64 v0])) (fun w0 => R (.tup [.c (.int .i64 w0.1), .c (.bool w0.2)]))
def I_weightIn_b0_cut (k : Nat) : Cut D := cutS ⟨[(7, .hole), (8, .hole), (34, .ref 500034), (35, .hole), (36, .hole)], [(500034, .row)]⟩ [.ki .i64, .ki .i64, .ki .i64, .ki .i64, .kl 5] (fun (x : Int × Int × Int × Int × (List Int) × Unit) => I_weightIn_b0 k k x.1 x.2.1 x.2.2.1 x.2.2.2.1 x.2.2.2.2.1) I_weightIn_b0_L
def I_weightIn_b0_cu (k : Nat) : Cuts D := ⟨[], []⟩
theorem I_weightIn_b0_ok (k : Nat) : CutFor X I_weightIn_pl k Go.Proofs.Tryd.f78.results.toList (I_weightIn_b0_cut k) (sub (bodyOf Go.Proofs.Tryd.f78) [1, 1, 1, 1, 1, 0, 1]) :=
  loopCut_s (X := X) (sg := [.ki .i64, .ki .i64, .ki .i64, .ki .i64, .kl 5]) (cu := I_weightIn_b0_cu k) (cl := I_weightIn_cl k) (tys := [[0], [0]]) (id := 0) (c := sub (bodyOf Go.Proofs.Tryd.f78) [1, 1, 1, 1, 1, 0, 1, 0, 0]) (f := fun n => fun (x : Int × Int × Int × Int × (List Int) × Unit) => I_weightIn_b0 k n x.1 x.2.1 x.2.2.1 x.2.2.2.1 x.2.2.2.2.1) (I_weightIn_ck k) (cutOK_of (l := []) (by kernel_rfl) trivial) (fun _ => rfl) (fun n x Q R h => by
    simp only [I_weightIn_b0, optK_bind, optK_bif, optK_pure, optK_none, optK_oc, optK_guardT, optK_map] at h
    refine hold_of h ?_
    kernel_rfl) (by kernel_rfl)
def I_weightIn_cu (k : Nat) : Cuts D := ⟨[(0, some (I_weightIn_b0_cut k))], []⟩
def I_weightIn_ar : List Ar := [.c (.ks)]
def I_weightIn_f (k : Nat) (x : TupA D I_weightIn_ar) : Option (Int × Bool) := I_weightIn k x.1
def I_weightIn_vr (r : Int × Bool) : VR D := .tup [.c (.int .i64 r.1), .c (.bool r.2)]
theorem I_weightIn_ok (k : Nat) : Does P X 78 I_weightIn_ar (I_weightIn_f k) I_weightIn_vr :=
  does_of (body := bodyOf Go.Proofs.Tryd.f78) (pl := I_weightIn_pl) (k := k) (cu := I_weightIn_cu k) (tys := [[0], [0]]) (I_weightIn_ck k) ctx mixed Go.Proofs.Tryd.func78 (by kernel_rfl) (by kernel_rfl) (cutOK_of (l := [(I_weightIn_b0_cut k, sub (bodyOf Go.Proofs.Tryd.f78) [1, 1, 1, 1, 1, 0, 1])]) (by kernel_rfl) ⟨I_weightIn_b0_ok k, trivial⟩) fun x R h => by
    simp only [I_weightIn_f, I_weightIn, optK_bind, optK_bif, optK_pure, optK_none, optK_oc, optK_guardT, optK_map] at h
    refine hold_of h ?_
    kernel_rfl
def I_weightIn_en (k : Nat) : Entry D := entS I_weightIn_ar (I_weightIn_f k) I_weightIn_vr
theorem I_weightIn_eo (k : Nat) : EntryOK X 78 (I_weightIn_en k) := (I_weightIn_ok k).en rfl
def I_ParseQualities_pl : Plan := ⟨[(0, [(0, none)]), (1, [(0, none), (3, some 51)]), (2, [(3, some 51), (16, some 9), (17, none), (18, none)]), (3, [(3, some 51), (16, some 9), (17, none), (18, none), (19, none)]), (4, [(3, some 51), (5, none), (16, some 9), (17, none), (18, none)]), (5, [(3, some 51), (6, some 9), (16, some 9), (17, none), (18, none)]), (6, [(3, some 51), (6, some 9), (7, none), (16, some 9), (17, none), (18, none)]), (7, [(3, some 51), (6, some 9), (7, none), (8, none), (16, some 9), (17, none), (18, none)]), (8, [(3, some 51), (6, some 9), (7, none), (8, none), (16, some 9), (17, none), (18, none), (40, none)]), (9, [(3, some 51), (7, none), (8, none), (9, none), (10, none), (11, none), (16, some 9), (17, none), (18, none)]), (10, [(3, some 51), (7, none), (8, none), (9, none), (11, none), (12, none), (13, none), (16, some 9), (17, none), (18, none)]), (11, [(3, some 51), (7, none), (8, none), (9, none), (11, none), (13, none), (16, some 9), (17, none), (18, none)]), (12, [(3, some 51), (7, none), (8, none), (16, some 9), (17, none), (18, none)]), (13, [(3, some 51), (7, none), (16, some 9), (17, none), (18, none), (71, none)]), (14, [(3, some 51), (16, some 9), (17, none), (18, none)]), (15, [(3, some 51), (16, some 9), (17, none), (18, none)]), (16, [(2, some 51)])],
  [(0, [(3, some 51)]), (1, [(3, some 51), (16, some 9), (17, none), (18, none)])],
  [(19, ([(3, some 51), (16, some 9), (17, none), (18, none)], [(3, some 51)])), (40, ([(3, some 51), (6, some 9), (7, none), (8, none), (16, some 9), (17, none), (18, none)], [(3, some 51), (7, none), (8, none), (16, some 9), (17, none), (18, none)])), (71, ([(3, some 51), (7, none), (16, some 9), (17, none), (18, none)], [(3, some 51), (16, some 9), (17, none), (18, none)]))]⟩
def I_ParseQualities_cl (k : Nat) : Calls' D := ⟨[(73, I_SplitList_en k), (74, strings_Split_en k), (76, I_TrimText_en k), (75, I_LowerText_en k), (31, I_IsToken_en k), (77, I_SplitPair_en k), (78, I_weightIn_en k)], [], [], []⟩
theorem I_ParseQualities_ck (k : Nat) : CallsOK X (I_ParseQualities_cl k) := .cons (I_SplitList_eo k) (.cons (strings_Split_eo k) (.cons (I_TrimText_eo k) (.cons (I_LowerText_eo k) (.cons (I_IsToken_eo k) (.cons (I_SplitPair_eo k) (.cons (I_weightIn_eo k) (.nil cod)))))))
def I_ParseQualities_c40_L (x : Bool × Int × Int × Bool × (List IQuality) × (List (List UInt8)) × (List UInt8) × Int × (List (List UInt8)) × Unit) (o : Bool × Int) (Q : Ex → VSt D → Prop) (R : VR D → Prop) : Prop := Q .normal (mkSt ⟨[(3, .ref 500003), (7, .ptr 7 0), (8, .hole), (16, .ref 500016), (17, .hole), (18, .hole)], [(500003, .row), (7, .var [.hole, .hole]), (500016, .row)]⟩ [.bool o.1, .int .i64 x.2.1, .int .i64 x.2.2.1, .sl 51 x.2.2.2.2.1, .str x.2.2.2.2.2.2.1, .int .i64 o.2, .sl 9 x.2.2.2.2.2.2.2.2.1])
def I_ParseQualities_c40_cut (k : Nat) : Cut D := cutS ⟨[(3, .ref 500003), (6, .ref 500006), (7, .ptr 7 0), (8, .hole), (16, .ref 500016), (17, .hole), (18, .hole), (40, .hole)], [(500003, .row), (500006, .row), (7, .var [.hole, .hole]), (500016, .row)]⟩ [.kb, .ki .i64, .ki .i64, .kb, .kl 51, .kl 9, .ks, .ki .i64, .kl 9] (fun (x : Bool × Int × Int × Bool × (List IQuality) × (List (List UInt8)) × (List UInt8) × Int × (List (List UInt8)) × Unit) => I_ParseQualities_c40 k x.1 x.2.1 x.2.2.1 x.2.2.2.1 x.2.2.2.2.1 x.2.2.2.2.2.1 x.2.2.2.2.2.2.1 x.2.2.2.2.2.2.2.1 x.2.2.2.2.2.2.2.2.1) I_ParseQualities_c40_L
def I_ParseQualities_c40_cu (k : Nat) : Cuts D := ⟨[], []⟩
theorem I_ParseQualities_c40_ok (k : Nat) : CutFor X I_ParseQualities_pl k Go.Proofs.Tryd.f29.results.toList (I_ParseQualities_c40_cut k) (sub (bodyOf Go.Proofs.Tryd.f29) [1, 1, 0, 1, 0, 0, 1, 1, 0, 0, 1, 1, 1, 1, 0, 1]) :=
  joinCut_s (X := X) (sg := [.kb, .ki .i64, .ki .i64, .kb, .kl 51, .kl 9, .ks, .ki .i64, .kl 9]) (cu := I_ParseQualities_c40_cu k) (cl := I_ParseQualities_cl k) (tys := [[51]]) (I_ParseQualities_ck k) (cutOK_of (l := []) (by kernel_rfl) trivial) fun x Q R h => by
    simp only [I_ParseQualities_c40, optK_bind, optK_bif, optK_pure, optK_none, optK_oc, optK_guardT, optK_map] at h
    refine hold_of h ?_
    kernel_rfl
def I_ParseQualities_c71_L (x : Int × Int × Bool × (List IQuality) × (List UInt8) × Int × (List (List UInt8)) × Unit) (o : (List IQuality)) (Q : Ex → VSt D → Prop) (R : VR D → Prop) : Prop := Q .normal (mkSt ⟨[(3, .ref 500003), (16, .ref 500016), (17, .hole), (18, .hole)], [(500003, .row), (500016, .row)]⟩ [.int .i64 x.1, .int .i64 x.2.1, .sl 51 o, .sl 9 x.2.2.2.2.2.2.1])
def I_ParseQualities_c71_cut (k : Nat) : Cut D := cutS ⟨[(3, .ref 500003), (7, .ptr 7 0), (16, .ref 500016), (17, .hole), (18, .hole), (71, .hole)], [(500003, .row), (7, .var [.hole, .hole]), (500016, .row)]⟩ [.ki .i64, .ki .i64, .kb, .kl 51, .ks, .ki .i64, .kl 9] (fun (x : Int × Int × Bool × (List IQuality) × (List UInt8) × Int × (List (List UInt8)) × Unit) => I_ParseQualities_c71 k x.1 x.2.1 x.2.2.1 x.2.2.2.1 x.2.2.2.2.1 x.2.2.2.2.2.1 x.2.2.2.2.2.2.1) I_ParseQualities_c71_L
def I_ParseQualities_c71_cu (k : Nat) : Cuts D := ⟨[], []⟩
theorem I_ParseQualities_c71_ok (k : Nat) : CutFor X I_ParseQualities_pl k Go.Proofs.Tryd.f29.results.toList (I_ParseQualities_c71_cut k) (sub (bodyOf Go.Proofs.Tryd.f29) [1, 1, 0, 1, 0, 0, 1, 1, 0, 0, 1, 1, 1, 1, 1, 1]) :=
  joinCut_s (X := X) (sg := [.ki .i64, .ki .i64, .kb, .kl 51, .ks, .ki .i64, .kl 9]) (cu := I_ParseQualities_c71_cu k) (cl := I_ParseQualities_cl k) (tys := [[51]]) (I_ParseQualities_ck k) (cutOK_of (l := []) (by kernel_rfl) trivial) fun x Q R h => by
    simp only [I_ParseQualities_c71, optK_bind, optK_bif, optK_pure, optK_none, optK_oc, optK_guardT, optK_map] at h
    refine hold_of h ?_
    kernel_rfl
def I_ParseQualities_b1_L (x : Int × Int × (List IQuality) × (List (List UInt8)) × Unit) (o : (List IQuality)) (Q : Ex → VSt D → Prop) (R : VR D → Prop) : Prop := Q .normal (mkSt ⟨[(3, .ref 500003), (16, .ref 500016), (17, .hole), (18, .hole)], [(500003, .row), (500016, .row)]⟩ [.int .i64 x.1, .int .i64 x.2.1, .sl 51 o, .sl 9 x.2.2.2.1])
def I_ParseQualities_b1_cut (k : Nat) : Cut D := cutS ⟨[(3, .ref 500003), (16, .ref 500016), (17, .hole), (18, .hole)], [(500003, .row), (500016, .row)]⟩ [.ki .i64, .ki .i64, .kl 51, .kl 9] (fun (x : Int × Int × (List IQuality) × (List (List UInt8)) × Unit) => I_ParseQualities_b1 k x.1 x.2.1 x.2.2.1 x.2.2.2.1) I_ParseQualities_b1_L
def I_ParseQualities_b1_cu (k : Nat) : Cuts D := ⟨[], [(40, some (I_ParseQualities_c40_cut k)), (71, some (I_ParseQualities_c71_cut k))]⟩
theorem I_ParseQualities_b1_ok (k : Nat) : CutFor X I_ParseQualities_pl k Go.Proofs.Tryd.f29.results.toList (I_ParseQualities_b1_cut k) (sub (bodyOf Go.Proofs.Tryd.f29) [1, 1, 0, 1, 0, 0, 1, 1, 0]) :=
  joinCut_s (X := X) (sg := [.ki .i64, .ki .i64, .kl 51, .kl 9]) (cu := I_ParseQualities_b1_cu k) (cl := I_ParseQualities_cl k) (tys := [[51]]) (I_ParseQualities_ck k) (cutOK_of (l := [(I_ParseQualities_c40_cut k, sub (bodyOf Go.Proofs.Tryd.f29) [1, 1, 0, 1, 0, 0, 1, 1, 0, 0, 1, 1, 1, 1, 0, 1]), (I_ParseQualities_c71_cut k, sub (bodyOf Go.Proofs.Tryd.f29) [1, 1, 0, 1, 0, 0, 1, 1, 0, 0, 1, 1, 1, 1, 1, 1])]) (by kernel_rfl) ⟨I_ParseQualities_c40_ok k, I_ParseQualities_c71_ok k, trivial⟩) fun x Q R h => by
    simp only [I_ParseQualities_b1, optK_bind, optK_bif, optK_pure, optK_none, optK_oc, optK_guardT, optK_map] at h
    refine hold_of h ?_
    kernel_rfl
def I_ParseQualities_b0_L (x : Int × Int × (List IQuality) × (List (List UInt8)) × Unit) (o : (List IQuality)) (Q : Ex → VSt D → Prop) (R : VR D → Prop) : Prop := Q .normal (mkSt ⟨[(3, .ref 500003)], [(500003, .row)]⟩ [.sl 51 o])
def I_ParseQualities_b0_cut (k : Nat) : Cut D := cutS ⟨[(3, .ref 500003), (16, .ref 500016), (17, .hole), (18, .hole)], [(500003, .row), (500016, .row)]⟩ [.ki .i64, .ki .i64, .kl 51, .kl 9] (fun (x : Int × Int × (List IQuality) × (List (List UInt8)) × Unit) => I_ParseQualities_b0 k k x.1 x.2.1 x.2.2.1 x.2.2.2.1) I_ParseQualities_b0_L
def I_ParseQualities_b0_cu (k : Nat) : Cuts D := ⟨[(1, some (I_ParseQualities_b1_cut k))], []⟩
theorem I_ParseQualities_b0_ok (k : Nat) : CutFor X I_ParseQualities_pl k Go.Proofs.Tryd.f29.results.toList (I_ParseQualities_b0_cut k) (sub (bodyOf Go.Proofs.Tryd.f29) [1, 1, 0, 1]) :=
  loopCut_s (X := X) (sg := [.ki .i64, .ki .i64, .kl 51, .kl 9]) (cu := I_ParseQualities_b0_cu k) (cl := I_ParseQualities_cl k) (tys := [[51]]) (id := 0) (c := sub (bodyOf Go.Proofs.Tryd.f29) [1, 1, 0, 1, 0, 0]) (f := fun n => fun (x : Int × Int × (List IQuality) × (List (List UInt8)) × Unit) => I_ParseQualities_b0 k n x.1 x.2.1 x.2.2.1 x.2.2.2.1) (I_ParseQualities_ck k) (cutOK_of (l := [(I_ParseQualities_b1_cut k, sub (bodyOf Go.Proofs.Tryd.f29) [1, 1, 0, 1, 0, 0, 1, 1, 0])]) (by kernel_rfl) ⟨I_ParseQualities_b1_ok k, trivial⟩) (fun _ => rfl) (fun n x Q R h => by
    simp only [I_ParseQualities_b0, optK_bind, optK_bif, optK_pure, optK_none, optK_oc, optK_guardT, optK_map] at h
    refine hold_of h ?_
    kernel_rfl) (by kernel_rfl)
def I_ParseQualities_cu (k : Nat) : Cuts D := ⟨[(0, some (I_ParseQualities_b0_cut k))], []⟩
def I_ParseQualities_ar : List Ar := [.c (.ks)]
def I_ParseQualities_f (k : Nat) (x : TupA D I_ParseQualities_ar) : Option ((List IQuality)) := I_ParseQualities k x.1
def I_ParseQualities_vr (r : (List IQuality)) : VR D := .p (.c (.sl 51 r))
theorem I_ParseQualities_ok (k : Nat) : Does P X 29 I_ParseQualities_ar (I_ParseQualities_f k) I_ParseQualities_vr :=
  does_of (body := bodyOf Go.Proofs.Tryd.f29) (pl := I_ParseQualities_pl) (k := k) (cu := I_ParseQualities_cu k) (tys := [[51]]) (I_ParseQualities_ck k) ctx mixed Go.Proofs.Tryd.func29 (by kernel_rfl) (by kernel_rfl) (cutOK_of (l := [(I_ParseQualities_b0_cut k, sub (bodyOf Go.Proofs.Tryd.f29) [1, 1, 0, 1])]) (by kernel_rfl) ⟨I_ParseQualities_b0_ok k, trivial⟩) fun x R h => by
    simp only [I_ParseQualities_f, I_ParseQualities, optK_bind, optK_bif, optK_pure, optK_none, optK_oc, optK_guardT, optK_map] at h
    refine hold_of h ?_
    kernel_rfl
def I_ParseQualities_en (k : Nat) : Entry D := entS I_ParseQualities_ar (I_ParseQualities_f k) I_ParseQualities_vr
theorem I_ParseQualities_eo (k : Nat) : EntryOK X 29 (I_ParseQualities_en k) := (I_ParseQualities_ok k).en rfl
def I_QualityOf_pl : Plan := ⟨[(0, [(0, some 51), (1, none)]), (1, [(0, some 51), (10, some 9), (11, none), (12, none)]), (2, [(0, some 51), (10, some 9), (11, none), (12, none), (13, none)]), (3, [(0, some 51), (6, none), (10, some 9), (11, none), (12, none)]), (4, [(0, some 51), (6, none), (10, some 9), (11, none), (12, none), (16, some 51), (17, none), (18, none)]), (5, [(0, some 51), (6, none), (10, some 9), (11, none), (12, none), (16, some 51), (17, none), (18, none), (19, none)]), (6, [(0, some 51), (6, none), (8, none), (10, some 9), (11, none), (12, none), (16, some 51), (17, none), (18, none)]), (7, [(0, some 51), (6, none), (8, none), (10, some 9), (11, none), (12, none), (16, some 51), (17, none), (18, none), (25, none)]), (8, [(4, none)]), (9, [(0, some 51), (6, none), (10, some 9), (11, none), (12, none), (16, some 51), (17, none), (18, none)]), (10, [(0, some 51), (10, some 9), (11, none), (12, none)]), (11, [(4, none)])],
  [(0, []), (1, [(0, some 51), (10, some 9), (11, none), (12, none)]), (2, [(0, some 51), (10, some 9), (11, none), (12, none)]), (3, [(0, some 51), (6, none), (10, some 9), (11, none), (12, none), (16, some 51), (17, none), (18, none)])],
  [(13, ([(0, some 51), (10, some 9), (11, none), (12, none)], [])), (19, ([(0, some 51), (6, none), (10, some 9), (11, none), (12, none), (16, some 51), (17, none), (18, none)], [(0, some 51), (10, some 9), (11, none), (12, none)])), (25, ([(8, none)], [(0, some 51), (6, none), (10, some 9), (11, none), (12, none), (16, some 51), (17, none), (18, none)]))]⟩
def I_QualityOf_cl (k : Nat) : Calls' D := ⟨[], [], [], []⟩
theorem I_QualityOf_ck (k : Nat) : CallsOK X (I_QualityOf_cl k) := .nil cod
def I_QualityOf_b2_L (x : (List IQuality) × (List UInt8) × Int × Int × (List IQuality) × Int × Int × (List (List UInt8)) × Unit) (o : Oc (Unit) (Int)) (Q : Ex → VSt D → Prop) (R : VR D → Prop) : Prop := ocP o (fun v0 => Q .normal (mkSt ⟨[(0, .hole), (10, .ref 500010), (11, .hole), (12, .hole)], [(500010, .row)]⟩ [.sl 51 x.1, .int .i64 x.2.2.1, .int .i64 x.2.2.2.1, .sl 9 x.2.2.2.2.2.2.2.1])) (fun w0 => R (.p (.c (.int .i64 w0))))
def I_QualityOf_b2_cut (k : Nat) : Cut D := cutS ⟨[(0, .hole), (6, .hole), (10, .ref 500010), (11, .hole), (12, .hole), (16, .hole), (17, .hole), (18, .hole)], [(500010, .row)]⟩ [.kl 51, .ks, .ki .i64, .ki .i64, .kl 51, .ki .i64, .ki .i64, .kl 9] (fun (x : (List IQuality) × (List UInt8) × Int × Int × (List IQuality) × Int × Int × (List (List UInt8)) × Unit) => I_QualityOf_b2 k k x.1 x.2.1 x.2.2.1 x.2.2.2.1 x.2.2.2.2.1 x.2.2.2.2.2.1 x.2.2.2.2.2.2.1 x.2.2.2.2.2.2.2.1) I_QualityOf_b2_L
def I_QualityOf_b2_cu (k : Nat) : Cuts D := ⟨[], []⟩
theorem I_QualityOf_b2_ok (k : Nat) : CutFor X I_QualityOf_pl k Go.Proofs.Tryd.f34.results.toList (I_QualityOf_b2_cut k) (sub (bodyOf Go.Proofs.Tryd.f34) [1, 0, 1, 0, 0, 1, 1, 0, 0, 1, 1]) :=
  loopCut_s (X := X) (sg := [.kl 51, .ks, .ki .i64, .ki .i64, .kl 51, .ki .i64, .ki .i64, .kl 9]) (cu := I_QualityOf_b2_cu k) (cl := I_QualityOf_cl k) (tys := [[0]]) (id := 2) (c := sub (bodyOf Go.Proofs.Tryd.f34) [1, 0, 1, 0, 0, 1, 1, 0, 0, 1, 1, 0, 0]) (f := fun n => fun (x : (List IQuality) × (List UInt8) × Int × Int × (List IQuality) × Int × Int × (List (List UInt8)) × Unit) => I_QualityOf_b2 k n x.1 x.2.1 x.2.2.1 x.2.2.2.1 x.2.2.2.2.1 x.2.2.2.2.2.1 x.2.2.2.2.2.2.1 x.2.2.2.2.2.2.2.1) (I_QualityOf_ck k) (cutOK_of (l := []) (by kernel_rfl) trivial) (fun _ => rfl) (fun n x Q R h => by
    simp only [I_QualityOf_b2, optK_bind, optK_bif, optK_pure, optK_none, optK_oc, optK_guardT, optK_map] at h
    refine hold_of h ?_
    kernel_rfl) (by kernel_rfl)
def I_QualityOf_b0_L (x : (List IQuality) × Int × Int × (List (List UInt8)) × Unit) (o : Oc (Unit) (Int)) (Q : Ex → VSt D → Prop) (R : VR D → Prop) : Prop := ocP o (fun v0 => Q .normal (mkSt ⟨[], []⟩ [])) (fun w0 => R (.p (.c (.int .i64 w0))))
def I_QualityOf_b0_cut (k : Nat) : Cut D := cutS ⟨[(0, .hole), (10, .ref 500010), (11, .hole), (12, .hole)], [(500010, .row)]⟩ [.kl 51, .ki .i64, .ki .i64, .kl 9] (fun (x : (List IQuality) × Int × Int × (List (List UInt8)) × Unit) => I_QualityOf_b0 k k x.1 x.2.1 x.2.2.1 x.2.2.2.1) I_QualityOf_b0_L
def I_QualityOf_b0_cu (k : Nat) : Cuts D := ⟨[(2, some (I_QualityOf_b2_cut k))], []⟩
theorem I_QualityOf_b0_ok (k : Nat) : CutFor X I_QualityOf_pl k Go.Proofs.Tryd.f34.results.toList (I_QualityOf_b0_cut k) (sub (bodyOf Go.Proofs.Tryd.f34) [1, 0, 1]) :=
  loopCut_s (X := X) (sg := [.kl 51, .ki .i64, .ki .i64, .kl 9]) (cu := I_QualityOf_b0_cu k) (cl := I_QualityOf_cl k) (tys := [[0]]) (id := 0) (c := sub (bodyOf Go.Proofs.Tryd.f34) [1, 0, 1, 0, 0]) (f := fun n => fun (x : (List IQuality) × Int × Int × (List (List UInt8)) × Unit) => I_QualityOf_b0 k n x.1 x.2.1 x.2.2.1 x.2.2.2.1) (I_QualityOf_ck k) (cutOK_of (l := [(I_QualityOf_b2_cut k, sub (bodyOf Go.Proofs.Tryd.f34) [1, 0, 1, 0, 0, 1, 1, 0, 0, 1, 1])]) (by kernel_rfl) ⟨I_QualityOf_b2_ok k, trivial⟩) (fun _ => rfl) (fun n x Q R h => by
    simp only [I_QualityOf_b0, optK_bind, optK_bif, optK_pure, optK_none, optK_oc, optK_guardT, optK_map] at h
    refine hold_of h ?_
    kernel_rfl) (by kernel_rfl)
def I_QualityOf_cu (k : Nat) : Cuts D := ⟨[(0, some (I_QualityOf_b0_cut k))], []⟩
def I_QualityOf_ar : List Ar := [.c (.kl 51), .c (.ks)]
def I_QualityOf_f (k : Nat) (x : TupA D I_QualityOf_ar) : Option (Int) := I_QualityOf k x.1 x.2.1
def I_QualityOf_vr (r : Int) : VR D := .p (.c (.int .i64 r))
theorem I_QualityOf_ok (k : Nat) : Does P X 34 I_QualityOf_ar (I_QualityOf_f k) I_QualityOf_vr :=
  does_of (body := bodyOf Go.Proofs.Tryd.f34) (pl := I_QualityOf_pl) (k := k) (cu := I_QualityOf_cu k) (tys := [[0]]) (I_QualityOf_ck k) ctx mixed Go.Proofs.Tryd.func34 (by kernel_rfl) (by kernel_rfl) (cutOK_of (l := [(I_QualityOf_b0_cut k, sub (bodyOf Go.Proofs.Tryd.f34) [1, 0, 1])]) (by kernel_rfl) ⟨I_QualityOf_b0_ok k, trivial⟩) fun x R h => by
    simp only [I_QualityOf_f, I_QualityOf, optK_bind, optK_bif, optK_pure, optK_none, optK_oc, optK_guardT, optK_map] at h
    refine hold_of h ?_
    kernel_rfl
def I_QualityOf_en (k : Nat) : Entry D := entS I_QualityOf_ar (I_QualityOf_f k) I_QualityOf_vr
theorem I_QualityOf_eo (k : Nat) : EntryOK X 34 (I_QualityOf_en k) := (I_QualityOf_ok k).en rfl
def I_ChooseName_pl : Plan := ⟨[(0, [(0, some 9), (1, none)]), (1, [(0, some 9), (5, some 51)]), (2, [(0, some 9), (5, some 51), (6, none)]), (3, [(5, some 51), (6, none), (11, some 9), (12, none), (13, none)]), (4, [(5, some 51), (6, none), (11, some 9), (12, none), (13, none), (14, none)]), (5, [(5, some 51), (6, none), (7, none), (8, none), (11, some 9), (12, none), (13, none)]), (6, [(5, some 51), (6, none), (8, none), (11, some 9), (12, none), (13, none), (28, none)]), (7, [(5, some 51), (6, none), (11, some 9), (12, none), (13, none)]), (8, [(5, some 51), (6, none), (11, some 9), (12, none), (13, none)]), (9, [(4, none)])],
  [(0, [(6, none)]), (1, [(5, some 51), (6, none), (11, some 9), (12, none), (13, none)])],
  [(14, ([(5, some 51), (6, none), (11, some 9), (12, none), (13, none)], [(6, none)])), (28, ([(5, some 51), (8, none), (11, some 9), (12, none), (13, none)], [(5, some 51), (6, none), (11, some 9), (12, none), (13, none)]))]⟩
def I_ChooseName_cl (k : Nat) : Calls' D := ⟨[(29, I_ParseQualities_en k), (34, I_QualityOf_en k)], [], [], []⟩
theorem I_ChooseName_ck (k : Nat) : CallsOK X (I_ChooseName_cl k) := .cons (I_ParseQualities_eo k) (.cons (I_QualityOf_eo k) (.nil cod))
def I_ChooseName_c28_L (x : (List UInt8) × (List UInt8) × (List (List UInt8)) × Int × Int × Bool × (List IQuality) × Unit) (o : (List UInt8)) (Q : Ex → VSt D → Prop) (R : VR D → Prop) : Prop := Q .normal (mkSt ⟨[(5, .ref 500005), (6, .hole), (11, .hole), (12, .hole), (13, .hole)], [(500005, .row)]⟩ [.str o, .sl 9 x.2.2.1, .int .i64 x.2.2.2.1, .int .i64 x.2.2.2.2.1, .sl 51 x.2.2.2.2.2.2.1])
def I_ChooseName_c28_cut (k : Nat) : Cut D := cutS ⟨[(5, .ref 500005), (6, .hole), (8, .hole), (11, .hole), (12, .hole), (13, .hole), (28, .hole)], [(500005, .row)]⟩ [.ks, .ks, .kl 9, .ki .i64, .ki .i64, .kb, .kl 51] (fun (x : (List UInt8) × (List UInt8) × (List (List UInt8)) × Int × Int × Bool × (List IQuality) × Unit) => I_ChooseName_c28 k x.1 x.2.1 x.2.2.1 x.2.2.2.1 x.2.2.2.2.1 x.2.2.2.2.2.1 x.2.2.2.2.2.2.1) I_ChooseName_c28_L
def I_ChooseName_c28_cu (k : Nat) : Cuts D := ⟨[], []⟩
theorem I_ChooseName_c28_ok (k : Nat) : CutFor X I_ChooseName_pl k Go.Proofs.Tryd.f33.results.toList (I_ChooseName_c28_cut k) (sub (bodyOf Go.Proofs.Tryd.f33) [1, 1, 1, 0, 1, 0, 0, 1, 1, 0, 0, 1, 1]) :=
  joinCut_s (X := X) (sg := [.ks, .ks, .kl 9, .ki .i64, .ki .i64, .kb, .kl 51]) (cu := I_ChooseName_c28_cu k) (cl := I_ChooseName_cl k) (tys := [[0]]) (I_ChooseName_ck k) (cutOK_of (l := []) (by kernel_rfl) trivial) fun x Q R h => by
    simp only [I_ChooseName_c28, optK_bind, optK_bif, optK_pure, optK_none, optK_oc, optK_guardT, optK_map] at h
    refine hold_of h ?_
    kernel_rfl
def I_ChooseName_b1_L (x : (List UInt8) × (List (List UInt8)) × Int × Int × (List IQuality) × Unit) (o : (List UInt8)) (Q : Ex → VSt D → Prop) (R : VR D → Prop) : Prop := Q .normal (mkSt ⟨[(5, .ref 500005), (6, .hole), (11, .hole), (12, .hole), (13, .hole)], [(500005, .row)]⟩ [.str o, .sl 9 x.2.1, .int .i64 x.2.2.1, .int .i64 x.2.2.2.1, .sl 51 x.2.2.2.2.1])
def I_ChooseName_b1_cut (k : Nat) : Cut D := cutS ⟨[(5, .ref 500005), (6, .hole), (11, .hole), (12, .hole), (13, .hole)], [(500005, .row)]⟩ [.ks, .kl 9, .ki .i64, .ki .i64, .kl 51] (fun (x : (List UInt8) × (List (List UInt8)) × Int × Int × (List IQuality) × Unit) => I_ChooseName_b1 k x.1 x.2.1 x.2.2.1 x.2.2.2.1 x.2.2.2.2.1) I_ChooseName_b1_L
def I_ChooseName_b1_cu (k : Nat) : Cuts D := ⟨[], [(28, some (I_ChooseName_c28_cut k))]⟩
theorem I_ChooseName_b1_ok (k : Nat) : CutFor X I_ChooseName_pl k Go.Proofs.Tryd.f33.results.toList (I_ChooseName_b1_cut k) (sub (bodyOf Go.Proofs.Tryd.f33) [1, 1, 1, 0, 1, 0, 0, 1, 1, 0]) :=
  joinCut_s (X := X) (sg := [.ks, .kl 9, .ki .i64, .ki .i64, .kl 51]) (cu := I_ChooseName_b1_cu k) (cl := I_ChooseName_cl k) (tys := [[0]]) (I_ChooseName_ck k) (cutOK_of (l := [(I_ChooseName_c28_cut k, sub (bodyOf Go.Proofs.Tryd.f33) [1, 1, 1, 0, 1, 0, 0, 1, 1, 0, 0, 1, 1])]) (by kernel_rfl) ⟨I_ChooseName_c28_ok k, trivial⟩) fun x Q R h => by
    simp only [I_ChooseName_b1, optK_bind, optK_bif, optK_pure, optK_none, optK_oc, optK_guardT, optK_map] at h
    refine hold_of h ?_
    kernel_rfl
def I_ChooseName_b0_L (x : (List UInt8) × (List (List UInt8)) × Int × Int × (List IQuality) × Unit) (o : (List UInt8)) (Q : Ex → VSt D → Prop) (R : VR D → Prop) : Prop := Q .normal (mkSt ⟨[(6, .hole)], []⟩ [.str o])
def I_ChooseName_b0_cut (k : Nat) : Cut D := cutS ⟨[(5, .ref 500005), (6, .hole), (11, .hole), (12, .hole), (13, .hole)], [(500005, .row)]⟩ [.ks, .kl 9, .ki .i64, .ki .i64, .kl 51] (fun (x : (List UInt8) × (List (List UInt8)) × Int × Int × (List IQuality) × Unit) => I_ChooseName_b0 k k x.1 x.2.1 x.2.2.1 x.2.2.2.1 x.2.2.2.2.1) I_ChooseName_b0_L
def I_ChooseName_b0_cu (k : Nat) : Cuts D := ⟨[(1, some (I_ChooseName_b1_cut k))], []⟩
theorem I_ChooseName_b0_ok (k : Nat) : CutFor X I_ChooseName_pl k Go.Proofs.Tryd.f33.results.toList (I_ChooseName_b0_cut k) (sub (bodyOf Go.Proofs.Tryd.f33) [1, 1, 1, 0, 1]) :=
  loopCut_s (X := X) (sg := [.ks, .kl 9, .ki .i64, .ki .i64, .kl 51]) (cu := I_ChooseName_b0_cu k) (cl := I_ChooseName_cl k) (tys := [[0]]) (id := 0) (c := sub (bodyOf Go.Proofs.Tryd.f33) [1, 1, 1, 0, 1, 0, 0]) (f := fun n => fun (x : (List UInt8) × (List (List UInt8)) × Int × Int × (List IQuality) × Unit) => I_ChooseName_b0 k n x.1 x.2.1 x.2.2.1 x.2.2.2.1 x.2.2.2.2.1) (I_ChooseName_ck k) (cutOK_of (l := [(I_ChooseName_b1_cut k, sub (bodyOf Go.Proofs.Tryd.f33) [1, 1, 1, 0, 1, 0, 0, 1, 1, 0])]) (by kernel_rfl) ⟨I_ChooseName_b1_ok k, trivial⟩) (fun _ => rfl) (fun n x Q R h => by
    simp only [I_ChooseName_b0, optK_bind, optK_bif, optK_pure, optK_none, optK_oc, optK_guardT, optK_map] at h
    refine hold_of h ?_
    kernel_rfl) (by kernel_rfl)
def I_ChooseName_cu (k : Nat) : Cuts D := ⟨[(0, some (I_ChooseName_b0_cut k))], []⟩
def I_ChooseName_ar : List Ar := [.c (.kl 9), .c (.ks)]
def I_ChooseName_f (k : Nat) (x : TupA D I_ChooseName_ar) : Option ((List UInt8)) := I_ChooseName k x.1 x.2.1
def I_ChooseName_vr (r : (List UInt8)) : VR D := .p (.c (.str r))
theorem I_ChooseName_ok (k : Nat) : Does P X 33 I_ChooseName_ar (I_ChooseName_f k) I_ChooseName_vr :=
  does_of (body := bodyOf Go.Proofs.Tryd.f33) (pl := I_ChooseName_pl) (k := k) (cu := I_ChooseName_cu k) (tys := [[0]]) (I_ChooseName_ck k) ctx mixed Go.Proofs.Tryd.func33 (by kernel_rfl) (by kernel_rfl) (cutOK_of (l := [(I_ChooseName_b0_cut k, sub (bodyOf Go.Proofs.Tryd.f33) [1, 1, 1, 0, 1])]) (by kernel_rfl) ⟨I_ChooseName_b0_ok k, trivial⟩) fun x R h => by
    simp only [I_ChooseName_f, I_ChooseName, optK_bind, optK_bif, optK_pure, optK_none, optK_oc, optK_guardT, optK_map] at h
    refine hold_of h ?_
    kernel_rfl
def I_ChooseName_en (k : Nat) : Entry D := entS I_ChooseName_ar (I_ChooseName_f k) I_ChooseName_vr
theorem I_ChooseName_eo (k : Nat) : EntryOK X 33 (I_ChooseName_en k) := (I_ChooseName_ok k).en rfl
def L_FnSelecting_pl : Plan := ⟨[(0, [(0, some 5)]), (1, [(0, some 5), (16, none)]), (2, [(2, none)]), (3, [(0, some 5), (3, none), (4, some 9)]), (4, [(0, some 5), (3, none), (4, some 9), (5, some 79)]), (5, [(3, none), (4, some 9), (5, some 79), (6, some 79)]), (6, [(3, none), (4, some 9), (5, some 79), (7, some 9), (8, none)]), (7, [(3, none), (4, some 9), (5, some 79), (7, some 9), (8, none), (9, none)]), (8, [(3, none), (4, some 9), (5, some 79), (7, some 9), (8, none), (9, none), (35, none)]), (9, [(3, none), (4, some 9), (5, some 79), (7, some 9), (8, none), (9, none)]), (10, [(3, none), (4, some 9), (5, some 79), (7, some 9), (8, none), (9, none), (10, none)]), (11, [(3, none), (4, some 9), (5, some 79), (7, some 9), (8, none), (9, none), (10, none), (40, none)]), (12, [(3, none), (4, some 9), (5, some 79), (7, some 9), (8, none), (9, none), (10, none)]), (13, [(3, none), (4, some 9), (5, some 79), (7, some 9), (8, none), (9, none), (10, none), (51, none)]), (14, [(2, none)]), (15, [(3, none), (4, some 9), (5, some 79), (7, some 9), (8, none), (11, some 9)]), (16, [(3, none), (4, some 9), (5, some 79), (7, some 9), (8, none), (11, some 9), (12, none)]), (17, [(3, none), (4, some 9), (5, some 79), (7, some 9), (8, none), (11, some 9), (12, none), (14, some 79)]), (18, [(2, none)])],
  [(0, [(3, none), (4, some 9), (5, some 79), (7, some 9), (8, none)]), (1, [(3, none), (4, some 9), (5, some 79), (7, some 9), (8, none), (9, none)]), (2, [(3, none), (4, some 9), (5, some 79), (7, some 9), (8, none), (9, none)]), (3, [(3, none), (4, some 9), (5, some 79), (7, some 9), (8, none), (9, none), (10, none)])],
  [(16, ([], [(0, some 5)])), (35, ([(3, none), (4, some 9), (5, some 79), (7, some 9), (8, none), (9, none)], [(3, none), (4, some 9), (5, some 79), (7, some 9), (8, none)])), (40, ([(3, none), (4, some 9), (5, some 79), (7, some 9), (8, none), (9, none), (10, none)], [(3, none), (4, some 9), (5, some 79), (7, some 9), (8, none), (9, none)])), (51, ([], [(3, none), (4, some 9), (5, some 79), (7, some 9), (8, none), (9, none), (10, none)]))]⟩
def L_FnSelecting_cl (k : Nat) : Calls' D := ⟨[(28, L_big_en k), (54, S_DrawSelectingOf_en k), (55, I_SelectingOf_en k), (56, S_DrawVaryOf_en k), (38, I_VaryOf_en k), (57, I_GetField_en k), (25, I_Agrees_en k), (33, I_ChooseName_en k)], [], [], []⟩
theorem L_FnSelecting_ck (k : Nat) : CallsOK X (L_FnSelecting_cl k) := .cons (L_big_eo k) (.cons (S_DrawSelectingOf_eo k) (.cons (I_SelectingOf_eo k) (.cons (S_DrawVaryOf_eo k) (.cons (I_VaryOf_eo k) (.cons (I_GetField_eo k) (.cons (I_Agrees_eo k) (.cons (I_ChooseName_eo k) (.nil cod))))))))
def L_FnSelecting_b2_L (x : Bool × Int × Int × (List UInt8) × (List UInt8) × (List UInt8) × (List IField) × (List (List UInt8)) × (List IField) × (List (List UInt8)) × Unit) (o : Oc (Unit) (Bool)) (Q : Ex → VSt D → Prop) (R : VR D → Prop) : Prop := ocP o (fun v0 => Q .normal (mkSt ⟨[(3, .ptr 3 0), (4, .ref 500004), (5, .ref 500005), (7, .ref 500007), (8, .hole), (9, .hole)], [(3, .var [.hole, .hole, .hole, .ref 100000303]), (100000303, .row), (500004, .row), (500005, .row), (500007, .row)]⟩ [.bool x.1, .int .i64 x.2.1, .str x.2.2.2.1, .str x.2.2.2.2.1, .str x.2.2.2.2.2.1, .sl 79 x.2.2.2.2.2.2.1, .sl 9 x.2.2.2.2.2.2.2.1, .sl 79 x.2.2.2.2.2.2.2.2.1, .sl 9 x.2.2.2.2.2.2.2.2.2.1])) (fun w0 => R (.p (.c (.bool w0))))
def L_FnSelecting_b2_cut (k : Nat) : Cut D := cutS ⟨[(3, .ptr 3 0), (4, .ref 500004), (5, .ref 500005), (7, .ref 500007), (8, .hole), (9, .hole), (10, .hole)], [(3, .var [.hole, .hole, .hole, .ref 100000303]), (100000303, .row), (500004, .row), (500005, .row), (500007, .row)]⟩ [.kb, .ki .i64, .ki .i64, .ks, .ks, .ks, .kl 79, .kl 9, .kl 79, .kl 9] (fun (x : Bool × Int × Int × (List UInt8) × (List UInt8) × (List UInt8) × (List IField) × (List (List UInt8)) × (List IField) × (List (List UInt8)) × Unit) => L_FnSelecting_b2 k k x.1 x.2.1 x.2.2.1 x.2.2.2.1 x.2.2.2.2.1 x.2.2.2.2.2.1 x.2.2.2.2.2.2.1 x.2.2.2.2.2.2.2.1 x.2.2.2.2.2.2.2.2.1 x.2.2.2.2.2.2.2.2.2.1) L_FnSelecting_b2_L
def L_FnSelecting_b2_cu (k : Nat) : Cuts D := ⟨[], []⟩
theorem L_FnSelecting_b2_ok (k : Nat) : CutFor X L_FnSelecting_pl k Go.Proofs.Tryd.f12.results.toList (L_FnSelecting_b2_cut k) (sub (bodyOf Go.Proofs.Tryd.f12) [1, 1, 1, 1, 1, 1, 0, 1, 0, 0, 1, 0, 0, 1]) :=
  loopCut_s (X := X) (sg := [.kb, .ki .i64, .ki .i64, .ks, .ks, .ks, .kl 79, .kl 9, .kl 79, .kl 9]) (cu := L_FnSelecting_b2_cu k) (cl := L_FnSelecting_cl k) (tys := [[0]]) (id := 2) (c := sub (bodyOf Go.Proofs.Tryd.f12) [1, 1, 1, 1, 1, 1, 0, 1, 0, 0, 1, 0, 0, 1, 0, 0]) (f := fun n => fun (x : Bool × Int × Int × (List UInt8) × (List UInt8) × (List UInt8) × (List IField) × (List (List UInt8)) × (List IField) × (List (List UInt8)) × Unit) => L_FnSelecting_b2 k n x.1 x.2.1 x.2.2.1 x.2.2.2.1 x.2.2.2.2.1 x.2.2.2.2.2.1 x.2.2.2.2.2.2.1 x.2.2.2.2.2.2.2.1 x.2.2.2.2.2.2.2.2.1 x.2.2.2.2.2.2.2.2.2.1) (L_FnSelecting_ck k) (cutOK_of (l := []) (by kernel_rfl) trivial) (fun _ => rfl) (fun n x Q R h => by
    simp only [L_FnSelecting_b2, optK_bind, optK_bif, optK_pure, optK_none, optK_oc, optK_guardT, optK_map] at h
    refine hold_of h ?_
    kernel_rfl) (by kernel_rfl)
def L_FnSelecting_b0_L (x : Bool × Int × (List UInt8) × (List UInt8) × (List UInt8) × (List IField) × (List (List UInt8)) × (List IField) × (List (List UInt8)) × Unit) (o : Oc (Unit) (Bool)) (Q : Ex → VSt D → Prop) (R : VR D → Prop) : Prop := ocP o (fun v0 => Q .normal (mkSt ⟨[(3, .ptr 3 0), (4, .ref 500004), (5, .ref 500005), (7, .ref 500007), (8, .hole)], [(3, .var [.hole, .hole, .hole, .ref 100000303]), (100000303, .row), (500004, .row), (500005, .row), (500007, .row)]⟩ [.bool x.1, .str x.2.2.1, .str x.2.2.2.1, .str x.2.2.2.2.1, .sl 79 x.2.2.2.2.2.1, .sl 9 x.2.2.2.2.2.2.1, .sl 79 x.2.2.2.2.2.2.2.1, .sl 9 x.2.2.2.2.2.2.2.2.1])) (fun w0 => R (.p (.c (.bool w0))))
def L_FnSelecting_b0_cut (k : Nat) : Cut D := cutS ⟨[(3, .ptr 3 0), (4, .ref 500004), (5, .ref 500005), (7, .ref 500007), (8, .hole), (9, .hole)], [(3, .var [.hole, .hole, .hole, .ref 100000303]), (100000303, .row), (500004, .row), (500005, .row), (500007, .row)]⟩ [.kb, .ki .i64, .ks, .ks, .ks, .kl 79, .kl 9, .kl 79, .kl 9] (fun (x : Bool × Int × (List UInt8) × (List UInt8) × (List UInt8) × (List IField) × (List (List UInt8)) × (List IField) × (List (List UInt8)) × Unit) => L_FnSelecting_b0 k k x.1 x.2.1 x.2.2.1 x.2.2.2.1 x.2.2.2.2.1 x.2.2.2.2.2.1 x.2.2.2.2.2.2.1 x.2.2.2.2.2.2.2.1 x.2.2.2.2.2.2.2.2.1) L_FnSelecting_b0_L
def L_FnSelecting_b0_cu (k : Nat) : Cuts D := ⟨[(2, some (L_FnSelecting_b2_cut k))], []⟩
theorem L_FnSelecting_b0_ok (k : Nat) : CutFor X L_FnSelecting_pl k Go.Proofs.Tryd.f12.results.toList (L_FnSelecting_b0_cut k) (sub (bodyOf Go.Proofs.Tryd.f12) [1, 1, 1, 1, 1, 1, 0, 1]) :=
  loopCut_s (X := X) (sg := [.kb, .ki .i64, .ks, .ks, .ks, .kl 79, .kl 9, .kl 79, .kl 9]) (cu := L_FnSelecting_b0_cu k) (cl := L_FnSelecting_cl k) (tys := [[0]]) (id := 0) (c := sub (bodyOf Go.Proofs.Tryd.f12) [1, 1, 1, 1, 1, 1, 0, 1, 0, 0]) (f := fun n => fun (x : Bool × Int × (List UInt8) × (List UInt8) × (List UInt8) × (List IField) × (List (List UInt8)) × (List IField) × (List (List UInt8)) × Unit) => L_FnSelecting_b0 k n x.1 x.2.1 x.2.2.1 x.2.2.2.1 x.2.2.2.2.1 x.2.2.2.2.2.1 x.2.2.2.2.2.2.1 x.2.2.2.2.2.2.2.1 x.2.2.2.2.2.2.2.2.1) (L_FnSelecting_ck k) (cutOK_of (l := [(L_FnSelecting_b2_cut k, sub (bodyOf Go.Proofs.Tryd.f12) [1, 1, 1, 1, 1, 1, 0, 1, 0, 0, 1, 0, 0, 1])]) (by kernel_rfl) ⟨L_FnSelecting_b2_ok k, trivial⟩) (fun _ => rfl) (fun n x Q R h => by
    simp only [L_FnSelecting_b0, optK_bind, optK_bif, optK_pure, optK_none, optK_oc, optK_guardT, optK_map] at h
    refine hold_of h ?_
    kernel_rfl) (by kernel_rfl)
def L_FnSelecting_cu (k : Nat) : Cuts D := ⟨[(0, some (L_FnSelecting_b0_cut k))], []⟩
def L_FnSelecting_ar : List Ar := [.c (.kl 5)]
def L_FnSelecting_f (k : Nat) (x : TupA D L_FnSelecting_ar) : Option (Bool) := L_FnSelecting k x.1
def L_FnSelecting_vr (r : Bool) : VR D := .p (.c (.bool r))
theorem L_FnSelecting_ok (k : Nat) : Does P X 12 L_FnSelecting_ar (L_FnSelecting_f k) L_FnSelecting_vr :=
  does_of (body := bodyOf Go.Proofs.Tryd.f12) (pl := L_FnSelecting_pl) (k := k) (cu := L_FnSelecting_cu k) (tys := [[0]]) (L_FnSelecting_ck k) ctx mixed Go.Proofs.Tryd.func12 (by kernel_rfl) (by kernel_rfl) (cutOK_of (l := [(L_FnSelecting_b0_cut k, sub (bodyOf Go.Proofs.Tryd.f12) [1, 1, 1, 1, 1, 1, 0, 1])]) (by kernel_rfl) ⟨L_FnSelecting_b0_ok k, trivial⟩) fun x R h => by
    simp only [L_FnSelecting_f, L_FnSelecting, optK_bind, optK_bif, optK_pure, optK_none, optK_oc, optK_guardT, optK_map] at h
    refine hold_of h ?_
    kernel_rfl
def L_FnSelecting_en (k : Nat) : Entry D := entS L_FnSelecting_ar (L_FnSelecting_f k) L_FnSelecting_vr
theorem L_FnSelecting_eo (k : Nat) : EntryOK X 12 (L_FnSelecting_en k) := (L_FnSelecting_ok k).en rfl

end
end Go.YtgdjicnefdnofaaDoor
