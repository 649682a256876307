/- Plain lemmas and definitions. Nothing is claimed here. -/
import Derived.Test.YtnidlohhndpjdaaGreatDoorPv29
import Derived.HandedShaped
import Derived.WalkKit
import Derived.ProofKit
import Derived.OpenShut
import Derived.ChangeOld
import Derived.ChangeArms
import Derived.WideKeyArgs
import Derived.SizedLaws
set_option linter.unusedSimpArgs false
set_option linter.unusedVariables false
namespace Go.Pv
open Go Go.RowKit Go.ChangeShapes Go.WideShapes
def fldSg (f : Nat → Option (List Sg)) (C : Ctx) : List (Nat × Nat) → Nat → Option (List Sg)
 | [], _ => some []
 | (o, t) :: r, k => bif Nat.beq o k then
     match f t, fldSg f C r (k + (C.i t).size) with
     | some a, some b => some (a ++ b)
     | _, _ => none
  else none
def tySg (C : Ctx) (els : List Nat) : Nat → Nat → Option (List Sg)
 | 0, _ => none
 | n + 1, t =>
  match (C.i t).kind with
  | 1 => some [.ks]
  | 5 => some [.kb]
  | 10 => some [.ki .i64]
  | 15 => some [.ki .u8]
  | 2 => bif memN (C.i t).elem els && Nat.ble 1 (C.i (C.i t).elem).size then some [.kl (C.i t).elem] else none
  | 3 => bif Nat.beq (((C.i t).fields.map fun p => (C.i p.2).size).sum) (C.i t).size then fldSg (tySg C els n) C (C.i t).fields 0 else none
  | _ => none
section
variable {D : Nat → Type} {X : CT D}
def VV (X : CT D) : Nat → V D → Prop
 | 0, _ => True
 | _ + 1, .int k n => (Lit.int k n).wf = true
 | _ + 1, .str s => s.length ≤ 9223372036854775807
 | d + 1, .sl ty l => l.length ≤ 9223372036854775807 ∧ ∀ x ∈ l, ∀ v ∈ X.E ty x, VV X d v
 | _ + 1, _ => True
def ElOK (X : CT D) (els : List Nat) (e : Nat) : Prop := ∃ sg, tySg X.C els 5 e = some sg ∧ ∀ x : Tup D sg, ∃ y, X.dec e (mkTp sg x) = some y ∧ X.E e y = mkTp sg x
def Cells (w : World) (cs : List Value) (ts : List T) : Prop := cs.length = ts.length ∧ ∀ (i : Nat) v t, cs[i]? = some v → ts[i]? = some t → Reads w (fun b => b < w.heap.size) v t
theorem Cells.append {w : World} {a b : List Value} {x y : List T} (h : Cells w a x) (k : Cells w b y) : Cells w (a ++ b) (x ++ y) := by
 refine ⟨by simp [h.1, k.1], fun i v t h1 h2 => ?_⟩
 by_cases hi : i < a.length
 ·rw [List.getElem?_append_left hi] at h1
  rw [List.getElem?_append_left (by rw [← h.1]; exact hi)] at h2
  exact h.2 i v t h1 h2
 ·rw [List.getElem?_append_right (by omega)] at h1
  rw [List.getElem?_append_right (by rw [← h.1]; omega), ← h.1] at h2
  exact k.2 _ v t h1 h2
theorem mkTp_append : ∀ (a b : List Sg) (x : Tup D a) (y : Tup D b), ∃ z : Tup D (a ++ b), mkTp (a ++ b) z = mkTp a x ++ mkTp b y
 | [], _, _, y => ⟨y, rfl⟩
 | s :: a, b, x, y => by
  obtain ⟨z, hz⟩ := mkTp_append a b x.2 y
  exact ⟨(x.1, z), by simp only [mkTp, List.cons_append, List.append_eq, hz]⟩
theorem choose_list {α : Type} {Q : Nat → α → Prop} : ∀ (n : Nat), (∀ i, i < n → ∃ y, Q i y) → ∃ l : List α, l.length = n ∧ ∀ i y, l[i]? = some y → Q i y
 | 0, _ => ⟨[], rfl, fun i y h => by simp at h⟩
 | n + 1, h => by
  obtain ⟨l, hl, hq⟩ := choose_list (Q := Q) n fun i hi => h i (by omega)
  obtain ⟨y, hy⟩ := h n (by omega)
  refine ⟨l ++ [y], by simp [hl], fun i z hz => ?_⟩
  by_cases hi : i < n
  ·rw [List.getElem?_append_left (by omega)] at hz; exact hq i z hz
  ·rw [List.getElem?_append_right (by omega)] at hz
   have : i - l.length = 0 := by
    have := (List.getElem?_eq_some_iff.1 hz).1
    simp at this; omega
   rw [this] at hz
   simp at hz
   subst hz
   have : i = n := by omega
   subst this; exact hy
variable {P : Program} {H : Type} {enc : TypeId × Value → H} {w : World} {els : List Nat}
theorem TFact.cellsOf {i : TInfo} {t : Nat} (f : TFact P t i) : P.cellsOf t = i.size := by
 obtain ⟨d, h1, h2, _⟩ := f.info
 simp [Program.cellsOf, h1, h2]
theorem tySg_kind {C : Ctx} {n t : Nat} {sg : List Sg} (h : tySg C els n t = some sg) : 1 ≤ (C.i t).kind := by
 cases n with
 | zero => cases h
 | succ n =>
  simp only [tySg] at h
  split at h <;> first | omega | cases h
theorem fld_open {fuel : Nat} {f : Nat → Option (List Sg)} (ih : ∀ t sg cs z, f t = some sg → DataW.trod enc P w 0 (fun _ => true) true fuel t cs = some z → ∃ x : Tup D sg, Cells w cs ((mkTp sg x).map X.er) ∧ (∀ v ∈ mkTp sg x, ∀ d, VV X d v))
    {cs : List Value} : ∀ (fs : List (Nat × Nat)) (k : Nat) (sg : List Sg), fldSg f X.C fs k = some sg → (∀ (i o t : Nat) sg', fs[i]? = some (o, t) → f t = some sg' → ∃ z, DataW.trod enc P w 0 (fun _ => true) true fuel t ((cs.drop o).take (X.C.i t).size) = some z) →
    ∃ (x : Tup D sg), Cells w ((cs.drop k).take (fs.map fun p => (X.C.i p.2).size).sum) ((mkTp sg x).map X.er) ∧ (∀ v ∈ mkTp sg x, ∀ d, VV X d v)
 | [], k, sg, h, _ => by
  simp only [fldSg, Option.some.injEq] at h
  subst h
  exact ⟨(), ⟨by simp [mkTp], fun i v t h => by simp at h⟩, fun v hv => by simp [mkTp] at hv⟩
 | (o, t) :: r, k, sg, h, hz => by
  simp only [fldSg] at h
  cases hb : Nat.beq o k with
  | false => rw [hb] at h; cases h
  | true =>
   rw [hb] at h
   have := beqN hb; subst this
   simp only [cond_true] at h
   split at h
   ·rename_i a b h1 h2
    simp only [Option.some.injEq] at h
    subst h
    obtain ⟨z, hz0⟩ := hz 0 o t a rfl h1
    obtain ⟨x, c1, v1⟩ := ih t a _ z h1 hz0
    obtain ⟨y, c2, v2⟩ := fld_open ih r (o + (X.C.i t).size) b h2 fun i o' t' sg' h h' => hz (i + 1) o' t' sg' h h'
    obtain ⟨q, hq⟩ := mkTp_append a b x y
    refine ⟨q, ?_, fun v hv => ?_⟩
    ·rw [hq, List.map_append, List.map_cons, List.sum_cons, List.take_add, List.drop_drop]
     exact c1.append c2
    ·rw [hq] at hv
     rcases List.mem_append.1 hv with h | h
     ·exact v1 v h
     ·exact v2 v h
   ·cases h
theorem opens (K : CtxOK P X.C) (cod : CodOK X) (hE : ∀ e ∈ els, ElOK X els e) : ∀ (fuel n t : Nat) (sg : List Sg) (cs : List Value) (z : DataW H × List MemPlace), tySg X.C els n t = some sg → DataW.trod enc P w 0 (fun _ => true) true fuel t cs = some z →
    ∃ x : Tup D sg, Cells w cs ((mkTp sg x).map X.er) ∧ (∀ v ∈ mkTp sg x, ∀ d, VV X d v)
 | 0, n, t, sg, cs, z, h, hz => by simp [DataW.trod] at hz
 | fuel + 1, 0, t, sg, cs, z, h, hz => by simp [tySg] at h
 | fuel + 1, n + 1, t, sg, cs, z, h, hz => by
  have fact : ∀ k, (X.C.i t).kind = k → 1 ≤ k → TFact P t (X.C.i t) := fun k e hk => K.fact (by omega)
  have one : ∀ {v : Value} {s : Sg} {x : SgT D s}, Reads w (fun b => b < w.heap.size) v (X.er (mkV s x)) → Cells w [v] ((mkTp (D := D) [s] (x, ())).map X.er) := by
   intro v s x hr
   refine ⟨rfl, fun i v' t' h1 h2 => ?_⟩
   match i with
   | 0 => simp [mkTp] at h1 h2; subst h1 h2; exact hr
   | i + 1 => simp at h1
  simp only [tySg] at h
  split at h
  · -- string
   rename_i hk
   cases h
   have f := fact 1 hk (by omega)
   obtain ⟨s, rfl, _, hs⟩ := DataW.trod_string (f.string hk) hz
   refine ⟨(s.data.toList, ()), one (.str s), fun v hv d => ?_⟩
   simp [mkTp] at hv; subst hv
   cases d with
   | zero => trivial
   | succ d => simp only [mkV, VV]; unfold maxLen at hs; exact hs
  ·rename_i hk
   cases h
   have f := fact 5 hk (by omega)
   obtain ⟨b, rfl, _⟩ := DataW.trod_bool (f.bool hk) hz
   refine ⟨(b, ()), one (.bool b), fun v hv d => ?_⟩
   simp [mkTp] at hv; subst hv
   cases d <;> trivial
  ·rename_i hk
   cases h
   have f := fact 10 hk (by omega)
   have hu : P.underlying t = some (.int .i64) := by
    obtain ⟨d, u, z', _, hu, _, _, _, _, e2, _⟩ := f.ex
    rw [hu, kind_int (u := u) (k := .i64) (by rw [← e2, hk]; rfl)]
   obtain ⟨i, rfl, _, hwf⟩ := DataW.trod_int hu hz
   refine ⟨(i, ()), one (.int .i64 i), fun v hv d => ?_⟩
   simp [mkTp] at hv; subst hv
   cases d with
   | zero => trivial
   | succ d => exact hwf
  ·rename_i hk
   cases h
   have f := fact 15 hk (by omega)
   have hu : P.underlying t = some (.int .u8) := by
    obtain ⟨d, u, z', _, hu, _, _, _, _, e2, _⟩ := f.ex
    rw [hu, kind_int (u := u) (k := .u8) (by rw [← e2, hk]; rfl)]
   obtain ⟨i, rfl, _, hwf⟩ := DataW.trod_int hu hz
   refine ⟨(i, ()), one (.int .u8 i), fun v hv d => ?_⟩
   simp [mkTp] at hv; subst hv
   cases d with
   | zero => trivial
   | succ d => exact hwf
  · -- slice
   rename_i hk
   cases hb : (memN (X.C.i t).elem els && Nat.ble 1 (X.C.i (X.C.i t).elem).size) with
   | false => rw [hb] at h; cases h
   | true =>
    rw [hb] at h
    cases h
    simp only [Bool.and_eq_true] at hb
    have hel := memN_iff.1 hb.1
    have hsz1 := bleN hb.2
    have f := fact 2 hk (by omega)
    obtain ⟨sg, hsg, hdec⟩ := hE _ hel
    have hz0 : P.cellsOf (X.C.i t).elem = (X.C.i (X.C.i t).elem).size := (K.fact (tySg_kind hsg)).cellsOf
    rcases DataW.trod_slice (f.slice hk) hz with ⟨rfl, _⟩ | ⟨a, len, cap, elems, rest, m, hm, rfl, _, hb0, hlc, hcm, hlen, hel2, _⟩
    ·refine ⟨([], ()), one (.sl0 _ _ _), fun v hv d => ?_⟩
     simp [mkTp] at hv; subst hv
     cases d with
     | zero => trivial
     | succ d => exact ⟨by simp, fun x hx => by cases hx⟩
    ·have hm : m = fuel := by omega
     subst hm
     rw [hz0] at hel2
     have each : ∀ i, i < len → ∃ y : D (X.C.i t).elem, (∃ cs', w.cells? 0 (a.add (i * (X.C.i (X.C.i t).elem).size)) (X.C.i (X.C.i t).elem).size = some cs' ∧ Cells w cs' (X.R _ y)) ∧ ∀ v ∈ X.E _ y, ∀ d, VV X d v := by
      intro i hi
      have h1 := hel2 i hi
      rw [List.getElem?_eq_getElem (by omega)] at h1
      obtain ⟨cs', h2, h3⟩ := Option.bind_eq_some_iff.1 h1
      obtain ⟨x, c, hv⟩ := opens K cod hE m 5 _ sg cs' _ hsg h3
      obtain ⟨y, hy, he⟩ := hdec x
      exact ⟨y, ⟨cs', h2, by rw [← cod.dec _ _ _ hy]; exact c⟩, fun v hv' => hv v (by rw [← he]; exact hv')⟩
     obtain ⟨l, hl, hq⟩ := choose_list (Q := fun i y => (∃ cs', w.cells? 0 (a.add (i * (X.C.i (X.C.i t).elem).size)) (X.C.i (X.C.i t).elem).size = some cs' ∧ Cells w cs' (X.R _ y)) ∧ ∀ v ∈ X.E _ y, ∀ d, VV X d v) len each
     refine ⟨(l, ()), one ?_, fun v hv d => ?_⟩
     ·show Reads w _ _ (.sl (X.C.i (X.C.i t).elem).size (l.map (X.R _)))
      by_cases h0 : len = 0
      ·subst h0
       have : l = [] := List.eq_nil_of_length_eq_zero hl
       subst this
       exact .sl0 _ _ _
      ·obtain ⟨y0, hy0⟩ : ∃ y, l[0]? = some y := ⟨_, List.getElem?_eq_getElem (by omega)⟩
       obtain ⟨⟨cs0, hc0, _⟩, _⟩ := hq 0 y0 hy0
       have hlt : a.block < w.heap.size := by
        have := World.cells?_block hc0 (by omega)
        simpa [Addr.add] using this
       have hspot : a.spot = none := by
        obtain ⟨_, hl0, hg0⟩ := World.cells?_some hc0
        have h1 := hg0 0 (by omega)
        rw [List.getElem?_eq_getElem (by omega)] at h1
        unfold World.cell? at h1
        split at h1
        ·by_cases hs : a.spot.isSome = true
         ·rw [if_pos (by simpa [Addr.add] using hs)] at h1; cases h1
         ·simpa using hs
        ·cases h1
       obtain ⟨b, o, sp⟩ := a
       simp only at hspot hlt
       subst hspot
       have rows : ∀ (i : Nat) row, (l.map (X.R _))[i]? = some row → ∃ y cs', l[i]? = some y ∧ row = X.R _ y ∧ cs'.length = (X.C.i (X.C.i t).elem).size ∧ (∀ j, j < (X.C.i (X.C.i t).elem).size → w.cell? ⟨b, o + (i * (X.C.i (X.C.i t).elem).size + j), none⟩ = cs'[j]?) ∧ Cells w cs' (X.R _ y) := by
        intro i row hrow
        rw [List.getElem?_map, Option.map_eq_some_iff] at hrow
        obtain ⟨y, hy, rfl⟩ := hrow
        obtain ⟨⟨cs', hc', hcells⟩, _⟩ := hq i y hy
        obtain ⟨_, hl', hg'⟩ := World.cells?_some hc'
        exact ⟨y, cs', hy, rfl, hl', fun j hj => by
         have := hg' j hj
         rwa [Addr.add_mid, Addr.add_mid, Nat.add_assoc] at this, hcells⟩
       refine .sl b o len cap _ _ (fun i j => (w.cell? ⟨b, o + (i * (X.C.i (X.C.i t).elem).size + j), none⟩).getD undef) (by simpa using hl) hlc hlt (fun i row hrow => ?_) (fun i row j t' h1 h2 => ?_) (fun i row j t' h1 h2 => ?_)
       ·obtain ⟨y, cs', _, rfl, hl', _, hc⟩ := rows i row hrow
        rw [← hc.1, hl']
       ·obtain ⟨y, cs', _, rfl, hl', hg, hc⟩ := rows i row h1
        have hj : j < cs'.length := by rw [hc.1]; exact (List.getElem?_eq_some_iff.1 h2).1
        have := hg j (by omega)
        rw [List.getElem?_eq_getElem hj] at this
        rw [this]; rfl
       ·obtain ⟨y, cs', _, rfl, hl', hg, hc⟩ := rows i row h1
        have hj : j < cs'.length := by rw [hc.1]; exact (List.getElem?_eq_some_iff.1 h2).1
        have := hg j (by omega)
        rw [List.getElem?_eq_getElem hj] at this
        rw [this]
        exact hc.2 j _ t' (List.getElem?_eq_getElem hj) h2
     ·simp [mkTp] at hv; subst hv
      cases d with
      | zero => trivial
      | succ d =>
       refine ⟨by unfold maxLen at hcm; omega, fun x hx v hv => ?_⟩
       obtain ⟨i, hi, rfl⟩ := List.mem_iff_getElem.1 hx
       exact (hq i _ (List.getElem?_eq_getElem hi)).2 v hv d
  · -- struct
   rename_i hk
   cases hb : Nat.beq (((X.C.i t).fields.map fun p => (X.C.i p.2).size).sum) (X.C.i t).size with
   | false => rw [hb] at h; cases h
   | true =>
    rw [hb] at h
    simp only [cond_true] at h
    have hsum := beqN hb
    have f := fact 3 hk (by omega)
    obtain ⟨d, u, z', e1, hu, _, e2, _, _, e3, _, e4, _⟩ := f.ex
    obtain ⟨fs, hfs⟩ := kind_struct (u := u) (by rw [← e3]; exact hk)
    subst hfs
    obtain ⟨xs, m, hm, _, hl, hlen, hxs⟩ := DataW.trod_struct hu hz
    have hm : m = fuel := by omega
    subst hm
    have hcs : cs.length = (X.C.i t).size := by rw [hl, f.cellsOf]
    obtain ⟨x, c, hv⟩ := fld_open (fun t sg cs z h hz => opens K cod hE m n t sg cs z h hz) (cs := cs) _ _ _ h fun i o t' sg' hi hf => by
     rw [e4] at hi
     simp only [fieldsD, List.getElem?_map, Option.map_eq_some_iff, Prod.mk.injEq] at hi
     obtain ⟨fd, hfd, rfl, rfl⟩ := hi
     have hfd2 : fs[i]? = some fd := by simpa using hfd
     have := hxs i fd hfd2
     rw [(K.fact (tySg_kind hf)).cellsOf] at this
     have hi2 : i < xs.length := by rw [hlen]; exact (Array.getElem?_eq_some_iff.1 hfd2).1
     rw [List.getElem?_eq_getElem hi2] at this
     exact ⟨_, this⟩
    refine ⟨x, ?_, hv⟩
    rw [hsum, List.drop_zero, ← hcs, List.take_length] at c
    exact c
  ·cases h
def arTy (C : Ctx) (els : List Nat) (t : Nat) : Option Ar :=
 match tySg C els 5 t with
 | some sg => bif Nat.beq (C.i t).kind 3 then some (.a sg) else match sg with | [s] => some (.c s) | _ => none
 | none => none
def VA (X : CT D) : (l : List Ar) → TupA D l → Prop
 | [], _ => True
 | .c s :: r, x => (∀ d, VV X d (mkV s x.1)) ∧ VA X r x.2
 | .a l :: r, x => (∀ v ∈ mkTp l x.1, ∀ d, VV X d v) ∧ VA X r x.2
 | _ :: r, x => VA X r x.2
theorem openAll (K : CtxOK P X.C) (cod : CodOK X) (hE : ∀ e ∈ els, ElOK X els e) {r : Reach} {b0 : Nat} : ∀ (ts : List Nat) (l : List Ar) (vs : List Value) (ds : List (DataW H)) (ps : List MemPlace), ts.map (arTy X.C els) = l.map some →
    DataW.TrodAll enc P w 0 (fun _ => true) true ts vs ds ps → (∀ (j : Nat) t v, ts[j]? = some t → vs[j]? = some v → Value.okWide P w r b0 t v) →
    ∃ x : TupA D l, vs.length = l.length ∧ ds.length = l.length ∧ (∀ (i : Nat) v t, vs[i]? = some v → (tsOf X l x)[i]? = some t → Reads w (fun b => b < w.heap.size) v t) ∧ VA X l x
 | [], l, vs, ds, ps, hl, h, _ => by
  obtain ⟨rfl, rfl, rfl⟩ := trodAll_nil h
  cases l with
  | nil => exact ⟨(), rfl, rfl, fun i v t h => by simp at h, trivial⟩
  | cons a l => simp at hl
 | t :: ts, l, vs, ds, ps, hl, h, hok => by
  obtain ⟨v, vs, d, ds, p, q, rfl, rfl, rfl, h0, r0⟩ := trodAll_cons h
  cases l with
  | nil => simp at hl
  | cons a l =>
   simp only [List.map_cons, List.cons.injEq] at hl
   obtain ⟨x, q1, q2, q3, q4⟩ := openAll K cod hE ts l _ _ _ hl.2 r0 fun j t v h1 h2 => hok (j + 1) t v h1 h2
   obtain ⟨fuel, hz⟩ := h0
   have hval := hok 0 t v rfl rfl
   have hat := hl.1
   unfold arTy at hat
   split at hat
   ·rename_i sg hsg
    obtain ⟨y, c, hv⟩ := opens K cod hE fuel 5 t sg _ _ hsg hz
    have fact := K.fact (tySg_kind hsg)
    cases hk : Nat.beq (X.C.i t).kind 3 with
    | true =>
     rw [hk] at hat
     cases hat
     have hk := beqN hk
     obtain ⟨_, u, _, _, hu, _, _, _, _, e3, _⟩ := fact.ex
     obtain ⟨fs, rfl⟩ := kind_struct (u := u) (by rw [← e3]; exact hk)
     obtain ⟨cs, rfl, _⟩ := okWide_struct hu hval
     refine ⟨(y, x), by simp [q1], by simp [q2], fun i v t h1 h2 => ?_, hv, q4⟩
     cases i with
     | zero =>
      simp [tsOf, tA] at h1 h2
      subst h1 h2
      obtain ⟨cs⟩ := cs
      exact .agg cs _ c.1 c.2
     | succ i => exact q3 i v t (by simpa using h1) (by simpa [tsOf] using h2)
    | false =>
     rw [hk] at hat
     simp only [cond_false] at hat
     split at hat
     ·rename_i s
      cases hat
      have hcells : v.cells.toList = [v] := by
       cases v with
       | agg cs =>
        exfalso
        obtain ⟨_, u, _, _, hu, _, _, _, _, e3, _⟩ := fact.ex
        simp only [tySg] at hsg
        split at hsg
        ·rename_i h1
         obtain ⟨_, hh⟩ := okWide_string (by rw [hu, kind_string (u := u) (by rw [← e3]; exact h1)]) hval
         cases hh
        ·rename_i h1
         obtain ⟨_, hh⟩ := okWide_bool (by rw [hu, kind_bool (u := u) (by rw [← e3]; exact h1)]) hval
         cases hh
        ·rename_i h1
         obtain ⟨_, hh⟩ := okWide_int (k := .i64) (by rw [hu, kind_int (u := u) (k := .i64) (by rw [← e3, h1]; rfl)]) hval
         cases hh
        ·rename_i h1
         obtain ⟨_, hh⟩ := okWide_int (k := .u8) (by rw [hu, kind_int (u := u) (k := .u8) (by rw [← e3, h1]; rfl)]) hval
         cases hh
        ·rename_i h1
         obtain ⟨e, he⟩ := kind_slice (u := u) (by rw [← e3]; exact h1)
         obtain ⟨_, _, _, hh⟩ := okWide_slice (by rw [hu, he]) hval
         cases hh
        ·rename_i h1
         rw [h1] at hk; cases hk
        ·cases hsg
       | _ => rfl
      rw [hcells] at c
      refine ⟨(y.1, x), by simp [q1], by simp [q2], fun i v t h1 h2 => ?_, fun d => hv _ (by simp [mkTp]) d, q4⟩
      cases i with
      | zero =>
       simp [tsOf, tA] at h1 h2
       subst h1 h2
       exact c.2 0 _ _ rfl (by simp [mkTp])
      | succ i => exact q3 i v t (by simpa using h1) (by simpa [tsOf] using h2)
     ·cases hat
   ·cases hat
theorem trodAll_stays (hl : laidOutB P = true) {B : Nat} {w' : World} (hB : Below w.heap.size w w') : ∀ {ts : List TypeId} {vs : List Value} {ds : List (DataW H)} {ps : List MemPlace}, (∀ t ∈ ts, P.readableRec t = true ∧ t < P.types.size) →
    DataW.TrodAll enc P w 0 (fun _ => true) true ts vs ds ps → ∃ ps', DataW.TrodAll enc P w' 0 (fun b => decide (b < w.heap.size)) true ts vs ds ps'
 | [], vs, ds, ps, _, h => by
  obtain ⟨rfl, rfl, rfl⟩ := trodAll_nil h
  exact ⟨[], rfl⟩
 | t :: ts, vs, ds, ps, hr, h => by
  obtain ⟨v, vs, d, ds, p, q, rfl, rfl, rfl, h0, r0⟩ := trodAll_cons h
  obtain ⟨ps', h1⟩ := trodAll_stays hl (B := B) hB (fun t ht => hr t (by simp [ht])) r0
  have hlt : ∀ x ∈ p, x.block < w.heap.size := by
   obtain ⟨n, hn⟩ := h0
   exact DataW.trod_lt n _ _ _ hn
  exact ⟨_, trodAll_cons_mk (WideElems.Trod_stays hl (hr t (by simp)).1 (hr t (by simp)).2 h0 (fun x hx => hB.same (hlt x hx)) (fun x hx => by simpa using hlt x hx)) h1⟩
theorem said_core {C : Checked} {f : FuncId} {fn : Func} {s : ChangeSpec} {X : CT D} {els : List Nat} {l : List Ar} {F : TupA D l → Option Bool} {vr : Bool → VR D} {bt : Nat} (hvars : s.vars = [])
    (K : CtxOK C.prog X.C) (cod : CodOK X) (hE : ∀ e ∈ els, ElOK X els e) (ht : fn.params.toList.map (arTy X.C els) = l.map some) (hres : fn.resultTypes = #[bt]) (hbt : C.prog.underlying bt = some .bool)
    (hl : laidOutB C.prog = true) (hr : (fn.params.toList.all fun t => C.prog.readableRec t && decide (t < C.prog.types.size)) = true)
    (hs : ∀ (ds : List (DataW H)), ds.length = l.length → s.fn H ds = { results := [.lit (.bool true)], args := ds })
    (hv : ∀ b, X.eR (vr b) = .bool b) (hd : Does C.prog X f l F vr) (hp : ∀ x, VA X l x → F x = some true)
    {W : World} {base : Nat} {args : Array Value} {ds gs : List (DataW H)} {before : List MemPlace} (gi : ∀ w', BelowW (fun _ => False) W.heap.size W w' → X.C.gi w')
    (hval : ∀ (j : Nat) t v, fn.params[j]? = some t → args[j]? = some v → Value.okWide C.prog W .any base t v)
    (hW : DataW.Whole enc C.prog fn.params.toList s.vars false W args.toList ds gs before) :
    Calls C.prog f args W fun e W' => ∃ v, e = .returned v ∧ s.post enc C.prog fn false true false false W args v W' := by
 have hW' := hW
 obtain ⟨p, q, hA, hV, rfl, hfz, hnd⟩ := hW
 rw [hvars] at hV
 obtain ⟨rfl, rfl⟩ := trodVars_none hV
 obtain ⟨x, q1, q2, q3, q4⟩ := openAll K cod hE (r := .any) (b0 := base) _ l _ _ _ ht hA (fun j t v h1 h2 => hval j t v (by simpa using h1) (by simpa using h2))
 have hF := hp x q4
 have hc := hd x true hF
 have hargs : args = ⟨args.toList⟩ := rfl
 have := hc.2 W args.toList gi (by rw [tsOf_len]; exact q1) q3
 rw [show (⟨args.toList⟩ : Array Value) = args from rfl] at this
 refine this.mono fun e W' ⟨v, Fr, he, hown, _, bel⟩ => ⟨v, he, ?_⟩
 rw [hv] at hown
 obtain ⟨ps', hA'⟩ := trodAll_stays hl (B := 0) bel (fun t ht => by
  have := List.all_eq_true.1 hr t ht
  simpa using this) hA
 have ev : v = .bool true := by cases hown; rfl
 subst ev
 have hs' := hs ds (by rw [q2])
 refine ⟨ds, [], _, [], ps', [], hW', ?_, ?_, ?_, bel.frame _, fun h => by cases h⟩
 ·rw [List.append_nil, hs', hres]
  exact trodAll_mk1 (shut_bool hbt true)
 ·rw [List.append_nil, hs']
  exact hA'
 ·rw [List.append_nil, hs', hvars]
  rfl
end
end Go.Pv
