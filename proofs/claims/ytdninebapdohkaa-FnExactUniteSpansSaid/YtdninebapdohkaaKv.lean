/- What the functions come to. Nothing is claimed here. -/
import Derived.Test.YtdninebapdohkaaKu
set_option linter.unusedVariables false
set_option linter.unusedSimpArgs false
set_option maxRecDepth 100000
namespace Go.Ytdninebapdohkaa
open Go Go.RowKit Go.Pv Go.Pu

/-! Sets of spans. -/
def badP (x : List ISpan) (i : Nat) : Bool :=
  match x[i]? with
  | none => false
  | some e => decide (e.From < 0) || decide (e.From ≥ e.To) || decide (e.To > 1000000000000) || (decide (0 < i) && match x[i - 1]? with | some q => decide (q.To ≥ e.From) | none => false)
def isSet (x : List ISpan) : Bool := (firstI (badP x) x.length 0).isNone
theorem S_IsSpanSet_eq {k : Nat} (hk : 1073741824 ≤ k) (x : List ISpan) (h : x.length < 1073741824) : S_IsSpanSet k x = some (isSet x) := by
  have := find_all (len := x.length) (c := fun i => bif badP x i then some false else none) (F := fun n i => S_IsSpanSet_b0 k n x i) (fun n i hi => by
    simp only [S_IsSpanSet_b0, idx_nat hi, Option.bind_some, wrap_succ (by omega : i < 9223372036854775807), bif_dec, lt_cast, hi, if_true, badP, List.getElem?_eq_getElem hi]
    by_cases c1 : x[i].From < 0
    · simp [c1]
    by_cases c2 : x[i].From ≥ x[i].To
    · simp [c1, c2]
    by_cases c3 : x[i].To > 1000000000000
    · simp [c1, c2, c3]
    by_cases c4 : 0 < i
    · have e : IntKind.wrap .i64 ((i : Int) - 1) = ((i - 1 : Nat) : Int) := by rw [wrap_id (by omega) (by omega)]; omega
      have hi' : i - 1 < x.length := by omega
      rw [e, idx_nat hi', List.getElem?_eq_getElem hi']
      by_cases c5 : x[i - 1].To ≥ x[i].From <;> simp [c1, c2, c3, c4, c5]
    · simp [c1, c2, c3, c4]) (fun n i hi => by
    simp only [S_IsSpanSet_b0, bif_dec, lt_cast]
    rw [if_neg (by omega)]) (k := k) (by omega)
  rw [S_IsSpanSet, this, findI_first]
  unfold isSet
  cases firstI (badP x) x.length 0 <;> simp [ocOf, oc]
theorem I_IsSpanSet_eq {k : Nat} (hk : 1073741824 ≤ k) (x : List ISpan) (h : x.length < 1073741824) : I_IsSpanSet k x = some (isSet x) := by
  have := find_all (len := x.length) (c := fun i => bif badP x i then some false else none) (F := fun n i => I_IsSpanSet_b0 k n x x (x.length : Int) i) (fun n i hi => by
    simp only [I_IsSpanSet_b0, idx_nat hi, Option.bind_some, wrap_succ (by omega : i < 9223372036854775807), bif_dec, lt_cast, hi, if_true, badP, List.getElem?_eq_getElem hi]
    by_cases c1 : x[i].From < 0
    · simp [c1]
    by_cases c2 : x[i].From ≥ x[i].To
    · simp [c1, c2]
    by_cases c3 : x[i].To > 1000000000000
    · simp [c1, c2, c3]
    by_cases c4 : 0 < i
    · have e : IntKind.wrap .i64 ((i : Int) - 1) = ((i - 1 : Nat) : Int) := by rw [wrap_id (by omega) (by omega)]; omega
      have hi' : i - 1 < x.length := by omega
      rw [e, idx_nat hi', List.getElem?_eq_getElem hi']
      by_cases c5 : x[i - 1].To ≥ x[i].From <;> simp [c1, c2, c3, c4, c5]
    · simp [c1, c2, c3, c4]) (fun n i hi => by
    simp only [I_IsSpanSet_b0, bif_dec, lt_cast]
    rw [if_neg (by omega)]) (k := k) (by omega)
  rw [I_IsSpanSet, this, findI_first]
  unfold isSet
  cases firstI (badP x) x.length 0 <;> simp [ocOf, oc]

/-! A span added to a set. -/
def stepU (s : Int × Int) (e : ISpan) : Int × Int := (if e.From < s.1 then e.From else s.1, if e.To > s.2 then e.To else s.2)
def stepS (s : Int × Int) (e : ISpan) : Int × Int := if e.To ≥ s.1 ∧ e.From ≤ s.2 then stepU s e else s
def unionN : List ISpan → Int × Int → Nat × Int × Int
  | [], s => (0, s)
  | e :: l, s => if e.From ≤ s.2 then ((unionN l (stepU s e)).1 + 1, (unionN l (stepU s e)).2) else (0, s)
def befP (F : Int) (e : ISpan) : Bool := decide (e.To < F)
def addS (x : List ISpan) (y : ISpan) : List ISpan :=
  x.filter (befP y.From) ++ [(⟨(x.foldl stepS (y.From, y.To)).1, (x.foldl stepS (y.From, y.To)).2⟩ : ISpan)] ++ x.filter (fun e => decide (e.From > (x.foldl stepS (y.From, y.To)).2))
def addU (x : List ISpan) (y : ISpan) : List ISpan :=
  x.takeWhile (befP y.From) ++ [(⟨(unionN (x.dropWhile (befP y.From)) (y.From, y.To)).2.1, (unionN (x.dropWhile (befP y.From)) (y.From, y.To)).2.2⟩ : ISpan)] ++ (x.dropWhile (befP y.From)).drop (unionN (x.dropWhile (befP y.From)) (y.From, y.To)).1
def goodS (y : ISpan) : Bool := decide (0 ≤ y.From) && decide (y.From < y.To) && decide (y.To ≤ 1000000000000)
def addSp (x : List ISpan) (y : ISpan) : List ISpan := bif isSet x && goodS y then addU x y else x

def SetL (x : List ISpan) : Prop := x.Pairwise (fun a b => a.To < b.From) ∧ ∀ e ∈ x, 0 ≤ e.From ∧ e.From < e.To ∧ e.To ≤ 1000000000000
theorem isSet_at {x : List ISpan} (h : isSet x = true) {i : Nat} (hi : i < x.length) : 0 ≤ x[i].From ∧ x[i].From < x[i].To ∧ x[i].To ≤ 1000000000000 ∧ ∀ j (e : i = j + 1), ∀ hj : j < x.length, x[j].To < x[i].From := by
  unfold isSet at h
  have := firstI_none x.length 0 (Option.isNone_iff_eq_none.1 h) i (by omega) (by omega)
  simp only [badP, List.getElem?_eq_getElem hi, Bool.or_eq_false_iff, decide_eq_false_iff_not, Bool.and_eq_false_iff] at this
  refine ⟨by omega, by omega, by omega, fun j e hj => ?_⟩
  subst e
  have h4 := this.2
  rw [show j + 1 - 1 = j by omega, List.getElem?_eq_getElem hj] at h4
  simp only [decide_eq_false_iff_not] at h4
  omega
theorem isSet_SetL {x : List ISpan} (h : isSet x = true) : SetL x := by
  refine ⟨List.pairwise_iff_getElem.2 fun i j hi hj hij => ?_, fun e he => ?_⟩
  · obtain ⟨d, rfl⟩ : ∃ d, j = i + d + 1 := ⟨j - i - 1, by omega⟩
    clear hij
    induction d with
    | zero => exact (isSet_at h hj).2.2.2 i rfl hi
    | succ d ih =>
      have h1 := ih (by omega)
      have h2 := (isSet_at h hj).2.2.2 (i + d + 1) rfl (by omega)
      have h3 := (isSet_at h (show i + d + 1 < x.length by omega)).2.1
      omega
  · obtain ⟨i, hi, rfl⟩ := List.mem_iff_getElem.1 he
    obtain ⟨h1, h2, h3, _⟩ := isSet_at h hi
    exact ⟨h1, h2, h3⟩
theorem SetL_isSet {x : List ISpan} (h : SetL x) : isSet x = true := by
  unfold isSet
  cases hf : firstI (badP x) x.length 0 with
  | none => rfl
  | some i =>
    obtain ⟨_, h1, h2, _⟩ := firstI_some _ _ _ hf
    have hi : i < x.length := by omega
    obtain ⟨b0, b1, b2⟩ := h.2 _ (List.getElem_mem hi)
    simp only [badP, List.getElem?_eq_getElem hi] at h2
    cases i with
    | zero => simp at h2; omega
    | succ i =>
      have := List.pairwise_iff_getElem.1 h.1 i (i + 1) (by omega) hi (by omega)
      rw [show i + 1 - 1 = i by omega, List.getElem?_eq_getElem (by omega : i < x.length)] at h2
      simp at h2
      omega
theorem stepU_1 (s : Int × Int) (e : ISpan) : (stepU s e).1 ≤ s.1 ∧ (stepU s e).1 ≤ e.From ∧ s.2 ≤ (stepU s e).2 ∧ e.To ≤ (stepU s e).2 := by
  unfold stepU; refine ⟨?_, ?_, ?_, ?_⟩ <;> simp only <;> split <;> omega
theorem foldS_2 : ∀ (l : List ISpan) (s : Int × Int), s.2 ≤ (l.foldl stepS s).2
  | [], s => Int.le_refl _
  | e :: l, s => by
    rw [List.foldl_cons]
    have := foldS_2 l (stepS s e)
    have h2 : s.2 ≤ (stepS s e).2 := by
      unfold stepS; split
      · exact (stepU_1 s e).2.2.1
      · omega
    omega
theorem foldS_id : ∀ (l : List ISpan) (s : Int × Int), (∀ e ∈ l, e.From > s.2) → l.foldl stepS s = s
  | [], s, _ => rfl
  | e :: l, s, h => by
    have := h e (List.mem_cons_self ..)
    rw [List.foldl_cons, show stepS s e = s by unfold stepS; rw [if_neg (by omega)]]
    exact foldS_id l s fun e' he' => h e' (List.mem_cons_of_mem _ he')
theorem SetL.tail {e : ISpan} {l : List ISpan} (h : SetL (e :: l)) : SetL l ∧ (∀ e' ∈ l, e.To < e'.From) ∧ e.From < e.To :=
  ⟨⟨(List.pairwise_cons.1 h.1).2, fun e' he' => h.2 e' (List.mem_cons_of_mem _ he')⟩, (List.pairwise_cons.1 h.1).1, (h.2 e (List.mem_cons_self ..)).2.1⟩
theorem unionN_eq : ∀ (l : List ISpan) (s : Int × Int), SetL l → (∀ e ∈ l, e.To ≥ s.1) → (unionN l s).2 = l.foldl stepS s ∧ l.drop (unionN l s).1 = l.filter (fun e => decide (e.From > (l.foldl stepS s).2))
  | [], s, _, _ => ⟨rfl, rfl⟩
  | e :: l, s, h, h1 => by
    obtain ⟨t1, t2, t3⟩ := h.tail
    have he := h1 e (List.mem_cons_self ..)
    rw [unionN, List.foldl_cons]
    by_cases c : e.From ≤ s.2
    · rw [if_pos c, show stepS s e = stepU s e by unfold stepS; rw [if_pos ⟨he, c⟩]]
      have hU := stepU_1 s e
      obtain ⟨i1, i2⟩ := unionN_eq l (stepU s e) t1 fun e' he' => by
        have := t2 e' he'
        have := (t1.2 e' he').2.1
        omega
      have := foldS_2 l (stepU s e)
      refine ⟨i1, ?_⟩
      rw [List.drop_succ_cons, i2, List.filter_cons, if_neg (by simp; omega)]
    · rw [if_neg c, show stepS s e = s by unfold stepS; rw [if_neg (by omega)], foldS_id l s fun e' he' => by have := t2 e' he'; omega]
      refine ⟨rfl, ?_⟩
      rw [List.drop_zero]
      refine (List.filter_eq_self.2 fun e' he' => ?_).symm
      rcases List.mem_cons.1 he' with rfl | he'
      · simp; omega
      · have := t2 e' he'; simp; omega
theorem addS_eq (F T : Int) (hFT : F < T) : ∀ (x : List ISpan), SetL x → x.filter (befP F) = x.takeWhile (befP F) ∧ x.foldl stepS (F, T) = (unionN (x.dropWhile (befP F)) (F, T)).2 ∧
    x.filter (fun e => decide (e.From > (x.foldl stepS (F, T)).2)) = (x.dropWhile (befP F)).drop (unionN (x.dropWhile (befP F)) (F, T)).1
  | [], _ => ⟨rfl, rfl, rfl⟩
  | e :: l, h => by
    obtain ⟨t1, t2, t3⟩ := h.tail
    cases c : befP F e with
    | true =>
      have c' : e.To < F := by simpa [befP] using c
      obtain ⟨i1, i2, i3⟩ := addS_eq F T hFT l t1
      have := foldS_2 l (F, T)
      rw [List.filter_cons, if_pos c, List.takeWhile_cons, if_pos c, List.dropWhile_cons, if_pos c, List.foldl_cons, show stepS (F, T) e = (F, T) by unfold stepS; rw [if_neg (by simp only; omega)], List.filter_cons, if_neg (by simp only [decide_eq_true_eq] at *; omega)]
      exact ⟨by rw [i1], i2, i3⟩
    | false =>
      have c' : e.To ≥ F := by simpa [befP] using c
      have all : ∀ e' ∈ e :: l, e'.To ≥ F := fun e' he' => by
        rcases List.mem_cons.1 he' with rfl | he'
        · exact c'
        · have := t2 e' he'
          have := (t1.2 e' he').2.1
          omega
      obtain ⟨j1, j2⟩ := unionN_eq (e :: l) (F, T) h all
      rw [List.takeWhile_cons, if_neg (by simp [c]), List.dropWhile_cons, if_neg (by simp [c])]
      refine ⟨?_, j1.symm, j2.symm⟩
      rw [List.filter_eq_nil_iff]
      intro e' he'
      have := all e' he'
      simp [befP]; omega
theorem addS_addU {x : List ISpan} {y : ISpan} (h : SetL x) (hy : y.From < y.To) : addS x y = addU x y := by
  obtain ⟨h1, h2, h3⟩ := addS_eq y.From y.To hy x h
  unfold addS addU
  rw [h3, h1, h2]
theorem unionN_le : ∀ (l : List ISpan) (s : Int × Int), (unionN l s).1 ≤ l.length
  | [], s => Nat.le_refl _
  | e :: l, s => by
    rw [unionN]; split
    · have := unionN_le l (stepU s e); simp; omega
    · simp
theorem addU_len (x : List ISpan) (y : ISpan) : (addU x y).length ≤ x.length + 1 := by
  have : (x.takeWhile (befP y.From)).length + (x.dropWhile (befP y.From)).length = x.length := by
    rw [← List.length_append, List.takeWhile_append_dropWhile]
  unfold addU
  simp only [List.length_append, List.length_cons, List.length_nil, List.length_drop]
  omega
theorem addSp_len (x : List ISpan) (y : ISpan) : (addSp x y).length ≤ x.length + 1 := by
  unfold addSp
  cases isSet x && goodS y with
  | true => exact addU_len x y
  | false => simp

theorem S_AddSpan_1 {k : Nat} (hk : 1073741824 ≤ k) (x : List ISpan) (F T : Int) (r : List ISpan) (h : x.length + r.length < 1073741824) : S_AddSpan_b0 k k x 0 F T r = some (r ++ x.filter (befP F)) := by
  have := fold_all (len := x.length) (g := fun j s => s ++ (x[j]?).elim [] fun e => bif befP F e then [e] else []) (Inv := fun i s => s.length ≤ r.length + i) (F := fun n i s => S_AddSpan_b0 k n x i F T s) (out := id) (fun n i s hi hI => by
    simp only [S_AddSpan_b0, bif_dec, lt_cast, hi, if_true, S_AddSpan_b1, idx_nat hi, Option.bind_some, S_AddSpan_c46, wrap_succ (by omega : i < 9223372036854775807), List.getElem?_eq_getElem hi, Option.elim_some, befP]
    by_cases c : x[i].To < F
    · simp only [c, if_true]; rw [appn_ok (by simp; omega)]; exact ⟨rfl, by simp; omega⟩
    · simp only [c, if_false, List.append_nil]; exact ⟨rfl, by omega⟩) (fun n i s hi => by
    simp only [S_AddSpan_b0, bif_dec, lt_cast]
    rw [if_neg (by omega)]; rfl) (k := k) (by omega) (s := r) (by simp)
  have h1 : S_AddSpan_b0 k k x 0 F T r = some (foldI (fun j s => s ++ (x[j]?).elim [] fun e => bif befP F e then [e] else []) x.length 0 r) := this.1
  rw [h1, foldI_filter]
theorem S_AddSpan_2 {k : Nat} (hk : 1073741824 ≤ k) (x : List ISpan) (F T : Int) (r : List ISpan) (h : x.length < 1073741824) : S_AddSpan_b2 k k x 0 F T r = some (x.foldl stepS (F, T)) := by
  have := fold_all (len := x.length) (g := fun j s => (x[j]?).elim s (stepS s)) (Inv := fun i s => True) (F := fun n i (s : Int × Int) => S_AddSpan_b2 k n x i s.1 s.2 r) (out := id) (fun n i s hi hI => by
    simp only [S_AddSpan_b2, bif_dec, lt_cast, hi, if_true, S_AddSpan_b3, idx_nat hi, Option.bind_some, S_AddSpan_c77, wrap_succ (by omega : i < 9223372036854775807), List.getElem?_eq_getElem hi, Option.elim_some, S_Min, S_Max, stepS, stepU]
    refine ⟨?_, trivial⟩
    by_cases c1 : x[i].To ≥ s.1 <;> by_cases c2 : x[i].From ≤ s.2 <;> by_cases c3 : x[i].From < s.1 <;> by_cases c4 : x[i].To > s.2 <;> simp [c1, c2, c3, c4]) (fun n i s hi => by
    simp only [S_AddSpan_b2, bif_dec, lt_cast]
    rw [if_neg (by omega)]; rfl) (k := k) (by omega) (s := (F, T)) trivial
  have h1 : S_AddSpan_b2 k k x 0 F T r = some (foldI (fun j s => (x[j]?).elim s (stepS s)) x.length 0 (F, T)) := this.1
  rw [h1, foldI_foldl x.length 0 _ (by omega), List.drop_zero]
theorem S_AddSpan_3 {k : Nat} (hk : 1073741824 ≤ k) (x : List ISpan) (F T : Int) (r : List ISpan) (h : x.length + r.length < 1073741824) : S_AddSpan_b4 k k x 0 F T r = some (r ++ x.filter (fun e => decide (e.From > T))) := by
  have := fold_all (len := x.length) (g := fun j s => s ++ (x[j]?).elim [] fun e => bif decide (e.From > T) then [e] else []) (Inv := fun i s => s.length ≤ r.length + i) (F := fun n i s => S_AddSpan_b4 k n x i F T s) (out := id) (fun n i s hi hI => by
    simp only [S_AddSpan_b4, bif_dec, lt_cast, hi, if_true, S_AddSpan_b5, idx_nat hi, Option.bind_some, S_AddSpan_c112, wrap_succ (by omega : i < 9223372036854775807), List.getElem?_eq_getElem hi, Option.elim_some]
    by_cases c : x[i].From > T
    · simp only [c, if_true]; rw [appn_ok (by simp; omega)]; exact ⟨rfl, by simp; omega⟩
    · simp only [c, if_false, List.append_nil]; exact ⟨rfl, by omega⟩) (fun n i s hi => by
    simp only [S_AddSpan_b4, bif_dec, lt_cast]
    rw [if_neg (by omega)]; rfl) (k := k) (by omega) (s := r) (by simp)
  have h1 : S_AddSpan_b4 k k x 0 F T r = some (foldI (fun j s => s ++ (x[j]?).elim [] fun e => bif decide (e.From > T) then [e] else []) x.length 0 r) := this.1
  rw [h1, foldI_filter]
theorem S_AddSpan_eq {k : Nat} (hk : 1073741824 ≤ k) (x : List ISpan) (y : ISpan) (h : x.length < 268435456) : S_AddSpan k x y = some (addSp x y) := by
  have ha : app 16 ([] : List ISpan) x = some x := by rw [appn_ok (by simp; omega)]; rfl
  rw [S_AddSpan, S_IsSpanSet_eq hk x (by omega), Option.bind_some, addSp, goodS]
  simp only [ha, Option.bind_some]
  cases hs : isSet x with
  | false => simp
  | true =>
    by_cases c1 : y.From < 0
    · have d1 : decide (0 ≤ y.From) = false := by simp; omega
      simp [c1, d1]
    by_cases c2 : y.From ≥ y.To
    · have d2 : decide (y.From < y.To) = false := by simp; omega
      simp [c1, c2, d2]
    by_cases c3 : y.To > 1000000000000
    · have d3 : decide (y.To ≤ 1000000000000) = false := by simp; omega
      simp [c1, c2, c3, d3]
    have f1 : (x.filter (befP y.From)).length ≤ x.length := List.length_filter_le ..
    have f2 : (x.filter (befP y.From)).length + x.length < 2147483648 := by omega
    rw [S_AddSpan_1 hk x _ _ [] (by simp; omega), List.nil_append]
    simp only [c1, c2, c3, decide_false, Bool.not_true, cond_false, Option.bind_some]
    rw [S_AddSpan_2 hk x _ _ _ (by omega), Option.bind_some, appn_ok (by simp; omega), Option.bind_some, S_AddSpan_3 hk x _ _ _ (by simp; omega), Option.bind_some]
    have e : (true && (decide (0 ≤ y.From) && decide (y.From < y.To) && decide (y.To ≤ 1000000000000))) = true := by simp; omega
    rw [e, cond_true, ← addS_addU (isSet_SetL hs) (by omega)]
    rfl
theorem I_AddSpan_1 {k : Nat} (x : List ISpan) (F T : Int) (h : x.length < 1073741824) : ∀ (n i : Nat) (r : List ISpan), i ≤ x.length → r.length = i → x.length - i < n →
    I_AddSpan_b0 k n x (i : Int) F T r = some (((i + ((x.drop i).takeWhile (befP F)).length : Nat) : Int), r ++ (x.drop i).takeWhile (befP F)) := by
  intro n
  induction n with
  | zero => intro i r _ _ h; omega
  | succ n ih =>
    intro i r hi hr hn
    rw [I_AddSpan_b0, bif_dec]
    by_cases c : i < x.length
    · rw [if_pos (by omega), idx_nat c, Option.bind_some, Option.bind_some, List.drop_eq_getElem_cons c, List.takeWhile_cons, befP]
      cases decide (x[i].To < F) with
      | true =>
        rw [cond_true, appn_ok (by simp; omega), Option.bind_some, wrap_succ (by omega), ih (i + 1) _ (by omega) (by simp; omega) (by omega), if_pos rfl]
        simp only [List.length_cons, List.append_assoc, List.cons_append, List.nil_append]
        rw [show i + 1 + ((x.drop (i + 1)).takeWhile (befP F)).length = i + (((x.drop (i + 1)).takeWhile (befP F)).length + 1) by omega]
      | false => rw [cond_false, if_neg (by simp)]; simp
    · rw [if_neg (by omega), List.drop_of_length_le (by omega)]; simp
theorem I_AddSpan_2 {k : Nat} (x : List ISpan) (h : x.length < 1073741824) (r : List ISpan) : ∀ (n i : Nat) (s : Int × Int), i ≤ x.length → x.length - i < n →
    I_AddSpan_b2 k n x (i : Int) s.1 s.2 r = some (((i + (unionN (x.drop i) s).1 : Nat) : Int), (unionN (x.drop i) s).2) := by
  intro n
  induction n with
  | zero => intro i s _ h; omega
  | succ n ih =>
    intro i s hi hn
    rw [I_AddSpan_b2, bif_dec]
    by_cases c : i < x.length
    · rw [if_pos (by omega), idx_nat c, Option.bind_some, Option.bind_some, Option.bind_some, List.drop_eq_getElem_cons c, unionN, bif_dec]
      by_cases c2 : x[i].From ≤ s.2
      · rw [if_pos c2, if_pos c2, wrap_succ (by omega)]
        have := ih (i + 1) (stepU s x[i]) (by omega) (by omega)
        simp only [stepU] at this ⊢
        rw [this]
        rw [show i + 1 + (unionN (x.drop (i + 1)) (if x[i].From < s.1 then x[i].From else s.1, if x[i].To > s.2 then x[i].To else s.2)).1 = i + ((unionN (x.drop (i + 1)) (if x[i].From < s.1 then x[i].From else s.1, if x[i].To > s.2 then x[i].To else s.2)).1 + 1) by omega]
      · rw [if_neg c2, if_neg c2]; simp
    · rw [if_neg (by omega), List.drop_of_length_le (by omega)]; simp [unionN]
theorem drop_takeWhile {A : Type} (p : A → Bool) : ∀ x : List A, x.drop (x.takeWhile p).length = x.dropWhile p
  | [] => rfl
  | a :: l => by
    rw [List.takeWhile_cons, List.dropWhile_cons]
    cases p a with
    | true => simp [drop_takeWhile p l]
    | false => rfl
theorem takeWhile_le {A : Type} (p : A → Bool) (x : List A) : (x.takeWhile p).length ≤ x.length := by
  have : (x.takeWhile p).length + (x.dropWhile p).length = x.length := by rw [← List.length_append, List.takeWhile_append_dropWhile]
  omega
theorem I_AddSpan_eq {k : Nat} (hk : 1073741824 ≤ k) (x : List ISpan) (y : ISpan) (h : x.length < 268435456) : I_AddSpan k x y = some (addSp x y) := by
  have ha : slices_Clone_ISpan k x = some x := by rw [slices_Clone_ISpan, appn_ok (by simp; omega)]; rfl
  rw [I_AddSpan, I_IsSpanSet_eq hk x (by omega), Option.bind_some, addSp, goodS]
  simp only [ha, Option.bind_some]
  cases hs : isSet x with
  | false => simp
  | true =>
    by_cases c1 : y.From < 0
    · have d1 : decide (0 ≤ y.From) = false := by simp; omega
      by_cases c2 : y.From ≥ y.To <;> simp [c1, c2, d1]
    by_cases c2 : y.From ≥ y.To
    · have d2 : decide (y.From < y.To) = false := by simp; omega
      simp [c1, c2, d2]
    by_cases c3 : y.To > 1000000000000
    · have d3 : decide (y.To ≤ 1000000000000) = false := by simp; omega
      simp [c1, c2, c3, d3]
    have t1 := takeWhile_le (befP y.From) x
    have h1 := I_AddSpan_1 (k := k) x y.From y.To (by omega) k 0 [] (by omega) rfl (by omega)
    rw [show ((0 : Nat) : Int) = 0 from rfl, List.drop_zero, List.nil_append, Nat.zero_add] at h1
    simp only [c1, c2, c3, decide_false, Bool.not_true, cond_false, h1, Option.bind_some]
    have h2 := I_AddSpan_2 (k := k) x (by omega) (x.takeWhile (befP y.From)) k (x.takeWhile (befP y.From)).length (y.From, y.To) t1 (by omega)
    have u1 := unionN_le (x.drop (x.takeWhile (befP y.From)).length) (y.From, y.To)
    rw [List.length_drop] at u1
    simp only at h2
    rw [h2, Option.bind_some, appn_ok (by simp; omega), Option.bind_some, ssub_drop (by omega), Option.bind_some, appn_ok (by simp; omega), Option.bind_some]
    have e : (true && (decide (0 ≤ y.From) && decide (y.From < y.To) && decide (y.To ≤ 1000000000000))) = true := by simp; omega
    rw [e, cond_true, addU, ← List.drop_drop, drop_takeWhile]

/-! Spans united. -/
def unite (x : List ISpan) : List ISpan := x.foldl addSp []
theorem unite_len : ∀ (x : List ISpan) (s : List ISpan), (x.foldl addSp s).length ≤ s.length + x.length
  | [], s => by simp
  | e :: l, s => by
    rw [List.foldl_cons]
    have := unite_len l (addSp s e)
    have := addSp_len s e
    simp; omega
theorem S_UniteSpans_eq {k : Nat} (hk : 1073741824 ≤ k) (x : List ISpan) (h : x.length < 134217728) : S_UniteSpans k x = some (unite x) := by
  have := fold_all (len := x.length) (g := fun j s => (x[j]?).elim s (addSp s)) (Inv := fun i s => s.length ≤ i) (F := fun n i s => S_UniteSpans_b0 k n x i s) (out := id) (fun n i s hi hI => by
    have := addSp_len s x[i]
    simp only [S_UniteSpans_b0, bif_dec, lt_cast, hi, if_true, idx_nat hi, Option.bind_some, wrap_succ (by omega : i < 9223372036854775807), List.getElem?_eq_getElem hi, Option.elim_some]
    rw [S_AddSpan_eq hk _ _ (by omega), Option.bind_some]
    exact ⟨rfl, by omega⟩) (fun n i s hi => by
    simp only [S_UniteSpans_b0, bif_dec, lt_cast]
    rw [if_neg (by omega)]; rfl) (k := k) (by omega) (s := []) (by simp)
  have h1 : S_UniteSpans_b0 k k x 0 [] = some (foldI (fun j s => (x[j]?).elim s (addSp s)) x.length 0 []) := this.1
  rw [S_UniteSpans, h1, foldI_foldl x.length 0 _ (by omega), List.drop_zero]
  rfl
theorem I_UniteSpans_eq {k : Nat} (hk : 1073741824 ≤ k) (x : List ISpan) (h : x.length < 134217728) : I_UniteSpans k x = some (unite x) := by
  have := fold_all (len := x.length) (g := fun j s => (x[j]?).elim s (addSp s)) (Inv := fun i s => s.length ≤ i) (F := fun n i s => I_UniteSpans_b0 k n x (x.length : Int) i s) (out := id) (fun n i s hi hI => by
    have := addSp_len s x[i]
    simp only [I_UniteSpans_b0, bif_dec, lt_cast, hi, if_true, idx_nat hi, Option.bind_some, wrap_succ (by omega : i < 9223372036854775807), List.getElem?_eq_getElem hi, Option.elim_some]
    rw [I_AddSpan_eq hk _ _ (by omega), Option.bind_some]
    exact ⟨rfl, by omega⟩) (fun n i s hi => by
    simp only [I_UniteSpans_b0, bif_dec, lt_cast]
    rw [if_neg (by omega)]; rfl) (k := k) (by omega) (s := []) (by simp)
  have h1 : I_UniteSpans_b0 k k x (x.length : Int) 0 [] = some (foldI (fun j s => (x[j]?).elim s (addSp s)) x.length 0 []) := this.1
  rw [I_UniteSpans, h1, foldI_foldl x.length 0 _ (by omega), List.drop_zero]
  rfl

theorem FnExactUniteSpans_pure {k : Nat} (hk : 1073741824 ≤ k) (a0 : List LSpan) (h0 : InL V_LSpan a0) : L_FnExactUniteSpans k a0 = some true := by
  unfold L_FnExactUniteSpans
  rw [L_szSpanS_eq hk h0 _ (by omega) (by omega), Option.bind_some, bif_dec]
  by_cases c3 : (a0.length : Int) ≤ 1048576
  case neg => rw [if_neg c3, if_pos (by omega)]
  have hx : (a0.map to_LSpan).length < 1073741824 := by simp; omega
  have hx' : (a0.map to_LSpan).length < 134217728 := by simp; omega
  have hs : (unite (a0.map to_LSpan)).length < 1073741824 := by have := unite_len (a0.map to_LSpan) []; simp at this; unfold unite; omega
  rw [if_pos c3, if_neg (by omega)]
  simp only [L_toSpanS_eq hk a0 (by omega), Option.bind_some, S_UniteSpans_eq hk _ hx', I_UniteSpans_eq hk _ hx', L_eqSpanS_eq hk _ _ hs, L_eqSpanS_eq hk _ _ hx, L_markSpanS_eq hk _ hx, L_markSpanS_eq hk _ hs, L_heldSpanS_eq hk _ hs, decide_true, Bool.not_true, cond_false, bif_dec, bne_self_eq_false]
  rw [if_neg (by omega), if_neg (by omega), if_neg (by omega)]

end Go.Ytdninebapdohkaa
