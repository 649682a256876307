/- Plain lemmas and definitions. Nothing is claimed here. -/
import Derived.Test.YtolmhhnhmbiofaaKu
set_option linter.unusedVariables false
set_option linter.unusedSimpArgs false
set_option maxRecDepth 100000
namespace Go.Ytolmhhnhmbiofaa
open Go Go.RowKit Go.Pv Go.Pu
noncomputable section
def spanOf (p : IPiece) : ISpan := ⟨p.From, IntKind.wrap .i64 (p.From + (p.Data.length : Int))⟩
theorem spans_fold (x : List IPiece) : foldI (fun j s => s ++ (x[j]?).elim [] (fun e => [spanOf e])) x.length 0 [] = x.map spanOf := by
  have := foldI_append (x := x) (f := fun e => [spanOf e]) x.length 0 [] (by omega)
  rw [this, List.drop_zero, List.nil_append]
  clear this
  induction x with
  | nil => rfl
  | cons a l ih => rw [List.flatMap_cons, ih]; rfl
theorem S_SpansOf_eq {k : Nat} (hk : 1073741824 ≤ k) (x : List IPiece) (h : x.length < 1073741824) : S_SpansOf k x = some (x.map spanOf) := by
  have := (fold_all (len := x.length) (g := fun j s => s ++ (x[j]?).elim [] (fun e => [spanOf e])) (Inv := fun i s => s.length = i) (F := fun n i s => S_SpansOf_b0 k n x i s) (out := id) (fun n i s hi hs => by
    simp only [S_SpansOf_b0, idx_nat hi, Option.bind_some, wrap_succ (by omega : i < 9223372036854775807), bif_dec, lt_cast, hi, if_true, List.getElem?_eq_getElem hi, Option.elim_some]
    rw [appn_ok (by simp only [List.length_cons, List.length_nil]; omega), Option.bind_some]
    exact ⟨rfl, by simp [hs]⟩) (fun n i s hi => by
    simp only [S_SpansOf_b0, bif_dec, lt_cast]
    rw [if_neg (by omega)]; rfl) (k := k) (by omega) (s := []) rfl).1
  rw [S_SpansOf, this, spans_fold]; rfl
theorem I_SpansOf_eq {k : Nat} (hk : 1073741824 ≤ k) (x : List IPiece) (h : x.length < 1073741824) : I_SpansOf k x = some (x.map spanOf) := by
  have := (fold_all (len := x.length) (g := fun j s => s ++ (x[j]?).elim [] (fun e => [spanOf e])) (Inv := fun i s => s.length = i) (F := fun n i s => I_SpansOf_b0 k n x (x.length : Int) i s) (out := id) (fun n i s hi hs => by
    simp only [I_SpansOf_b0, idx_nat hi, Option.bind_some, wrap_succ (by omega : i < 9223372036854775807), bif_dec, lt_cast, hi, if_true, List.getElem?_eq_getElem hi, Option.elim_some]
    rw [appn_ok (by simp only [List.length_cons, List.length_nil]; omega), Option.bind_some]
    exact ⟨rfl, by simp [hs]⟩) (fun n i s hi => by
    simp only [I_SpansOf_b0, bif_dec, lt_cast]
    rw [if_neg (by omega)]; rfl) (k := k) (by omega) (s := []) rfl).1
  rw [I_SpansOf, this, spans_fold]; rfl
def badP (x : List ISpan) (i : Nat) : Bool :=
  match x[i]? with
  | none => false
  | some e => decide (e.From < 0) || decide (e.From ≥ e.To) || decide (e.To > 1000000000000) || (decide (0 < i) && match x[i - 1]? with | some q => decide (q.To ≥ e.From) | none => false)
def isSet (x : List ISpan) : Bool := (firstI (badP x) x.length 0).isNone
theorem S_IsSpanSet_eq {k : Nat} (hk : 1073741824 ≤ k) (x : List ISpan) (h : x.length < 1073741824) : S_IsSpanSet k x = some (isSet x) := by
  have := find_all (len := x.length) (c := fun i => bif badP x i then some false else none) (F := fun n i => S_IsSpanSet_b0 k n x i) (fun n i hi => by
    simp only [S_IsSpanSet_b0, idx_nat hi, Option.bind_some, wrap_succ (by omega : i < 9223372036854775807), bif_dec, lt_cast, hi, if_true, badP, List.getElem?_eq_getElem hi]
    by_cases c1 : x[i].From < 0
    · simp [c1]
    by_cases c2 : x[i].From ≥ x[i].To
    · simp [c1, c2]
    by_cases c3 : x[i].To > 1000000000000
    · simp [c1, c2, c3]
    by_cases c4 : 0 < i
    · have e : IntKind.wrap .i64 ((i : Int) - 1) = ((i - 1 : Nat) : Int) := by rw [wrap_id (by omega) (by omega)]; omega
      have hi' : i - 1 < x.length := by omega
      rw [e, idx_nat hi', List.getElem?_eq_getElem hi']
      by_cases c5 : x[i - 1].To ≥ x[i].From <;> simp [c1, c2, c3, c4, c5]
    · simp [c1, c2, c3, c4]) (fun n i hi => by
    simp only [S_IsSpanSet_b0, bif_dec, lt_cast]
    rw [if_neg (by omega)]) (k := k) (by omega)
  rw [S_IsSpanSet, this, findI_first]
  unfold isSet
  cases firstI (badP x) x.length 0 <;> simp [ocOf, oc]
theorem I_IsSpanSet_eq {k : Nat} (hk : 1073741824 ≤ k) (x : List ISpan) (h : x.length < 1073741824) : I_IsSpanSet k x = some (isSet x) := by
  have := find_all (len := x.length) (c := fun i => bif badP x i then some false else none) (F := fun n i => I_IsSpanSet_b0 k n x x (x.length : Int) i) (fun n i hi => by
    simp only [I_IsSpanSet_b0, idx_nat hi, Option.bind_some, wrap_succ (by omega : i < 9223372036854775807), bif_dec, lt_cast, hi, if_true, badP, List.getElem?_eq_getElem hi]
    by_cases c1 : x[i].From < 0
    · simp [c1]
    by_cases c2 : x[i].From ≥ x[i].To
    · simp [c1, c2]
    by_cases c3 : x[i].To > 1000000000000
    · simp [c1, c2, c3]
    by_cases c4 : 0 < i
    · have e : IntKind.wrap .i64 ((i : Int) - 1) = ((i - 1 : Nat) : Int) := by rw [wrap_id (by omega) (by omega)]; omega
      have hi' : i - 1 < x.length := by omega
      rw [e, idx_nat hi', List.getElem?_eq_getElem hi']
      by_cases c5 : x[i - 1].To ≥ x[i].From <;> simp [c1, c2, c3, c4, c5]
    · simp [c1, c2, c3, c4]) (fun n i hi => by
    simp only [I_IsSpanSet_b0, bif_dec, lt_cast]
    rw [if_neg (by omega)]) (k := k) (by omega)
  rw [I_IsSpanSet, this, findI_first]
  unfold isSet
  cases firstI (badP x) x.length 0 <;> simp [ocOf, oc]
def areP (x : List IPiece) (n : Int) : Bool := decide (0 ≤ n) && decide (n ≤ 600) && decide (x.length ≤ 8) && isSet (x.map spanOf) && (match (x.map spanOf).getLast? with | some s => decide (s.To ≤ n) | none => true)
theorem last_idx {x : List ISpan} (h : x.length < 1073741824) (h0 : x ≠ []) : idx x (IntKind.wrap .i64 ((x.length : Int) - 1)) = x.getLast? := by
  have : 0 < x.length := List.length_pos_iff.2 h0
  have e : IntKind.wrap .i64 ((x.length : Int) - 1) = ((x.length - 1 : Nat) : Int) := by rw [wrap_id (by omega) (by omega)]; omega
  rw [e, idx_nat (by omega), List.getLast?_eq_getElem?, List.getElem?_eq_getElem (by omega)]
theorem S_ArePieces_eq {k : Nat} (hk : 1073741824 ≤ k) (x : List IPiece) (n : Int) (h : x.length < 1073741824) : S_ArePieces k x n = some (areP x n) := by
  have hs : (x.map spanOf).length < 1073741824 := by simpa using h
  rw [S_ArePieces, S_SpansOf_eq hk x h, Option.bind_some, S_l1In, bif_dec]
  unfold areP
  by_cases c1 : n ≥ 0
  case neg => simp [c1]
  by_cases c2 : n ≤ 600
  case neg => simp [c1, c2]
  by_cases c3 : x.length ≤ 8
  case neg =>
    have c4 : ¬ ((x.length : Int) ≤ 8) := by omega
    have c5 : (x.length : Int) > 8 := by omega
    simp [c1, c2, c3, c4, c5]
  rw [if_pos c1, Option.bind_some, bifT (by simp [c2]), bifT (by simp; omega), S_IsSpanSet_eq hk _ hs, Option.bind_some]
  cases h4 : isSet (x.map spanOf) with
  | false => simp
  | true =>
    by_cases h5 : x.map spanOf = []
    · simp [h5, c1, c2, c3]
    · rw [cond_true, bifF (by rw [beq_eq_false_iff_ne]; have := List.length_pos_iff.2 h5; omega), last_idx hs h5]
      obtain ⟨s, hs⟩ : ∃ s, (x.map spanOf).getLast? = some s := ⟨_, List.getLast?_eq_some_getLast h5⟩
      simp [hs, c1, c2, c3]
theorem I_ArePieces_eq {k : Nat} (hk : 1073741824 ≤ k) (x : List IPiece) (n : Int) (h : x.length < 1073741824) : I_ArePieces k x n = some (areP x n) := by
  have hs : (x.map spanOf).length < 1073741824 := by simpa using h
  rw [I_ArePieces, I_SpansOf_eq hk x h, Option.bind_some, I_inRange, bif_dec]
  unfold areP
  by_cases c1 : 0 ≤ n
  case neg => simp [c1]
  by_cases c2 : n ≤ 600
  case neg => simp [c1, c2]
  by_cases c3 : x.length ≤ 8
  case neg =>
    have c4 : ¬ ((x.length : Int) ≤ 8) := by omega
    have c5 : (x.length : Int) > 8 := by omega
    simp [c1, c2, c3, c4, c5]
  rw [if_pos c1, Option.bind_some, bifF (by simp [c2]), bifF (by simp; omega), I_IsSpanSet_eq hk _ hs, Option.bind_some]
  cases h4 : isSet (x.map spanOf) with
  | false => simp
  | true =>
    by_cases h5 : x.map spanOf = []
    · simp [h5, c1, c2, c3]
    · rw [Bool.not_true, cond_false, bifF (by rw [beq_eq_false_iff_ne]; have := List.length_pos_iff.2 h5; omega), last_idx hs h5]
      obtain ⟨s, hs⟩ : ∃ s, (x.map spanOf).getLast? = some s := ⟨_, List.getLast?_eq_some_getLast h5⟩
      simp [hs, c1, c2, c3]
def stepU (s : Int × Int) (e : ISpan) : Int × Int := (if e.From < s.1 then e.From else s.1, if e.To > s.2 then e.To else s.2)
def stepS (s : Int × Int) (e : ISpan) : Int × Int := if e.To ≥ s.1 ∧ e.From ≤ s.2 then stepU s e else s
def unionN : List ISpan → Int × Int → Nat × Int × Int
  | [], s => (0, s)
  | e :: l, s => if e.From ≤ s.2 then ((unionN l (stepU s e)).1 + 1, (unionN l (stepU s e)).2) else (0, s)
def befP (F : Int) (e : ISpan) : Bool := decide (e.To < F)
def addS (x : List ISpan) (y : ISpan) : List ISpan :=
  x.filter (befP y.From) ++ [(⟨(x.foldl stepS (y.From, y.To)).1, (x.foldl stepS (y.From, y.To)).2⟩ : ISpan)] ++ x.filter (fun e => decide (e.From > (x.foldl stepS (y.From, y.To)).2))
def addU (x : List ISpan) (y : ISpan) : List ISpan :=
  x.takeWhile (befP y.From) ++ [(⟨(unionN (x.dropWhile (befP y.From)) (y.From, y.To)).2.1, (unionN (x.dropWhile (befP y.From)) (y.From, y.To)).2.2⟩ : ISpan)] ++ (x.dropWhile (befP y.From)).drop (unionN (x.dropWhile (befP y.From)) (y.From, y.To)).1
def goodS (y : ISpan) : Bool := decide (0 ≤ y.From) && decide (y.From < y.To) && decide (y.To ≤ 1000000000000)
def addSp (x : List ISpan) (y : ISpan) : List ISpan := bif isSet x && goodS y then addU x y else x
def SetL (x : List ISpan) : Prop := x.Pairwise (fun a b => a.To < b.From) ∧ ∀ e ∈ x, 0 ≤ e.From ∧ e.From < e.To ∧ e.To ≤ 1000000000000
theorem isSet_at {x : List ISpan} (h : isSet x = true) {i : Nat} (hi : i < x.length) : 0 ≤ x[i].From ∧ x[i].From < x[i].To ∧ x[i].To ≤ 1000000000000 ∧ ∀ j (e : i = j + 1), ∀ hj : j < x.length, x[j].To < x[i].From := by
  unfold isSet at h
  have := firstI_none x.length 0 (Option.isNone_iff_eq_none.1 h) i (by omega) (by omega)
  simp only [badP, List.getElem?_eq_getElem hi, Bool.or_eq_false_iff, decide_eq_false_iff_not, Bool.and_eq_false_iff] at this
  refine ⟨by omega, by omega, by omega, fun j e hj => ?_⟩
  subst e
  have h4 := this.2
  rw [show j + 1 - 1 = j by omega, List.getElem?_eq_getElem hj] at h4
  simp only [decide_eq_false_iff_not] at h4
  omega
theorem isSet_SetL {x : List ISpan} (h : isSet x = true) : SetL x := by
  refine ⟨List.pairwise_iff_getElem.2 fun i j hi hj hij => ?_, fun e he => ?_⟩
  · obtain ⟨d, rfl⟩ : ∃ d, j = i + d + 1 := ⟨j - i - 1, by omega⟩
    clear hij
    induction d with
    | zero => exact (isSet_at h hj).2.2.2 i rfl hi
    | succ d ih =>
      have h1 := ih (by omega)
      have h2 := (isSet_at h hj).2.2.2 (i + d + 1) rfl (by omega)
      have h3 := (isSet_at h (show i + d + 1 < x.length by omega)).2.1
      omega
  · obtain ⟨i, hi, rfl⟩ := List.mem_iff_getElem.1 he
    obtain ⟨h1, h2, h3, _⟩ := isSet_at h hi
    exact ⟨h1, h2, h3⟩
theorem stepU_1 (s : Int × Int) (e : ISpan) : (stepU s e).1 ≤ s.1 ∧ (stepU s e).1 ≤ e.From ∧ s.2 ≤ (stepU s e).2 ∧ e.To ≤ (stepU s e).2 := by
  unfold stepU; refine ⟨?_, ?_, ?_, ?_⟩ <;> simp only <;> split <;> omega
theorem foldS_2 : ∀ (l : List ISpan) (s : Int × Int), s.2 ≤ (l.foldl stepS s).2
  | [], s => Int.le_refl _
  | e :: l, s => by
    rw [List.foldl_cons]
    have := foldS_2 l (stepS s e)
    have h2 : s.2 ≤ (stepS s e).2 := by
      unfold stepS; split
      · exact (stepU_1 s e).2.2.1
      · omega
    omega
theorem foldS_id : ∀ (l : List ISpan) (s : Int × Int), (∀ e ∈ l, e.From > s.2) → l.foldl stepS s = s
  | [], s, _ => rfl
  | e :: l, s, h => by
    have := h e (List.mem_cons_self ..)
    rw [List.foldl_cons, show stepS s e = s by unfold stepS; rw [if_neg (by omega)]]
    exact foldS_id l s fun e' he' => h e' (List.mem_cons_of_mem _ he')
theorem SetL.tail {e : ISpan} {l : List ISpan} (h : SetL (e :: l)) : SetL l ∧ (∀ e' ∈ l, e.To < e'.From) ∧ e.From < e.To :=
  ⟨⟨(List.pairwise_cons.1 h.1).2, fun e' he' => h.2 e' (List.mem_cons_of_mem _ he')⟩, (List.pairwise_cons.1 h.1).1, (h.2 e (List.mem_cons_self ..)).2.1⟩
theorem unionN_eq : ∀ (l : List ISpan) (s : Int × Int), SetL l → (∀ e ∈ l, e.To ≥ s.1) → (unionN l s).2 = l.foldl stepS s ∧ l.drop (unionN l s).1 = l.filter (fun e => decide (e.From > (l.foldl stepS s).2))
  | [], s, _, _ => ⟨rfl, rfl⟩
  | e :: l, s, h, h1 => by
    obtain ⟨t1, t2, t3⟩ := h.tail
    have he := h1 e (List.mem_cons_self ..)
    rw [unionN, List.foldl_cons]
    by_cases c : e.From ≤ s.2
    · rw [if_pos c, show stepS s e = stepU s e by unfold stepS; rw [if_pos ⟨he, c⟩]]
      have hU := stepU_1 s e
      obtain ⟨i1, i2⟩ := unionN_eq l (stepU s e) t1 fun e' he' => by
        have := t2 e' he'
        have := (t1.2 e' he').2.1
        omega
      have := foldS_2 l (stepU s e)
      refine ⟨i1, ?_⟩
      rw [List.drop_succ_cons, i2, List.filter_cons, if_neg (by simp; omega)]
    · rw [if_neg c, show stepS s e = s by unfold stepS; rw [if_neg (by omega)], foldS_id l s fun e' he' => by have := t2 e' he'; omega]
      refine ⟨rfl, ?_⟩
      rw [List.drop_zero]
      refine (List.filter_eq_self.2 fun e' he' => ?_).symm
      rcases List.mem_cons.1 he' with rfl | he'
      · simp; omega
      · have := t2 e' he'; simp; omega
theorem addS_eq (F T : Int) (hFT : F < T) : ∀ (x : List ISpan), SetL x → x.filter (befP F) = x.takeWhile (befP F) ∧ x.foldl stepS (F, T) = (unionN (x.dropWhile (befP F)) (F, T)).2 ∧
    x.filter (fun e => decide (e.From > (x.foldl stepS (F, T)).2)) = (x.dropWhile (befP F)).drop (unionN (x.dropWhile (befP F)) (F, T)).1
  | [], _ => ⟨rfl, rfl, rfl⟩
  | e :: l, h => by
    obtain ⟨t1, t2, t3⟩ := h.tail
    cases c : befP F e with
    | true =>
      have c' : e.To < F := by simpa [befP] using c
      obtain ⟨i1, i2, i3⟩ := addS_eq F T hFT l t1
      have := foldS_2 l (F, T)
      rw [List.filter_cons, if_pos c, List.takeWhile_cons, if_pos c, List.dropWhile_cons, if_pos c, List.foldl_cons, show stepS (F, T) e = (F, T) by unfold stepS; rw [if_neg (by simp only; omega)], List.filter_cons, if_neg (by simp only [decide_eq_true_eq] at *; omega)]
      exact ⟨by rw [i1], i2, i3⟩
    | false =>
      have c' : e.To ≥ F := by simpa [befP] using c
      have all : ∀ e' ∈ e :: l, e'.To ≥ F := fun e' he' => by
        rcases List.mem_cons.1 he' with rfl | he'
        · exact c'
        · have := t2 e' he'
          have := (t1.2 e' he').2.1
          omega
      obtain ⟨j1, j2⟩ := unionN_eq (e :: l) (F, T) h all
      rw [List.takeWhile_cons, if_neg (by simp [c]), List.dropWhile_cons, if_neg (by simp [c])]
      refine ⟨?_, j1.symm, j2.symm⟩
      rw [List.filter_eq_nil_iff]
      intro e' he'
      have := all e' he'
      simp [befP]; omega
theorem addS_addU {x : List ISpan} {y : ISpan} (h : SetL x) (hy : y.From < y.To) : addS x y = addU x y := by
  obtain ⟨h1, h2, h3⟩ := addS_eq y.From y.To hy x h
  unfold addS addU
  rw [h3, h1, h2]
theorem unionN_le : ∀ (l : List ISpan) (s : Int × Int), (unionN l s).1 ≤ l.length
  | [], s => Nat.le_refl _
  | e :: l, s => by
    rw [unionN]; split
    · have := unionN_le l (stepU s e); simp; omega
    · simp
theorem addU_len (x : List ISpan) (y : ISpan) : (addU x y).length ≤ x.length + 1 := by
  have : (x.takeWhile (befP y.From)).length + (x.dropWhile (befP y.From)).length = x.length := by
    rw [← List.length_append, List.takeWhile_append_dropWhile]
  unfold addU
  simp only [List.length_append, List.length_cons, List.length_nil, List.length_drop]
  omega
theorem addSp_len (x : List ISpan) (y : ISpan) : (addSp x y).length ≤ x.length + 1 := by
  unfold addSp
  cases isSet x && goodS y with
  | true => exact addU_len x y
  | false => simp
theorem S_AddSpan_1 {k : Nat} (hk : 1073741824 ≤ k) (x : List ISpan) (F T : Int) (r : List ISpan) (h : x.length + r.length < 1073741824) : S_AddSpan_b0 k k x 0 F T r = some (r ++ x.filter (befP F)) := by
  have := fold_all (len := x.length) (g := fun j s => s ++ (x[j]?).elim [] fun e => bif befP F e then [e] else []) (Inv := fun i s => s.length ≤ r.length + i) (F := fun n i s => S_AddSpan_b0 k n x i F T s) (out := id) (fun n i s hi hI => by
    simp only [S_AddSpan_b0, bif_dec, lt_cast, hi, if_true, S_AddSpan_b1, idx_nat hi, Option.bind_some, S_AddSpan_c46, wrap_succ (by omega : i < 9223372036854775807), List.getElem?_eq_getElem hi, Option.elim_some, befP]
    by_cases c : x[i].To < F
    · simp only [c, if_true]; rw [appn_ok (by simp; omega)]; exact ⟨rfl, by simp; omega⟩
    · simp only [c, if_false, List.append_nil]; exact ⟨rfl, by omega⟩) (fun n i s hi => by
    simp only [S_AddSpan_b0, bif_dec, lt_cast]
    rw [if_neg (by omega)]; rfl) (k := k) (by omega) (s := r) (by simp)
  have h1 : S_AddSpan_b0 k k x 0 F T r = some (foldI (fun j s => s ++ (x[j]?).elim [] fun e => bif befP F e then [e] else []) x.length 0 r) := this.1
  rw [h1, foldI_filter]
theorem S_AddSpan_2 {k : Nat} (hk : 1073741824 ≤ k) (x : List ISpan) (F T : Int) (r : List ISpan) (h : x.length < 1073741824) : S_AddSpan_b2 k k x 0 F T r = some (x.foldl stepS (F, T)) := by
  have := fold_all (len := x.length) (g := fun j s => (x[j]?).elim s (stepS s)) (Inv := fun i s => True) (F := fun n i (s : Int × Int) => S_AddSpan_b2 k n x i s.1 s.2 r) (out := id) (fun n i s hi hI => by
    simp only [S_AddSpan_b2, bif_dec, lt_cast, hi, if_true, S_AddSpan_b3, idx_nat hi, Option.bind_some, S_AddSpan_c77, wrap_succ (by omega : i < 9223372036854775807), List.getElem?_eq_getElem hi, Option.elim_some, S_Min, S_Max, stepS, stepU]
    refine ⟨?_, trivial⟩
    by_cases c1 : x[i].To ≥ s.1 <;> by_cases c2 : x[i].From ≤ s.2 <;> by_cases c3 : x[i].From < s.1 <;> by_cases c4 : x[i].To > s.2 <;> simp [c1, c2, c3, c4]) (fun n i s hi => by
    simp only [S_AddSpan_b2, bif_dec, lt_cast]
    rw [if_neg (by omega)]; rfl) (k := k) (by omega) (s := (F, T)) trivial
  have h1 : S_AddSpan_b2 k k x 0 F T r = some (foldI (fun j s => (x[j]?).elim s (stepS s)) x.length 0 (F, T)) := this.1
  rw [h1, foldI_foldl x.length 0 _ (by omega), List.drop_zero]
theorem S_AddSpan_3 {k : Nat} (hk : 1073741824 ≤ k) (x : List ISpan) (F T : Int) (r : List ISpan) (h : x.length + r.length < 1073741824) : S_AddSpan_b4 k k x 0 F T r = some (r ++ x.filter (fun e => decide (e.From > T))) := by
  have := fold_all (len := x.length) (g := fun j s => s ++ (x[j]?).elim [] fun e => bif decide (e.From > T) then [e] else []) (Inv := fun i s => s.length ≤ r.length + i) (F := fun n i s => S_AddSpan_b4 k n x i F T s) (out := id) (fun n i s hi hI => by
    simp only [S_AddSpan_b4, bif_dec, lt_cast, hi, if_true, S_AddSpan_b5, idx_nat hi, Option.bind_some, S_AddSpan_c112, wrap_succ (by omega : i < 9223372036854775807), List.getElem?_eq_getElem hi, Option.elim_some]
    by_cases c : x[i].From > T
    · simp only [c, if_true]; rw [appn_ok (by simp; omega)]; exact ⟨rfl, by simp; omega⟩
    · simp only [c, if_false, List.append_nil]; exact ⟨rfl, by omega⟩) (fun n i s hi => by
    simp only [S_AddSpan_b4, bif_dec, lt_cast]
    rw [if_neg (by omega)]; rfl) (k := k) (by omega) (s := r) (by simp)
  have h1 : S_AddSpan_b4 k k x 0 F T r = some (foldI (fun j s => s ++ (x[j]?).elim [] fun e => bif decide (e.From > T) then [e] else []) x.length 0 r) := this.1
  rw [h1, foldI_filter]
theorem S_AddSpan_eq {k : Nat} (hk : 1073741824 ≤ k) (x : List ISpan) (y : ISpan) (h : x.length < 268435456) : S_AddSpan k x y = some (addSp x y) := by
  have ha : app 16 ([] : List ISpan) x = some x := by rw [appn_ok (by simp; omega)]; rfl
  rw [S_AddSpan, S_IsSpanSet_eq hk x (by omega), Option.bind_some, addSp, goodS]
  simp only [ha, Option.bind_some]
  cases hs : isSet x with
  | false => simp
  | true =>
    by_cases c1 : y.From < 0
    · have d1 : decide (0 ≤ y.From) = false := by simp; omega
      simp [c1, d1]
    by_cases c2 : y.From ≥ y.To
    · have d2 : decide (y.From < y.To) = false := by simp; omega
      simp [c1, c2, d2]
    by_cases c3 : y.To > 1000000000000
    · have d3 : decide (y.To ≤ 1000000000000) = false := by simp; omega
      simp [c1, c2, c3, d3]
    have f1 : (x.filter (befP y.From)).length ≤ x.length := List.length_filter_le ..
    have f2 : (x.filter (befP y.From)).length + x.length < 2147483648 := by omega
    rw [S_AddSpan_1 hk x _ _ [] (by simp; omega), List.nil_append]
    simp only [c1, c2, c3, decide_false, Bool.not_true, cond_false, Option.bind_some]
    rw [S_AddSpan_2 hk x _ _ _ (by omega), Option.bind_some, appn_ok (by simp; omega), Option.bind_some, S_AddSpan_3 hk x _ _ _ (by simp; omega), Option.bind_some]
    have e : (true && (decide (0 ≤ y.From) && decide (y.From < y.To) && decide (y.To ≤ 1000000000000))) = true := by simp; omega
    rw [e, cond_true, ← addS_addU (isSet_SetL hs) (by omega)]
    rfl
theorem I_AddSpan_1 {k : Nat} (x : List ISpan) (F T : Int) (h : x.length < 1073741824) : ∀ (n i : Nat) (r : List ISpan), i ≤ x.length → r.length = i → x.length - i < n →
    I_AddSpan_b0 k n x (i : Int) F T r = some (((i + ((x.drop i).takeWhile (befP F)).length : Nat) : Int), r ++ (x.drop i).takeWhile (befP F)) := by
  intro n
  induction n with
  | zero => intro i r _ _ h; omega
  | succ n ih =>
    intro i r hi hr hn
    rw [I_AddSpan_b0, bif_dec]
    by_cases c : i < x.length
    · rw [if_pos (by omega), idx_nat c, Option.bind_some, Option.bind_some, List.drop_eq_getElem_cons c, List.takeWhile_cons, befP]
      cases decide (x[i].To < F) with
      | true =>
        rw [cond_true, appn_ok (by simp; omega), Option.bind_some, wrap_succ (by omega), ih (i + 1) _ (by omega) (by simp; omega) (by omega), if_pos rfl]
        simp only [List.length_cons, List.append_assoc, List.cons_append, List.nil_append]
        rw [show i + 1 + ((x.drop (i + 1)).takeWhile (befP F)).length = i + (((x.drop (i + 1)).takeWhile (befP F)).length + 1) by omega]
      | false => rw [cond_false, if_neg (by simp)]; simp
    · rw [if_neg (by omega), List.drop_of_length_le (by omega)]; simp
theorem I_AddSpan_2 {k : Nat} (x : List ISpan) (h : x.length < 1073741824) (r : List ISpan) : ∀ (n i : Nat) (s : Int × Int), i ≤ x.length → x.length - i < n →
    I_AddSpan_b2 k n x (i : Int) s.1 s.2 r = some (((i + (unionN (x.drop i) s).1 : Nat) : Int), (unionN (x.drop i) s).2) := by
  intro n
  induction n with
  | zero => intro i s _ h; omega
  | succ n ih =>
    intro i s hi hn
    rw [I_AddSpan_b2, bif_dec]
    by_cases c : i < x.length
    · rw [if_pos (by omega), idx_nat c, Option.bind_some, Option.bind_some, Option.bind_some, List.drop_eq_getElem_cons c, unionN, bif_dec]
      by_cases c2 : x[i].From ≤ s.2
      · rw [if_pos c2, if_pos c2, wrap_succ (by omega)]
        have := ih (i + 1) (stepU s x[i]) (by omega) (by omega)
        simp only [stepU] at this ⊢
        rw [this]
        rw [show i + 1 + (unionN (x.drop (i + 1)) (if x[i].From < s.1 then x[i].From else s.1, if x[i].To > s.2 then x[i].To else s.2)).1 = i + ((unionN (x.drop (i + 1)) (if x[i].From < s.1 then x[i].From else s.1, if x[i].To > s.2 then x[i].To else s.2)).1 + 1) by omega]
      · rw [if_neg c2, if_neg c2]; simp
    · rw [if_neg (by omega), List.drop_of_length_le (by omega)]; simp [unionN]
theorem drop_takeWhile {A : Type} (p : A → Bool) : ∀ x : List A, x.drop (x.takeWhile p).length = x.dropWhile p
  | [] => rfl
  | a :: l => by
    rw [List.takeWhile_cons, List.dropWhile_cons]
    cases p a with
    | true => simp [drop_takeWhile p l]
    | false => rfl
theorem takeWhile_le {A : Type} (p : A → Bool) (x : List A) : (x.takeWhile p).length ≤ x.length := by
  have : (x.takeWhile p).length + (x.dropWhile p).length = x.length := by rw [← List.length_append, List.takeWhile_append_dropWhile]
  omega
theorem I_AddSpan_eq {k : Nat} (hk : 1073741824 ≤ k) (x : List ISpan) (y : ISpan) (h : x.length < 268435456) : I_AddSpan k x y = some (addSp x y) := by
  have ha : slices_Clone_ISpan k x = some x := by rw [slices_Clone_ISpan, appn_ok (by simp; omega)]; rfl
  rw [I_AddSpan, I_IsSpanSet_eq hk x (by omega), Option.bind_some, addSp, goodS]
  simp only [ha, Option.bind_some]
  cases hs : isSet x with
  | false => simp
  | true =>
    by_cases c1 : y.From < 0
    · have d1 : decide (0 ≤ y.From) = false := by simp; omega
      by_cases c2 : y.From ≥ y.To <;> simp [c1, c2, d1]
    by_cases c2 : y.From ≥ y.To
    · have d2 : decide (y.From < y.To) = false := by simp; omega
      simp [c1, c2, d2]
    by_cases c3 : y.To > 1000000000000
    · have d3 : decide (y.To ≤ 1000000000000) = false := by simp; omega
      simp [c1, c2, c3, d3]
    have t1 := takeWhile_le (befP y.From) x
    have h1 := I_AddSpan_1 (k := k) x y.From y.To (by omega) k 0 [] (by omega) rfl (by omega)
    rw [show ((0 : Nat) : Int) = 0 from rfl, List.drop_zero, List.nil_append, Nat.zero_add] at h1
    simp only [c1, c2, c3, decide_false, Bool.not_true, cond_false, h1, Option.bind_some]
    have h2 := I_AddSpan_2 (k := k) x (by omega) (x.takeWhile (befP y.From)) k (x.takeWhile (befP y.From)).length (y.From, y.To) t1 (by omega)
    have u1 := unionN_le (x.drop (x.takeWhile (befP y.From)).length) (y.From, y.To)
    rw [List.length_drop] at u1
    simp only at h2
    rw [h2, Option.bind_some, appn_ok (by simp; omega), Option.bind_some, ssub_drop (by omega), Option.bind_some, appn_ok (by simp; omega), Option.bind_some]
    have e : (true && (decide (0 ≤ y.From) && decide (y.From < y.To) && decide (y.To ≤ 1000000000000))) = true := by simp; omega
    rw [e, cond_true, addU, ← List.drop_drop, drop_takeWhile]
def covP (x : List ISpan) (f t : Int) (i : Nat) : Bool := match x[i]? with | some e => decide (e.From ≤ f) && decide (t ≤ e.To) | none => false
def covB (x : List ISpan) (a : ISpan) : Bool := decide (a.From ≥ a.To) || (firstI (covP x a.From a.To) x.length 0).isSome
theorem I_CoversSpan_eq {k : Nat} (hk : 1073741824 ≤ k) (x : List ISpan) (a : ISpan) (h : x.length < 1073741824) : I_CoversSpan k x a = some (covB x a) := by
  have := find_all (len := x.length) (c := fun i => bif covP x a.From a.To i then some (i : Int) else none) (F := fun n i => slices_IndexFunc_ISpan_at_I_CoversSpan_1_b0 k n x a.From a.To (x.length : Int) i) (fun n i hi => by
    simp only [slices_IndexFunc_ISpan_at_I_CoversSpan_1_b0, I_CoversSpan_1, idx_nat hi, Option.bind_some, wrap_succ (by omega : i < 9223372036854775807), bif_dec, lt_cast, hi, if_true, covP, List.getElem?_eq_getElem hi]
    by_cases c1 : x[i].From ≤ a.From
    · by_cases c2 : a.To ≤ x[i].To <;> simp [c1, c2]
    · simp [c1]) (fun n i hi => by
    simp only [slices_IndexFunc_ISpan_at_I_CoversSpan_1_b0, bif_dec, lt_cast]
    rw [if_neg (by omega)]) (k := k) (by omega)
  unfold covB
  rw [I_CoversSpan, bif_dec]
  by_cases c : a.From ≥ a.To
  · simp [c]
  · rw [if_neg c, slices_ContainsFunc_ISpan_at_I_CoversSpan_1, slices_IndexFunc_ISpan_at_I_CoversSpan_1, this, findI_first]
    cases firstI (covP x a.From a.To) x.length 0 with
    | none => simp [ocOf, oc, c]
    | some j => simp [ocOf, oc, c]
theorem wrap_nat8 {n : Nat} (h : n < 256) : IntKind.wrap .i64 (n : Int) = (n : Int) := wrap_id (by omega) (by omega)
theorem u8w_tab : ∀ j : Fin 256, IntKind.wrap .u8 (j.val : Int) = (j.val : Int) := by decide +kernel
theorem u8w {n : Nat} (h : n < 256) : IntKind.wrap .u8 (n : Int) = (n : Int) := u8w_tab ⟨n, h⟩
def allB (p : Nat → Bool) (m i : Nat) : Bool := (findI (fun j => bif p j then none else some false) m i).isNone
theorem allB_succ (p : Nat → Bool) (m i : Nat) : allB p (m + 1) i = (p i && allB p m (i + 1)) := by
  unfold allB
  rw [findI]
  cases p i <;> rfl
theorem allB_at {p : Nat → Bool} : ∀ (m i : Nat), allB p m i = true → ∀ j, i ≤ j → j < i + m → p j = true
  | 0, _, _, j, h1, h2 => by omega
  | m + 1, i, h, j, h1, h2 => by
    rw [allB_succ, Bool.and_eq_true] at h
    by_cases e : j = i
    · rw [e]; exact h.1
    · exact allB_at m (i + 1) h.2 j (by omega) (by omega)
def bAt : List IPiece → Int → Option UInt8
  | [], _ => none
  | p :: l, a => bif decide (p.From ≤ a) && decide (a < p.From + (p.Data.length : Int)) then p.Data[(a - p.From).toNat]? else bAt l a
structure PcL (l : List IPiece) (n : Nat) : Prop where
  dis : l.Pairwise fun a b => a.From + (a.Data.length : Int) < b.From
  all : ∀ p ∈ l, 0 ≤ p.From ∧ p.From + (p.Data.length : Int) ≤ (n : Int)
theorem PcL.tail {p : IPiece} {l : List IPiece} {n : Nat} (h : PcL (p :: l) n) : PcL l n ∧ ∀ q ∈ l, p.From + (p.Data.length : Int) < q.From :=
  ⟨⟨(List.pairwise_cons.1 h.dis).2, fun q hq => h.all q (by simp [hq])⟩, (List.pairwise_cons.1 h.dis).1⟩
theorem span_to {p : IPiece} (h0 : 0 ≤ p.From) (h1 : p.From ≤ 1000000000000) (h2 : p.Data.length ≤ 1048576) : spanOf p = ⟨p.From, p.From + (p.Data.length : Int)⟩ := by
  unfold spanOf
  rw [wrap_id (by omega) (by omega)]
theorem last_max : ∀ (l : List ISpan), SetL l → ∀ n : Int, (match l.getLast? with | some s => decide (s.To ≤ n) | none => true) = true → ∀ e ∈ l, e.To ≤ n := by
  intro l h n hl e he
  cases hg : l.getLast? with
  | none => rw [List.getLast?_eq_none_iff] at hg; subst hg; cases he
  | some s =>
    rw [hg] at hl
    simp only [decide_eq_true_eq] at hl
    obtain ⟨i, hi, rfl⟩ := List.mem_iff_getElem.1 he
    rw [List.getLast?_eq_getElem?, List.getElem?_eq_getElem (by omega)] at hg
    simp only [Option.some.injEq] at hg
    by_cases c : i = l.length - 1
    · subst c; rw [hg]; exact hl
    · have h1 := List.pairwise_iff_getElem.1 h.1 i (l.length - 1) hi (by omega) (by omega)
      rw [hg] at h1
      have h2 := h.2 s (by rw [← hg]; exact List.getElem_mem _)
      omega
theorem areP_PcL {l : List IPiece} {n : Int} (h : areP l n = true) (hd : ∀ p ∈ l, p.Data.length ≤ 1048576) : 0 ≤ n ∧ n ≤ 600 ∧ l.length ≤ 8 ∧ SetL (l.map spanOf) ∧ isSet (l.map spanOf) = true ∧ PcL l n.toNat ∧ (∀ p ∈ l, spanOf p = ⟨p.From, p.From + (p.Data.length : Int)⟩) ∧ ∀ e ∈ l.map spanOf, 0 ≤ e.From ∧ e.From < e.To ∧ e.To ≤ n := by
  unfold areP at h
  simp only [Bool.and_eq_true, decide_eq_true_eq] at h
  obtain ⟨⟨⟨⟨h1, h2⟩, h3⟩, h4⟩, h5⟩ := h
  have hs := isSet_SetL h4
  have hm := last_max _ hs n h5
  have hsp : ∀ p ∈ l, spanOf p = ⟨p.From, p.From + (p.Data.length : Int)⟩ := by
    intro p hp
    obtain ⟨g1, g2, g3⟩ := hs.2 (spanOf p) (List.mem_map_of_mem hp)
    have e : (spanOf p).From = p.From := rfl
    rw [e] at g1 g2
    exact span_to g1 (by omega) (hd p hp)
  refine ⟨h1, h2, h3, hs, h4, ⟨?_, fun p hp => ?_⟩, hsp, fun e he => ⟨(hs.2 e he).1, (hs.2 e he).2.1, hm e he⟩⟩
  · have := List.pairwise_map.1 hs.1
    refine this.imp_of_mem fun {a b} ha hb hab => ?_
    rw [hsp a ha] at hab
    exact hab
  · have g := hm (spanOf p) (List.mem_map_of_mem hp)
    have g0 := hs.2 (spanOf p) (List.mem_map_of_mem hp)
    rw [hsp p hp] at g g0
    simp only at g g0
    exact ⟨g0.1, by omega⟩
theorem bAt_none_of_lt {n : Nat} : ∀ (l : List IPiece) (a : Int), (∀ q ∈ l, a < q.From) → bAt l a = none
  | [], _, _ => rfl
  | p :: l, a, h => by
    have := h p (by simp)
    rw [bAt, decide_eq_false (by omega), Bool.false_and, cond_false]
    exact bAt_none_of_lt (n := n) l a fun q hq => h q (by simp [hq])
theorem bAt_in {p : IPiece} {l : List IPiece} {a : Int} (h1 : p.From ≤ a) (h2 : a < p.From + (p.Data.length : Int)) : ∃ h : (a - p.From).toNat < p.Data.length, bAt (p :: l) a = some (p.Data[(a - p.From).toNat]'h) := by
  refine ⟨by omega, ?_⟩
  rw [bAt, decide_eq_true h1, decide_eq_true h2, Bool.true_and, cond_true, List.getElem?_eq_getElem (by omega)]
theorem bAt_out {p : IPiece} {l : List IPiece} {a : Int} (h : ¬ (p.From ≤ a ∧ a < p.From + (p.Data.length : Int))) : bAt (p :: l) a = bAt l a := by
  rw [bAt]
  by_cases c : p.From ≤ a
  · rw [decide_eq_true c, decide_eq_false (by omega), Bool.true_and, cond_false]
  · rw [decide_eq_false c, Bool.false_and, cond_false]
theorem bAt_cov : ∀ (l : List IPiece) (a : Int), (bAt l a).isSome = l.any fun p => decide (p.From ≤ a) && decide (a < p.From + (p.Data.length : Int))
  | [], _ => rfl
  | p :: l, a => by
    rw [List.any_cons]
    by_cases c : p.From ≤ a ∧ a < p.From + (p.Data.length : Int)
    · obtain ⟨h, e⟩ := bAt_in (l := l) c.1 c.2
      rw [e, decide_eq_true c.1, decide_eq_true c.2]; rfl
    · rw [bAt_out c, bAt_cov l a]
      have : (decide (p.From ≤ a) && decide (a < p.From + (p.Data.length : Int))) = false := by
        rw [Bool.and_eq_false_iff, decide_eq_false_iff_not, decide_eq_false_iff_not]; omega
      rw [this, Bool.false_or]
theorem S_byte_loop {k : Nat} {l : List IPiece} {a : Int} (hl : l.length < 1073741824) (ha : 0 ≤ a ∧ a ≤ 1000000) (hp : ∀ p ∈ l, 0 ≤ p.From ∧ p.From + (p.Data.length : Int) ≤ 1000000) : ∀ (n i : Nat), i ≤ l.length → l.length - i < n →
    S_l10Byte_b0 k n l a (i : Int) = some (match bAt (l.drop i) a with | some c => .oth (c.toNat : Int) | none => .nrm ()) := by
  intro n
  induction n with
  | zero => intro i _ h; omega
  | succ n ih =>
    intro i hi hn
    rw [S_l10Byte_b0, bif_dec]
    by_cases c : i < l.length
    · obtain ⟨g1, g2⟩ := hp _ (List.getElem_mem c)
      rw [if_pos (by omega), idx_nat c, Option.bind_some, Option.bind_some, Option.bind_some, wrap_id (n := l[i].From + (l[i].Data.length : Int)) (by omega) (by omega), Option.bind_some, Option.bind_some, wrap_succ (by omega), ih (i + 1) (by omega) (by omega), List.drop_eq_getElem_cons c]
      by_cases c2 : l[i].From ≤ a ∧ a < l[i].From + (l[i].Data.length : Int)
      · obtain ⟨h, e⟩ := bAt_in (l := l.drop (i + 1)) c2.1 c2.2
        have ew : IntKind.wrap .i64 (a - l[i].From) = (((a - l[i].From).toNat : Nat) : Int) := by rw [wrap_id (by omega) (by omega)]; omega
        have hb := UInt8.toNat_lt (l[i].Data[(a - l[i].From).toNat]'h)
        rw [decide_eq_true c2.1, cond_true, decide_eq_true c2.2, cond_true, ew, idx_nat h, Option.bind_some, e, wrap_nat8 hb]
      · rw [bAt_out c2]
        by_cases c3 : l[i].From ≤ a
        · rw [decide_eq_true c3, cond_true, decide_eq_false (by omega), cond_false]
        · rw [decide_eq_false c3, cond_false]
    · rw [if_neg (by omega), List.drop_of_length_le (by omega)]; rfl
def byI (l : List IPiece) (a : Int) : Int := match bAt l a with | some c => (c.toNat : Int) | none => -1
theorem S_l10Byte_eq {k : Nat} (hk : 1073741824 ≤ k) {l : List IPiece} {a : Int} (hl : l.length < 1073741824) (ha : 0 ≤ a ∧ a ≤ 1000000) (hp : ∀ p ∈ l, 0 ≤ p.From ∧ p.From + (p.Data.length : Int) ≤ 1000000) : S_l10Byte k l a = some (byI l a) := by
  have := S_byte_loop (k := k) hl ha hp k 0 (by omega) (by omega)
  rw [List.drop_zero] at this
  have h0 : S_l10Byte_b0 k k l a 0 = _ := this
  rw [S_l10Byte, h0, Option.bind_some]
  unfold byI
  cases bAt l a <;> rfl
theorem overR_get {r : List Int} {a : Nat} {x : List Int} (h : a + x.length ≤ r.length) (i : Nat) : (overR r a x)[i]? = if a ≤ i ∧ i < a + x.length then x[i - a]? else r[i]? := by
  unfold overR
  rw [List.take_of_length_le (by omega : x.length ≤ r.length - a)]
  by_cases c1 : i < a
  · rw [if_neg (by omega), List.append_assoc, List.getElem?_append_left (by simp; omega), List.getElem?_take_of_lt c1]
  · by_cases c2 : i < a + x.length
    · rw [if_pos ⟨by omega, c2⟩, List.append_assoc, List.getElem?_append_right (by simp; omega), List.getElem?_append_left (by simp; omega)]
      congr 1
      simp; omega
    · rw [if_neg (by omega), List.getElem?_append_right (by simp; omega), List.getElem?_drop]
      congr 1
      simp; omega
theorem overR_len {r : List Int} {a : Nat} {x : List Int} (h : a + x.length ≤ r.length) : (overR r a x).length = r.length := by
  unfold overR
  simp; omega
def ovl (l : List IPiece) (r : List Int) : List Int := l.foldl (fun r p => overR r p.From.toNat (intsOf p.Data)) r
theorem ints_len (s : List UInt8) : (intsOf s).length = s.length := by unfold intsOf; simp
theorem ints_get (s : List UInt8) (i : Nat) : (intsOf s)[i]? = s[i]?.map fun c => (c.toNat : Int) := by unfold intsOf; rw [List.getElem?_map]
theorem ovl_get {n : Nat} : ∀ (l : List IPiece) (r : List Int), PcL l n → r.length = n → (ovl l r).length = n ∧ ∀ i : Nat, (ovl l r)[i]? = match bAt l (i : Int) with | some c => some (c.toNat : Int) | none => r[i]?
  | [], r, _, hr => ⟨hr, fun i => rfl⟩
  | p :: l, r, h, hr => by
    obtain ⟨h1, h2⟩ := h.all p (by simp)
    obtain ⟨h3, h4⟩ := h.tail
    have hle : p.From.toNat + (intsOf p.Data).length ≤ r.length := by rw [ints_len]; omega
    obtain ⟨g1, g2⟩ := ovl_get l (overR r p.From.toNat (intsOf p.Data)) h3 (by rw [overR_len hle]; exact hr)
    refine ⟨g1, fun i => ?_⟩
    show (ovl l (overR r p.From.toNat (intsOf p.Data)))[i]? = _
    rw [g2 i, overR_get hle, ints_len]
    by_cases c : p.From ≤ (i : Int) ∧ (i : Int) < p.From + (p.Data.length : Int)
    · obtain ⟨hh, e⟩ := bAt_in (l := l) c.1 c.2
      rw [bAt_none_of_lt (n := n) l i fun q hq => by have := h4 q hq; omega, if_pos ⟨by omega, by omega⟩, e, ints_get]
      have : i - p.From.toNat = ((i : Int) - p.From).toNat := by omega
      simp only
      rw [this, List.getElem?_eq_getElem hh]; rfl
    · rw [bAt_out c, if_neg (by omega)]
theorem I_ovl {k : Nat} {x0 : List IPiece} {y0 : Int} {y1 : List UInt8} {n : Nat} {l : List IPiece} (h : PcL l n) (hl : l.length < 1073741824) : ∀ (m i : Nat) (r : List Int), i ≤ l.length → l.length - i < m → r.length = n →
    I_AddPiece_b0 k m x0 l (l.length : Int) (i : Int) y0 y1 r = some (ovl (l.drop i) r) := by
  intro m
  induction m with
  | zero => intro i _ _ h; omega
  | succ m ih =>
    intro i r hi hm hr
    rw [I_AddPiece_b0, bif_dec]
    by_cases c : i < l.length
    · obtain ⟨g1, g2⟩ := h.all _ (List.getElem_mem c)
      have hle : l[i].From.toNat + (intsOf l[i].Data).length ≤ r.length := by rw [ints_len]; omega
      rw [if_pos (by omega), idx_nat c, Option.bind_some, ssub_ok (by omega) (by omega) (by omega), Option.bind_some, wrap_succ (by omega), ih (i + 1) _ (by omega) (by omega) (by rw [overR_len hle]; exact hr), List.drop_eq_getElem_cons c]; rfl
    · rw [if_neg (by omega), List.drop_of_length_le (by omega)]; rfl
def okB (l : List IPiece) (F : Nat) (x : List UInt8) (i : Nat) : Bool := match bAt l ((F + i : Nat) : Int) with | some c => (match x[i]? with | some d => c == d | none => true) | none => true
theorem any_cg {A : Type} {f g : A → Bool} : ∀ l : List A, (∀ p ∈ l, f p = g p) → l.any f = l.any g
  | [], _ => rfl
  | a :: l, h => by rw [List.any_cons, List.any_cons, h a (by simp), any_cg l fun p hp => h p (List.mem_cons_of_mem _ hp)]
theorem cov_one {l : List IPiece} {a : Int} (hs : ∀ p ∈ l, spanOf p = ⟨p.From, p.From + (p.Data.length : Int)⟩) : covB (l.map spanOf) ⟨a, a + 1⟩ = (bAt l a).isSome := by
  rw [bAt_cov]
  unfold covB
  simp only
  rw [decide_eq_false (by omega), Bool.false_or]
  have h1 : ∀ (m : List ISpan) (j : Nat), j ≤ m.length → (firstI (covP m a (a + 1)) (m.length - j) j).isSome = (m.drop j).any fun e => decide (e.From ≤ a) && decide (a + 1 ≤ e.To) := by
    intro m j
    generalize hd : m.length - j = d
    induction d generalizing j with
    | zero => intro hj; rw [List.drop_of_length_le (by omega)]; rfl
    | succ d ih =>
      intro hj
      have hjl : j < m.length := by omega
      rw [List.drop_eq_getElem_cons hjl, List.any_cons, ← ih (j + 1) (by omega) (by omega)]
      simp only [firstI, findI]
      have : covP m a (a + 1) j = (decide (m[j].From ≤ a) && decide (a + 1 ≤ m[j].To)) := by unfold covP; rw [List.getElem?_eq_getElem hjl]
      rw [this]
      cases (decide (m[j].From ≤ a) && decide (a + 1 ≤ m[j].To)) <;> rfl
  have := h1 (l.map spanOf) 0 (by omega)
  rw [Nat.sub_zero, List.drop_zero] at this
  rw [this, List.any_map]
  refine any_cg l fun p hp => ?_
  simp only [Function.comp]
  rw [hs p hp]
  rfl
theorem I_new {k : Nat} (hk : 1073741824 ≤ k) {l : List IPiece} {x : List UInt8} {n F : Nat} {base : List Int} (hl : l.length ≤ 8) (hn : n ≤ 600) (hF : F + x.length ≤ n) (hs : ∀ p ∈ l, spanOf p = ⟨p.From, p.From + (p.Data.length : Int)⟩)
    (hb : base.length = n) (hbg : ∀ i : Nat, i < n → base[i]? = some (match bAt l (i : Int) with | some c => (c.toNat : Int) | none => 0)) :
    ∀ (m i : Nat) (r : List Int), i ≤ x.length → x.length - i < m → r.length = n → (∀ j : Nat, r[j]? = if F ≤ j ∧ j < F + i then x[j - F]?.map (fun c => (c.toNat : Int)) else base[j]?) →
      ∃ r', I_AddPiece_b2 k m l (x.length : Int) (i : Int) (F : Int) x r = some (bif allB (okB l F x) (x.length - i) i then .nrm r' else .oth (l, false)) ∧ r'.length = n ∧ ∀ j : Nat, r'[j]? = if F ≤ j ∧ j < F + x.length then x[j - F]?.map (fun c => (c.toNat : Int)) else base[j]? := by
  intro m
  induction m with
  | zero => intro i _ _ h; omega
  | succ m ih =>
    intro i r hi hm hr hg
    rw [I_AddPiece_b2, bif_dec]
    by_cases c : i < x.length
    · have e1 : IntKind.wrap .i64 ((F : Int) + (i : Int)) = ((F + i : Nat) : Int) := by rw [wrap_id (by omega) (by omega)]; push_cast; rfl
      have hFi : F + i < r.length := by omega
      have hc := cov_one (a := ((F + i : Nat) : Int)) hs
      have e2 : IntKind.wrap .i64 (((F + i : Nat) : Int) + 1) = ((F + i : Nat) : Int) + 1 := wrap_id (by omega) (by omega)
      have hri : r[F + i]? = some (match bAt l ((F + i : Nat) : Int) with | some c => (c.toNat : Int) | none => 0) := by
        rw [hg (F + i), if_neg (by omega)]
        exact hbg (F + i) (by omega)
      have hri2 : r[F + i] = (match bAt l ((F + i : Nat) : Int) with | some c => (c.toNat : Int) | none => 0) := by
        rw [List.getElem?_eq_getElem hFi, Option.some.injEq] at hri
        exact hri
      obtain ⟨r', h1, h2, h3⟩ := ih (i + 1) (r.set (F + i) (x[i].toNat : Int)) (by omega) (by omega) (by rw [List.length_set]; exact hr) (fun j => by
        by_cases cj : j = F + i
        · subst cj
          rw [List.getElem?_set_self hFi, if_pos (by omega), show F + i - F = i by omega, List.getElem?_eq_getElem c]; rfl
        · rw [List.getElem?_set_ne (by omega), hg j]
          by_cases cc : F ≤ j ∧ j < F + i
          · rw [if_pos cc, if_pos (by omega)]
          · rw [if_neg cc, if_neg (by omega)])
      refine ⟨r', ?_, h2, h3⟩
      rw [if_pos (by omega), I_SpansOf_eq hk l (by omega), Option.bind_some, e1, e2, I_CoversSpan_eq hk _ _ (by simp; omega), Option.bind_some, hc, idx_nat hFi, idx_nat c]
      simp only [Option.bind_some]
      rw [wrap_succ (by omega), Int.toNat_natCast, h1, show x.length - i = (x.length - (i + 1)) + 1 by omega, allB_succ]
      have hok : okB l F x i = (match bAt l ((F + i : Nat) : Int) with | some c => c == x[i] | none => true) := by
        unfold okB
        rw [List.getElem?_eq_getElem c]
      have hcl : slices_Clone_IPiece k l = some l := by
        show app 24 [] l = some l
        rw [appn_ok (by simp; omega), List.nil_append]
      rw [hok, hcl, Option.bind_some, hri2]
      cases hbx : bAt l ((F + i : Nat) : Int) with
      | none => simp
      | some d =>
        simp only [Option.isSome_some, cond_true]
        have hne : (((d.toNat : Nat) : Int) != ((x[i].toNat : Nat) : Int)) = !(d == x[i]) := by rw [bne, u8_eq]
        rw [hne]
        cases (d == x[i]) <;> rfl
    · refine ⟨r, ?_, hr, fun j => ?_⟩
      · rw [if_neg (by omega), show x.length - i = 0 by omega]; rfl
      · rw [hg j, show i = x.length by omega]
theorem S_chk {k : Nat} (hk : 1073741824 ≤ k) {l : List IPiece} {x : List UInt8} {n F : Nat} {r8 : List IPiece} (hl : l.length ≤ 8) (hn : n ≤ 600) (hF : F + x.length ≤ n) (hp : PcL l n) :
    ∀ (m i : Nat), i ≤ x.length → x.length - i < m → S_AddPiece_b0 k m l ((F + x.length : Nat) : Int) ((F + i : Nat) : Int) (F : Int) x r8 = some (bif allB (okB l F x) (x.length - i) i then .nrm () else .oth (r8, false)) := by
  intro m
  induction m with
  | zero => intro i _ h; omega
  | succ m ih =>
    intro i hi hm
    rw [S_AddPiece_b0, bif_dec]
    by_cases c : i < x.length
    · have e1 : IntKind.wrap .i64 (((F + i : Nat) : Int) - (F : Int)) = (i : Int) := by rw [wrap_id (by omega) (by omega)]; push_cast; omega
      have hb := UInt8.toNat_lt x[i]
      rw [if_pos (by omega), S_l10Byte_eq hk (by omega) (by omega) (fun p h => by have := hp.all p h; omega), Option.bind_some, e1, idx_nat c, Option.bind_some, wrap_nat8 hb, wrap_succ (by omega), Nat.add_assoc, ih (i + 1) (by omega) (by omega), show x.length - i = (x.length - (i + 1)) + 1 by omega, allB_succ]
      have hok : okB l F x i = (match bAt l ((F + i : Nat) : Int) with | some c => c == x[i] | none => true) := by
        unfold okB
        rw [List.getElem?_eq_getElem c]
      rw [hok]
      unfold byI
      cases hbx : bAt l ((F + i : Nat) : Int) with
      | none => rfl
      | some d =>
        simp only
        have hne : (((d.toNat : Nat) : Int) != ((x[i].toNat : Nat) : Int)) = !(d == x[i]) := by rw [bne, u8_eq]
        rw [decide_eq_true (by omega), cond_true, hne]
        cases (d == x[i]) <;> rfl
    · rw [if_neg (by omega), show x.length - i = 0 by omega]; rfl
def valA (l : List IPiece) (F : Nat) (x : List UInt8) (a : Nat) : Int := match bAt l (a : Int) with | some c => (c.toNat : Int) | none => (x[a - F]?.map fun c => (c.toNat : Int)).getD 0
def gen (l : List IPiece) (F : Nat) (x : List UInt8) : Nat → Nat → List Int
  | 0, _ => []
  | m + 1, a => valA l F x a :: gen l F x m (a + 1)
theorem valA_in (l : List IPiece) (F : Nat) (x : List UInt8) (a : Nat) : 0 ≤ valA l F x a ∧ valA l F x a ≤ 255 := by
  unfold valA
  cases bAt l (a : Int) with
  | some c => have := UInt8.toNat_lt c; simp only; omega
  | none =>
    cases x[a - F]? with
    | none => simp
    | some c => have := UInt8.toNat_lt c; simp only [Option.map_some, Option.getD_some]; omega
theorem take_gen {l : List IPiece} {F : Nat} {x : List UInt8} {r : List Int} : ∀ (m a : Nat), a + m ≤ r.length → (∀ j : Nat, a ≤ j → j < a + m → r[j]? = some (valA l F x j)) → (r.take (a + m)).drop a = gen l F x m a
  | 0, a, h, _ => by
    rw [gen, List.drop_of_length_le (by rw [List.length_take]; omega)]
  | m + 1, a, h, hv => by
    have ha : a < (r.take (a + (m + 1))).length := by simp; omega
    have ih := take_gen (l := l) (F := F) (x := x) (r := r) m (a + 1) (by omega) (fun j h1 h2 => hv j (by omega) (by omega))
    have e := hv a (by omega) (by omega)
    rw [List.getElem?_eq_getElem (by omega), Option.some.injEq] at e
    rw [List.drop_eq_getElem_cons ha, gen, ← ih, show a + 1 + m = a + (m + 1) by omega, List.getElem_take, e]
theorem S_gen {k : Nat} (hk : 1073741824 ≤ k) {l : List IPiece} {x : List UInt8} {n F : Nat} {sp : List ISpan} {r13 : List IPiece} {i t : Nat} (hl : l.length ≤ 8) (hn : n ≤ 600) (hF : F + x.length ≤ n) (hp : PcL l n) (hi : i < sp.length) (hsp : sp.length < 1073741824) (ht : sp[i].To = (t : Int)) (htn : t ≤ n)
    (hcov : ∀ a : Nat, sp[i].From ≤ (a : Int) → a < t → bAt l (a : Int) = none → F ≤ a ∧ a < F + x.length) : ∀ (m a : Nat) (r : List Int), sp[i].From ≤ (a : Int) → a ≤ t → t - a < m → r.length ≤ a →
      S_AddPiece_b4 k m l (i : Int) (a : Int) (F : Int) x sp r13 r = some (r ++ gen l F x (t - a) a) := by
  intro m
  induction m with
  | zero => intro a _ _ _ h; omega
  | succ m ih =>
    intro a r h1 h2 h3 hr
    rw [S_AddPiece_b4, idx_nat hi, Option.bind_some, Option.bind_some, ht, bif_dec]
    by_cases c : a < t
    · have hv := valA_in l F x a
      have e5 : S_AddPiece_b5 k l (i : Int) (a : Int) (F : Int) x sp r13 r = some (r ++ [valA l F x a]) := by
        rw [S_AddPiece_b5, S_l10Byte_eq hk (by omega) (by omega) (fun p h => by have := hp.all p h; omega), Option.bind_some, S_AddPiece_c122]
        unfold byI
        cases hbx : bAt l (a : Int) with
        | some d =>
          have hb := UInt8.toNat_lt d
          have ev : valA l F x a = (d.toNat : Int) := by unfold valA; rw [hbx]
          simp only
          rw [decide_eq_false (by omega), cond_false, Option.bind_some, u8w (by omega), appn_ok (by simp; omega), Option.bind_some, ev]
        | none =>
          obtain ⟨g1, g2⟩ := hcov a h1 c hbx
          have e1 : IntKind.wrap .i64 ((a : Int) - (F : Int)) = ((a - F : Nat) : Int) := by rw [wrap_id (by omega) (by omega)]; omega
          have hx : a - F < x.length := by omega
          have hb := UInt8.toNat_lt x[a - F]
          have ev : valA l F x a = (x[a - F].toNat : Int) := by unfold valA; rw [hbx]; simp only; rw [List.getElem?_eq_getElem hx]; rfl
          simp only
          rw [show decide ((-1 : Int) < 0) = true from rfl, cond_true, e1, idx_nat hx, Option.bind_some, wrap_nat8 hb, Option.bind_some, u8w (by omega), appn_ok (by simp; omega), Option.bind_some, ev]
      rw [if_pos (by omega), e5, Option.bind_some, wrap_succ (by omega), ih (a + 1) _ (by omega) (by omega) (by omega) (by simp; omega), show t - a = (t - (a + 1)) + 1 by omega, gen, List.append_assoc]; rfl
    · rw [if_neg (by omega), show t - a = 0 by omega, gen, List.append_nil]
def newP (l : List IPiece) (F : Nat) (x : List UInt8) (s : ISpan) : IPiece := ⟨s.From, bytesOf (gen l F x (s.To - s.From).toNat s.From.toNat)⟩
structure SpOK (l : List IPiece) (F : Nat) (x : List UInt8) (n : Nat) (sp : List ISpan) : Prop where
  rng : ∀ s ∈ sp, 0 ≤ s.From ∧ s.From ≤ s.To ∧ s.To ≤ (n : Int)
  cov : ∀ s ∈ sp, ∀ a : Nat, s.From ≤ (a : Int) → (a : Int) < s.To → bAt l (a : Int) = none → F ≤ a ∧ a < F + x.length
theorem S_out {k : Nat} (hk : 1073741824 ≤ k) {l : List IPiece} {x : List UInt8} {n F : Nat} {sp : List ISpan} (hl : l.length ≤ 8) (hn : n ≤ 600) (hF : F + x.length ≤ n) (hp : PcL l n) (hsp : sp.length ≤ 8) (h : SpOK l F x n sp) : ∀ (m i : Nat) (r : List IPiece), i ≤ sp.length → sp.length - i < m → r.length ≤ i →
    S_AddPiece_b2 k m l (i : Int) (F : Int) x sp r = some (r ++ (sp.drop i).map (newP l F x)) := by
  intro m
  induction m with
  | zero => intro i _ _ h; omega
  | succ m ih =>
    intro i r hi hm hr
    rw [S_AddPiece_b2, bif_dec]
    by_cases c : i < sp.length
    · obtain ⟨g1, g2, g3⟩ := h.rng _ (List.getElem_mem c)
      have hg := S_gen hk (l := l) (x := x) (n := n) (F := F) (sp := sp) (r13 := r) (i := i) (t := sp[i].To.toNat) hl hn hF hp c (by omega) (by omega) (by omega) (fun a q1 q2 q3 => h.cov _ (List.getElem_mem c) a q1 (by omega) q3) k sp[i].From.toNat [] (by omega) (by omega) (by omega) (by simp)
      have hg' : S_AddPiece_b4 k k l (i : Int) sp[i].From (F : Int) x sp r [] = some (gen l F x (sp[i].To - sp[i].From).toNat sp[i].From.toNat) := by
        have e1 : ((sp[i].From.toNat : Nat) : Int) = sp[i].From := by omega
        rw [e1, List.nil_append] at hg
        rw [hg]
        congr 2; omega
      rw [if_pos (by omega), idx_nat c, Option.bind_some, Option.bind_some, hg', Option.bind_some, Option.bind_some, Option.bind_some, appn_ok (by simp; omega), Option.bind_some, wrap_succ (by omega), ih (i + 1) _ (by omega) (by omega) (by simp; omega), List.drop_eq_getElem_cons c, List.map_cons, List.append_assoc]; rfl
    · rw [if_neg (by omega), List.drop_of_length_le (by omega)]; simp
theorem I_out {k : Nat} (hk : 1073741824 ≤ k) {l : List IPiece} {x : List UInt8} {n F : Nat} {sp : List ISpan} {r8 : List Int} (hn : n ≤ 600) (hsp : sp.length ≤ 1000) (h : SpOK l F x n sp) (hr8 : r8.length = n) (hv : ∀ s ∈ sp, ∀ a : Nat, s.From ≤ (a : Int) → (a : Int) < s.To → r8[a]? = some (valA l F x a)) : ∀ (m i : Nat) (r : List IPiece), i ≤ sp.length → sp.length - i < m → r.length ≤ i →
    I_AddPiece_b4 k m l r8 (sp.length : Int) (i : Int) r sp = some (r ++ (sp.drop i).map (newP l F x)) := by
  intro m
  induction m with
  | zero => intro i _ _ h; omega
  | succ m ih =>
    intro i r hi hm hr
    rw [I_AddPiece_b4, bif_dec]
    by_cases c : i < sp.length
    · obtain ⟨g1, g2, g3⟩ := h.rng _ (List.getElem_mem c)
      have ht := take_gen (l := l) (F := F) (x := x) (r := r8) (sp[i].To - sp[i].From).toNat sp[i].From.toNat (by omega) (fun j h1 h2 => hv _ (List.getElem_mem c) j (by omega) (by omega))
      have hs : ssub r8 sp[i].From sp[i].To = some (gen l F x (sp[i].To - sp[i].From).toNat sp[i].From.toNat) := by
        rw [ssub_ok (by omega) (by omega) (by omega), ← ht]
        congr 3; omega
      rw [if_pos (by omega), idx_nat c, Option.bind_some, Option.bind_some, hs, Option.bind_some, appn_ok (by simp; omega), Option.bind_some, wrap_succ (by omega), ih (i + 1) _ (by omega) (by omega) (by simp; omega), List.drop_eq_getElem_cons c, List.map_cons, List.append_assoc]; rfl
    · rw [if_neg (by omega), List.drop_of_length_le (by omega)]; simp
theorem fold_cov {n : Int} : ∀ (x : List ISpan) (s : Int × Int), (∀ e ∈ x, 0 ≤ e.From ∧ e.From < e.To ∧ e.To ≤ n) → 0 ≤ s.1 → s.1 < s.2 → s.2 ≤ n →
    0 ≤ (x.foldl stepS s).1 ∧ (x.foldl stepS s).1 < (x.foldl stepS s).2 ∧ (x.foldl stepS s).2 ≤ n ∧ ∀ a : Int, (x.foldl stepS s).1 ≤ a → a < (x.foldl stepS s).2 → (s.1 ≤ a ∧ a < s.2) ∨ ∃ e ∈ x, e.From ≤ a ∧ a < e.To
  | [], s, _, h1, h2, h3 => ⟨h1, h2, h3, fun a ha hb => .inl ⟨ha, hb⟩⟩
  | e :: x, s, h, h1, h2, h3 => by
    obtain ⟨e1, e2, e3⟩ := h e (by simp)
    have hx := fun y hy => h y (List.mem_cons_of_mem _ hy)
    rw [List.foldl_cons]
    by_cases c : e.To ≥ s.1 ∧ e.From ≤ s.2
    · have es : stepS s e = stepU s e := by unfold stepS; rw [if_pos c]
      have b1 : (stepU s e).1 = if e.From < s.1 then e.From else s.1 := rfl
      have b2 : (stepU s e).2 = if e.To > s.2 then e.To else s.2 := rfl
      have i1 : 0 ≤ (stepU s e).1 ∧ (stepU s e).1 < (stepU s e).2 ∧ (stepU s e).2 ≤ n ∧ ∀ a : Int, (stepU s e).1 ≤ a → a < (stepU s e).2 → (s.1 ≤ a ∧ a < s.2) ∨ (e.From ≤ a ∧ a < e.To) := by
        rw [b1, b2]
        split <;> split <;> refine ⟨by omega, by omega, by omega, fun a ha hb => by omega⟩
      rw [es]
      obtain ⟨g1, g2, g3, g4⟩ := fold_cov x (stepU s e) hx i1.1 i1.2.1 i1.2.2.1
      refine ⟨g1, g2, g3, fun a ha hb => ?_⟩
      rcases g4 a ha hb with q | ⟨y, hy, q⟩
      · rcases i1.2.2.2 a q.1 q.2 with q | q
        · exact .inl q
        · exact .inr ⟨e, by simp, q⟩
      · exact .inr ⟨y, List.mem_cons_of_mem _ hy, q⟩
    · have es : stepS s e = s := by unfold stepS; rw [if_neg c]
      rw [es]
      obtain ⟨g1, g2, g3, g4⟩ := fold_cov x s hx h1 h2 h3
      refine ⟨g1, g2, g3, fun a ha hb => ?_⟩
      rcases g4 a ha hb with q | ⟨y, hy, q⟩
      · exact .inl q
      · exact .inr ⟨y, List.mem_cons_of_mem _ hy, q⟩
theorem addS_cov {n : Int} {x : List ISpan} {y : ISpan} (h : ∀ e ∈ x, 0 ≤ e.From ∧ e.From < e.To ∧ e.To ≤ n) (h1 : 0 ≤ y.From) (h2 : y.From < y.To) (h3 : y.To ≤ n) : ∀ s ∈ addS x y, (0 ≤ s.From ∧ s.From ≤ s.To ∧ s.To ≤ n) ∧ ∀ a : Int, s.From ≤ a → a < s.To → (y.From ≤ a ∧ a < y.To) ∨ ∃ e ∈ x, e.From ≤ a ∧ a < e.To := by
  intro s hs
  obtain ⟨g1, g2, g3, g4⟩ := fold_cov x (y.From, y.To) h h1 h2 h3
  unfold addS at hs
  rw [List.mem_append, List.mem_append, List.mem_singleton] at hs
  rcases hs with (hs | rfl) | hs
  · have := h s ((List.mem_filter.1 hs).1)
    exact ⟨by omega, fun a ha hb => .inr ⟨s, (List.mem_filter.1 hs).1, ha, hb⟩⟩
  · exact ⟨⟨g1, by simp only; omega, g3⟩, g4⟩
  · have := h s ((List.mem_filter.1 hs).1)
    exact ⟨by omega, fun a ha hb => .inr ⟨s, (List.mem_filter.1 hs).1, ha, hb⟩⟩
def addPc (l : List IPiece) (n : Int) (x : IPiece) : List IPiece × Bool :=
  bif !areP l n then (l, false) else if x.From < 0 ∨ x.Data.length = 0 ∨ n < x.From + (x.Data.length : Int) then (l, false)
  else bif !allB (okB l x.From.toNat x.Data) x.Data.length 0 then (l, false)
  else if (addSp (l.map spanOf) ⟨x.From, x.From + (x.Data.length : Int)⟩).length > 8 then (l, false)
  else ((addSp (l.map spanOf) ⟨x.From, x.From + (x.Data.length : Int)⟩).map (newP l x.From.toNat x.Data), true)
theorem spOK_of {l : List IPiece} {n F : Nat} {x : List UInt8} (hn : n ≤ 600) (hF : F + x.length ≤ n) (hx : x.length ≠ 0) (hs : ∀ p ∈ l, spanOf p = ⟨p.From, p.From + (p.Data.length : Int)⟩) (hset : isSet (l.map spanOf) = true) (hall : ∀ e ∈ l.map spanOf, 0 ≤ e.From ∧ e.From < e.To ∧ e.To ≤ (n : Int)) :
    SpOK l F x n (addSp (l.map spanOf) ⟨(F : Int), (F : Int) + (x.length : Int)⟩) := by
  have hgood : goodS ⟨(F : Int), (F : Int) + (x.length : Int)⟩ = true := by
    unfold goodS
    simp only [Bool.and_eq_true, decide_eq_true_eq]
    omega
  have e : addSp (l.map spanOf) ⟨(F : Int), (F : Int) + (x.length : Int)⟩ = addS (l.map spanOf) ⟨(F : Int), (F : Int) + (x.length : Int)⟩ := by
    unfold addSp
    rw [hset, hgood, Bool.true_and, cond_true, addS_addU (isSet_SetL hset) (by simp only; omega)]
  have hc := addS_cov (x := l.map spanOf) (y := ⟨(F : Int), (F : Int) + (x.length : Int)⟩) hall (by simp only; omega) (by simp only; omega) (by simp only; omega)
  rw [e]
  refine ⟨fun s h => (hc s h).1, fun s h a h1 h2 hb => ?_⟩
  rcases (hc s h).2 a h1 h2 with q | ⟨y, hy, q⟩
  · simp only at q; omega
  · exfalso
    obtain ⟨p, hp, rfl⟩ := List.mem_map.1 hy
    rw [hs p hp] at q
    have := bAt_cov l (a : Int)
    rw [hb] at this
    have h5 : (l.any fun p => decide (p.From ≤ (a : Int)) && decide ((a : Int) < p.From + (p.Data.length : Int))) = true := by
      rw [List.any_eq_true]
      exact ⟨p, hp, by simp only at q; rw [decide_eq_true q.1, decide_eq_true q.2]; rfl⟩
    rw [h5] at this
    cases this
theorem I_AddPiece_eq {k : Nat} (hk : 1073741824 ≤ k) (l : List IPiece) (n : Int) (x : IPiece) (hl : l.length < 1073741824) (hd : ∀ p ∈ l, p.Data.length ≤ 1048576) (hx : x.Data.length ≤ 1048576) (hxf : InI x.From) (hn : InI n) : I_AddPiece k l n x = some (addPc l n x) := by
  have hcl : slices_Clone_IPiece k l = some l := by
    show app 24 [] l = some l
    rw [appn_ok (by simp; omega), List.nil_append]
  rw [I_AddPiece, I_ArePieces_eq hk l n hl, Option.bind_some, hcl]
  simp only [Option.bind_some]
  unfold addPc
  cases ha : areP l n with
  | false => rfl
  | true =>
    obtain ⟨q1, q2, q3, q4, q5, q6, q7, q8⟩ := areP_PcL ha hd
    obtain ⟨m, rfl⟩ : ∃ m : Nat, n = (m : Int) := ⟨n.toNat, by omega⟩
    rw [Int.toNat_natCast] at q6
    rw [Bool.not_true, cond_false, cond_false, wrap_id (n := (m : Int) - (x.Data.length : Int)) (by omega) (by omega)]
    by_cases c1 : x.Data.length = 0
    · have : (x.Data == []) = true := by rw [List.length_eq_zero_iff.1 c1]; rfl
      rw [this, cond_true, if_pos (by omega)]
    · have hne : (x.Data == []) = false := beq_ne fun e => c1 (by rw [e]; rfl)
      rw [hne, cond_false, bif_dec, bif_dec]
      by_cases c2 : x.From < 0
      · rw [if_pos c2, if_pos (by omega)]
      · by_cases c3 : x.From > (m : Int) - (x.Data.length : Int)
        · rw [if_neg c2, if_pos c3, if_pos (by omega)]
        · obtain ⟨F, hFe⟩ : ∃ F : Nat, x.From = (F : Int) := ⟨x.From.toNat, by omega⟩
          have hF : F + x.Data.length ≤ m := by omega
          have hz := mks_ok (α := Int) (n := 1) (m := m) (z := 0) (by omega)
          have ho := I_ovl (k := k) (x0 := l) (y0 := x.From) (y1 := x.Data) q6 hl k 0 (List.replicate m 0) (by omega) (by omega) (by simp)
          have ho' : I_AddPiece_b0 k k l l (l.length : Int) 0 x.From x.Data (List.replicate m 0) = some (ovl (l.drop 0) (List.replicate m 0)) := ho
          rw [List.drop_zero] at ho'
          obtain ⟨o1, o2⟩ := ovl_get l (List.replicate m (0 : Int)) q6 (by simp)
          obtain ⟨r', n1, n2, n3⟩ := I_new hk (l := l) (x := x.Data) (n := m) (F := F) (base := ovl l (List.replicate m 0)) q3 (by omega) hF q7 o1 (fun i hi => by
            rw [o2 i]
            cases bAt l (i : Int) with
            | some c => rfl
            | none => simp [List.getElem?_replicate, hi]) k 0 (ovl l (List.replicate m 0)) (by omega) (by omega) o1 (fun j => by rw [if_neg (by omega)])
          rw [Nat.sub_zero] at n1
          have n1' : I_AddPiece_b2 k k l (x.Data.length : Int) 0 (F : Int) x.Data (ovl l (List.replicate m 0)) = some (bif allB (okB l F x.Data) x.Data.length 0 then .nrm r' else .oth (l, false)) := n1
          have hsp := spOK_of (l := l) (n := m) (F := F) (x := x.Data) (by omega) hF c1 q7 q5 q8
          have hlen := addSp_len (l.map spanOf) ⟨(F : Int), (F : Int) + (x.Data.length : Int)⟩
          rw [List.length_map] at hlen
          rw [if_neg c2, if_neg c3, if_neg (by omega), guardT_self, hz, Option.bind_some, ho', Option.bind_some, hFe, n1', Option.bind_some, Int.toNat_natCast, wrap_id (n := (F : Int) + (x.Data.length : Int)) (by omega) (by omega)]
          cases hok : allB (okB l F x.Data) x.Data.length 0 with
          | false => rfl
          | true =>
            rw [cond_true]
            simp only [oc]
            have hval : ∀ s ∈ addSp (l.map spanOf) ⟨(F : Int), (F : Int) + (x.Data.length : Int)⟩, ∀ a : Nat, s.From ≤ (a : Int) → (a : Int) < s.To → r'[a]? = some (valA l F x.Data a) := by
              intro s hs a h1 h2
              have hr := hsp.rng s hs
              rw [n3 a]
              unfold valA
              by_cases ca : F ≤ a ∧ a < F + x.Data.length
              · have hxa : a - F < x.Data.length := by omega
                rw [if_pos ca, List.getElem?_eq_getElem hxa]
                cases hb : bAt l (a : Int) with
                | none => rfl
                | some c =>
                  have h3 := allB_at (p := okB l F x.Data) x.Data.length 0 hok (a - F) (by omega) (by omega)
                  unfold okB at h3
                  rw [show F + (a - F) = a by omega, hb, List.getElem?_eq_getElem hxa] at h3
                  simp only [beq_iff_eq] at h3
                  simp only [Option.map_some]
                  rw [h3]
              · rw [if_neg ca, o2 a]
                cases hb : bAt l (a : Int) with
                | some c => rfl
                | none => exact absurd (hsp.cov s hs a h1 h2 hb) ca
            have hout := I_out hk (n := m) (by omega) (by omega) hsp n2 hval k 0 [] (by omega) (by omega) (by simp)
            rw [List.drop_zero, List.nil_append] at hout
            have hout' : I_AddPiece_b4 k k l r' ((addSp (l.map spanOf) ⟨(F : Int), (F : Int) + (x.Data.length : Int)⟩).length : Int) 0 [] (addSp (l.map spanOf) ⟨(F : Int), (F : Int) + (x.Data.length : Int)⟩) = _ := hout
            rw [I_SpansOf_eq hk l hl, Option.bind_some, I_AddSpan_eq hk _ _ (by simp; omega), Option.bind_some, hout', Option.bind_some, bif_dec, Bool.not_true, cond_false, List.length_map]
            by_cases c8 : (addSp (l.map spanOf) ⟨(F : Int), (F : Int) + (x.Data.length : Int)⟩).length > 8
            · rw [if_pos (by omega), if_pos c8]
            · rw [if_neg (by omega), if_neg c8]
theorem S_AddPiece_eq {k : Nat} (hk : 1073741824 ≤ k) (l : List IPiece) (n : Int) (x : IPiece) (hl : l.length < 1073741824) (hd : ∀ p ∈ l, p.Data.length ≤ 1048576) (hx : x.Data.length ≤ 1048576) (hxf : InI x.From) (hn : InI n) : S_AddPiece k l n x = some (addPc l n x) := by
  have hcl : app 24 ([] : List IPiece) l = some l := by
    rw [appn_ok (by simp; omega), List.nil_append]
  rw [S_AddPiece, hcl, Option.bind_some, S_ArePieces_eq hk l n hl, Option.bind_some]
  unfold addPc
  cases ha : areP l n with
  | false => rfl
  | true =>
    obtain ⟨q1, q2, q3, q4, q5, q6, q7, q8⟩ := areP_PcL ha hd
    obtain ⟨m, rfl⟩ : ∃ m : Nat, n = (m : Int) := ⟨n.toNat, by omega⟩
    rw [Int.toNat_natCast] at q6
    rw [Bool.not_true, cond_false, cond_false, wrap_id (n := (m : Int) - (x.Data.length : Int)) (by omega) (by omega), bif_dec]
    by_cases c2 : x.From < 0
    · rw [if_pos c2, if_pos (by omega)]
    · rw [if_neg c2]
      by_cases c1 : x.Data.length = 0
      · rw [beq_iff_eq.2 (by omega : (x.Data.length : Int) = 0), cond_true, if_pos (by omega)]
      · rw [beq_ne (by omega : ¬ (x.Data.length : Int) = 0), cond_false, bif_dec, bif_dec]
        by_cases c4 : (x.Data.length : Int) > (m : Int)
        · rw [if_pos c4, if_pos (by omega)]
        · by_cases c3 : x.From > (m : Int) - (x.Data.length : Int)
          · rw [if_neg c4, if_pos c3, if_pos (by omega)]
          · obtain ⟨F, hFe⟩ : ∃ F : Nat, x.From = (F : Int) := ⟨x.From.toNat, by omega⟩
            have hF : F + x.Data.length ≤ m := by omega
            have hc := S_chk hk (l := l) (x := x.Data) (n := m) (F := F) (r8 := l) q3 (by omega) hF q6 k 0 (by omega) (by omega)
            rw [Nat.sub_zero, Nat.add_zero] at hc
            have hsp := spOK_of (l := l) (n := m) (F := F) (x := x.Data) (by omega) hF c1 q7 q5 q8
            have hlen := addSp_len (l.map spanOf) ⟨(F : Int), (F : Int) + (x.Data.length : Int)⟩
            rw [List.length_map] at hlen
            have ec : ((F : Int) + (x.Data.length : Int)) = ((F + x.Data.length : Nat) : Int) := by push_cast; rfl
            rw [if_neg c4, if_neg c3, if_neg (by omega), hFe, wrap_id (n := (F : Int) + (x.Data.length : Int)) (by omega) (by omega), Int.toNat_natCast]
            rw [ec] at hsp hlen ⊢
            rw [hc, Option.bind_some]
            cases hok : allB (okB l F x.Data) x.Data.length 0 with
            | false => rfl
            | true =>
              rw [cond_true]
              simp only [oc]
              rw [S_SpansOf_eq hk l hl, Option.bind_some, S_AddSpan_eq hk _ _ (by simp; omega), Option.bind_some, bif_dec, Bool.not_true, cond_false]
              by_cases c8 : (addSp (l.map spanOf) ⟨(F : Int), ((F + x.Data.length : Nat) : Int)⟩).length > 8
              · rw [if_pos (by omega), if_pos c8]
              · have hout := S_out hk (n := m) q3 (by omega) hF q6 (by omega) hsp k 0 [] (by omega) (by omega) (by simp)
                rw [List.drop_zero, List.nil_append] at hout
                have hout' : S_AddPiece_b2 k k l 0 (F : Int) x.Data (addSp (l.map spanOf) ⟨(F : Int), ((F + x.Data.length : Nat) : Int)⟩) [] = _ := hout
                rw [if_neg (by omega), if_neg c8, hout', Option.bind_some]
theorem addPc_len (l : List IPiece) (n : Int) (x : IPiece) : (addPc l n x).1.length ≤ l.length + 8 := by
  unfold addPc
  cases areP l n with
  | false => simp
  | true =>
    rw [Bool.not_true, cond_false]
    split
    · simp
    · cases allB (okB l x.From.toNat x.Data) x.Data.length 0 with
      | false => simp
      | true =>
        rw [Bool.not_true, cond_false]
        split
        · simp
        · simp only [List.length_map]; omega
theorem FnExactAddPiece_pure {k : Nat} (hk : 1073741824 ≤ k) (a0 : List LPiece) (a1 : Int) (a2 : LPiece) (h0 : InL V_LPiece a0) (h1 : InI a1) (h2 : V_LPiece a2) : L_FnExactAddPiece k a0 a1 a2 = some true := by
  unfold L_FnExactAddPiece
  rw [L_szPieceS_eq hk h0 _ (by omega) (by omega), Option.bind_some, bif_dec]
  by_cases c3 : (szL sz_LPiece a0 : Int) ≤ 1048576
  case neg => rw [if_neg c3, if_pos (by omega)]
  rw [if_pos c3, if_neg (by omega), L_szPiece_eq hk h2 _ (by omega) (by omega), Option.bind_some, bif_dec]
  by_cases c5 : (sz_LPiece a2 : Int) ≤ 1048576 - (szL sz_LPiece a0 : Int)
  case neg => rw [if_neg c5, if_pos (by omega)]
  have hl : a0.length ≤ szL sz_LPiece a0 := by unfold szL; omega
  have hx : (a0.map to_LPiece).length < 1073741824 := by simp; omega
  have hd : ∀ e ∈ a0.map to_LPiece, e.Data.length ≤ 1048576 := by
    intro e he
    obtain ⟨p, hp, rfl⟩ := List.mem_map.1 he
    have := sz_mem (g := sz_LPiece) hp
    unfold sz_LPiece at *; unfold to_LPiece; simp only; omega
  have h6 : sz_LPiece a2 ≤ 1048576 := by omega
  have hd2 : (to_LPiece a2).Data.length ≤ 1048576 := by unfold sz_LPiece at h6; unfold to_LPiece; simp only; omega
  have hf2 : InI (to_LPiece a2).From := h2.1
  have hs : (addPc (a0.map to_LPiece) a1 (to_LPiece a2)).1.length < 1073741824 := by have := addPc_len (a0.map to_LPiece) a1 (to_LPiece a2); simp at this ⊢; omega
  rw [if_pos c5, if_neg (by omega)]
  simp only [L_toPieceS_eq hk a0 (by omega), L_toPiece_eq hk a2 h6, Option.bind_some, S_AddPiece_eq hk _ _ _ hx hd hd2 hf2 h1, I_AddPiece_eq hk _ _ _ hx hd hd2 hf2 h1, L_eqPieceS_eq hk _ _ hs, L_eqPieceS_eq hk _ _ hx, L_markPieceS_eq hk _ hx, L_markPieceS_eq hk _ hs, L_heldPieceS_eq hk _ hs, decide_true, Bool.not_true, cond_false, bif_dec, bne_self_eq_false, BEq.rfl]
  repeat rw [if_neg (by omega)]
end
end Go.Ytolmhhnhmbiofaa
