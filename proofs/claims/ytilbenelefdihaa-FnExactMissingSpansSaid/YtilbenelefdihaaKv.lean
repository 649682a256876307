/- What the functions come to. Nothing is claimed here. -/
import Derived.Test.YtilbenelefdihaaKu
set_option linter.unusedVariables false
set_option linter.unusedSimpArgs false
set_option maxRecDepth 100000
namespace Go.Ytilbenelefdihaa
open Go Go.RowKit Go.Pv Go.Pu

/-! Sets of spans. -/
def badP (x : List ISpan) (i : Nat) : Bool :=
  match x[i]? with
  | none => false
  | some e => decide (e.From < 0) || decide (e.From ≥ e.To) || decide (e.To > 1000000000000) || (decide (0 < i) && match x[i - 1]? with | some q => decide (q.To ≥ e.From) | none => false)
def isSet (x : List ISpan) : Bool := (firstI (badP x) x.length 0).isNone
theorem S_IsSpanSet_eq {k : Nat} (hk : 1073741824 ≤ k) (x : List ISpan) (h : x.length < 1073741824) : S_IsSpanSet k x = some (isSet x) := by
  have := find_all (len := x.length) (c := fun i => bif badP x i then some false else none) (F := fun n i => S_IsSpanSet_b0 k n x i) (fun n i hi => by
    simp only [S_IsSpanSet_b0, idx_nat hi, Option.bind_some, wrap_succ (by omega : i < 9223372036854775807), bif_dec, lt_cast, hi, if_true, badP, List.getElem?_eq_getElem hi]
    by_cases c1 : x[i].From < 0
    · simp [c1]
    by_cases c2 : x[i].From ≥ x[i].To
    · simp [c1, c2]
    by_cases c3 : x[i].To > 1000000000000
    · simp [c1, c2, c3]
    by_cases c4 : 0 < i
    · have e : IntKind.wrap .i64 ((i : Int) - 1) = ((i - 1 : Nat) : Int) := by rw [wrap_id (by omega) (by omega)]; omega
      have hi' : i - 1 < x.length := by omega
      rw [e, idx_nat hi', List.getElem?_eq_getElem hi']
      by_cases c5 : x[i - 1].To ≥ x[i].From <;> simp [c1, c2, c3, c4, c5]
    · simp [c1, c2, c3, c4]) (fun n i hi => by
    simp only [S_IsSpanSet_b0, bif_dec, lt_cast]
    rw [if_neg (by omega)]) (k := k) (by omega)
  rw [S_IsSpanSet, this, findI_first]
  unfold isSet
  cases firstI (badP x) x.length 0 <;> simp [ocOf, oc]
theorem I_IsSpanSet_eq {k : Nat} (hk : 1073741824 ≤ k) (x : List ISpan) (h : x.length < 1073741824) : I_IsSpanSet k x = some (isSet x) := by
  have := find_all (len := x.length) (c := fun i => bif badP x i then some false else none) (F := fun n i => I_IsSpanSet_b0 k n x x (x.length : Int) i) (fun n i hi => by
    simp only [I_IsSpanSet_b0, idx_nat hi, Option.bind_some, wrap_succ (by omega : i < 9223372036854775807), bif_dec, lt_cast, hi, if_true, badP, List.getElem?_eq_getElem hi]
    by_cases c1 : x[i].From < 0
    · simp [c1]
    by_cases c2 : x[i].From ≥ x[i].To
    · simp [c1, c2]
    by_cases c3 : x[i].To > 1000000000000
    · simp [c1, c2, c3]
    by_cases c4 : 0 < i
    · have e : IntKind.wrap .i64 ((i : Int) - 1) = ((i - 1 : Nat) : Int) := by rw [wrap_id (by omega) (by omega)]; omega
      have hi' : i - 1 < x.length := by omega
      rw [e, idx_nat hi', List.getElem?_eq_getElem hi']
      by_cases c5 : x[i - 1].To ≥ x[i].From <;> simp [c1, c2, c3, c4, c5]
    · simp [c1, c2, c3, c4]) (fun n i hi => by
    simp only [I_IsSpanSet_b0, bif_dec, lt_cast]
    rw [if_neg (by omega)]) (k := k) (by omega)
  rw [I_IsSpanSet, this, findI_first]
  unfold isSet
  cases firstI (badP x) x.length 0 <;> simp [ocOf, oc]

/-! What of a span a set lacks. -/
def mS (x : List ISpan) (T : Int) (i : Nat) (s : Int × List ISpan) : Int × List ISpan :=
  (x[i]?).elim s fun e => (if e.To > s.1 then e.To else s.1, if e.From > s.1 ∧ s.1 < T then s.2 ++ [⟨s.1, if T < e.From then T else e.From⟩] else s.2)
def mI (x : List ISpan) (T : Int) (i : Nat) (s : Int × List ISpan) : Int × List ISpan :=
  (x[i]?).elim s fun e => if e.To ≤ s.1 then s else if e.From ≥ T then s else (e.To, if e.From > s.1 then s.2 ++ [⟨s.1, e.From⟩] else s.2)
def mEnd (T : Int) (s : Int × List ISpan) : List ISpan := if s.1 < T then s.2 ++ [⟨s.1, T⟩] else s.2
def mRel (x : List ISpan) (T : Int) (i : Nat) (s t : Int × List ISpan) : Prop :=
  s = t ∨ (T ≤ s.1 ∧ t.1 < T ∧ s.2 = t.2 ++ [⟨t.1, T⟩] ∧ ∃ j, i = j + 1 ∧ ∃ h : j < x.length, T ≤ x[j].From) ∨ (T ≤ s.1 ∧ T ≤ t.1 ∧ s.2 = t.2)
theorem badP_not {x : List ISpan} (h : isSet x = true) {i : Nat} (hi : i < x.length) : 0 ≤ x[i].From ∧ x[i].From < x[i].To ∧ x[i].To ≤ 1000000000000 ∧ ∀ j (e : i = j + 1), ∀ hj : j < x.length, x[j].To < x[i].From := by
  unfold isSet at h
  have := firstI_none x.length 0 (Option.isNone_iff_eq_none.1 h) i (by omega) (by omega)
  simp only [badP, List.getElem?_eq_getElem hi, Bool.or_eq_false_iff, decide_eq_false_iff_not, Bool.and_eq_false_iff] at this
  refine ⟨by omega, by omega, by omega, fun j e hj => ?_⟩
  subst e
  have h4 := this.2
  rw [show j + 1 - 1 = j by omega, List.getElem?_eq_getElem hj] at h4
  simp only [decide_eq_false_iff_not] at h4
  omega
theorem mRel_end {x : List ISpan} {T : Int} {i : Nat} {s t : Int × List ISpan} (h : mRel x T i s t) : mEnd T s = mEnd T t := by
  rcases h with h | ⟨h1, h2, h3, _⟩ | ⟨h1, h2, h3⟩
  · rw [h]
  · simp only [mEnd, h2, if_true, h3]; rw [if_neg (by omega)]
  · simp only [mEnd, h3]; rw [if_neg (by omega), if_neg (by omega)]
theorem mRel_step {x : List ISpan} (hs : isSet x = true) {T : Int} (i : Nat) (s t : Int × List ISpan) (hi : i < x.length) (h : mRel x T i s t) : mRel x T (i + 1) (mS x T i s) (mI x T i t) := by
  obtain ⟨b0, b1, b2, b3⟩ := badP_not hs hi
  simp only [mS, mI, List.getElem?_eq_getElem hi, Option.elim_some]
  generalize he : x[i] = e at *
  rcases h with h | ⟨h1, h2, h3, j, e1, hj, h4⟩ | ⟨h1, h2, h3⟩
  · subst h
    by_cases c1 : e.To ≤ s.1
    · rw [if_pos c1, if_neg (by omega), if_neg (by omega)]
      exact .inl rfl
    rw [if_neg c1, if_pos (by omega)]
    by_cases c2 : e.From ≥ T
    · rw [if_pos c2]
      by_cases c3 : s.1 < T
      · rw [if_pos (by omega)]
        refine .inr (.inl ⟨by simp only; omega, c3, ?_, i, rfl, hi, by rw [he]; exact c2⟩)
        by_cases c4 : T < e.From
        · rw [if_pos c4]
        · rw [if_neg c4, show e.From = T by omega]
      · rw [if_neg (by omega)]
        exact .inr (.inr ⟨by simp only; omega, by omega, rfl⟩)
    · rw [if_neg c2]
      by_cases c3 : e.From > s.1
      · rw [if_pos (by omega), if_pos c3, if_neg (by omega)]; exact .inl rfl
      · rw [if_neg (by omega), if_neg c3]; exact .inl rfl
  · have hb := b3 j e1 hj
    obtain ⟨_, c1, _⟩ := badP_not hs hj
    rw [if_neg (show ¬ (e.From > s.1 ∧ s.1 < T) by omega)]
    have : (if e.To ≤ t.1 then t else if e.From ≥ T then t else (e.To, if e.From > t.1 then t.2 ++ [⟨t.1, e.From⟩] else t.2)) = t := by
      rw [if_neg (by omega), if_pos (by omega)]
    rw [this]
    refine .inr (.inl ⟨?_, h2, h3, i, rfl, hi, by rw [he]; omega⟩)
    simp only
    split <;> omega
  · rw [if_neg (show ¬ (e.From > s.1 ∧ s.1 < T) by omega)]
    refine .inr (.inr ⟨by simp only; split <;> omega, ?_, ?_⟩)
    · split
      · exact h2
      · split
        · exact h2
        · simp only; omega
    · simp only [h3]
      split
      · rfl
      · split
        · rfl
        · simp only; rw [if_neg (by omega)]
def missing (x : List ISpan) (y : ISpan) : List ISpan := mEnd y.To (if isSet x then foldI (mI x y.To) x.length 0 (y.From, []) else (y.From, []))
theorem missing_len (x : List ISpan) (y : ISpan) : (missing x y).length ≤ x.length + 1 := by
  have hE : ∀ s : Int × List ISpan, s.2.length ≤ x.length → (mEnd y.To s).length ≤ x.length + 1 := fun s h => by
    unfold mEnd; split
    · simp; omega
    · omega
  unfold missing
  apply hE
  split
  · have : ∀ m i s, s.2.length ≤ i → (foldI (mI x y.To) m i s).2.length ≤ i + m := by
      intro m
      induction m with
      | zero => intro i s h; exact h
      | succ m ih =>
        intro i s h
        have := ih (i + 1) (mI x y.To i s) (by
          unfold mI
          cases x[i]? with
          | none => simp only [Option.elim_none]; omega
          | some e =>
            simp only [Option.elim_some]
            split
            · omega
            · split
              · omega
              · simp only; split
                · simp; omega
                · omega)
        rw [foldI]; omega
    have := this x.length 0 (y.From, []) (by simp)
    omega
  · simp
theorem S_MissingSpans_eq {k : Nat} (hk : 1073741824 ≤ k) (x : List ISpan) (y : ISpan) (h : x.length < 1073741824 - 1) : S_MissingSpans k x y = some (missing x y) := by
  have hx : x.length < 1073741824 := by omega
  rw [S_MissingSpans]
  have hE : ∀ a r (b : Bool), r.length ≤ x.length → S_MissingSpans_c57 k a (decide (a < y.To)) y.From y.To r = some (mEnd y.To (a, r)) := fun a r b hr => by
    rw [S_MissingSpans_c57, bif_dec, mEnd]
    by_cases c : a < y.To
    · simp only [c, if_true]; rw [appn_ok (by simp; omega)]; rfl
    · simp only [c, if_false]
  cases hs : isSet x with
  | false =>
    have : S_MissingSpans_b0 k k x y.From 0 y.From y.To [] = some (y.From, []) := by
      obtain ⟨k', rfl⟩ : ∃ k', k = k' + 1 := ⟨k - 1, by omega⟩
      rw [S_MissingSpans_b0, S_IsSpanSet_eq hk x hx, hs, bif_dec]
      simp
    rw [this, Option.bind_some, hE _ _ true (by simp), missing, hs]
    simp
  | true =>
    have := fold_all (len := x.length) (g := mS x y.To) (Inv := fun i s => s.2.length ≤ i) (F := fun n i s => S_MissingSpans_b0 k n x s.1 i y.From y.To s.2) (out := id) (fun n i s hi hI => by
      simp only [S_MissingSpans_b0, bif_dec, lt_cast, hi, if_true, S_IsSpanSet_eq hk x hx, hs, Option.bind_some, cond_true, wrap_succ (by omega : i < 9223372036854775807), S_MissingSpans_b1, idx_nat hi, S_MissingSpans_c33, S_Min, S_Max, mS, List.getElem?_eq_getElem hi, Option.elim_some]
      have ha : ∀ a b, app 16 s.2 [(⟨a, b⟩ : ISpan)] = some (s.2 ++ [⟨a, b⟩]) := fun a b => appn_ok (by simp; omega)
      simp only [ha, Option.bind_some]
      have hl : ∀ a b : Int, (s.2 ++ [(⟨a, b⟩ : ISpan)]).length ≤ i + 1 := fun a b => by simp; omega
      by_cases c1 : x[i].From > s.1
      · by_cases c2 : s.1 < y.To
        · by_cases c3 : y.To < x[i].From <;> by_cases c4 : x[i].To > s.1 <;> simp [c1, c2, c3, c4, wrap_succ (by omega : i < 9223372036854775807)] <;> omega
        · by_cases c4 : x[i].To > s.1 <;> simp [c1, c2, c4] <;> omega
      · by_cases c4 : x[i].To > s.1 <;> simp [c1, c4] <;> omega) (fun n i s hi => by
      simp only [S_MissingSpans_b0, bif_dec, lt_cast]
      rw [if_neg (by omega)]; rfl) (k := k) (by omega) (s := (y.From, [])) (by simp)
    have h1 : S_MissingSpans_b0 k k x y.From 0 y.From y.To [] = some (foldI (mS x y.To) x.length 0 (y.From, [])) := this.1
    rw [h1, Option.bind_some, hE _ _ true this.2, Option.bind_some, missing, hs, if_pos rfl]
    exact congrArg some (mRel_end (foldI_rel (R := mRel x y.To) (fun i s t hi hr => mRel_step hs i s t hi hr) x.length 0 _ _ (by omega) (.inl rfl)))
theorem I_MissingSpans_eq {k : Nat} (hk : 1073741824 ≤ k) (x : List ISpan) (y : ISpan) (h : x.length < 1073741824 - 1) : I_MissingSpans k x y = some (missing x y) := by
  have hx : x.length < 1073741824 := by omega
  rw [I_MissingSpans, I_IsSpanSet_eq hk x hx, Option.bind_some]
  have hE : ∀ a r, r.length ≤ x.length → I_MissingSpans_c49 k a (decide (a < y.To)) y.From y.To r = some (mEnd y.To (a, r)) := fun a r hr => by
    rw [I_MissingSpans_c49, bif_dec, mEnd]
    by_cases c : a < y.To
    · simp only [c, if_true]; rw [appn_ok (by simp; omega)]; rfl
    · simp only [c, if_false]
  cases hs : isSet x with
  | false =>
    have : I_MissingSpans_b0 k k y.From [] (([] : List ISpan).length : Int) 0 y.From y.To [] = some (y.From, []) := by
      obtain ⟨k', rfl⟩ : ∃ k', k = k' + 1 := ⟨k - 1, by omega⟩
      rw [I_MissingSpans_b0, bif_dec]
      simp
    rw [Bool.not_false, I_MissingSpans_c12, cond_true, Option.bind_some, this, Option.bind_some, hE _ _ (by simp), missing, hs]
    simp
  | true =>
    rw [Bool.not_true, I_MissingSpans_c12, cond_false, Option.bind_some]
    have := fold_all (len := x.length) (g := mI x y.To) (Inv := fun i s => s.2.length ≤ i) (F := fun n i s => I_MissingSpans_b0 k n s.1 x (x.length : Int) i y.From y.To s.2) (out := id) (fun n i s hi hI => by
      simp only [I_MissingSpans_b0, bif_dec, lt_cast, hi, if_true, Option.bind_some, wrap_succ (by omega : i < 9223372036854775807), I_MissingSpans_b1, idx_nat hi, I_MissingSpans_c35, mI, List.getElem?_eq_getElem hi, Option.elim_some]
      have ha : ∀ a b, app 16 s.2 [(⟨a, b⟩ : ISpan)] = some (s.2 ++ [⟨a, b⟩]) := fun a b => appn_ok (by simp; omega)
      simp only [ha, Option.bind_some]
      by_cases c1 : x[i].To ≤ s.1
      · simp [c1]; omega
      by_cases c2 : x[i].From ≥ y.To
      · simp [c1, c2]; omega
      by_cases c3 : x[i].From > s.1 <;> simp [c1, c2, c3] <;> omega) (fun n i s hi => by
      simp only [I_MissingSpans_b0, bif_dec, lt_cast]
      rw [if_neg (by omega)]; rfl) (k := k) (by omega) (s := (y.From, [])) (by simp)
    have h1 : I_MissingSpans_b0 k k y.From x (x.length : Int) 0 y.From y.To [] = some (foldI (mI x y.To) x.length 0 (y.From, [])) := this.1
    rw [h1, Option.bind_some, hE _ _ this.2, Option.bind_some, missing, hs, if_pos rfl]

theorem FnExactMissingSpans_pure {k : Nat} (hk : 1073741824 ≤ k) (a0 : List LSpan) (a1 : LSpan) (h0 : InL V_LSpan a0) (h1 : V_LSpan a1) : L_FnExactMissingSpans k a0 a1 = some true := by
  unfold L_FnExactMissingSpans
  rw [L_szSpanS_eq hk h0 _ (by omega) (by omega), Option.bind_some, bif_dec]
  by_cases c3 : (a0.length : Int) ≤ 1048576
  case neg => rw [if_neg c3, if_pos (by omega)]
  have hx : (a0.map to_LSpan).length < 1073741824 := by simp; omega
  have hx' : (a0.map to_LSpan).length < 1073741824 - 1 := by simp; omega
  have hs : (missing (a0.map to_LSpan) (to_LSpan a1)).length < 1073741824 := by have := missing_len (a0.map to_LSpan) (to_LSpan a1); simp at this ⊢; omega
  rw [if_pos c3, if_neg (by omega)]
  simp only [L_toSpanS_eq hk a0 (by omega), L_toSpan_eq hk a1 (by unfold sz_LSpan; omega), Option.bind_some, S_MissingSpans_eq hk _ _ hx', I_MissingSpans_eq hk _ _ hx', L_eqSpanS_eq hk _ _ hs, L_eqSpanS_eq hk _ _ hx, L_markSpanS_eq hk _ hx, L_markSpanS_eq hk _ hs, L_heldSpanS_eq hk _ hs, decide_true, Bool.not_true, cond_false, bif_dec, bne_self_eq_false]
  rw [if_neg (by omega), if_neg (by omega), if_neg (by omega)]

end Go.Ytilbenelefdihaa
