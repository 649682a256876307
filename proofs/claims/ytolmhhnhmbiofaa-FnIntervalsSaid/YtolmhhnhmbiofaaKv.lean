/- Plain lemmas and definitions. Nothing is claimed here. -/
import Derived.Test.YtolmhhnhmbiofaaKu
set_option linter.unusedVariables false
set_option linter.unusedSimpArgs false
set_option maxRecDepth 100000
namespace Go.Ytolmhhnhmbiofaa
open Go Go.RowKit Go.Pv Go.Pu
noncomputable section
def CurOk (c : Sl1Cur) : Prop := 0 ≤ c.i ∧ c.i ≤ (c.b.length : Int) ∧ c.b.length ≤ 1048576
theorem and255 (n : Int) : 0 ≤ andI .i64 n 255 ∧ andI .i64 n 255 ≤ 255 := by
  have h : (BitVec.ofInt 64 n &&& BitVec.ofInt 64 255).toNat ≤ 255 := by
    rw [BitVec.toNat_and]; exact Nat.le_trans Nat.and_le_right (by decide)
  show 0 ≤ IntKind.wrap .i64 (((BitVec.ofInt 64 n &&& BitVec.ofInt 64 255).toNat : Nat) : Int) ∧ IntKind.wrap .i64 (((BitVec.ofInt 64 n &&& BitVec.ofInt 64 255).toNat : Nat) : Int) ≤ 255
  rw [wrap_id (by omega) (by omega)]; omega
theorem S_l1Byte_tot {k : Nat} {c : Sl1Cur} (h : CurOk c) : ∃ v c', S_l1Byte k c = some (v, c') ∧ (0 ≤ v ∧ v ≤ 255) ∧ CurOk c' := by
  obtain ⟨b, i, hh⟩ := c
  obtain ⟨h1, h2, h3⟩ := h
  obtain ⟨n, rfl⟩ := Int.eq_ofNat_of_zero_le h1
  have h2 : (n : Int) ≤ (b.length : Int) := h2
  have h3 : b.length ≤ 1048576 := h3
  unfold S_l1Byte
  generalize IntKind.wrap .i64 (IntKind.wrap .i64 ((⟨b, (n : Int), hh⟩ : Sl1Cur).h * 6364136223846793005) + 1442695040888963407) = g
  obtain ⟨q1, e1⟩ : ∃ q, shrI .i64 g 33 = some q := ⟨_, rfl⟩
  obtain ⟨q2, e2⟩ : ∃ q, shrI .i64 g 47 = some q := ⟨_, rfl⟩
  rw [e1, Option.bind_some, e2, Option.bind_some, S_l1Byte_c34, bif_dec]
  by_cases c : (n : Int) < (b.length : Int)
  · have e3 : idx b (n : Int) = some b[n] := idx_nat (by omega)
    rw [if_pos c]
    simp only [e3, Option.bind_some]
    refine ⟨_, _, rfl, and255 _, ?_, ?_, h3⟩
    · show 0 ≤ IntKind.wrap .i64 ((n : Int) + 1)
      rw [wrap_succ (by omega)]; omega
    · show IntKind.wrap .i64 ((n : Int) + 1) ≤ (b.length : Int)
      rw [wrap_succ (by omega)]; omega
  · rw [if_neg c, Option.bind_some]
    exact ⟨_, _, rfl, and255 _, h1, h2, h3⟩
theorem md_pos {a n : Int} (h : 0 ≤ a) (hn : 0 < n) : ∃ r, md a n = some r ∧ 0 ≤ r ∧ r < n :=
  ⟨a.tmod n, by unfold md; rw [if_neg (by omega)], Int.tmod_nonneg n h, Int.tmod_lt_of_pos a hn⟩
theorem S_l1Below_tot {k : Nat} {c : Sl1Cur} (h : CurOk c) {n : Int} (hn : 0 < n) : ∃ v c', S_l1Below k c n = some (v, c') ∧ (0 ≤ v ∧ v < n) ∧ CurOk c' := by
  unfold S_l1Below
  rw [bif_dec, if_neg (by omega), bif_dec]
  obtain ⟨v1, c1, e1, ⟨a1, b1⟩, h1⟩ := S_l1Byte_tot (k := k) h
  rw [e1]
  by_cases hs : n ≤ 256
  · rw [if_pos hs, Option.bind_some]
    obtain ⟨r, er, hr⟩ := md_pos a1 hn
    rw [er]
    exact ⟨_, _, rfl, hr, h1⟩
  · rw [if_neg hs, Option.bind_some]
    obtain ⟨v2, c2, e2, ⟨a2, b2⟩, h2⟩ := S_l1Byte_tot (k := k) h1
    obtain ⟨v3, c3, e3, ⟨a3, b3⟩, h3⟩ := S_l1Byte_tot (k := k) h2
    rw [e2, Option.bind_some, e3, Option.bind_some]
    rw [wrap_id (n := v1 * 65536) (by omega) (by omega), wrap_id (n := v2 * 256) (by omega) (by omega), wrap_id (n := v1 * 65536 + v2 * 256) (by omega) (by omega), wrap_id (by omega) (by omega)]
    obtain ⟨r, er, hr⟩ := md_pos (a := v1 * 65536 + v2 * 256 + v3) (by omega) hn
    rw [er]
    exact ⟨_, _, rfl, hr, h3⟩
theorem S_l1New_loop {k : Nat} {x : List Int} (hx : x.length ≤ 1048576) : ∀ (n i : Nat) (s : Int), i ≤ x.length → x.length - i < n → ∃ r, S_l1New_b0 k n x s (i : Int) = some r := by
  intro n
  induction n with
  | zero => intro i s _ h; omega
  | succ n ih =>
    intro i s hi hn
    rw [S_l1New_b0, bif_dec, bif_dec]
    by_cases c : (i : Int) < (x.length : Int)
    · rw [if_pos c]
      by_cases c2 : (i : Int) < 4000
      · rw [if_pos c2, idx_nat (by omega), Option.bind_some, wrap_succ (by omega)]
        exact ih (i + 1) _ (by omega) (by omega)
      · rw [if_neg c2]; exact ⟨_, rfl⟩
    · rw [if_neg c]; exact ⟨_, rfl⟩
theorem S_l1New_tot {k : Nat} (hk : 1073741824 ≤ k) {x : List Int} (hx : x.length ≤ 1048576) : ∃ c, S_l1New k x = some c ∧ CurOk c := by
  unfold S_l1New
  obtain ⟨r, e⟩ := S_l1New_loop (k := k) hx k 0 (IntKind.wrap .i64 ((271091 : Int) + (x.length : Int))) (by omega) (by omega)
  rw [show (((0 : Nat)) : Int) = 0 from rfl] at e
  rw [e, Option.bind_some]
  exact ⟨_, rfl, by show (0 : Int) ≤ 0; omega, by show (0 : Int) ≤ (x.length : Int); omega, hx⟩
theorem wrap_pred {j : Nat} (h : j + 1 ≤ 9223372036854775807) : IntKind.wrap .i64 (((j + 1 : Nat) : Int) - 1) = (j : Int) := by rw [wrap_id (by omega) (by omega)]; omega
theorem L_big_eq {k : Nat} {x : List Int} : L_big k x = some (decide ((x.length : Int) > 1048576)) := rfl
def badP (x : List ISpan) (i : Nat) : Bool :=
  match x[i]? with
  | none => false
  | some e => decide (e.From < 0) || decide (e.From ≥ e.To) || decide (e.To > 1000000000000) || (decide (0 < i) && match x[i - 1]? with | some q => decide (q.To ≥ e.From) | none => false)
def isSet (x : List ISpan) : Bool := (firstI (badP x) x.length 0).isNone
theorem S_IsSpanSet_eq {k : Nat} (hk : 1073741824 ≤ k) (x : List ISpan) (h : x.length < 1073741824) : S_IsSpanSet k x = some (isSet x) := by
  have := find_all (len := x.length) (c := fun i => bif badP x i then some false else none) (F := fun n i => S_IsSpanSet_b0 k n x i) (fun n i hi => by
    simp only [S_IsSpanSet_b0, idx_nat hi, Option.bind_some, wrap_succ (by omega : i < 9223372036854775807), bif_dec, lt_cast, hi, if_true, badP, List.getElem?_eq_getElem hi]
    by_cases c1 : x[i].From < 0
    · simp [c1]
    by_cases c2 : x[i].From ≥ x[i].To
    · simp [c1, c2]
    by_cases c3 : x[i].To > 1000000000000
    · simp [c1, c2, c3]
    by_cases c4 : 0 < i
    · have e : IntKind.wrap .i64 ((i : Int) - 1) = ((i - 1 : Nat) : Int) := by rw [wrap_id (by omega) (by omega)]; omega
      have hi' : i - 1 < x.length := by omega
      rw [e, idx_nat hi', List.getElem?_eq_getElem hi']
      by_cases c5 : x[i - 1].To ≥ x[i].From <;> simp [c1, c2, c3, c4, c5]
    · simp [c1, c2, c3, c4]) (fun n i hi => by
    simp only [S_IsSpanSet_b0, bif_dec, lt_cast]
    rw [if_neg (by omega)]) (k := k) (by omega)
  rw [S_IsSpanSet, this, findI_first]
  unfold isSet
  cases firstI (badP x) x.length 0 <;> simp [ocOf, oc]
theorem I_IsSpanSet_eq {k : Nat} (hk : 1073741824 ≤ k) (x : List ISpan) (h : x.length < 1073741824) : I_IsSpanSet k x = some (isSet x) := by
  have := find_all (len := x.length) (c := fun i => bif badP x i then some false else none) (F := fun n i => I_IsSpanSet_b0 k n x x (x.length : Int) i) (fun n i hi => by
    simp only [I_IsSpanSet_b0, idx_nat hi, Option.bind_some, wrap_succ (by omega : i < 9223372036854775807), bif_dec, lt_cast, hi, if_true, badP, List.getElem?_eq_getElem hi]
    by_cases c1 : x[i].From < 0
    · simp [c1]
    by_cases c2 : x[i].From ≥ x[i].To
    · simp [c1, c2]
    by_cases c3 : x[i].To > 1000000000000
    · simp [c1, c2, c3]
    by_cases c4 : 0 < i
    · have e : IntKind.wrap .i64 ((i : Int) - 1) = ((i - 1 : Nat) : Int) := by rw [wrap_id (by omega) (by omega)]; omega
      have hi' : i - 1 < x.length := by omega
      rw [e, idx_nat hi', List.getElem?_eq_getElem hi']
      by_cases c5 : x[i - 1].To ≥ x[i].From <;> simp [c1, c2, c3, c4, c5]
    · simp [c1, c2, c3, c4]) (fun n i hi => by
    simp only [I_IsSpanSet_b0, bif_dec, lt_cast]
    rw [if_neg (by omega)]) (k := k) (by omega)
  rw [I_IsSpanSet, this, findI_first]
  unfold isSet
  cases firstI (badP x) x.length 0 <;> simp [ocOf, oc]
def stepU (s : Int × Int) (e : ISpan) : Int × Int := (if e.From < s.1 then e.From else s.1, if e.To > s.2 then e.To else s.2)
def stepS (s : Int × Int) (e : ISpan) : Int × Int := if e.To ≥ s.1 ∧ e.From ≤ s.2 then stepU s e else s
def unionN : List ISpan → Int × Int → Nat × Int × Int
  | [], s => (0, s)
  | e :: l, s => if e.From ≤ s.2 then ((unionN l (stepU s e)).1 + 1, (unionN l (stepU s e)).2) else (0, s)
def befP (F : Int) (e : ISpan) : Bool := decide (e.To < F)
def addS (x : List ISpan) (y : ISpan) : List ISpan :=
  x.filter (befP y.From) ++ [(⟨(x.foldl stepS (y.From, y.To)).1, (x.foldl stepS (y.From, y.To)).2⟩ : ISpan)] ++ x.filter (fun e => decide (e.From > (x.foldl stepS (y.From, y.To)).2))
def addU (x : List ISpan) (y : ISpan) : List ISpan :=
  x.takeWhile (befP y.From) ++ [(⟨(unionN (x.dropWhile (befP y.From)) (y.From, y.To)).2.1, (unionN (x.dropWhile (befP y.From)) (y.From, y.To)).2.2⟩ : ISpan)] ++ (x.dropWhile (befP y.From)).drop (unionN (x.dropWhile (befP y.From)) (y.From, y.To)).1
def goodS (y : ISpan) : Bool := decide (0 ≤ y.From) && decide (y.From < y.To) && decide (y.To ≤ 1000000000000)
def addSp (x : List ISpan) (y : ISpan) : List ISpan := bif isSet x && goodS y then addU x y else x
def SetL (x : List ISpan) : Prop := x.Pairwise (fun a b => a.To < b.From) ∧ ∀ e ∈ x, 0 ≤ e.From ∧ e.From < e.To ∧ e.To ≤ 1000000000000
theorem isSet_at {x : List ISpan} (h : isSet x = true) {i : Nat} (hi : i < x.length) : 0 ≤ x[i].From ∧ x[i].From < x[i].To ∧ x[i].To ≤ 1000000000000 ∧ ∀ j (e : i = j + 1), ∀ hj : j < x.length, x[j].To < x[i].From := by
  unfold isSet at h
  have := firstI_none x.length 0 (Option.isNone_iff_eq_none.1 h) i (by omega) (by omega)
  simp only [badP, List.getElem?_eq_getElem hi, Bool.or_eq_false_iff, decide_eq_false_iff_not, Bool.and_eq_false_iff] at this
  refine ⟨by omega, by omega, by omega, fun j e hj => ?_⟩
  subst e
  have h4 := this.2
  rw [show j + 1 - 1 = j by omega, List.getElem?_eq_getElem hj] at h4
  simp only [decide_eq_false_iff_not] at h4
  omega
theorem isSet_SetL {x : List ISpan} (h : isSet x = true) : SetL x := by
  refine ⟨List.pairwise_iff_getElem.2 fun i j hi hj hij => ?_, fun e he => ?_⟩
  · obtain ⟨d, rfl⟩ : ∃ d, j = i + d + 1 := ⟨j - i - 1, by omega⟩
    clear hij
    induction d with
    | zero => exact (isSet_at h hj).2.2.2 i rfl hi
    | succ d ih =>
      have h1 := ih (by omega)
      have h2 := (isSet_at h hj).2.2.2 (i + d + 1) rfl (by omega)
      have h3 := (isSet_at h (show i + d + 1 < x.length by omega)).2.1
      omega
  · obtain ⟨i, hi, rfl⟩ := List.mem_iff_getElem.1 he
    obtain ⟨h1, h2, h3, _⟩ := isSet_at h hi
    exact ⟨h1, h2, h3⟩
theorem SetL_isSet {x : List ISpan} (h : SetL x) : isSet x = true := by
  unfold isSet
  cases hf : firstI (badP x) x.length 0 with
  | none => rfl
  | some i =>
    obtain ⟨_, h1, h2, _⟩ := firstI_some _ _ _ hf
    have hi : i < x.length := by omega
    obtain ⟨b0, b1, b2⟩ := h.2 _ (List.getElem_mem hi)
    simp only [badP, List.getElem?_eq_getElem hi] at h2
    cases i with
    | zero => simp at h2; omega
    | succ i =>
      have := List.pairwise_iff_getElem.1 h.1 i (i + 1) (by omega) hi (by omega)
      rw [show i + 1 - 1 = i by omega, List.getElem?_eq_getElem (by omega : i < x.length)] at h2
      simp at h2
      omega
theorem stepU_1 (s : Int × Int) (e : ISpan) : (stepU s e).1 ≤ s.1 ∧ (stepU s e).1 ≤ e.From ∧ s.2 ≤ (stepU s e).2 ∧ e.To ≤ (stepU s e).2 := by
  unfold stepU; refine ⟨?_, ?_, ?_, ?_⟩ <;> simp only <;> split <;> omega
theorem foldS_2 : ∀ (l : List ISpan) (s : Int × Int), s.2 ≤ (l.foldl stepS s).2
  | [], s => Int.le_refl _
  | e :: l, s => by
    rw [List.foldl_cons]
    have := foldS_2 l (stepS s e)
    have h2 : s.2 ≤ (stepS s e).2 := by
      unfold stepS; split
      · exact (stepU_1 s e).2.2.1
      · omega
    omega
theorem foldS_id : ∀ (l : List ISpan) (s : Int × Int), (∀ e ∈ l, e.From > s.2) → l.foldl stepS s = s
  | [], s, _ => rfl
  | e :: l, s, h => by
    have := h e (List.mem_cons_self ..)
    rw [List.foldl_cons, show stepS s e = s by unfold stepS; rw [if_neg (by omega)]]
    exact foldS_id l s fun e' he' => h e' (List.mem_cons_of_mem _ he')
theorem SetL.tail {e : ISpan} {l : List ISpan} (h : SetL (e :: l)) : SetL l ∧ (∀ e' ∈ l, e.To < e'.From) ∧ e.From < e.To :=
  ⟨⟨(List.pairwise_cons.1 h.1).2, fun e' he' => h.2 e' (List.mem_cons_of_mem _ he')⟩, (List.pairwise_cons.1 h.1).1, (h.2 e (List.mem_cons_self ..)).2.1⟩
theorem unionN_eq : ∀ (l : List ISpan) (s : Int × Int), SetL l → (∀ e ∈ l, e.To ≥ s.1) → (unionN l s).2 = l.foldl stepS s ∧ l.drop (unionN l s).1 = l.filter (fun e => decide (e.From > (l.foldl stepS s).2))
  | [], s, _, _ => ⟨rfl, rfl⟩
  | e :: l, s, h, h1 => by
    obtain ⟨t1, t2, t3⟩ := h.tail
    have he := h1 e (List.mem_cons_self ..)
    rw [unionN, List.foldl_cons]
    by_cases c : e.From ≤ s.2
    · rw [if_pos c, show stepS s e = stepU s e by unfold stepS; rw [if_pos ⟨he, c⟩]]
      have hU := stepU_1 s e
      obtain ⟨i1, i2⟩ := unionN_eq l (stepU s e) t1 fun e' he' => by
        have := t2 e' he'
        have := (t1.2 e' he').2.1
        omega
      have := foldS_2 l (stepU s e)
      refine ⟨i1, ?_⟩
      rw [List.drop_succ_cons, i2, List.filter_cons, if_neg (by simp; omega)]
    · rw [if_neg c, show stepS s e = s by unfold stepS; rw [if_neg (by omega)], foldS_id l s fun e' he' => by have := t2 e' he'; omega]
      refine ⟨rfl, ?_⟩
      rw [List.drop_zero]
      refine (List.filter_eq_self.2 fun e' he' => ?_).symm
      rcases List.mem_cons.1 he' with rfl | he'
      · simp; omega
      · have := t2 e' he'; simp; omega
theorem addS_eq (F T : Int) (hFT : F < T) : ∀ (x : List ISpan), SetL x → x.filter (befP F) = x.takeWhile (befP F) ∧ x.foldl stepS (F, T) = (unionN (x.dropWhile (befP F)) (F, T)).2 ∧
    x.filter (fun e => decide (e.From > (x.foldl stepS (F, T)).2)) = (x.dropWhile (befP F)).drop (unionN (x.dropWhile (befP F)) (F, T)).1
  | [], _ => ⟨rfl, rfl, rfl⟩
  | e :: l, h => by
    obtain ⟨t1, t2, t3⟩ := h.tail
    cases c : befP F e with
    | true =>
      have c' : e.To < F := by simpa [befP] using c
      obtain ⟨i1, i2, i3⟩ := addS_eq F T hFT l t1
      have := foldS_2 l (F, T)
      rw [List.filter_cons, if_pos c, List.takeWhile_cons, if_pos c, List.dropWhile_cons, if_pos c, List.foldl_cons, show stepS (F, T) e = (F, T) by unfold stepS; rw [if_neg (by simp only; omega)], List.filter_cons, if_neg (by simp only [decide_eq_true_eq] at *; omega)]
      exact ⟨by rw [i1], i2, i3⟩
    | false =>
      have c' : e.To ≥ F := by simpa [befP] using c
      have all : ∀ e' ∈ e :: l, e'.To ≥ F := fun e' he' => by
        rcases List.mem_cons.1 he' with rfl | he'
        · exact c'
        · have := t2 e' he'
          have := (t1.2 e' he').2.1
          omega
      obtain ⟨j1, j2⟩ := unionN_eq (e :: l) (F, T) h all
      rw [List.takeWhile_cons, if_neg (by simp [c]), List.dropWhile_cons, if_neg (by simp [c])]
      refine ⟨?_, j1.symm, j2.symm⟩
      rw [List.filter_eq_nil_iff]
      intro e' he'
      have := all e' he'
      simp [befP]; omega
theorem addS_addU {x : List ISpan} {y : ISpan} (h : SetL x) (hy : y.From < y.To) : addS x y = addU x y := by
  obtain ⟨h1, h2, h3⟩ := addS_eq y.From y.To hy x h
  unfold addS addU
  rw [h3, h1, h2]
theorem unionN_le : ∀ (l : List ISpan) (s : Int × Int), (unionN l s).1 ≤ l.length
  | [], s => Nat.le_refl _
  | e :: l, s => by
    rw [unionN]; split
    · have := unionN_le l (stepU s e); simp; omega
    · simp
theorem addU_len (x : List ISpan) (y : ISpan) : (addU x y).length ≤ x.length + 1 := by
  have : (x.takeWhile (befP y.From)).length + (x.dropWhile (befP y.From)).length = x.length := by
    rw [← List.length_append, List.takeWhile_append_dropWhile]
  unfold addU
  simp only [List.length_append, List.length_cons, List.length_nil, List.length_drop]
  omega
theorem addSp_len (x : List ISpan) (y : ISpan) : (addSp x y).length ≤ x.length + 1 := by
  unfold addSp
  cases isSet x && goodS y with
  | true => exact addU_len x y
  | false => simp
theorem S_AddSpan_1 {k : Nat} (hk : 1073741824 ≤ k) (x : List ISpan) (F T : Int) (r : List ISpan) (h : x.length + r.length < 1073741824) : S_AddSpan_b0 k k x 0 F T r = some (r ++ x.filter (befP F)) := by
  have := fold_all (len := x.length) (g := fun j s => s ++ (x[j]?).elim [] fun e => bif befP F e then [e] else []) (Inv := fun i s => s.length ≤ r.length + i) (F := fun n i s => S_AddSpan_b0 k n x i F T s) (out := id) (fun n i s hi hI => by
    simp only [S_AddSpan_b0, bif_dec, lt_cast, hi, if_true, S_AddSpan_b1, idx_nat hi, Option.bind_some, S_AddSpan_c46, wrap_succ (by omega : i < 9223372036854775807), List.getElem?_eq_getElem hi, Option.elim_some, befP]
    by_cases c : x[i].To < F
    · simp only [c, if_true]; rw [appn_ok (by simp; omega)]; exact ⟨rfl, by simp; omega⟩
    · simp only [c, if_false, List.append_nil]; exact ⟨rfl, by omega⟩) (fun n i s hi => by
    simp only [S_AddSpan_b0, bif_dec, lt_cast]
    rw [if_neg (by omega)]; rfl) (k := k) (by omega) (s := r) (by simp)
  have h1 : S_AddSpan_b0 k k x 0 F T r = some (foldI (fun j s => s ++ (x[j]?).elim [] fun e => bif befP F e then [e] else []) x.length 0 r) := this.1
  rw [h1, foldI_filter]
theorem S_AddSpan_2 {k : Nat} (hk : 1073741824 ≤ k) (x : List ISpan) (F T : Int) (r : List ISpan) (h : x.length < 1073741824) : S_AddSpan_b2 k k x 0 F T r = some (x.foldl stepS (F, T)) := by
  have := fold_all (len := x.length) (g := fun j s => (x[j]?).elim s (stepS s)) (Inv := fun i s => True) (F := fun n i (s : Int × Int) => S_AddSpan_b2 k n x i s.1 s.2 r) (out := id) (fun n i s hi hI => by
    simp only [S_AddSpan_b2, bif_dec, lt_cast, hi, if_true, S_AddSpan_b3, idx_nat hi, Option.bind_some, S_AddSpan_c77, wrap_succ (by omega : i < 9223372036854775807), List.getElem?_eq_getElem hi, Option.elim_some, S_Min, S_Max, stepS, stepU]
    refine ⟨?_, trivial⟩
    by_cases c1 : x[i].To ≥ s.1 <;> by_cases c2 : x[i].From ≤ s.2 <;> by_cases c3 : x[i].From < s.1 <;> by_cases c4 : x[i].To > s.2 <;> simp [c1, c2, c3, c4]) (fun n i s hi => by
    simp only [S_AddSpan_b2, bif_dec, lt_cast]
    rw [if_neg (by omega)]; rfl) (k := k) (by omega) (s := (F, T)) trivial
  have h1 : S_AddSpan_b2 k k x 0 F T r = some (foldI (fun j s => (x[j]?).elim s (stepS s)) x.length 0 (F, T)) := this.1
  rw [h1, foldI_foldl x.length 0 _ (by omega), List.drop_zero]
theorem S_AddSpan_3 {k : Nat} (hk : 1073741824 ≤ k) (x : List ISpan) (F T : Int) (r : List ISpan) (h : x.length + r.length < 1073741824) : S_AddSpan_b4 k k x 0 F T r = some (r ++ x.filter (fun e => decide (e.From > T))) := by
  have := fold_all (len := x.length) (g := fun j s => s ++ (x[j]?).elim [] fun e => bif decide (e.From > T) then [e] else []) (Inv := fun i s => s.length ≤ r.length + i) (F := fun n i s => S_AddSpan_b4 k n x i F T s) (out := id) (fun n i s hi hI => by
    simp only [S_AddSpan_b4, bif_dec, lt_cast, hi, if_true, S_AddSpan_b5, idx_nat hi, Option.bind_some, S_AddSpan_c112, wrap_succ (by omega : i < 9223372036854775807), List.getElem?_eq_getElem hi, Option.elim_some]
    by_cases c : x[i].From > T
    · simp only [c, if_true]; rw [appn_ok (by simp; omega)]; exact ⟨rfl, by simp; omega⟩
    · simp only [c, if_false, List.append_nil]; exact ⟨rfl, by omega⟩) (fun n i s hi => by
    simp only [S_AddSpan_b4, bif_dec, lt_cast]
    rw [if_neg (by omega)]; rfl) (k := k) (by omega) (s := r) (by simp)
  have h1 : S_AddSpan_b4 k k x 0 F T r = some (foldI (fun j s => s ++ (x[j]?).elim [] fun e => bif decide (e.From > T) then [e] else []) x.length 0 r) := this.1
  rw [h1, foldI_filter]
theorem S_AddSpan_eq {k : Nat} (hk : 1073741824 ≤ k) (x : List ISpan) (y : ISpan) (h : x.length < 268435456) : S_AddSpan k x y = some (addSp x y) := by
  have ha : app 16 ([] : List ISpan) x = some x := by rw [appn_ok (by simp; omega)]; rfl
  rw [S_AddSpan, S_IsSpanSet_eq hk x (by omega), Option.bind_some, addSp, goodS]
  simp only [ha, Option.bind_some]
  cases hs : isSet x with
  | false => simp
  | true =>
    by_cases c1 : y.From < 0
    · have d1 : decide (0 ≤ y.From) = false := by simp; omega
      simp [c1, d1]
    by_cases c2 : y.From ≥ y.To
    · have d2 : decide (y.From < y.To) = false := by simp; omega
      simp [c1, c2, d2]
    by_cases c3 : y.To > 1000000000000
    · have d3 : decide (y.To ≤ 1000000000000) = false := by simp; omega
      simp [c1, c2, c3, d3]
    have f1 : (x.filter (befP y.From)).length ≤ x.length := List.length_filter_le ..
    have f2 : (x.filter (befP y.From)).length + x.length < 2147483648 := by omega
    rw [S_AddSpan_1 hk x _ _ [] (by simp; omega), List.nil_append]
    simp only [c1, c2, c3, decide_false, Bool.not_true, cond_false, Option.bind_some]
    rw [S_AddSpan_2 hk x _ _ _ (by omega), Option.bind_some, appn_ok (by simp; omega), Option.bind_some, S_AddSpan_3 hk x _ _ _ (by simp; omega), Option.bind_some]
    have e : (true && (decide (0 ≤ y.From) && decide (y.From < y.To) && decide (y.To ≤ 1000000000000))) = true := by simp; omega
    rw [e, cond_true, ← addS_addU (isSet_SetL hs) (by omega)]
    rfl
theorem I_AddSpan_1 {k : Nat} (x : List ISpan) (F T : Int) (h : x.length < 1073741824) : ∀ (n i : Nat) (r : List ISpan), i ≤ x.length → r.length = i → x.length - i < n →
    I_AddSpan_b0 k n x (i : Int) F T r = some (((i + ((x.drop i).takeWhile (befP F)).length : Nat) : Int), r ++ (x.drop i).takeWhile (befP F)) := by
  intro n
  induction n with
  | zero => intro i r _ _ h; omega
  | succ n ih =>
    intro i r hi hr hn
    rw [I_AddSpan_b0, bif_dec]
    by_cases c : i < x.length
    · rw [if_pos (by omega), idx_nat c, Option.bind_some, Option.bind_some, List.drop_eq_getElem_cons c, List.takeWhile_cons, befP]
      cases decide (x[i].To < F) with
      | true =>
        rw [cond_true, appn_ok (by simp; omega), Option.bind_some, wrap_succ (by omega), ih (i + 1) _ (by omega) (by simp; omega) (by omega), if_pos rfl]
        simp only [List.length_cons, List.append_assoc, List.cons_append, List.nil_append]
        rw [show i + 1 + ((x.drop (i + 1)).takeWhile (befP F)).length = i + (((x.drop (i + 1)).takeWhile (befP F)).length + 1) by omega]
      | false => rw [cond_false, if_neg (by simp)]; simp
    · rw [if_neg (by omega), List.drop_of_length_le (by omega)]; simp
theorem I_AddSpan_2 {k : Nat} (x : List ISpan) (h : x.length < 1073741824) (r : List ISpan) : ∀ (n i : Nat) (s : Int × Int), i ≤ x.length → x.length - i < n →
    I_AddSpan_b2 k n x (i : Int) s.1 s.2 r = some (((i + (unionN (x.drop i) s).1 : Nat) : Int), (unionN (x.drop i) s).2) := by
  intro n
  induction n with
  | zero => intro i s _ h; omega
  | succ n ih =>
    intro i s hi hn
    rw [I_AddSpan_b2, bif_dec]
    by_cases c : i < x.length
    · rw [if_pos (by omega), idx_nat c, Option.bind_some, Option.bind_some, Option.bind_some, List.drop_eq_getElem_cons c, unionN, bif_dec]
      by_cases c2 : x[i].From ≤ s.2
      · rw [if_pos c2, if_pos c2, wrap_succ (by omega)]
        have := ih (i + 1) (stepU s x[i]) (by omega) (by omega)
        simp only [stepU] at this ⊢
        rw [this]
        rw [show i + 1 + (unionN (x.drop (i + 1)) (if x[i].From < s.1 then x[i].From else s.1, if x[i].To > s.2 then x[i].To else s.2)).1 = i + ((unionN (x.drop (i + 1)) (if x[i].From < s.1 then x[i].From else s.1, if x[i].To > s.2 then x[i].To else s.2)).1 + 1) by omega]
      · rw [if_neg c2, if_neg c2]; simp
    · rw [if_neg (by omega), List.drop_of_length_le (by omega)]; simp [unionN]
theorem drop_takeWhile {A : Type} (p : A → Bool) : ∀ x : List A, x.drop (x.takeWhile p).length = x.dropWhile p
  | [] => rfl
  | a :: l => by
    rw [List.takeWhile_cons, List.dropWhile_cons]
    cases p a with
    | true => simp [drop_takeWhile p l]
    | false => rfl
theorem takeWhile_le {A : Type} (p : A → Bool) (x : List A) : (x.takeWhile p).length ≤ x.length := by
  have : (x.takeWhile p).length + (x.dropWhile p).length = x.length := by rw [← List.length_append, List.takeWhile_append_dropWhile]
  omega
theorem I_AddSpan_eq {k : Nat} (hk : 1073741824 ≤ k) (x : List ISpan) (y : ISpan) (h : x.length < 268435456) : I_AddSpan k x y = some (addSp x y) := by
  have ha : slices_Clone_ISpan k x = some x := by rw [slices_Clone_ISpan, appn_ok (by simp; omega)]; rfl
  rw [I_AddSpan, I_IsSpanSet_eq hk x (by omega), Option.bind_some, addSp, goodS]
  simp only [ha, Option.bind_some]
  cases hs : isSet x with
  | false => simp
  | true =>
    by_cases c1 : y.From < 0
    · have d1 : decide (0 ≤ y.From) = false := by simp; omega
      by_cases c2 : y.From ≥ y.To <;> simp [c1, c2, d1]
    by_cases c2 : y.From ≥ y.To
    · have d2 : decide (y.From < y.To) = false := by simp; omega
      simp [c1, c2, d2]
    by_cases c3 : y.To > 1000000000000
    · have d3 : decide (y.To ≤ 1000000000000) = false := by simp; omega
      simp [c1, c2, c3, d3]
    have t1 := takeWhile_le (befP y.From) x
    have h1 := I_AddSpan_1 (k := k) x y.From y.To (by omega) k 0 [] (by omega) rfl (by omega)
    rw [show ((0 : Nat) : Int) = 0 from rfl, List.drop_zero, List.nil_append, Nat.zero_add] at h1
    simp only [c1, c2, c3, decide_false, Bool.not_true, cond_false, h1, Option.bind_some]
    have h2 := I_AddSpan_2 (k := k) x (by omega) (x.takeWhile (befP y.From)) k (x.takeWhile (befP y.From)).length (y.From, y.To) t1 (by omega)
    have u1 := unionN_le (x.drop (x.takeWhile (befP y.From)).length) (y.From, y.To)
    rw [List.length_drop] at u1
    simp only at h2
    rw [h2, Option.bind_some, appn_ok (by simp; omega), Option.bind_some, ssub_drop (by omega), Option.bind_some, appn_ok (by simp; omega), Option.bind_some]
    have e : (true && (decide (0 ≤ y.From) && decide (y.From < y.To) && decide (y.To ≤ 1000000000000))) = true := by simp; omega
    rw [e, cond_true, addU, ← List.drop_drop, drop_takeWhile]
def covP (x : List ISpan) (f t : Int) (i : Nat) : Bool := match x[i]? with | some e => decide (e.From ≤ f) && decide (t ≤ e.To) | none => false
def covB (x : List ISpan) (a : ISpan) : Bool := decide (a.From ≥ a.To) || (firstI (covP x a.From a.To) x.length 0).isSome
theorem S_CoversSpan_eq {k : Nat} (hk : 1073741824 ≤ k) (x : List ISpan) (a : ISpan) (h : x.length < 1073741824) : S_CoversSpan k x a = some (covB x a) := by
  have := find_all (len := x.length) (c := fun i => bif covP x a.From a.To i then some true else none) (F := fun n i => S_CoversSpan_b0 k n x i a.From a.To) (fun n i hi => by
    simp only [S_CoversSpan_b0, idx_nat hi, Option.bind_some, wrap_succ (by omega : i < 9223372036854775807), bif_dec, lt_cast, hi, if_true, covP, List.getElem?_eq_getElem hi]
    by_cases c1 : x[i].From ≤ a.From
    · by_cases c2 : a.To ≤ x[i].To <;> simp [c1, c2]
    · simp [c1]) (fun n i hi => by
    simp only [S_CoversSpan_b0, bif_dec, lt_cast]
    rw [if_neg (by omega)]) (k := k) (by omega)
  rw [S_CoversSpan, this, findI_first]
  unfold covB
  cases firstI (covP x a.From a.To) x.length 0 with
  | none => simp [ocOf, oc]
  | some j => simp [ocOf, oc]
theorem I_CoversSpan_eq {k : Nat} (hk : 1073741824 ≤ k) (x : List ISpan) (a : ISpan) (h : x.length < 1073741824) : I_CoversSpan k x a = some (covB x a) := by
  have := find_all (len := x.length) (c := fun i => bif covP x a.From a.To i then some (i : Int) else none) (F := fun n i => slices_IndexFunc_ISpan_at_I_CoversSpan_1_b0 k n x a.From a.To (x.length : Int) i) (fun n i hi => by
    simp only [slices_IndexFunc_ISpan_at_I_CoversSpan_1_b0, I_CoversSpan_1, idx_nat hi, Option.bind_some, wrap_succ (by omega : i < 9223372036854775807), bif_dec, lt_cast, hi, if_true, covP, List.getElem?_eq_getElem hi]
    by_cases c1 : x[i].From ≤ a.From
    · by_cases c2 : a.To ≤ x[i].To <;> simp [c1, c2]
    · simp [c1]) (fun n i hi => by
    simp only [slices_IndexFunc_ISpan_at_I_CoversSpan_1_b0, bif_dec, lt_cast]
    rw [if_neg (by omega)]) (k := k) (by omega)
  unfold covB
  rw [I_CoversSpan, bif_dec]
  by_cases c : a.From ≥ a.To
  · simp [c]
  · rw [if_neg c, slices_ContainsFunc_ISpan_at_I_CoversSpan_1, slices_IndexFunc_ISpan_at_I_CoversSpan_1, this, findI_first]
    cases firstI (covP x a.From a.To) x.length 0 with
    | none => simp [ocOf, oc, c]
    | some j => simp [ocOf, oc, c]
def mI (x : List ISpan) (T : Int) (i : Nat) (s : Int × List ISpan) : Int × List ISpan :=
  (x[i]?).elim s fun e => if e.To ≤ s.1 then s else if e.From ≥ T then s else (e.To, if e.From > s.1 then s.2 ++ [⟨s.1, e.From⟩] else s.2)
def mEnd (T : Int) (s : Int × List ISpan) : List ISpan := if s.1 < T then s.2 ++ [⟨s.1, T⟩] else s.2
def missing (x : List ISpan) (y : ISpan) : List ISpan := mEnd y.To (if isSet x then foldI (mI x y.To) x.length 0 (y.From, []) else (y.From, []))
theorem missing_len (x : List ISpan) (y : ISpan) : (missing x y).length ≤ x.length + 1 := by
  have hE : ∀ s : Int × List ISpan, s.2.length ≤ x.length → (mEnd y.To s).length ≤ x.length + 1 := fun s h => by
    unfold mEnd; split
    · simp; omega
    · omega
  unfold missing
  apply hE
  split
  · have : ∀ m i s, s.2.length ≤ i → (foldI (mI x y.To) m i s).2.length ≤ i + m := by
      intro m
      induction m with
      | zero => intro i s h; exact h
      | succ m ih =>
        intro i s h
        have := ih (i + 1) (mI x y.To i s) (by
          unfold mI
          cases x[i]? with
          | none => simp only [Option.elim_none]; omega
          | some e =>
            simp only [Option.elim_some]
            split
            · omega
            · split
              · omega
              · simp only; split
                · simp; omega
                · omega)
        rw [foldI]; omega
    have := this x.length 0 (y.From, []) (by simp)
    omega
  · simp
theorem I_MissingSpans_eq {k : Nat} (hk : 1073741824 ≤ k) (x : List ISpan) (y : ISpan) (h : x.length < 1073741824 - 1) : I_MissingSpans k x y = some (missing x y) := by
  have hx : x.length < 1073741824 := by omega
  rw [I_MissingSpans, I_IsSpanSet_eq hk x hx, Option.bind_some]
  have hE : ∀ a r, r.length ≤ x.length → I_MissingSpans_c49 k a (decide (a < y.To)) y.From y.To r = some (mEnd y.To (a, r)) := fun a r hr => by
    rw [I_MissingSpans_c49, bif_dec, mEnd]
    by_cases c : a < y.To
    · simp only [c, if_true]; rw [appn_ok (by simp; omega)]; rfl
    · simp only [c, if_false]
  cases hs : isSet x with
  | false =>
    have : I_MissingSpans_b0 k k y.From [] (([] : List ISpan).length : Int) 0 y.From y.To [] = some (y.From, []) := by
      obtain ⟨k', rfl⟩ : ∃ k', k = k' + 1 := ⟨k - 1, by omega⟩
      rw [I_MissingSpans_b0, bif_dec]
      simp
    rw [Bool.not_false, I_MissingSpans_c12, cond_true, Option.bind_some, this, Option.bind_some, hE _ _ (by simp), missing, hs]
    simp
  | true =>
    rw [Bool.not_true, I_MissingSpans_c12, cond_false, Option.bind_some]
    have := fold_all (len := x.length) (g := mI x y.To) (Inv := fun i s => s.2.length ≤ i) (F := fun n i s => I_MissingSpans_b0 k n s.1 x (x.length : Int) i y.From y.To s.2) (out := id) (fun n i s hi hI => by
      simp only [I_MissingSpans_b0, bif_dec, lt_cast, hi, if_true, Option.bind_some, wrap_succ (by omega : i < 9223372036854775807), I_MissingSpans_b1, idx_nat hi, I_MissingSpans_c35, mI, List.getElem?_eq_getElem hi, Option.elim_some]
      have ha : ∀ a b, app 16 s.2 [(⟨a, b⟩ : ISpan)] = some (s.2 ++ [⟨a, b⟩]) := fun a b => appn_ok (by simp; omega)
      simp only [ha, Option.bind_some]
      by_cases c1 : x[i].To ≤ s.1
      · simp [c1]; omega
      by_cases c2 : x[i].From ≥ y.To
      · simp [c1, c2]; omega
      by_cases c3 : x[i].From > s.1 <;> simp [c1, c2, c3] <;> omega) (fun n i s hi => by
      simp only [I_MissingSpans_b0, bif_dec, lt_cast]
      rw [if_neg (by omega)]; rfl) (k := k) (by omega) (s := (y.From, [])) (by simp)
    have h1 : I_MissingSpans_b0 k k y.From x (x.length : Int) 0 y.From y.To [] = some (foldI (mI x y.To) x.length 0 (y.From, [])) := this.1
    rw [h1, Option.bind_some, hE _ _ this.2, Option.bind_some, missing, hs, if_pos rfl]
def unite (x : List ISpan) : List ISpan := x.foldl addSp []
theorem unite_len : ∀ (x : List ISpan) (s : List ISpan), (x.foldl addSp s).length ≤ s.length + x.length
  | [], s => by simp
  | e :: l, s => by
    rw [List.foldl_cons]
    have := unite_len l (addSp s e)
    have := addSp_len s e
    simp; omega
theorem I_UniteSpans_eq {k : Nat} (hk : 1073741824 ≤ k) (x : List ISpan) (h : x.length < 134217728) : I_UniteSpans k x = some (unite x) := by
  have := fold_all (len := x.length) (g := fun j s => (x[j]?).elim s (addSp s)) (Inv := fun i s => s.length ≤ i) (F := fun n i s => I_UniteSpans_b0 k n x (x.length : Int) i s) (out := id) (fun n i s hi hI => by
    have := addSp_len s x[i]
    simp only [I_UniteSpans_b0, bif_dec, lt_cast, hi, if_true, idx_nat hi, Option.bind_some, wrap_succ (by omega : i < 9223372036854775807), List.getElem?_eq_getElem hi, Option.elim_some]
    rw [I_AddSpan_eq hk _ _ (by omega), Option.bind_some]
    exact ⟨rfl, by omega⟩) (fun n i s hi => by
    simp only [I_UniteSpans_b0, bif_dec, lt_cast]
    rw [if_neg (by omega)]; rfl) (k := k) (by omega) (s := []) (by simp)
  have h1 : I_UniteSpans_b0 k k x (x.length : Int) 0 [] = some (foldI (fun j s => (x[j]?).elim s (addSp s)) x.length 0 []) := this.1
  rw [I_UniteSpans, h1, foldI_foldl x.length 0 _ (by omega), List.drop_zero]
  rfl
theorem fold_cov {n : Int} : ∀ (x : List ISpan) (s : Int × Int), (∀ e ∈ x, 0 ≤ e.From ∧ e.From < e.To ∧ e.To ≤ n) → 0 ≤ s.1 → s.1 < s.2 → s.2 ≤ n →
    0 ≤ (x.foldl stepS s).1 ∧ (x.foldl stepS s).1 < (x.foldl stepS s).2 ∧ (x.foldl stepS s).2 ≤ n ∧ ∀ a : Int, (x.foldl stepS s).1 ≤ a → a < (x.foldl stepS s).2 → (s.1 ≤ a ∧ a < s.2) ∨ ∃ e ∈ x, e.From ≤ a ∧ a < e.To
  | [], s, _, h1, h2, h3 => ⟨h1, h2, h3, fun a ha hb => .inl ⟨ha, hb⟩⟩
  | e :: x, s, h, h1, h2, h3 => by
    obtain ⟨e1, e2, e3⟩ := h e (by simp)
    have hx := fun y hy => h y (List.mem_cons_of_mem _ hy)
    rw [List.foldl_cons]
    by_cases c : e.To ≥ s.1 ∧ e.From ≤ s.2
    · have es : stepS s e = stepU s e := by unfold stepS; rw [if_pos c]
      have b1 : (stepU s e).1 = if e.From < s.1 then e.From else s.1 := rfl
      have b2 : (stepU s e).2 = if e.To > s.2 then e.To else s.2 := rfl
      have i1 : 0 ≤ (stepU s e).1 ∧ (stepU s e).1 < (stepU s e).2 ∧ (stepU s e).2 ≤ n ∧ ∀ a : Int, (stepU s e).1 ≤ a → a < (stepU s e).2 → (s.1 ≤ a ∧ a < s.2) ∨ (e.From ≤ a ∧ a < e.To) := by
        rw [b1, b2]
        split <;> split <;> refine ⟨by omega, by omega, by omega, fun a ha hb => by omega⟩
      rw [es]
      obtain ⟨g1, g2, g3, g4⟩ := fold_cov x (stepU s e) hx i1.1 i1.2.1 i1.2.2.1
      refine ⟨g1, g2, g3, fun a ha hb => ?_⟩
      rcases g4 a ha hb with q | ⟨y, hy, q⟩
      · rcases i1.2.2.2 a q.1 q.2 with q | q
        · exact .inl q
        · exact .inr ⟨e, by simp, q⟩
      · exact .inr ⟨y, List.mem_cons_of_mem _ hy, q⟩
    · have es : stepS s e = s := by unfold stepS; rw [if_neg c]
      rw [es]
      obtain ⟨g1, g2, g3, g4⟩ := fold_cov x s hx h1 h2 h3
      refine ⟨g1, g2, g3, fun a ha hb => ?_⟩
      rcases g4 a ha hb with q | ⟨y, hy, q⟩
      · exact .inl q
      · exact .inr ⟨y, List.mem_cons_of_mem _ hy, q⟩
theorem addS_cov {n : Int} {x : List ISpan} {y : ISpan} (h : ∀ e ∈ x, 0 ≤ e.From ∧ e.From < e.To ∧ e.To ≤ n) (h1 : 0 ≤ y.From) (h2 : y.From < y.To) (h3 : y.To ≤ n) : ∀ s ∈ addS x y, (0 ≤ s.From ∧ s.From ≤ s.To ∧ s.To ≤ n) ∧ ∀ a : Int, s.From ≤ a → a < s.To → (y.From ≤ a ∧ a < y.To) ∨ ∃ e ∈ x, e.From ≤ a ∧ a < e.To := by
  intro s hs
  obtain ⟨g1, g2, g3, g4⟩ := fold_cov x (y.From, y.To) h h1 h2 h3
  unfold addS at hs
  rw [List.mem_append, List.mem_append, List.mem_singleton] at hs
  rcases hs with (hs | rfl) | hs
  · have := h s ((List.mem_filter.1 hs).1)
    exact ⟨by omega, fun a ha hb => .inr ⟨s, (List.mem_filter.1 hs).1, ha, hb⟩⟩
  · exact ⟨⟨g1, by simp only; omega, g3⟩, g4⟩
  · have := h s ((List.mem_filter.1 hs).1)
    exact ⟨by omega, fun a ha hb => .inr ⟨s, (List.mem_filter.1 hs).1, ha, hb⟩⟩
def covA (l : List ISpan) (a : Int) : Bool := l.any fun e => decide (e.From ≤ a) && decide (a < e.To)
theorem covA_iff {l : List ISpan} {a : Int} : covA l a = true ↔ ∃ e ∈ l, e.From ≤ a ∧ a < e.To := by
  unfold covA
  rw [List.any_eq_true]
  constructor
  · rintro ⟨e, he, h⟩
    rw [Bool.and_eq_true, decide_eq_true_eq, decide_eq_true_eq] at h
    exact ⟨e, he, h⟩
  · rintro ⟨e, he, h1, h2⟩
    exact ⟨e, he, by rw [decide_eq_true h1, decide_eq_true h2]; rfl⟩
theorem covB_any {l : List ISpan} {y : ISpan} (h : y.From < y.To) : covB l y = l.any fun e => decide (e.From ≤ y.From) && decide (y.To ≤ e.To) := by
  unfold covB
  rw [decide_eq_false (by omega), Bool.false_or]
  have h1 : ∀ (m : List ISpan) (j : Nat), j ≤ m.length → (firstI (covP m y.From y.To) (m.length - j) j).isSome = (m.drop j).any fun e => decide (e.From ≤ y.From) && decide (y.To ≤ e.To) := by
    intro m j
    generalize hd : m.length - j = d
    induction d generalizing j with
    | zero => intro hj; rw [List.drop_of_length_le (by omega)]; rfl
    | succ d ih =>
      intro hj
      have hjl : j < m.length := by omega
      rw [List.drop_eq_getElem_cons hjl, List.any_cons, ← ih (j + 1) (by omega) (by omega)]
      simp only [firstI, findI]
      have : covP m y.From y.To j = (decide (m[j].From ≤ y.From) && decide (y.To ≤ m[j].To)) := by unfold covP; rw [List.getElem?_eq_getElem hjl]
      rw [this]
      cases (decide (m[j].From ≤ y.From) && decide (y.To ≤ m[j].To)) <;> rfl
  have := h1 l 0 (by omega)
  rw [Nat.sub_zero, List.drop_zero] at this
  exact this
theorem covB_one {l : List ISpan} {a : Int} : covB l ⟨a, a + 1⟩ = covA l a := by rw [covB_any (by simp only; omega)]; rfl
theorem unionN_abs : ∀ (l : List ISpan) (s : Int × Int), (∀ e ∈ l, e.To ≥ s.1 ∧ e.From < e.To) → s.1 ≤ s.2 →
    (unionN l s).2.1 ≤ s.1 ∧ s.2 ≤ (unionN l s).2.2 ∧ (∀ e ∈ l.take (unionN l s).1, (unionN l s).2.1 ≤ e.From ∧ e.To ≤ (unionN l s).2.2) ∧ (unionN l s).2.2 - (unionN l s).2.1 ≤ (s.2 - s.1) + ((l.take (unionN l s).1).map fun e => e.To - e.From).sum
  | [], s, _, h => by simp [unionN]
  | e :: l, s, h, h0 => by
    obtain ⟨e1, e2⟩ := h e (by simp)
    rw [unionN]
    by_cases c : e.From ≤ s.2
    · rw [if_pos c]
      have b1 : (stepU s e).1 = if e.From < s.1 then e.From else s.1 := rfl
      have b2 : (stepU s e).2 = if e.To > s.2 then e.To else s.2 := rfl
      have b3 : (stepU s e).1 ≤ s.1 ∧ (stepU s e).1 ≤ e.From ∧ s.2 ≤ (stepU s e).2 ∧ e.To ≤ (stepU s e).2 ∧ (stepU s e).2 - (stepU s e).1 ≤ (s.2 - s.1) + (e.To - e.From) := by
        rw [b1, b2]; split <;> split <;> omega
      obtain ⟨g1, g2, g3, g4⟩ := unionN_abs l (stepU s e) (fun y hy => ⟨by have := h y (List.mem_cons_of_mem _ hy); omega, (h y (List.mem_cons_of_mem _ hy)).2⟩) (by omega)
      simp only [List.take_succ_cons, List.map_cons, List.sum_cons]
      refine ⟨by omega, by omega, fun y hy => ?_, by omega⟩
      rcases List.mem_cons.1 hy with rfl | hy
      · omega
      · exact g3 y hy
    · rw [if_neg c]
      simp
theorem unionN_rest : ∀ (l : List ISpan) (s : Int × Int), SetL l → ∀ e ∈ l.drop (unionN l s).1, (unionN l s).2.2 < e.From
  | [], s, _, e, he => by simp at he
  | y :: l, s, h, e, he => by
    obtain ⟨t1, t2, t3⟩ := h.tail
    rw [unionN] at he ⊢
    by_cases c : y.From ≤ s.2
    · rw [if_pos c] at he ⊢
      simp only [List.drop_succ_cons] at he
      exact unionN_rest l _ t1 e he
    · rw [if_neg c] at he ⊢
      simp only [List.drop_zero] at he
      rcases List.mem_cons.1 he with rfl | he
      · simp only; omega
      · have := t2 e he
        simp only; omega
theorem unionN_low {c : Int} : ∀ (l : List ISpan) (s : Int × Int), (∀ e ∈ l, c < e.From) → c < s.1 → c < (unionN l s).2.1
  | [], s, _, h => h
  | e :: l, s, h, h0 => by
    rw [unionN]
    split
    · refine unionN_low l _ (fun y hy => h y (List.mem_cons_of_mem _ hy)) ?_
      have := h e (by simp)
      show c < (if e.From < s.1 then e.From else s.1)
      split <;> omega
    · exact h0
theorem unionN_top {c : Int} : ∀ (l : List ISpan) (s : Int × Int), (∀ e ∈ l, e.To ≤ c) → s.2 ≤ c → (unionN l s).2.2 ≤ c
  | [], s, _, h => h
  | e :: l, s, h, h0 => by
    rw [unionN]
    split
    · refine unionN_top l _ (fun y hy => h y (List.mem_cons_of_mem _ hy)) ?_
      have := h e (by simp)
      show (if e.To > s.2 then e.To else s.2) ≤ c
      split <;> omega
    · exact h0
def sizL (l : List ISpan) : Int := (l.map fun e => e.To - e.From).sum
theorem sizL_app (a b : List ISpan) : sizL (a ++ b) = sizL a + sizL b := by unfold sizL; rw [List.map_append, List.sum_append]
theorem mem_tw {A : Type} {p : A → Bool} : ∀ {l : List A} {e : A}, e ∈ l.takeWhile p → p e = true
  | a :: l, e, h => by
    rw [List.takeWhile_cons] at h
    cases hp : p a with
    | false => rw [hp] at h; simp at h
    | true =>
      rw [hp, if_pos rfl] at h
      rcases List.mem_cons.1 h with rfl | h
      · exact hp
      · exact mem_tw h
theorem head_dw {A : Type} {p : A → Bool} : ∀ {l m : List A} {z : A}, l.dropWhile p = z :: m → p z = false
  | [], _, _, h => by simp at h
  | a :: l, m, z, h => by
    rw [List.dropWhile_cons] at h
    cases hp : p a with
    | true => rw [hp, if_pos rfl] at h; exact head_dw h
    | false =>
      rw [hp, if_neg (by simp)] at h
      simp only [List.cons.injEq] at h
      rw [← h.1]; exact hp
structure AddF (x : List ISpan) (y : ISpan) : Prop where
  set : SetL (addSp x y)
  sub : ∀ e ∈ x, ∃ e' ∈ addSp x y, e'.From ≤ e.From ∧ e.To ≤ e'.To
  own : ∃ e' ∈ addSp x y, e'.From ≤ y.From ∧ y.To ≤ e'.To
  siz : sizL (addSp x y) ≤ sizL x + (y.To - y.From)
theorem addF_of {x : List ISpan} {y : ISpan} (h : isSet x = true) (hy : goodS y = true) : AddF x y := by
  have hs := isSet_SetL h
  unfold goodS at hy
  have hg := hy
  rw [Bool.and_eq_true, Bool.and_eq_true, decide_eq_true_eq, decide_eq_true_eq, decide_eq_true_eq] at hy
  obtain ⟨⟨y1, y2⟩, y3⟩ := hy
  have e : addSp x y = x.takeWhile (befP y.From) ++ [(⟨(unionN (x.dropWhile (befP y.From)) (y.From, y.To)).2.1, (unionN (x.dropWhile (befP y.From)) (y.From, y.To)).2.2⟩ : ISpan)] ++ (x.dropWhile (befP y.From)).drop (unionN (x.dropWhile (befP y.From)) (y.From, y.To)).1 := by
    unfold addSp
    rw [h]
    have : goodS y = true := hg
    rw [this]; rfl
  have hx : x.takeWhile (befP y.From) ++ x.dropWhile (befP y.From) = x := List.takeWhile_append_dropWhile
  have hmem : ∀ e, e ∈ x ↔ e ∈ x.takeWhile (befP y.From) ∨ e ∈ x.dropWhile (befP y.From) := by
    intro e
    conv => lhs; rw [← hx]
    rw [List.mem_append]
  have hpw := hs.1
  rw [← hx, List.pairwise_append] at hpw
  obtain ⟨p1, p2, p3⟩ := hpw
  have hbef : ∀ e ∈ x.takeWhile (befP y.From), e.To < y.From := by
    intro e he
    have := mem_tw he
    unfold befP at this
    simpa using this
  have hsD : SetL (x.dropWhile (befP y.From)) := ⟨p2, fun e he => hs.2 e ((hmem e).2 (.inr he))⟩
  have hD : ∀ e ∈ x.dropWhile (befP y.From), e.To ≥ y.From := by
    intro e he
    cases hd : x.dropWhile (befP y.From) with
    | nil => rw [hd] at he; cases he
    | cons z l =>
      have hz : befP y.From z = false := head_dw hd
      unfold befP at hz
      rw [decide_eq_false_iff_not] at hz
      rw [hd] at he
      rcases List.mem_cons.1 he with rfl | he
      · omega
      · rw [hd] at hsD
        have h1 := hsD.tail.2.1 e he
        have h2 := hsD.2 e (by simp [he])
        omega
  generalize hDD : x.dropWhile (befP y.From) = D at *
  generalize hTT : x.takeWhile (befP y.From) = A at *
  obtain ⟨u1, u2, u3, u4⟩ := unionN_abs D (y.From, y.To) (fun e he => ⟨hD e he, (hsD.2 e he).2.1⟩) (by simp only; omega)
  have u5 := unionN_rest D (y.From, y.To) hsD
  have u6 := unionN_top (c := 1000000000000) D (y.From, y.To) (fun e he => (hsD.2 e he).2.2) y3
  have u7 := unionN_low (c := -1) D (y.From, y.To) (fun e he => by have := (hsD.2 e he).1; omega) (by simp only; omega)
  simp only at u1 u2 u4
  refine ⟨?_, ?_, ?_, ?_⟩
  · rw [e]
    refine ⟨?_, ?_⟩
    · rw [List.pairwise_append, List.pairwise_append]
      refine ⟨⟨p1, by simp, ?_⟩, p2.sublist (List.drop_sublist _ _), ?_⟩
      · intro a ha b hb
        rw [List.mem_singleton] at hb
        subst hb
        exact unionN_low (c := a.To) D (y.From, y.To) (fun z hz => p3 a ha z hz) (hbef a ha)
      · intro a ha b hb
        rw [List.mem_append, List.mem_singleton] at ha
        rcases ha with ha | rfl
        · exact p3 a ha b (List.mem_of_mem_drop hb)
        · exact u5 b hb
    · intro z hz
      rw [List.mem_append, List.mem_append, List.mem_singleton] at hz
      rcases hz with (hz | rfl) | hz
      · exact hs.2 z ((hmem z).2 (.inl hz))
      · exact ⟨by simp only; omega, by simp only; omega, u6⟩
      · exact hs.2 z ((hmem z).2 (.inr (List.mem_of_mem_drop hz)))
  · intro z hz
    rw [e]
    rcases (hmem z).1 hz with hz | hz
    · exact ⟨z, by simp [hz], by omega, by omega⟩
    · rw [← List.take_append_drop (unionN D (y.From, y.To)).1 D, List.mem_append] at hz
      rcases hz with hz | hz
      · exact ⟨_, by rw [List.mem_append, List.mem_append, List.mem_singleton]; exact .inl (.inr rfl), (u3 z hz).1, (u3 z hz).2⟩
      · exact ⟨z, by rw [List.mem_append]; exact .inr hz, by omega, by omega⟩
  · rw [e]
    exact ⟨_, by rw [List.mem_append, List.mem_append, List.mem_singleton]; exact .inl (.inr rfl), u1, u2⟩
  · have e1 : sizL x = sizL A + (sizL (D.take (unionN D (y.From, y.To)).1) + sizL (D.drop (unionN D (y.From, y.To)).1)) := by
      rw [← sizL_app, List.take_append_drop, ← sizL_app, hx]
    rw [e, sizL_app, sizL_app, e1]
    have e2 : sizL [(⟨(unionN D (y.From, y.To)).2.1, (unionN D (y.From, y.To)).2.2⟩ : ISpan)] = (unionN D (y.From, y.To)).2.2 - (unionN D (y.From, y.To)).2.1 := by simp [sizL]
    rw [e2]
    unfold sizL
    omega
theorem addSp_covA {x : List ISpan} {y : ISpan} (h : isSet x = true) (h0 : 0 ≤ y.From) (a : Int) : covA (addSp x y) a = (covA x a || (decide (y.From ≤ a) && (decide (a < y.To) && decide (y.To ≤ 1000000000000)))) := by
  cases hg : goodS y with
  | false =>
    have e : addSp x y = x := by unfold addSp; rw [h, hg]; rfl
    rw [e]
    unfold goodS at hg
    rw [decide_eq_true h0, Bool.true_and, Bool.and_eq_false_iff, decide_eq_false_iff_not, decide_eq_false_iff_not] at hg
    have : (decide (y.From ≤ a) && (decide (a < y.To) && decide (y.To ≤ 1000000000000))) = false := by
      rw [Bool.and_eq_false_iff, Bool.and_eq_false_iff, decide_eq_false_iff_not, decide_eq_false_iff_not, decide_eq_false_iff_not]
      omega
    rw [this, Bool.or_false]
  | true =>
    have hf := addF_of h hg
    have hg2 := hg
    unfold goodS at hg
    rw [Bool.and_eq_true, Bool.and_eq_true, decide_eq_true_eq, decide_eq_true_eq, decide_eq_true_eq] at hg
    obtain ⟨⟨g1, g2⟩, g3⟩ := hg
    have hs := isSet_SetL h
    have e : addSp x y = addS x y := by unfold addSp; rw [h, hg2, Bool.true_and, cond_true, addS_addU hs g2]
    rw [decide_eq_true g3, Bool.and_true]
    apply Bool.eq_iff_iff.2
    rw [Bool.or_eq_true, Bool.and_eq_true, decide_eq_true_eq, decide_eq_true_eq, covA_iff, covA_iff]
    constructor
    · rintro ⟨z, hz, z1, z2⟩
      rw [e] at hz
      rcases (addS_cov (n := 1000000000000) hs.2 g1 g2 g3 z hz).2 a z1 z2 with q | q
      · exact .inr q
      · exact .inl q
    · rintro (⟨z, hz, z1, z2⟩ | ⟨z1, z2⟩)
      · obtain ⟨w, hw, w1, w2⟩ := hf.sub z hz
        exact ⟨w, hw, by omega, by omega⟩
      · obtain ⟨w, hw, w1, w2⟩ := hf.own
        exact ⟨w, hw, by omega, by omega⟩
def misInv (x : List ISpan) (F T : Int) (i : Nat) (s : Int × List ISpan) : Prop :=
  (s.1 = F ∨ ∃ j, j < i ∧ ∃ h : j < x.length, s.1 = x[j].To) ∧ F ≤ s.1 ∧ (∀ j, j < i → ∀ h : j < x.length, x[j].To ≤ s.1 ∨ x[j].From ≥ T) ∧
    ∀ a : Int, (∃ e ∈ s.2, e.From ≤ a ∧ a < e.To) ↔ (F ≤ a ∧ a < s.1 ∧ a < T ∧ ∀ j, j < i → ∀ h : j < x.length, ¬ (x[j].From ≤ a ∧ a < x[j].To))
theorem misInv_step {x : List ISpan} {F T : Int} (hs : isSet x = true) (i : Nat) (s : Int × List ISpan) (hi : i < x.length) (h : misInv x F T i s) : misInv x F T (i + 1) (mI x T i s) := by
  obtain ⟨h1, h2, h3, h4⟩ := h
  obtain ⟨b0, b1, b2, _⟩ := isSet_at hs hi
  have hsort : ∀ j, j < i → ∀ h : j < x.length, x[j].To < x[i].From := fun j hj hjl => List.pairwise_iff_getElem.1 (isSet_SetL hs).1 j i hjl hi hj
  have hsucc : ∀ j, j < i + 1 → j < i ∨ j = i := fun j hj => by omega
  unfold mI
  rw [List.getElem?_eq_getElem hi, Option.elim_some]
  by_cases c1 : x[i].To ≤ s.1
  · rw [if_pos c1]
    have hF : s.1 = F := by
      rcases h1 with h1 | ⟨j, hj, hjl, h1⟩
      · exact h1
      · have := hsort j hj hjl; omega
    refine ⟨.inl hF, h2, fun j hj hjl => ?_, fun a => ?_⟩
    · rcases hsucc j hj with hj | rfl
      · exact h3 j hj hjl
      · exact .inl c1
    · rw [h4 a]
      constructor
      · rintro ⟨a1, a2, a3, a4⟩; omega
      · rintro ⟨a1, a2, a3, a4⟩; omega
  · rw [if_neg c1]
    by_cases c2 : x[i].From ≥ T
    · rw [if_pos c2]
      refine ⟨?_, h2, fun j hj hjl => ?_, fun a => ?_⟩
      · rcases h1 with h1 | ⟨j, hj, hjl, h1⟩
        · exact .inl h1
        · exact .inr ⟨j, by omega, hjl, h1⟩
      · rcases hsucc j hj with hj | rfl
        · exact h3 j hj hjl
        · exact .inr c2
      · rw [h4 a]
        constructor
        · rintro ⟨a1, a2, a3, a4⟩
          refine ⟨a1, a2, a3, fun j hj hjl => ?_⟩
          rcases hsucc j hj with hj | rfl
          · exact a4 j hj hjl
          · omega
        · rintro ⟨a1, a2, a3, a4⟩
          exact ⟨a1, a2, a3, fun j hj hjl => a4 j (by omega) hjl⟩
    · rw [if_neg c2]
      refine ⟨.inr ⟨i, by omega, hi, rfl⟩, by simp only; omega, fun j hj hjl => ?_, fun a => ?_⟩
      · rcases hsucc j hj with hj | rfl
        · rcases h3 j hj hjl with q | q
          · exact .inl (by simp only; omega)
          · exact .inr q
        · exact .inl (by simp only; omega)
      · have hout : (∃ e ∈ (if x[i].From > s.1 then s.2 ++ [⟨s.1, x[i].From⟩] else s.2), e.From ≤ a ∧ a < e.To) ↔ (∃ e ∈ s.2, e.From ≤ a ∧ a < e.To) ∨ (s.1 ≤ a ∧ a < x[i].From) := by
          by_cases c3 : x[i].From > s.1
          · rw [if_pos c3]
            constructor
            · rintro ⟨e, he, e1⟩
              rw [List.mem_append, List.mem_singleton] at he
              rcases he with he | rfl
              · exact .inl ⟨e, he, e1⟩
              · exact .inr e1
            · rintro (⟨e, he, e1⟩ | e1)
              · exact ⟨e, by simp [he], e1⟩
              · exact ⟨⟨s.1, x[i].From⟩, by simp, e1⟩
          · rw [if_neg c3]
            constructor
            · exact .inl
            · rintro (q | q)
              · exact q
              · omega
        show (∃ e ∈ (if x[i].From > s.1 then s.2 ++ [⟨s.1, x[i].From⟩] else s.2), e.From ≤ a ∧ a < e.To) ↔ _
        rw [hout, h4 a]
        simp only
        constructor
        · rintro (⟨a1, a2, a3, a4⟩ | ⟨a1, a2⟩)
          · refine ⟨a1, by omega, a3, fun j hj hjl => ?_⟩
            rcases hsucc j hj with hj | rfl
            · exact a4 j hj hjl
            · rcases h1 with h1 | ⟨j2, hj2, hjl2, h1⟩
              · omega
              · have := hsort j2 hj2 hjl2; omega
          · refine ⟨by omega, by omega, by omega, fun j hj hjl => ?_⟩
            rcases hsucc j hj with hj | rfl
            · rcases h3 j hj hjl with q | q <;> omega
            · omega
        · rintro ⟨a1, a2, a3, a4⟩
          have hi4 := a4 i (by omega) hi
          by_cases c4 : a < s.1
          · exact .inl ⟨a1, c4, a3, fun j hj hjl => a4 j (by omega) hjl⟩
          · exact .inr ⟨by omega, by omega⟩
theorem misInv_all {x : List ISpan} {F T : Int} (hs : isSet x = true) : ∀ (m i : Nat) (s : Int × List ISpan), i + m = x.length → misInv x F T i s → misInv x F T x.length (foldI (mI x T) m i s)
  | 0, i, s, h, hI => by rw [show x.length = i by omega]; exact hI
  | m + 1, i, s, h, hI => misInv_all hs m (i + 1) _ (by omega) (misInv_step hs i s (by omega) hI)
theorem missing_covA {x : List ISpan} {y : ISpan} (hs : isSet x = true) (a : Int) : covA (missing x y) a = (decide (y.From ≤ a) && (decide (a < y.To) && !covA x a)) := by
  have h0 : misInv x y.From y.To 0 (y.From, []) := ⟨.inl rfl, by simp only; omega, fun j hj => by omega, fun a => by
    constructor
    · rintro ⟨e, he, _⟩; cases he
    · rintro ⟨a1, a2, _⟩; simp only at a2; omega⟩
  have hI := misInv_all hs x.length 0 (y.From, []) (by omega) h0
  unfold missing
  rw [if_pos (by rw [hs])]
  generalize foldI (mI x y.To) x.length 0 (y.From, []) = s at hI
  obtain ⟨h1, h2, h3, h4⟩ := hI
  have hx : covA x a = true ↔ ¬ ∀ j, j < x.length → ∀ h : j < x.length, ¬ (x[j].From ≤ a ∧ a < x[j].To) := by
    rw [covA_iff]
    constructor
    · rintro ⟨e, he, e1⟩ hn
      obtain ⟨j, hj, rfl⟩ := List.mem_iff_getElem.1 he
      exact hn j hj hj e1
    · intro hn
      apply Classical.byContradiction
      intro hc
      exact hn fun j hj hjl e1 => hc ⟨_, List.getElem_mem hjl, e1⟩
  have key : (∃ e ∈ mEnd y.To s, e.From ≤ a ∧ a < e.To) ↔ (y.From ≤ a ∧ a < y.To ∧ ∀ j, j < x.length → ∀ h : j < x.length, ¬ (x[j].From ≤ a ∧ a < x[j].To)) := by
    unfold mEnd
    by_cases c : s.1 < y.To
    · rw [if_pos c]
      constructor
      · rintro ⟨e, he, e1⟩
        rw [List.mem_append, List.mem_singleton] at he
        rcases he with he | rfl
        · obtain ⟨a1, a2, a3, a4⟩ := (h4 a).1 ⟨e, he, e1⟩
          exact ⟨a1, a3, a4⟩
        · simp only at e1
          refine ⟨by omega, by omega, fun j hj hjl => ?_⟩
          rcases h3 j hj hjl with q | q <;> omega
      · rintro ⟨a1, a2, a3⟩
        by_cases c4 : a < s.1
        · obtain ⟨e, he, e1⟩ := (h4 a).2 ⟨a1, c4, a2, a3⟩
          exact ⟨e, by simp [he], e1⟩
        · exact ⟨⟨s.1, y.To⟩, by simp, by show s.1 ≤ a; omega, a2⟩
    · rw [if_neg c, h4 a]
      constructor
      · rintro ⟨a1, a2, a3, a4⟩; exact ⟨a1, a3, a4⟩
      · rintro ⟨a1, a2, a3⟩; exact ⟨a1, by omega, a2, a3⟩
  apply Bool.eq_iff_iff.2
  rw [covA_iff, key, Bool.and_eq_true, Bool.and_eq_true, decide_eq_true_eq, decide_eq_true_eq, Bool.not_eq_true', ← Bool.not_eq_true, hx, Classical.not_not]
def spD (e : ISpan) : Prop := 0 ≤ e.From ∧ e.From ≤ e.To ∧ e.To ≤ 20
theorem S_l9Span_tot {k : Nat} {c : Sl1Cur} (h : CurOk c) : ∃ v c', S_l9Span k c = some (v, c') ∧ spD v ∧ CurOk c' := by
  unfold S_l9Span
  obtain ⟨v1, c1, e1, ⟨a1, b1⟩, h1⟩ := S_l1Below_tot (k := k) h (n := 16) (by omega)
  obtain ⟨v2, c2, e2, ⟨a2, b2⟩, h2⟩ := S_l1Below_tot (k := k) h1 (n := 6) (by omega)
  rw [e1, Option.bind_some, e2, Option.bind_some, wrap_id (by omega) (by omega)]
  exact ⟨_, _, rfl, ⟨a1, by simp only; omega, by simp only; omega⟩, h2⟩
theorem S_l9Set_loop {k : Nat} (hk : 1073741824 ≤ k) : ∀ (n j : Nat) (r : List ISpan) (b : List Int) (i h : Int), j < n → r.length + j ≤ 1000 → CurOk ⟨b, i, h⟩ →
    ∃ b' i' h' t, S_l9Set_b0 k n (j : Int) b i h r = some (b', i', h', t) ∧ t.length ≤ r.length + j ∧ CurOk ⟨b', i', h'⟩ := by
  intro n
  induction n with
  | zero => intro j r b i h hj; omega
  | succ n ih =>
    intro j r b i h hj hx hc
    rw [S_l9Set_b0, bif_dec]
    cases j with
    | zero => rw [if_neg (by omega)]; exact ⟨_, _, _, _, rfl, by omega, hc⟩
    | succ j =>
      obtain ⟨v, c1, e1, _, h1⟩ := S_l9Span_tot (k := k) hc
      have hl := addSp_len r v
      obtain ⟨b', i', h', t, e, q1, q2⟩ := ih j (addSp r v) c1.b c1.i c1.h (by omega) (by omega) h1
      rw [if_pos (by omega), e1, Option.bind_some, S_AddSpan_eq hk r v (by omega), Option.bind_some, wrap_pred (by omega)]
      exact ⟨b', i', h', t, e, by omega, q2⟩
theorem S_l9Set_tot {k : Nat} (hk : 1073741824 ≤ k) {c : Sl1Cur} (h : CurOk c) : ∃ t c', S_l9Set k c = some (t, c') ∧ t.length ≤ 1000 ∧ CurOk c' := by
  unfold S_l9Set
  obtain ⟨v, c1, e1, ⟨a1, b1⟩, h1⟩ := S_l1Below_tot (k := k) h (n := 5) (by omega)
  obtain ⟨m, rfl⟩ := Int.eq_ofNat_of_zero_le a1
  obtain ⟨b', i', h', t, e2, q1, q2⟩ := S_l9Set_loop hk k m [] c1.b c1.i c1.h (by omega) (by simp; omega) h1
  obtain ⟨v3, c3, e3, _, h3⟩ := S_l1Below_tot (k := k) q2 (n := 9) (by omega)
  have eo : S_l1Once k ⟨b', i', h'⟩ 9 = some (v3 == 0, c3) := by rw [S_l1Once, e3]; rfl
  simp only [List.length_nil] at q1
  rw [e1, Option.bind_some, e2, Option.bind_some]
  simp only
  rw [eo, Option.bind_some]
  simp only
  rw [S_l9Set_c17]
  cases (v3 == 0) with
  | false => exact ⟨_, _, rfl, by simp only; omega, h3⟩
  | true =>
    obtain ⟨v4, c4, e4, _, h4⟩ := S_l9Span_tot (k := k) h3
    have e4' : S_l9Span k ⟨c3.b, c3.i, c3.h⟩ = some (v4, c4) := e4
    rw [cond_true, e4', Option.bind_some, appn_ok (by simp; omega), Option.bind_some]
    exact ⟨_, _, rfl, by simp; omega, h4⟩
theorem S_l1Int_tot {k : Nat} {c : Sl1Cur} (h : CurOk c) {l : List Int} (h0 : 0 < l.length) : ∃ v c', S_l1Int k c l = some (v, c') ∧ v ∈ l ∧ CurOk c' := by
  unfold S_l1Int
  obtain ⟨v, c1, e1, ⟨a1, b1⟩, h1⟩ := S_l1Below_tot (k := k) h (n := (l.length : Int)) (by omega)
  obtain ⟨m, rfl⟩ := Int.eq_ofNat_of_zero_le a1
  rw [e1, Option.bind_some, idx_nat (by omega), Option.bind_some]
  exact ⟨_, _, rfl, List.getElem_mem _, h1⟩
theorem S_DrawAddSpan_tot {k : Nat} (hk : 1073741824 ≤ k) {x : List Int} (hx : x.length ≤ 1048576) : ∃ l y, S_DrawAddSpan k x = some (l, y) ∧ l.length ≤ 1000 := by
  unfold S_DrawAddSpan
  obtain ⟨c0, e0, h0⟩ := S_l1New_tot hk hx
  obtain ⟨t, c1, e1, q1, h1⟩ := S_l9Set_tot hk h0
  obtain ⟨v, c2, e2, _, h2⟩ := S_l9Span_tot (k := k) h1
  obtain ⟨v3, c3, e3, _, h3⟩ := S_l1Below_tot (k := k) h2 (n := 9) (by omega)
  have eo : S_l1Once k c2 9 = some (v3 == 0, c3) := by rw [S_l1Once, e3]; rfl
  rw [e0, Option.bind_some, e1, Option.bind_some, e2, Option.bind_some, eo, Option.bind_some]
  simp only
  rw [S_DrawAddSpan_c14]
  cases (v3 == 0) with
  | false => exact ⟨_, _, rfl, q1⟩
  | true =>
    obtain ⟨v4, c4, e4, _, h4⟩ := S_l1Int_tot (k := k) h3 (l := [(-1 : Int), (0 : Int), (1 : Int), (2 : Int), (255 : Int), (256 : Int), (65535 : Int), (2147483647 : Int), (2147483648 : Int), (4294967295 : Int), (4294967296 : Int), (-2147483648 : Int), (9223372036854775807 : Int), (-9223372036854775808 : Int)]) (by simp)
    have e5 : S_l1Odd k ⟨c3.b, c3.i, c3.h⟩ = some (v4, c4) := by
      have e4' : S_l1Int k ⟨c3.b, c3.i, c3.h⟩ _ = some (v4, c4) := e4
      rw [S_l1Odd, e4']; rfl
    rw [cond_true, e5]
    exact ⟨_, _, rfl, q1⟩
theorem S_DrawMissingSpans_tot {k : Nat} (hk : 1073741824 ≤ k) {x : List Int} (hx : x.length ≤ 1048576) : ∃ l y, S_DrawMissingSpans k x = some (l, y) ∧ l.length ≤ 1000 := by
  unfold S_DrawMissingSpans
  obtain ⟨c0, e0, h0⟩ := S_l1New_tot hk hx
  obtain ⟨t, c1, e1, q1, h1⟩ := S_l9Set_tot hk h0
  obtain ⟨v, c2, e2, _, h2⟩ := S_l9Span_tot (k := k) h1
  rw [e0, Option.bind_some, e1, Option.bind_some, e2, Option.bind_some]
  exact ⟨_, _, rfl, q1⟩
theorem S_DrawUnite_loop {k : Nat} : ∀ (n j : Nat) (r : List ISpan) (b : List Int) (i h : Int), j < n → r.length + j ≤ 100 → CurOk ⟨b, i, h⟩ → (∀ e ∈ r, spD e) →
    ∃ t, S_DrawUniteSpans_b0 k n (j : Int) b i h r = some t ∧ t.length ≤ r.length + j ∧ ∀ e ∈ t, spD e := by
  intro n
  induction n with
  | zero => intro j r b i h hj; omega
  | succ n ih =>
    intro j r b i h hj hx hc hr
    rw [S_DrawUniteSpans_b0, bif_dec]
    cases j with
    | zero => rw [if_neg (by omega)]; exact ⟨_, rfl, by omega, hr⟩
    | succ j =>
      obtain ⟨v, c1, e1, hv, h1⟩ := S_l9Span_tot (k := k) hc
      obtain ⟨t, e, q1, q2⟩ := ih j (r ++ [v]) c1.b c1.i c1.h (by omega) (by simp; omega) h1 (fun e he => by
        rw [List.mem_append, List.mem_singleton] at he
        rcases he with he | rfl
        · exact hr e he
        · exact hv)
      rw [if_pos (by omega), e1, Option.bind_some, appn_ok (by simp; omega), Option.bind_some, wrap_pred (by omega)]
      exact ⟨t, e, by simp at q1; omega, q2⟩
theorem S_DrawUniteSpans_tot {k : Nat} (hk : 1073741824 ≤ k) {x : List Int} (hx : x.length ≤ 1048576) : ∃ l, S_DrawUniteSpans k x = some l ∧ l.length ≤ 100 ∧ ∀ e ∈ l, spD e := by
  unfold S_DrawUniteSpans
  obtain ⟨c0, e0, h0⟩ := S_l1New_tot hk hx
  obtain ⟨v, c1, e1, ⟨a1, b1⟩, h1⟩ := S_l1Below_tot (k := k) h0 (n := 6) (by omega)
  obtain ⟨m, rfl⟩ := Int.eq_ofNat_of_zero_le a1
  obtain ⟨t, e2, q1, q2⟩ := S_DrawUnite_loop (k := k) k m [] c1.b c1.i c1.h (by omega) (by simp; omega) h1 (by simp)
  rw [e0, Option.bind_some, e1, Option.bind_some, e2, Option.bind_some]
  exact ⟨t, rfl, by simp at q1; omega, q2⟩
theorem addSp_id {x : List ISpan} {y : ISpan} (h : goodS y = false) : addSp x y = x := by unfold addSp; rw [h, Bool.and_false]; rfl
theorem spD_bad {y : ISpan} (h : spD y) (hg : goodS y = false) : y.From = y.To := by
  unfold goodS at hg
  unfold spD at h
  rw [decide_eq_true h.1, Bool.true_and, decide_eq_true (by omega : y.To ≤ 1000000000000), Bool.and_true, decide_eq_false_iff_not] at hg
  omega
theorem unite_all : ∀ (w z : List ISpan), isSet z = true → (∀ e ∈ w, spD e) → isSet (w.foldl addSp z) = true ∧ sizL (w.foldl addSp z) ≤ sizL z + sizL w ∧ (∀ e ∈ z, ∃ e' ∈ w.foldl addSp z, e'.From ≤ e.From ∧ e.To ≤ e'.To) ∧ ∀ e ∈ w, e.From < e.To → ∃ e' ∈ w.foldl addSp z, e'.From ≤ e.From ∧ e.To ≤ e'.To
  | [], z, h, _ => ⟨h, by simp [sizL], fun e he => ⟨e, he, by omega, by omega⟩, fun e he => by cases he⟩
  | y :: w, z, h, hw => by
    have hy := hw y (by simp)
    have hw2 := fun e he => hw e (List.mem_cons_of_mem _ he)
    rw [List.foldl_cons]
    have es : sizL (y :: w) = (y.To - y.From) + sizL w := by simp [sizL]
    cases hg : goodS y with
    | false =>
      have hb := spD_bad hy hg
      rw [addSp_id hg]
      obtain ⟨g1, g2, g3, g4⟩ := unite_all w z h hw2
      refine ⟨g1, by rw [es]; omega, g3, fun e he hlt => ?_⟩
      rcases List.mem_cons.1 he with rfl | he
      · omega
      · exact g4 e he hlt
    | true =>
      have hf := addF_of h hg
      obtain ⟨g1, g2, g3, g4⟩ := unite_all w (addSp z y) (SetL_isSet hf.set) hw2
      have hsz := hf.siz
      refine ⟨g1, by rw [es]; omega, fun e he => ?_, fun e he hlt => ?_⟩
      · obtain ⟨e1, h1, h2, h3⟩ := hf.sub e he
        obtain ⟨e2, h4, h5, h6⟩ := g3 e1 h1
        exact ⟨e2, h4, by omega, by omega⟩
      · rcases List.mem_cons.1 he with rfl | he
        · obtain ⟨e1, h1, h2, h3⟩ := hf.own
          obtain ⟨e2, h4, h5, h6⟩ := g3 e1 h1
          exact ⟨e2, h4, by omega, by omega⟩
        · exact g4 e he hlt
theorem I_Size_loop {k : Nat} {l : List ISpan} (hl : l.length ≤ 1000) (hb : ∀ e ∈ l, 0 ≤ e.To - e.From ∧ e.To - e.From ≤ 1000000000000) : ∀ (n i : Nat) (s : Int), i ≤ l.length → l.length - i < n → 0 ≤ s → s ≤ (i : Int) * 1000000000000 →
    I_SpanSize_b0 k n s l (l.length : Int) (i : Int) = some (s + sizL (l.drop i)) := by
  intro n
  induction n with
  | zero => intro i _ _ h; omega
  | succ n ih =>
    intro i s hi hn h0 h1
    rw [I_SpanSize_b0, bif_dec]
    by_cases c : i < l.length
    · obtain ⟨b1, b2⟩ := hb _ (List.getElem_mem c)
      have hm : ((i + 1 : Nat) : Int) * 1000000000000 = (i : Int) * 1000000000000 + 1000000000000 := by push_cast; omega
      have es : sizL (l.drop i) = (l[i].To - l[i].From) + sizL (l.drop (i + 1)) := by unfold sizL; rw [List.drop_eq_getElem_cons c, List.map_cons, List.sum_cons]
      rw [if_pos (by omega), idx_nat c, Option.bind_some, wrap_id (n := l[i].To - l[i].From) (by omega) (by omega), wrap_id (n := s + (l[i].To - l[i].From)) (by omega) (by omega), wrap_succ (by omega), ih (i + 1) _ (by omega) (by omega) (by omega) (by omega), es]
      congr 1; omega
    · rw [if_neg (by omega), List.drop_of_length_le (by omega)]
      simp [sizL]
theorem I_SpanSize_eq {k : Nat} (hk : 1073741824 ≤ k) {l : List ISpan} (hl : l.length ≤ 1000) (hb : ∀ e ∈ l, 0 ≤ e.To - e.From ∧ e.To - e.From ≤ 1000000000000) : I_SpanSize k l = some (sizL l) := by
  have := I_Size_loop (k := k) hl hb k 0 0 (by omega) (by omega) (by omega) (by omega)
  rw [List.drop_zero, Int.zero_add] at this
  have h0 : I_SpanSize_b0 k k 0 l (l.length : Int) 0 = some (sizL l) := this
  rw [I_SpanSize, h0, Option.bind_some]
theorem L_b0 {k : Nat} (hk : 1073741824 ≤ k) {a0 : List Int} {l u : List ISpan} {x v : ISpan} (hl : l.length ≤ 1000) (hu : u.length ≤ 1000) : ∀ (n i : Nat), i ≤ 40 → 40 - i < n →
    L_FnIntervals_b0 k n a0 (isSet l) (i : Int) l x.From x.To (addSp l x) u v.From v.To (missing u v) = some (.nrm ()) := by
  have hy := addSp_len l x
  have hm := missing_len u v
  intro n
  induction n with
  | zero => intro i _ h; omega
  | succ n ih =>
    intro i hi hn
    rw [L_FnIntervals_b0, bif_dec]
    by_cases c : i < 40
    · rw [if_pos (by omega)]
      cases hs : isSet l with
      | false => rfl
      | true =>
        rw [cond_true]
        by_cases c0 : x.From ≥ 0
        · have e1 : IntKind.wrap .i64 ((i : Int) + 1) = (i : Int) + 1 := wrap_id (by omega) (by omega)
          have ih' := ih (i + 1) (by omega) (by omega)
          have e2 : ((i + 1 : Nat) : Int) = (i : Int) + 1 := by push_cast; rfl
          rw [e2, hs] at ih'
          have hA := addSp_covA hs c0 (i : Int)
          have hB := fun h => missing_covA (x := u) (y := v) h (i : Int)
          rw [decide_eq_true c0, cond_true, e1]
          simp only [I_CoversSpan_eq hk _ _ (show (addSp l x).length < 1073741824 by omega), S_CoversSpan_eq hk _ _ (show l.length < 1073741824 by omega), S_CoversSpan_eq hk _ _ (show u.length < 1073741824 by omega), S_CoversSpan_eq hk _ _ (show (missing u v).length < 1073741824 by omega), S_IsSpanSet_eq hk u (by omega), Option.bind_some, covB_one, ih', hA]
          cases hsu : isSet u with
          | false =>
            cases covA l (i : Int) <;> cases decide (x.From ≤ (i : Int)) <;> cases decide ((i : Int) < x.To) <;> cases decide (x.To ≤ 1000000000000) <;> rfl
          | true =>
            rw [hB hsu]
            cases covA l (i : Int) <;> cases decide (x.From ≤ (i : Int)) <;> cases decide ((i : Int) < x.To) <;> cases decide (x.To ≤ 1000000000000) <;> cases decide (v.From ≤ (i : Int)) <;> cases decide ((i : Int) < v.To) <;> cases covA u (i : Int) <;> rfl
        · rw [decide_eq_false c0]; rfl
    · rw [if_neg (by omega)]
theorem L_b2 {k : Nat} (hk : 1073741824 ≤ k) {g : Bool} {y w z : List ISpan} (hw : w.length ≤ 1000) (hz : z.length < 1073741824) (hc : ∀ e ∈ w, covB z e = true) : ∀ (n i : Nat), i ≤ w.length → w.length - i < n → L_FnIntervals_b2 k n g (i : Int) y w z = some (.nrm ()) := by
  intro n
  induction n with
  | zero => intro i _ h; omega
  | succ n ih =>
    intro i hi hn
    rw [L_FnIntervals_b2, bif_dec]
    by_cases c : i < w.length
    · rw [if_pos (by omega), idx_nat c]
      simp only [Option.bind_some, I_CoversSpan_eq hk _ _ hz, hc _ (List.getElem_mem c), Bool.not_true, cond_false]
      rw [wrap_succ (by omega), ih (i + 1) (by omega) (by omega)]
      cases decide (w[i].From ≥ 0) <;> rfl
    · rw [if_neg (by omega)]
theorem FnIntervals_pure {k : Nat} (hk : 1073741824 ≤ k) (a0 : List Int) (h0 : InL InB a0) : L_FnIntervals k a0 = some true := by
  unfold L_FnIntervals
  rw [L_big_eq, Option.bind_some, bif_dec]
  by_cases c1 : (a0.length : Int) > 1048576
  · rw [if_pos c1]
  rw [if_neg c1]
  obtain ⟨l, x, e1, q1⟩ := S_DrawAddSpan_tot hk (x := a0) (by omega)
  obtain ⟨u, v, e2, q2⟩ := S_DrawMissingSpans_tot hk (x := a0) (by omega)
  obtain ⟨w, e3, q3, q4⟩ := S_DrawUniteSpans_tot hk (x := a0) (by omega)
  have hy := addSp_len l x
  have b0 := L_b0 hk (a0 := a0) (l := l) (u := u) (x := x) (v := v) q1 q2 k 0 (by omega) (by omega)
  have b0' : L_FnIntervals_b0 k k a0 (isSet l) 0 l x.From x.To (addSp l x) u v.From v.To (missing u v) = some (.nrm ()) := b0
  have hzl := unite_len w []
  obtain ⟨z1, z2, z3, z4⟩ := unite_all w [] (by decide) q4
  have hz : (unite w).length ≤ 1000 := by unfold unite; simp at hzl; omega
  have hzz : isSet (unite w) = true := z1
  have hcov : ∀ e ∈ w, covB (unite w) e = true := by
    intro e he
    by_cases c : e.From < e.To
    · obtain ⟨e', h1, h2, h3⟩ := z4 e he c
      rw [covB_any c, List.any_eq_true]
      exact ⟨e', h1, by rw [decide_eq_true h2, decide_eq_true h3]; rfl⟩
    · unfold covB
      rw [decide_eq_true (by omega), Bool.true_or]
  have b2 := L_b2 hk (g := isSet l) (y := addSp l x) (w := w) (z := unite w) (by omega) (by omega) hcov k 0 (by omega) (by omega)
  have b2' : L_FnIntervals_b2 k k (isSet l) 0 (addSp l x) w (unite w) = some (.nrm ()) := b2
  have hsz : sizL (unite w) ≤ sizL w := by
    have : sizL ([] : List ISpan) = 0 := rfl
    unfold unite
    omega
  have s1 := I_SpanSize_eq hk hz (fun e he => by have := (isSet_SetL hzz).2 e he; omega)
  have s2 := I_SpanSize_eq hk (l := w) (by omega) (fun e he => by have := q4 e he; unfold spD at this; omega)
  have hyset : isSet l = true → isSet (addSp l x) = true := by
    intro hs
    cases hg : goodS x with
    | false => rw [addSp_id hg]; exact hs
    | true => exact SetL_isSet (addF_of hs hg).set
  rw [e1, Option.bind_some]
  simp only
  rw [I_AddSpan_eq hk l x (by omega), Option.bind_some, e2, Option.bind_some]
  simp only
  rw [I_MissingSpans_eq hk u v (by omega), Option.bind_some, S_IsSpanSet_eq hk l (by omega), Option.bind_some, b0', Option.bind_some]
  simp only [oc]
  rw [e3, Option.bind_some, I_UniteSpans_eq hk w (by omega), Option.bind_some, b2', Option.bind_some]
  simp only [oc]
  rw [I_IsSpanSet_eq hk _ (by omega), Option.bind_some, S_IsSpanSet_eq hk _ (by omega), Option.bind_some, s1, Option.bind_some, s2, Option.bind_some, I_IsSpanSet_eq hk _ (by omega), Option.bind_some, hzz, decide_eq_true hsz]
  simp only [Option.bind_some, cond_true]
  cases hs : isSet l with
  | false => rfl
  | true => rw [hyset hs]; rfl
end
end Go.Ytolmhhnhmbiofaa
