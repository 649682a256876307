/- Plain lemmas and definitions. Nothing is claimed here. -/
import Derived.Test.YtolmhhnhmbiofaaKu
set_option linter.unusedVariables false
set_option linter.unusedSimpArgs false
set_option maxRecDepth 100000
namespace Go.Ytolmhhnhmbiofaa
open Go Go.RowKit Go.Pv Go.Pu
noncomputable section
def CurOk (c : Sl1Cur) : Prop := 0 ≤ c.i ∧ c.i ≤ (c.b.length : Int) ∧ c.b.length ≤ 1048576
theorem and255 (n : Int) : 0 ≤ andI .i64 n 255 ∧ andI .i64 n 255 ≤ 255 := by
  have h : (BitVec.ofInt 64 n &&& BitVec.ofInt 64 255).toNat ≤ 255 := by
    rw [BitVec.toNat_and]; exact Nat.le_trans Nat.and_le_right (by decide)
  show 0 ≤ IntKind.wrap .i64 (((BitVec.ofInt 64 n &&& BitVec.ofInt 64 255).toNat : Nat) : Int) ∧ IntKind.wrap .i64 (((BitVec.ofInt 64 n &&& BitVec.ofInt 64 255).toNat : Nat) : Int) ≤ 255
  rw [wrap_id (by omega) (by omega)]; omega
theorem S_l1Byte_tot {k : Nat} {c : Sl1Cur} (h : CurOk c) : ∃ v c', S_l1Byte k c = some (v, c') ∧ (0 ≤ v ∧ v ≤ 255) ∧ CurOk c' := by
  obtain ⟨b, i, hh⟩ := c
  obtain ⟨h1, h2, h3⟩ := h
  obtain ⟨n, rfl⟩ := Int.eq_ofNat_of_zero_le h1
  have h2 : (n : Int) ≤ (b.length : Int) := h2
  have h3 : b.length ≤ 1048576 := h3
  unfold S_l1Byte
  generalize IntKind.wrap .i64 (IntKind.wrap .i64 ((⟨b, (n : Int), hh⟩ : Sl1Cur).h * 6364136223846793005) + 1442695040888963407) = g
  obtain ⟨q1, e1⟩ : ∃ q, shrI .i64 g 33 = some q := ⟨_, rfl⟩
  obtain ⟨q2, e2⟩ : ∃ q, shrI .i64 g 47 = some q := ⟨_, rfl⟩
  rw [e1, Option.bind_some, e2, Option.bind_some, S_l1Byte_c34, bif_dec]
  by_cases c : (n : Int) < (b.length : Int)
  · have e3 : idx b (n : Int) = some b[n] := idx_nat (by omega)
    rw [if_pos c]
    simp only [e3, Option.bind_some]
    refine ⟨_, _, rfl, and255 _, ?_, ?_, h3⟩
    · show 0 ≤ IntKind.wrap .i64 ((n : Int) + 1)
      rw [wrap_succ (by omega)]; omega
    · show IntKind.wrap .i64 ((n : Int) + 1) ≤ (b.length : Int)
      rw [wrap_succ (by omega)]; omega
  · rw [if_neg c, Option.bind_some]
    exact ⟨_, _, rfl, and255 _, h1, h2, h3⟩
theorem md_pos {a n : Int} (h : 0 ≤ a) (hn : 0 < n) : ∃ r, md a n = some r ∧ 0 ≤ r ∧ r < n :=
  ⟨a.tmod n, by unfold md; rw [if_neg (by omega)], Int.tmod_nonneg n h, Int.tmod_lt_of_pos a hn⟩
theorem S_l1Below_tot {k : Nat} {c : Sl1Cur} (h : CurOk c) {n : Int} (hn : 0 < n) : ∃ v c', S_l1Below k c n = some (v, c') ∧ (0 ≤ v ∧ v < n) ∧ CurOk c' := by
  unfold S_l1Below
  rw [bif_dec, if_neg (by omega), bif_dec]
  obtain ⟨v1, c1, e1, ⟨a1, b1⟩, h1⟩ := S_l1Byte_tot (k := k) h
  rw [e1]
  by_cases hs : n ≤ 256
  · rw [if_pos hs, Option.bind_some]
    obtain ⟨r, er, hr⟩ := md_pos a1 hn
    rw [er]
    exact ⟨_, _, rfl, hr, h1⟩
  · rw [if_neg hs, Option.bind_some]
    obtain ⟨v2, c2, e2, ⟨a2, b2⟩, h2⟩ := S_l1Byte_tot (k := k) h1
    obtain ⟨v3, c3, e3, ⟨a3, b3⟩, h3⟩ := S_l1Byte_tot (k := k) h2
    rw [e2, Option.bind_some, e3, Option.bind_some]
    rw [wrap_id (n := v1 * 65536) (by omega) (by omega), wrap_id (n := v2 * 256) (by omega) (by omega), wrap_id (n := v1 * 65536 + v2 * 256) (by omega) (by omega), wrap_id (by omega) (by omega)]
    obtain ⟨r, er, hr⟩ := md_pos (a := v1 * 65536 + v2 * 256 + v3) (by omega) hn
    rw [er]
    exact ⟨_, _, rfl, hr, h3⟩
theorem S_l1New_loop {k : Nat} {x : List Int} (hx : x.length ≤ 1048576) : ∀ (n i : Nat) (s : Int), i ≤ x.length → x.length - i < n → ∃ r, S_l1New_b0 k n x s (i : Int) = some r := by
  intro n
  induction n with
  | zero => intro i s _ h; omega
  | succ n ih =>
    intro i s hi hn
    rw [S_l1New_b0, bif_dec, bif_dec]
    by_cases c : (i : Int) < (x.length : Int)
    · rw [if_pos c]
      by_cases c2 : (i : Int) < 4000
      · rw [if_pos c2, idx_nat (by omega), Option.bind_some, wrap_succ (by omega)]
        exact ih (i + 1) _ (by omega) (by omega)
      · rw [if_neg c2]; exact ⟨_, rfl⟩
    · rw [if_neg c]; exact ⟨_, rfl⟩
theorem S_l1New_tot {k : Nat} (hk : 1073741824 ≤ k) {x : List Int} (hx : x.length ≤ 1048576) : ∃ c, S_l1New k x = some c ∧ CurOk c := by
  unfold S_l1New
  obtain ⟨r, e⟩ := S_l1New_loop (k := k) hx k 0 (IntKind.wrap .i64 ((271091 : Int) + (x.length : Int))) (by omega) (by omega)
  rw [show (((0 : Nat)) : Int) = 0 from rfl] at e
  rw [e, Option.bind_some]
  exact ⟨_, rfl, by show (0 : Int) ≤ 0; omega, by show (0 : Int) ≤ (x.length : Int); omega, hx⟩
theorem wrap_pred {j : Nat} (h : j + 1 ≤ 9223372036854775807) : IntKind.wrap .i64 (((j + 1 : Nat) : Int) - 1) = (j : Int) := by rw [wrap_id (by omega) (by omega)]; omega
theorem L_big_eq {k : Nat} {x : List Int} : L_big k x = some (decide ((x.length : Int) > 1048576)) := rfl
def spanOf (p : IPiece) : ISpan := ⟨p.From, IntKind.wrap .i64 (p.From + (p.Data.length : Int))⟩
theorem spans_fold (x : List IPiece) : foldI (fun j s => s ++ (x[j]?).elim [] (fun e => [spanOf e])) x.length 0 [] = x.map spanOf := by
  have := foldI_append (x := x) (f := fun e => [spanOf e]) x.length 0 [] (by omega)
  rw [this, List.drop_zero, List.nil_append]
  clear this
  induction x with
  | nil => rfl
  | cons a l ih => rw [List.flatMap_cons, ih]; rfl
theorem S_SpansOf_eq {k : Nat} (hk : 1073741824 ≤ k) (x : List IPiece) (h : x.length < 1073741824) : S_SpansOf k x = some (x.map spanOf) := by
  have := (fold_all (len := x.length) (g := fun j s => s ++ (x[j]?).elim [] (fun e => [spanOf e])) (Inv := fun i s => s.length = i) (F := fun n i s => S_SpansOf_b0 k n x i s) (out := id) (fun n i s hi hs => by
    simp only [S_SpansOf_b0, idx_nat hi, Option.bind_some, wrap_succ (by omega : i < 9223372036854775807), bif_dec, lt_cast, hi, if_true, List.getElem?_eq_getElem hi, Option.elim_some]
    rw [appn_ok (by simp only [List.length_cons, List.length_nil]; omega), Option.bind_some]
    exact ⟨rfl, by simp [hs]⟩) (fun n i s hi => by
    simp only [S_SpansOf_b0, bif_dec, lt_cast]
    rw [if_neg (by omega)]; rfl) (k := k) (by omega) (s := []) rfl).1
  rw [S_SpansOf, this, spans_fold]; rfl
theorem I_SpansOf_eq {k : Nat} (hk : 1073741824 ≤ k) (x : List IPiece) (h : x.length < 1073741824) : I_SpansOf k x = some (x.map spanOf) := by
  have := (fold_all (len := x.length) (g := fun j s => s ++ (x[j]?).elim [] (fun e => [spanOf e])) (Inv := fun i s => s.length = i) (F := fun n i s => I_SpansOf_b0 k n x (x.length : Int) i s) (out := id) (fun n i s hi hs => by
    simp only [I_SpansOf_b0, idx_nat hi, Option.bind_some, wrap_succ (by omega : i < 9223372036854775807), bif_dec, lt_cast, hi, if_true, List.getElem?_eq_getElem hi, Option.elim_some]
    rw [appn_ok (by simp only [List.length_cons, List.length_nil]; omega), Option.bind_some]
    exact ⟨rfl, by simp [hs]⟩) (fun n i s hi => by
    simp only [I_SpansOf_b0, bif_dec, lt_cast]
    rw [if_neg (by omega)]; rfl) (k := k) (by omega) (s := []) rfl).1
  rw [I_SpansOf, this, spans_fold]; rfl
def badP (x : List ISpan) (i : Nat) : Bool :=
  match x[i]? with
  | none => false
  | some e => decide (e.From < 0) || decide (e.From ≥ e.To) || decide (e.To > 1000000000000) || (decide (0 < i) && match x[i - 1]? with | some q => decide (q.To ≥ e.From) | none => false)
def isSet (x : List ISpan) : Bool := (firstI (badP x) x.length 0).isNone
theorem S_IsSpanSet_eq {k : Nat} (hk : 1073741824 ≤ k) (x : List ISpan) (h : x.length < 1073741824) : S_IsSpanSet k x = some (isSet x) := by
  have := find_all (len := x.length) (c := fun i => bif badP x i then some false else none) (F := fun n i => S_IsSpanSet_b0 k n x i) (fun n i hi => by
    simp only [S_IsSpanSet_b0, idx_nat hi, Option.bind_some, wrap_succ (by omega : i < 9223372036854775807), bif_dec, lt_cast, hi, if_true, badP, List.getElem?_eq_getElem hi]
    by_cases c1 : x[i].From < 0
    · simp [c1]
    by_cases c2 : x[i].From ≥ x[i].To
    · simp [c1, c2]
    by_cases c3 : x[i].To > 1000000000000
    · simp [c1, c2, c3]
    by_cases c4 : 0 < i
    · have e : IntKind.wrap .i64 ((i : Int) - 1) = ((i - 1 : Nat) : Int) := by rw [wrap_id (by omega) (by omega)]; omega
      have hi' : i - 1 < x.length := by omega
      rw [e, idx_nat hi', List.getElem?_eq_getElem hi']
      by_cases c5 : x[i - 1].To ≥ x[i].From <;> simp [c1, c2, c3, c4, c5]
    · simp [c1, c2, c3, c4]) (fun n i hi => by
    simp only [S_IsSpanSet_b0, bif_dec, lt_cast]
    rw [if_neg (by omega)]) (k := k) (by omega)
  rw [S_IsSpanSet, this, findI_first]
  unfold isSet
  cases firstI (badP x) x.length 0 <;> simp [ocOf, oc]
theorem I_IsSpanSet_eq {k : Nat} (hk : 1073741824 ≤ k) (x : List ISpan) (h : x.length < 1073741824) : I_IsSpanSet k x = some (isSet x) := by
  have := find_all (len := x.length) (c := fun i => bif badP x i then some false else none) (F := fun n i => I_IsSpanSet_b0 k n x x (x.length : Int) i) (fun n i hi => by
    simp only [I_IsSpanSet_b0, idx_nat hi, Option.bind_some, wrap_succ (by omega : i < 9223372036854775807), bif_dec, lt_cast, hi, if_true, badP, List.getElem?_eq_getElem hi]
    by_cases c1 : x[i].From < 0
    · simp [c1]
    by_cases c2 : x[i].From ≥ x[i].To
    · simp [c1, c2]
    by_cases c3 : x[i].To > 1000000000000
    · simp [c1, c2, c3]
    by_cases c4 : 0 < i
    · have e : IntKind.wrap .i64 ((i : Int) - 1) = ((i - 1 : Nat) : Int) := by rw [wrap_id (by omega) (by omega)]; omega
      have hi' : i - 1 < x.length := by omega
      rw [e, idx_nat hi', List.getElem?_eq_getElem hi']
      by_cases c5 : x[i - 1].To ≥ x[i].From <;> simp [c1, c2, c3, c4, c5]
    · simp [c1, c2, c3, c4]) (fun n i hi => by
    simp only [I_IsSpanSet_b0, bif_dec, lt_cast]
    rw [if_neg (by omega)]) (k := k) (by omega)
  rw [I_IsSpanSet, this, findI_first]
  unfold isSet
  cases firstI (badP x) x.length 0 <;> simp [ocOf, oc]
def areP (x : List IPiece) (n : Int) : Bool := decide (0 ≤ n) && decide (n ≤ 600) && decide (x.length ≤ 8) && isSet (x.map spanOf) && (match (x.map spanOf).getLast? with | some s => decide (s.To ≤ n) | none => true)
theorem last_idx {x : List ISpan} (h : x.length < 1073741824) (h0 : x ≠ []) : idx x (IntKind.wrap .i64 ((x.length : Int) - 1)) = x.getLast? := by
  have : 0 < x.length := List.length_pos_iff.2 h0
  have e : IntKind.wrap .i64 ((x.length : Int) - 1) = ((x.length - 1 : Nat) : Int) := by rw [wrap_id (by omega) (by omega)]; omega
  rw [e, idx_nat (by omega), List.getLast?_eq_getElem?, List.getElem?_eq_getElem (by omega)]
theorem S_ArePieces_eq {k : Nat} (hk : 1073741824 ≤ k) (x : List IPiece) (n : Int) (h : x.length < 1073741824) : S_ArePieces k x n = some (areP x n) := by
  have hs : (x.map spanOf).length < 1073741824 := by simpa using h
  rw [S_ArePieces, S_SpansOf_eq hk x h, Option.bind_some, S_l1In, bif_dec]
  unfold areP
  by_cases c1 : n ≥ 0
  case neg => simp [c1]
  by_cases c2 : n ≤ 600
  case neg => simp [c1, c2]
  by_cases c3 : x.length ≤ 8
  case neg =>
    have c4 : ¬ ((x.length : Int) ≤ 8) := by omega
    have c5 : (x.length : Int) > 8 := by omega
    simp [c1, c2, c3, c4, c5]
  rw [if_pos c1, Option.bind_some, bifT (by simp [c2]), bifT (by simp; omega), S_IsSpanSet_eq hk _ hs, Option.bind_some]
  cases h4 : isSet (x.map spanOf) with
  | false => simp
  | true =>
    by_cases h5 : x.map spanOf = []
    · simp [h5, c1, c2, c3]
    · rw [cond_true, bifF (by rw [beq_eq_false_iff_ne]; have := List.length_pos_iff.2 h5; omega), last_idx hs h5]
      obtain ⟨s, hs⟩ : ∃ s, (x.map spanOf).getLast? = some s := ⟨_, List.getLast?_eq_some_getLast h5⟩
      simp [hs, c1, c2, c3]
theorem I_ArePieces_eq {k : Nat} (hk : 1073741824 ≤ k) (x : List IPiece) (n : Int) (h : x.length < 1073741824) : I_ArePieces k x n = some (areP x n) := by
  have hs : (x.map spanOf).length < 1073741824 := by simpa using h
  rw [I_ArePieces, I_SpansOf_eq hk x h, Option.bind_some, I_inRange, bif_dec]
  unfold areP
  by_cases c1 : 0 ≤ n
  case neg => simp [c1]
  by_cases c2 : n ≤ 600
  case neg => simp [c1, c2]
  by_cases c3 : x.length ≤ 8
  case neg =>
    have c4 : ¬ ((x.length : Int) ≤ 8) := by omega
    have c5 : (x.length : Int) > 8 := by omega
    simp [c1, c2, c3, c4, c5]
  rw [if_pos c1, Option.bind_some, bifF (by simp [c2]), bifF (by simp; omega), I_IsSpanSet_eq hk _ hs, Option.bind_some]
  cases h4 : isSet (x.map spanOf) with
  | false => simp
  | true =>
    by_cases h5 : x.map spanOf = []
    · simp [h5, c1, c2, c3]
    · rw [Bool.not_true, cond_false, bifF (by rw [beq_eq_false_iff_ne]; have := List.length_pos_iff.2 h5; omega), last_idx hs h5]
      obtain ⟨s, hs⟩ : ∃ s, (x.map spanOf).getLast? = some s := ⟨_, List.getLast?_eq_some_getLast h5⟩
      simp [hs, c1, c2, c3]
def stepU (s : Int × Int) (e : ISpan) : Int × Int := (if e.From < s.1 then e.From else s.1, if e.To > s.2 then e.To else s.2)
def stepS (s : Int × Int) (e : ISpan) : Int × Int := if e.To ≥ s.1 ∧ e.From ≤ s.2 then stepU s e else s
def unionN : List ISpan → Int × Int → Nat × Int × Int
  | [], s => (0, s)
  | e :: l, s => if e.From ≤ s.2 then ((unionN l (stepU s e)).1 + 1, (unionN l (stepU s e)).2) else (0, s)
def befP (F : Int) (e : ISpan) : Bool := decide (e.To < F)
def addS (x : List ISpan) (y : ISpan) : List ISpan :=
  x.filter (befP y.From) ++ [(⟨(x.foldl stepS (y.From, y.To)).1, (x.foldl stepS (y.From, y.To)).2⟩ : ISpan)] ++ x.filter (fun e => decide (e.From > (x.foldl stepS (y.From, y.To)).2))
def addU (x : List ISpan) (y : ISpan) : List ISpan :=
  x.takeWhile (befP y.From) ++ [(⟨(unionN (x.dropWhile (befP y.From)) (y.From, y.To)).2.1, (unionN (x.dropWhile (befP y.From)) (y.From, y.To)).2.2⟩ : ISpan)] ++ (x.dropWhile (befP y.From)).drop (unionN (x.dropWhile (befP y.From)) (y.From, y.To)).1
def goodS (y : ISpan) : Bool := decide (0 ≤ y.From) && decide (y.From < y.To) && decide (y.To ≤ 1000000000000)
def addSp (x : List ISpan) (y : ISpan) : List ISpan := bif isSet x && goodS y then addU x y else x
def SetL (x : List ISpan) : Prop := x.Pairwise (fun a b => a.To < b.From) ∧ ∀ e ∈ x, 0 ≤ e.From ∧ e.From < e.To ∧ e.To ≤ 1000000000000
theorem isSet_at {x : List ISpan} (h : isSet x = true) {i : Nat} (hi : i < x.length) : 0 ≤ x[i].From ∧ x[i].From < x[i].To ∧ x[i].To ≤ 1000000000000 ∧ ∀ j (e : i = j + 1), ∀ hj : j < x.length, x[j].To < x[i].From := by
  unfold isSet at h
  have := firstI_none x.length 0 (Option.isNone_iff_eq_none.1 h) i (by omega) (by omega)
  simp only [badP, List.getElem?_eq_getElem hi, Bool.or_eq_false_iff, decide_eq_false_iff_not, Bool.and_eq_false_iff] at this
  refine ⟨by omega, by omega, by omega, fun j e hj => ?_⟩
  subst e
  have h4 := this.2
  rw [show j + 1 - 1 = j by omega, List.getElem?_eq_getElem hj] at h4
  simp only [decide_eq_false_iff_not] at h4
  omega
theorem isSet_SetL {x : List ISpan} (h : isSet x = true) : SetL x := by
  refine ⟨List.pairwise_iff_getElem.2 fun i j hi hj hij => ?_, fun e he => ?_⟩
  · obtain ⟨d, rfl⟩ : ∃ d, j = i + d + 1 := ⟨j - i - 1, by omega⟩
    clear hij
    induction d with
    | zero => exact (isSet_at h hj).2.2.2 i rfl hi
    | succ d ih =>
      have h1 := ih (by omega)
      have h2 := (isSet_at h hj).2.2.2 (i + d + 1) rfl (by omega)
      have h3 := (isSet_at h (show i + d + 1 < x.length by omega)).2.1
      omega
  · obtain ⟨i, hi, rfl⟩ := List.mem_iff_getElem.1 he
    obtain ⟨h1, h2, h3, _⟩ := isSet_at h hi
    exact ⟨h1, h2, h3⟩
theorem SetL_isSet {x : List ISpan} (h : SetL x) : isSet x = true := by
  unfold isSet
  cases hf : firstI (badP x) x.length 0 with
  | none => rfl
  | some i =>
    obtain ⟨_, h1, h2, _⟩ := firstI_some _ _ _ hf
    have hi : i < x.length := by omega
    obtain ⟨b0, b1, b2⟩ := h.2 _ (List.getElem_mem hi)
    simp only [badP, List.getElem?_eq_getElem hi] at h2
    cases i with
    | zero => simp at h2; omega
    | succ i =>
      have := List.pairwise_iff_getElem.1 h.1 i (i + 1) (by omega) hi (by omega)
      rw [show i + 1 - 1 = i by omega, List.getElem?_eq_getElem (by omega : i < x.length)] at h2
      simp at h2
      omega
theorem stepU_1 (s : Int × Int) (e : ISpan) : (stepU s e).1 ≤ s.1 ∧ (stepU s e).1 ≤ e.From ∧ s.2 ≤ (stepU s e).2 ∧ e.To ≤ (stepU s e).2 := by
  unfold stepU; refine ⟨?_, ?_, ?_, ?_⟩ <;> simp only <;> split <;> omega
theorem foldS_2 : ∀ (l : List ISpan) (s : Int × Int), s.2 ≤ (l.foldl stepS s).2
  | [], s => Int.le_refl _
  | e :: l, s => by
    rw [List.foldl_cons]
    have := foldS_2 l (stepS s e)
    have h2 : s.2 ≤ (stepS s e).2 := by
      unfold stepS; split
      · exact (stepU_1 s e).2.2.1
      · omega
    omega
theorem foldS_id : ∀ (l : List ISpan) (s : Int × Int), (∀ e ∈ l, e.From > s.2) → l.foldl stepS s = s
  | [], s, _ => rfl
  | e :: l, s, h => by
    have := h e (List.mem_cons_self ..)
    rw [List.foldl_cons, show stepS s e = s by unfold stepS; rw [if_neg (by omega)]]
    exact foldS_id l s fun e' he' => h e' (List.mem_cons_of_mem _ he')
theorem SetL.tail {e : ISpan} {l : List ISpan} (h : SetL (e :: l)) : SetL l ∧ (∀ e' ∈ l, e.To < e'.From) ∧ e.From < e.To :=
  ⟨⟨(List.pairwise_cons.1 h.1).2, fun e' he' => h.2 e' (List.mem_cons_of_mem _ he')⟩, (List.pairwise_cons.1 h.1).1, (h.2 e (List.mem_cons_self ..)).2.1⟩
theorem unionN_eq : ∀ (l : List ISpan) (s : Int × Int), SetL l → (∀ e ∈ l, e.To ≥ s.1) → (unionN l s).2 = l.foldl stepS s ∧ l.drop (unionN l s).1 = l.filter (fun e => decide (e.From > (l.foldl stepS s).2))
  | [], s, _, _ => ⟨rfl, rfl⟩
  | e :: l, s, h, h1 => by
    obtain ⟨t1, t2, t3⟩ := h.tail
    have he := h1 e (List.mem_cons_self ..)
    rw [unionN, List.foldl_cons]
    by_cases c : e.From ≤ s.2
    · rw [if_pos c, show stepS s e = stepU s e by unfold stepS; rw [if_pos ⟨he, c⟩]]
      have hU := stepU_1 s e
      obtain ⟨i1, i2⟩ := unionN_eq l (stepU s e) t1 fun e' he' => by
        have := t2 e' he'
        have := (t1.2 e' he').2.1
        omega
      have := foldS_2 l (stepU s e)
      refine ⟨i1, ?_⟩
      rw [List.drop_succ_cons, i2, List.filter_cons, if_neg (by simp; omega)]
    · rw [if_neg c, show stepS s e = s by unfold stepS; rw [if_neg (by omega)], foldS_id l s fun e' he' => by have := t2 e' he'; omega]
      refine ⟨rfl, ?_⟩
      rw [List.drop_zero]
      refine (List.filter_eq_self.2 fun e' he' => ?_).symm
      rcases List.mem_cons.1 he' with rfl | he'
      · simp; omega
      · have := t2 e' he'; simp; omega
theorem addS_eq (F T : Int) (hFT : F < T) : ∀ (x : List ISpan), SetL x → x.filter (befP F) = x.takeWhile (befP F) ∧ x.foldl stepS (F, T) = (unionN (x.dropWhile (befP F)) (F, T)).2 ∧
    x.filter (fun e => decide (e.From > (x.foldl stepS (F, T)).2)) = (x.dropWhile (befP F)).drop (unionN (x.dropWhile (befP F)) (F, T)).1
  | [], _ => ⟨rfl, rfl, rfl⟩
  | e :: l, h => by
    obtain ⟨t1, t2, t3⟩ := h.tail
    cases c : befP F e with
    | true =>
      have c' : e.To < F := by simpa [befP] using c
      obtain ⟨i1, i2, i3⟩ := addS_eq F T hFT l t1
      have := foldS_2 l (F, T)
      rw [List.filter_cons, if_pos c, List.takeWhile_cons, if_pos c, List.dropWhile_cons, if_pos c, List.foldl_cons, show stepS (F, T) e = (F, T) by unfold stepS; rw [if_neg (by simp only; omega)], List.filter_cons, if_neg (by simp only [decide_eq_true_eq] at *; omega)]
      exact ⟨by rw [i1], i2, i3⟩
    | false =>
      have c' : e.To ≥ F := by simpa [befP] using c
      have all : ∀ e' ∈ e :: l, e'.To ≥ F := fun e' he' => by
        rcases List.mem_cons.1 he' with rfl | he'
        · exact c'
        · have := t2 e' he'
          have := (t1.2 e' he').2.1
          omega
      obtain ⟨j1, j2⟩ := unionN_eq (e :: l) (F, T) h all
      rw [List.takeWhile_cons, if_neg (by simp [c]), List.dropWhile_cons, if_neg (by simp [c])]
      refine ⟨?_, j1.symm, j2.symm⟩
      rw [List.filter_eq_nil_iff]
      intro e' he'
      have := all e' he'
      simp [befP]; omega
theorem addS_addU {x : List ISpan} {y : ISpan} (h : SetL x) (hy : y.From < y.To) : addS x y = addU x y := by
  obtain ⟨h1, h2, h3⟩ := addS_eq y.From y.To hy x h
  unfold addS addU
  rw [h3, h1, h2]
theorem unionN_le : ∀ (l : List ISpan) (s : Int × Int), (unionN l s).1 ≤ l.length
  | [], s => Nat.le_refl _
  | e :: l, s => by
    rw [unionN]; split
    · have := unionN_le l (stepU s e); simp; omega
    · simp
theorem addU_len (x : List ISpan) (y : ISpan) : (addU x y).length ≤ x.length + 1 := by
  have : (x.takeWhile (befP y.From)).length + (x.dropWhile (befP y.From)).length = x.length := by
    rw [← List.length_append, List.takeWhile_append_dropWhile]
  unfold addU
  simp only [List.length_append, List.length_cons, List.length_nil, List.length_drop]
  omega
theorem addSp_len (x : List ISpan) (y : ISpan) : (addSp x y).length ≤ x.length + 1 := by
  unfold addSp
  cases isSet x && goodS y with
  | true => exact addU_len x y
  | false => simp
theorem S_AddSpan_1 {k : Nat} (hk : 1073741824 ≤ k) (x : List ISpan) (F T : Int) (r : List ISpan) (h : x.length + r.length < 1073741824) : S_AddSpan_b0 k k x 0 F T r = some (r ++ x.filter (befP F)) := by
  have := fold_all (len := x.length) (g := fun j s => s ++ (x[j]?).elim [] fun e => bif befP F e then [e] else []) (Inv := fun i s => s.length ≤ r.length + i) (F := fun n i s => S_AddSpan_b0 k n x i F T s) (out := id) (fun n i s hi hI => by
    simp only [S_AddSpan_b0, bif_dec, lt_cast, hi, if_true, S_AddSpan_b1, idx_nat hi, Option.bind_some, S_AddSpan_c46, wrap_succ (by omega : i < 9223372036854775807), List.getElem?_eq_getElem hi, Option.elim_some, befP]
    by_cases c : x[i].To < F
    · simp only [c, if_true]; rw [appn_ok (by simp; omega)]; exact ⟨rfl, by simp; omega⟩
    · simp only [c, if_false, List.append_nil]; exact ⟨rfl, by omega⟩) (fun n i s hi => by
    simp only [S_AddSpan_b0, bif_dec, lt_cast]
    rw [if_neg (by omega)]; rfl) (k := k) (by omega) (s := r) (by simp)
  have h1 : S_AddSpan_b0 k k x 0 F T r = some (foldI (fun j s => s ++ (x[j]?).elim [] fun e => bif befP F e then [e] else []) x.length 0 r) := this.1
  rw [h1, foldI_filter]
theorem S_AddSpan_2 {k : Nat} (hk : 1073741824 ≤ k) (x : List ISpan) (F T : Int) (r : List ISpan) (h : x.length < 1073741824) : S_AddSpan_b2 k k x 0 F T r = some (x.foldl stepS (F, T)) := by
  have := fold_all (len := x.length) (g := fun j s => (x[j]?).elim s (stepS s)) (Inv := fun i s => True) (F := fun n i (s : Int × Int) => S_AddSpan_b2 k n x i s.1 s.2 r) (out := id) (fun n i s hi hI => by
    simp only [S_AddSpan_b2, bif_dec, lt_cast, hi, if_true, S_AddSpan_b3, idx_nat hi, Option.bind_some, S_AddSpan_c77, wrap_succ (by omega : i < 9223372036854775807), List.getElem?_eq_getElem hi, Option.elim_some, S_Min, S_Max, stepS, stepU]
    refine ⟨?_, trivial⟩
    by_cases c1 : x[i].To ≥ s.1 <;> by_cases c2 : x[i].From ≤ s.2 <;> by_cases c3 : x[i].From < s.1 <;> by_cases c4 : x[i].To > s.2 <;> simp [c1, c2, c3, c4]) (fun n i s hi => by
    simp only [S_AddSpan_b2, bif_dec, lt_cast]
    rw [if_neg (by omega)]; rfl) (k := k) (by omega) (s := (F, T)) trivial
  have h1 : S_AddSpan_b2 k k x 0 F T r = some (foldI (fun j s => (x[j]?).elim s (stepS s)) x.length 0 (F, T)) := this.1
  rw [h1, foldI_foldl x.length 0 _ (by omega), List.drop_zero]
theorem S_AddSpan_3 {k : Nat} (hk : 1073741824 ≤ k) (x : List ISpan) (F T : Int) (r : List ISpan) (h : x.length + r.length < 1073741824) : S_AddSpan_b4 k k x 0 F T r = some (r ++ x.filter (fun e => decide (e.From > T))) := by
  have := fold_all (len := x.length) (g := fun j s => s ++ (x[j]?).elim [] fun e => bif decide (e.From > T) then [e] else []) (Inv := fun i s => s.length ≤ r.length + i) (F := fun n i s => S_AddSpan_b4 k n x i F T s) (out := id) (fun n i s hi hI => by
    simp only [S_AddSpan_b4, bif_dec, lt_cast, hi, if_true, S_AddSpan_b5, idx_nat hi, Option.bind_some, S_AddSpan_c112, wrap_succ (by omega : i < 9223372036854775807), List.getElem?_eq_getElem hi, Option.elim_some]
    by_cases c : x[i].From > T
    · simp only [c, if_true]; rw [appn_ok (by simp; omega)]; exact ⟨rfl, by simp; omega⟩
    · simp only [c, if_false, List.append_nil]; exact ⟨rfl, by omega⟩) (fun n i s hi => by
    simp only [S_AddSpan_b4, bif_dec, lt_cast]
    rw [if_neg (by omega)]; rfl) (k := k) (by omega) (s := r) (by simp)
  have h1 : S_AddSpan_b4 k k x 0 F T r = some (foldI (fun j s => s ++ (x[j]?).elim [] fun e => bif decide (e.From > T) then [e] else []) x.length 0 r) := this.1
  rw [h1, foldI_filter]
theorem S_AddSpan_eq {k : Nat} (hk : 1073741824 ≤ k) (x : List ISpan) (y : ISpan) (h : x.length < 268435456) : S_AddSpan k x y = some (addSp x y) := by
  have ha : app 16 ([] : List ISpan) x = some x := by rw [appn_ok (by simp; omega)]; rfl
  rw [S_AddSpan, S_IsSpanSet_eq hk x (by omega), Option.bind_some, addSp, goodS]
  simp only [ha, Option.bind_some]
  cases hs : isSet x with
  | false => simp
  | true =>
    by_cases c1 : y.From < 0
    · have d1 : decide (0 ≤ y.From) = false := by simp; omega
      simp [c1, d1]
    by_cases c2 : y.From ≥ y.To
    · have d2 : decide (y.From < y.To) = false := by simp; omega
      simp [c1, c2, d2]
    by_cases c3 : y.To > 1000000000000
    · have d3 : decide (y.To ≤ 1000000000000) = false := by simp; omega
      simp [c1, c2, c3, d3]
    have f1 : (x.filter (befP y.From)).length ≤ x.length := List.length_filter_le ..
    have f2 : (x.filter (befP y.From)).length + x.length < 2147483648 := by omega
    rw [S_AddSpan_1 hk x _ _ [] (by simp; omega), List.nil_append]
    simp only [c1, c2, c3, decide_false, Bool.not_true, cond_false, Option.bind_some]
    rw [S_AddSpan_2 hk x _ _ _ (by omega), Option.bind_some, appn_ok (by simp; omega), Option.bind_some, S_AddSpan_3 hk x _ _ _ (by simp; omega), Option.bind_some]
    have e : (true && (decide (0 ≤ y.From) && decide (y.From < y.To) && decide (y.To ≤ 1000000000000))) = true := by simp; omega
    rw [e, cond_true, ← addS_addU (isSet_SetL hs) (by omega)]
    rfl
theorem I_AddSpan_1 {k : Nat} (x : List ISpan) (F T : Int) (h : x.length < 1073741824) : ∀ (n i : Nat) (r : List ISpan), i ≤ x.length → r.length = i → x.length - i < n →
    I_AddSpan_b0 k n x (i : Int) F T r = some (((i + ((x.drop i).takeWhile (befP F)).length : Nat) : Int), r ++ (x.drop i).takeWhile (befP F)) := by
  intro n
  induction n with
  | zero => intro i r _ _ h; omega
  | succ n ih =>
    intro i r hi hr hn
    rw [I_AddSpan_b0, bif_dec]
    by_cases c : i < x.length
    · rw [if_pos (by omega), idx_nat c, Option.bind_some, Option.bind_some, List.drop_eq_getElem_cons c, List.takeWhile_cons, befP]
      cases decide (x[i].To < F) with
      | true =>
        rw [cond_true, appn_ok (by simp; omega), Option.bind_some, wrap_succ (by omega), ih (i + 1) _ (by omega) (by simp; omega) (by omega), if_pos rfl]
        simp only [List.length_cons, List.append_assoc, List.cons_append, List.nil_append]
        rw [show i + 1 + ((x.drop (i + 1)).takeWhile (befP F)).length = i + (((x.drop (i + 1)).takeWhile (befP F)).length + 1) by omega]
      | false => rw [cond_false, if_neg (by simp)]; simp
    · rw [if_neg (by omega), List.drop_of_length_le (by omega)]; simp
theorem I_AddSpan_2 {k : Nat} (x : List ISpan) (h : x.length < 1073741824) (r : List ISpan) : ∀ (n i : Nat) (s : Int × Int), i ≤ x.length → x.length - i < n →
    I_AddSpan_b2 k n x (i : Int) s.1 s.2 r = some (((i + (unionN (x.drop i) s).1 : Nat) : Int), (unionN (x.drop i) s).2) := by
  intro n
  induction n with
  | zero => intro i s _ h; omega
  | succ n ih =>
    intro i s hi hn
    rw [I_AddSpan_b2, bif_dec]
    by_cases c : i < x.length
    · rw [if_pos (by omega), idx_nat c, Option.bind_some, Option.bind_some, Option.bind_some, List.drop_eq_getElem_cons c, unionN, bif_dec]
      by_cases c2 : x[i].From ≤ s.2
      · rw [if_pos c2, if_pos c2, wrap_succ (by omega)]
        have := ih (i + 1) (stepU s x[i]) (by omega) (by omega)
        simp only [stepU] at this ⊢
        rw [this]
        rw [show i + 1 + (unionN (x.drop (i + 1)) (if x[i].From < s.1 then x[i].From else s.1, if x[i].To > s.2 then x[i].To else s.2)).1 = i + ((unionN (x.drop (i + 1)) (if x[i].From < s.1 then x[i].From else s.1, if x[i].To > s.2 then x[i].To else s.2)).1 + 1) by omega]
      · rw [if_neg c2, if_neg c2]; simp
    · rw [if_neg (by omega), List.drop_of_length_le (by omega)]; simp [unionN]
theorem drop_takeWhile {A : Type} (p : A → Bool) : ∀ x : List A, x.drop (x.takeWhile p).length = x.dropWhile p
  | [] => rfl
  | a :: l => by
    rw [List.takeWhile_cons, List.dropWhile_cons]
    cases p a with
    | true => simp [drop_takeWhile p l]
    | false => rfl
theorem takeWhile_le {A : Type} (p : A → Bool) (x : List A) : (x.takeWhile p).length ≤ x.length := by
  have : (x.takeWhile p).length + (x.dropWhile p).length = x.length := by rw [← List.length_append, List.takeWhile_append_dropWhile]
  omega
theorem I_AddSpan_eq {k : Nat} (hk : 1073741824 ≤ k) (x : List ISpan) (y : ISpan) (h : x.length < 268435456) : I_AddSpan k x y = some (addSp x y) := by
  have ha : slices_Clone_ISpan k x = some x := by rw [slices_Clone_ISpan, appn_ok (by simp; omega)]; rfl
  rw [I_AddSpan, I_IsSpanSet_eq hk x (by omega), Option.bind_some, addSp, goodS]
  simp only [ha, Option.bind_some]
  cases hs : isSet x with
  | false => simp
  | true =>
    by_cases c1 : y.From < 0
    · have d1 : decide (0 ≤ y.From) = false := by simp; omega
      by_cases c2 : y.From ≥ y.To <;> simp [c1, c2, d1]
    by_cases c2 : y.From ≥ y.To
    · have d2 : decide (y.From < y.To) = false := by simp; omega
      simp [c1, c2, d2]
    by_cases c3 : y.To > 1000000000000
    · have d3 : decide (y.To ≤ 1000000000000) = false := by simp; omega
      simp [c1, c2, c3, d3]
    have t1 := takeWhile_le (befP y.From) x
    have h1 := I_AddSpan_1 (k := k) x y.From y.To (by omega) k 0 [] (by omega) rfl (by omega)
    rw [show ((0 : Nat) : Int) = 0 from rfl, List.drop_zero, List.nil_append, Nat.zero_add] at h1
    simp only [c1, c2, c3, decide_false, Bool.not_true, cond_false, h1, Option.bind_some]
    have h2 := I_AddSpan_2 (k := k) x (by omega) (x.takeWhile (befP y.From)) k (x.takeWhile (befP y.From)).length (y.From, y.To) t1 (by omega)
    have u1 := unionN_le (x.drop (x.takeWhile (befP y.From)).length) (y.From, y.To)
    rw [List.length_drop] at u1
    simp only at h2
    rw [h2, Option.bind_some, appn_ok (by simp; omega), Option.bind_some, ssub_drop (by omega), Option.bind_some, appn_ok (by simp; omega), Option.bind_some]
    have e : (true && (decide (0 ≤ y.From) && decide (y.From < y.To) && decide (y.To ≤ 1000000000000))) = true := by simp; omega
    rw [e, cond_true, addU, ← List.drop_drop, drop_takeWhile]
def covP (x : List ISpan) (f t : Int) (i : Nat) : Bool := match x[i]? with | some e => decide (e.From ≤ f) && decide (t ≤ e.To) | none => false
def covB (x : List ISpan) (a : ISpan) : Bool := decide (a.From ≥ a.To) || (firstI (covP x a.From a.To) x.length 0).isSome
theorem I_CoversSpan_eq {k : Nat} (hk : 1073741824 ≤ k) (x : List ISpan) (a : ISpan) (h : x.length < 1073741824) : I_CoversSpan k x a = some (covB x a) := by
  have := find_all (len := x.length) (c := fun i => bif covP x a.From a.To i then some (i : Int) else none) (F := fun n i => slices_IndexFunc_ISpan_at_I_CoversSpan_1_b0 k n x a.From a.To (x.length : Int) i) (fun n i hi => by
    simp only [slices_IndexFunc_ISpan_at_I_CoversSpan_1_b0, I_CoversSpan_1, idx_nat hi, Option.bind_some, wrap_succ (by omega : i < 9223372036854775807), bif_dec, lt_cast, hi, if_true, covP, List.getElem?_eq_getElem hi]
    by_cases c1 : x[i].From ≤ a.From
    · by_cases c2 : a.To ≤ x[i].To <;> simp [c1, c2]
    · simp [c1]) (fun n i hi => by
    simp only [slices_IndexFunc_ISpan_at_I_CoversSpan_1_b0, bif_dec, lt_cast]
    rw [if_neg (by omega)]) (k := k) (by omega)
  unfold covB
  rw [I_CoversSpan, bif_dec]
  by_cases c : a.From ≥ a.To
  · simp [c]
  · rw [if_neg c, slices_ContainsFunc_ISpan_at_I_CoversSpan_1, slices_IndexFunc_ISpan_at_I_CoversSpan_1, this, findI_first]
    cases firstI (covP x a.From a.To) x.length 0 with
    | none => simp [ocOf, oc, c]
    | some j => simp [ocOf, oc, c]
theorem wrap_nat8 {n : Nat} (h : n < 256) : IntKind.wrap .i64 (n : Int) = (n : Int) := wrap_id (by omega) (by omega)
theorem u8w_tab : ∀ j : Fin 256, IntKind.wrap .u8 (j.val : Int) = (j.val : Int) := by decide +kernel
theorem u8w {n : Nat} (h : n < 256) : IntKind.wrap .u8 (n : Int) = (n : Int) := u8w_tab ⟨n, h⟩
def allB (p : Nat → Bool) (m i : Nat) : Bool := (findI (fun j => bif p j then none else some false) m i).isNone
theorem allB_succ (p : Nat → Bool) (m i : Nat) : allB p (m + 1) i = (p i && allB p m (i + 1)) := by
  unfold allB
  rw [findI]
  cases p i <;> rfl
theorem allB_at {p : Nat → Bool} : ∀ (m i : Nat), allB p m i = true → ∀ j, i ≤ j → j < i + m → p j = true
  | 0, _, _, j, h1, h2 => by omega
  | m + 1, i, h, j, h1, h2 => by
    rw [allB_succ, Bool.and_eq_true] at h
    by_cases e : j = i
    · rw [e]; exact h.1
    · exact allB_at m (i + 1) h.2 j (by omega) (by omega)
def bAt : List IPiece → Int → Option UInt8
  | [], _ => none
  | p :: l, a => bif decide (p.From ≤ a) && decide (a < p.From + (p.Data.length : Int)) then p.Data[(a - p.From).toNat]? else bAt l a
structure PcL (l : List IPiece) (n : Nat) : Prop where
  dis : l.Pairwise fun a b => a.From + (a.Data.length : Int) < b.From
  all : ∀ p ∈ l, 0 ≤ p.From ∧ p.From + (p.Data.length : Int) ≤ (n : Int)
theorem PcL.tail {p : IPiece} {l : List IPiece} {n : Nat} (h : PcL (p :: l) n) : PcL l n ∧ ∀ q ∈ l, p.From + (p.Data.length : Int) < q.From :=
  ⟨⟨(List.pairwise_cons.1 h.dis).2, fun q hq => h.all q (by simp [hq])⟩, (List.pairwise_cons.1 h.dis).1⟩
theorem span_to {p : IPiece} (h0 : 0 ≤ p.From) (h1 : p.From ≤ 1000000000000) (h2 : p.Data.length ≤ 1048576) : spanOf p = ⟨p.From, p.From + (p.Data.length : Int)⟩ := by
  unfold spanOf
  rw [wrap_id (by omega) (by omega)]
theorem last_max : ∀ (l : List ISpan), SetL l → ∀ n : Int, (match l.getLast? with | some s => decide (s.To ≤ n) | none => true) = true → ∀ e ∈ l, e.To ≤ n := by
  intro l h n hl e he
  cases hg : l.getLast? with
  | none => rw [List.getLast?_eq_none_iff] at hg; subst hg; cases he
  | some s =>
    rw [hg] at hl
    simp only [decide_eq_true_eq] at hl
    obtain ⟨i, hi, rfl⟩ := List.mem_iff_getElem.1 he
    rw [List.getLast?_eq_getElem?, List.getElem?_eq_getElem (by omega)] at hg
    simp only [Option.some.injEq] at hg
    by_cases c : i = l.length - 1
    · subst c; rw [hg]; exact hl
    · have h1 := List.pairwise_iff_getElem.1 h.1 i (l.length - 1) hi (by omega) (by omega)
      rw [hg] at h1
      have h2 := h.2 s (by rw [← hg]; exact List.getElem_mem _)
      omega
theorem areP_PcL {l : List IPiece} {n : Int} (h : areP l n = true) (hd : ∀ p ∈ l, p.Data.length ≤ 1048576) : 0 ≤ n ∧ n ≤ 600 ∧ l.length ≤ 8 ∧ SetL (l.map spanOf) ∧ isSet (l.map spanOf) = true ∧ PcL l n.toNat ∧ (∀ p ∈ l, spanOf p = ⟨p.From, p.From + (p.Data.length : Int)⟩) ∧ ∀ e ∈ l.map spanOf, 0 ≤ e.From ∧ e.From < e.To ∧ e.To ≤ n := by
  unfold areP at h
  simp only [Bool.and_eq_true, decide_eq_true_eq] at h
  obtain ⟨⟨⟨⟨h1, h2⟩, h3⟩, h4⟩, h5⟩ := h
  have hs := isSet_SetL h4
  have hm := last_max _ hs n h5
  have hsp : ∀ p ∈ l, spanOf p = ⟨p.From, p.From + (p.Data.length : Int)⟩ := by
    intro p hp
    obtain ⟨g1, g2, g3⟩ := hs.2 (spanOf p) (List.mem_map_of_mem hp)
    have e : (spanOf p).From = p.From := rfl
    rw [e] at g1 g2
    exact span_to g1 (by omega) (hd p hp)
  refine ⟨h1, h2, h3, hs, h4, ⟨?_, fun p hp => ?_⟩, hsp, fun e he => ⟨(hs.2 e he).1, (hs.2 e he).2.1, hm e he⟩⟩
  · have := List.pairwise_map.1 hs.1
    refine this.imp_of_mem fun {a b} ha hb hab => ?_
    rw [hsp a ha] at hab
    exact hab
  · have g := hm (spanOf p) (List.mem_map_of_mem hp)
    have g0 := hs.2 (spanOf p) (List.mem_map_of_mem hp)
    rw [hsp p hp] at g g0
    simp only at g g0
    exact ⟨g0.1, by omega⟩
theorem bAt_none_of_lt {n : Nat} : ∀ (l : List IPiece) (a : Int), (∀ q ∈ l, a < q.From) → bAt l a = none
  | [], _, _ => rfl
  | p :: l, a, h => by
    have := h p (by simp)
    rw [bAt, decide_eq_false (by omega), Bool.false_and, cond_false]
    exact bAt_none_of_lt (n := n) l a fun q hq => h q (by simp [hq])
theorem bAt_in {p : IPiece} {l : List IPiece} {a : Int} (h1 : p.From ≤ a) (h2 : a < p.From + (p.Data.length : Int)) : ∃ h : (a - p.From).toNat < p.Data.length, bAt (p :: l) a = some (p.Data[(a - p.From).toNat]'h) := by
  refine ⟨by omega, ?_⟩
  rw [bAt, decide_eq_true h1, decide_eq_true h2, Bool.true_and, cond_true, List.getElem?_eq_getElem (by omega)]
theorem bAt_out {p : IPiece} {l : List IPiece} {a : Int} (h : ¬ (p.From ≤ a ∧ a < p.From + (p.Data.length : Int))) : bAt (p :: l) a = bAt l a := by
  rw [bAt]
  by_cases c : p.From ≤ a
  · rw [decide_eq_true c, decide_eq_false (by omega), Bool.true_and, cond_false]
  · rw [decide_eq_false c, Bool.false_and, cond_false]
theorem bAt_cov : ∀ (l : List IPiece) (a : Int), (bAt l a).isSome = l.any fun p => decide (p.From ≤ a) && decide (a < p.From + (p.Data.length : Int))
  | [], _ => rfl
  | p :: l, a => by
    rw [List.any_cons]
    by_cases c : p.From ≤ a ∧ a < p.From + (p.Data.length : Int)
    · obtain ⟨h, e⟩ := bAt_in (l := l) c.1 c.2
      rw [e, decide_eq_true c.1, decide_eq_true c.2]; rfl
    · rw [bAt_out c, bAt_cov l a]
      have : (decide (p.From ≤ a) && decide (a < p.From + (p.Data.length : Int))) = false := by
        rw [Bool.and_eq_false_iff, decide_eq_false_iff_not, decide_eq_false_iff_not]; omega
      rw [this, Bool.false_or]
theorem S_byte_loop {k : Nat} {l : List IPiece} {a : Int} (hl : l.length < 1073741824) (ha : 0 ≤ a ∧ a ≤ 1000000) (hp : ∀ p ∈ l, 0 ≤ p.From ∧ p.From + (p.Data.length : Int) ≤ 1000000) : ∀ (n i : Nat), i ≤ l.length → l.length - i < n →
    S_l10Byte_b0 k n l a (i : Int) = some (match bAt (l.drop i) a with | some c => .oth (c.toNat : Int) | none => .nrm ()) := by
  intro n
  induction n with
  | zero => intro i _ h; omega
  | succ n ih =>
    intro i hi hn
    rw [S_l10Byte_b0, bif_dec]
    by_cases c : i < l.length
    · obtain ⟨g1, g2⟩ := hp _ (List.getElem_mem c)
      rw [if_pos (by omega), idx_nat c, Option.bind_some, Option.bind_some, Option.bind_some, wrap_id (n := l[i].From + (l[i].Data.length : Int)) (by omega) (by omega), Option.bind_some, Option.bind_some, wrap_succ (by omega), ih (i + 1) (by omega) (by omega), List.drop_eq_getElem_cons c]
      by_cases c2 : l[i].From ≤ a ∧ a < l[i].From + (l[i].Data.length : Int)
      · obtain ⟨h, e⟩ := bAt_in (l := l.drop (i + 1)) c2.1 c2.2
        have ew : IntKind.wrap .i64 (a - l[i].From) = (((a - l[i].From).toNat : Nat) : Int) := by rw [wrap_id (by omega) (by omega)]; omega
        have hb := UInt8.toNat_lt (l[i].Data[(a - l[i].From).toNat]'h)
        rw [decide_eq_true c2.1, cond_true, decide_eq_true c2.2, cond_true, ew, idx_nat h, Option.bind_some, e, wrap_nat8 hb]
      · rw [bAt_out c2]
        by_cases c3 : l[i].From ≤ a
        · rw [decide_eq_true c3, cond_true, decide_eq_false (by omega), cond_false]
        · rw [decide_eq_false c3, cond_false]
    · rw [if_neg (by omega), List.drop_of_length_le (by omega)]; rfl
def byI (l : List IPiece) (a : Int) : Int := match bAt l a with | some c => (c.toNat : Int) | none => -1
theorem S_l10Byte_eq {k : Nat} (hk : 1073741824 ≤ k) {l : List IPiece} {a : Int} (hl : l.length < 1073741824) (ha : 0 ≤ a ∧ a ≤ 1000000) (hp : ∀ p ∈ l, 0 ≤ p.From ∧ p.From + (p.Data.length : Int) ≤ 1000000) : S_l10Byte k l a = some (byI l a) := by
  have := S_byte_loop (k := k) hl ha hp k 0 (by omega) (by omega)
  rw [List.drop_zero] at this
  have h0 : S_l10Byte_b0 k k l a 0 = _ := this
  rw [S_l10Byte, h0, Option.bind_some]
  unfold byI
  cases bAt l a <;> rfl
theorem overR_get {r : List Int} {a : Nat} {x : List Int} (h : a + x.length ≤ r.length) (i : Nat) : (overR r a x)[i]? = if a ≤ i ∧ i < a + x.length then x[i - a]? else r[i]? := by
  unfold overR
  rw [List.take_of_length_le (by omega : x.length ≤ r.length - a)]
  by_cases c1 : i < a
  · rw [if_neg (by omega), List.append_assoc, List.getElem?_append_left (by simp; omega), List.getElem?_take_of_lt c1]
  · by_cases c2 : i < a + x.length
    · rw [if_pos ⟨by omega, c2⟩, List.append_assoc, List.getElem?_append_right (by simp; omega), List.getElem?_append_left (by simp; omega)]
      congr 1
      simp; omega
    · rw [if_neg (by omega), List.getElem?_append_right (by simp; omega), List.getElem?_drop]
      congr 1
      simp; omega
theorem overR_len {r : List Int} {a : Nat} {x : List Int} (h : a + x.length ≤ r.length) : (overR r a x).length = r.length := by
  unfold overR
  simp; omega
def ovl (l : List IPiece) (r : List Int) : List Int := l.foldl (fun r p => overR r p.From.toNat (intsOf p.Data)) r
theorem ints_len (s : List UInt8) : (intsOf s).length = s.length := by unfold intsOf; simp
theorem ints_get (s : List UInt8) (i : Nat) : (intsOf s)[i]? = s[i]?.map fun c => (c.toNat : Int) := by unfold intsOf; rw [List.getElem?_map]
theorem ovl_get {n : Nat} : ∀ (l : List IPiece) (r : List Int), PcL l n → r.length = n → (ovl l r).length = n ∧ ∀ i : Nat, (ovl l r)[i]? = match bAt l (i : Int) with | some c => some (c.toNat : Int) | none => r[i]?
  | [], r, _, hr => ⟨hr, fun i => rfl⟩
  | p :: l, r, h, hr => by
    obtain ⟨h1, h2⟩ := h.all p (by simp)
    obtain ⟨h3, h4⟩ := h.tail
    have hle : p.From.toNat + (intsOf p.Data).length ≤ r.length := by rw [ints_len]; omega
    obtain ⟨g1, g2⟩ := ovl_get l (overR r p.From.toNat (intsOf p.Data)) h3 (by rw [overR_len hle]; exact hr)
    refine ⟨g1, fun i => ?_⟩
    show (ovl l (overR r p.From.toNat (intsOf p.Data)))[i]? = _
    rw [g2 i, overR_get hle, ints_len]
    by_cases c : p.From ≤ (i : Int) ∧ (i : Int) < p.From + (p.Data.length : Int)
    · obtain ⟨hh, e⟩ := bAt_in (l := l) c.1 c.2
      rw [bAt_none_of_lt (n := n) l i fun q hq => by have := h4 q hq; omega, if_pos ⟨by omega, by omega⟩, e, ints_get]
      have : i - p.From.toNat = ((i : Int) - p.From).toNat := by omega
      simp only
      rw [this, List.getElem?_eq_getElem hh]; rfl
    · rw [bAt_out c, if_neg (by omega)]
theorem I_ovl {k : Nat} {x0 : List IPiece} {y0 : Int} {y1 : List UInt8} {n : Nat} {l : List IPiece} (h : PcL l n) (hl : l.length < 1073741824) : ∀ (m i : Nat) (r : List Int), i ≤ l.length → l.length - i < m → r.length = n →
    I_AddPiece_b0 k m x0 l (l.length : Int) (i : Int) y0 y1 r = some (ovl (l.drop i) r) := by
  intro m
  induction m with
  | zero => intro i _ _ h; omega
  | succ m ih =>
    intro i r hi hm hr
    rw [I_AddPiece_b0, bif_dec]
    by_cases c : i < l.length
    · obtain ⟨g1, g2⟩ := h.all _ (List.getElem_mem c)
      have hle : l[i].From.toNat + (intsOf l[i].Data).length ≤ r.length := by rw [ints_len]; omega
      rw [if_pos (by omega), idx_nat c, Option.bind_some, ssub_ok (by omega) (by omega) (by omega), Option.bind_some, wrap_succ (by omega), ih (i + 1) _ (by omega) (by omega) (by rw [overR_len hle]; exact hr), List.drop_eq_getElem_cons c]; rfl
    · rw [if_neg (by omega), List.drop_of_length_le (by omega)]; rfl
def okB (l : List IPiece) (F : Nat) (x : List UInt8) (i : Nat) : Bool := match bAt l ((F + i : Nat) : Int) with | some c => (match x[i]? with | some d => c == d | none => true) | none => true
theorem any_cg {A : Type} {f g : A → Bool} : ∀ l : List A, (∀ p ∈ l, f p = g p) → l.any f = l.any g
  | [], _ => rfl
  | a :: l, h => by rw [List.any_cons, List.any_cons, h a (by simp), any_cg l fun p hp => h p (List.mem_cons_of_mem _ hp)]
theorem cov_one {l : List IPiece} {a : Int} (hs : ∀ p ∈ l, spanOf p = ⟨p.From, p.From + (p.Data.length : Int)⟩) : covB (l.map spanOf) ⟨a, a + 1⟩ = (bAt l a).isSome := by
  rw [bAt_cov]
  unfold covB
  simp only
  rw [decide_eq_false (by omega), Bool.false_or]
  have h1 : ∀ (m : List ISpan) (j : Nat), j ≤ m.length → (firstI (covP m a (a + 1)) (m.length - j) j).isSome = (m.drop j).any fun e => decide (e.From ≤ a) && decide (a + 1 ≤ e.To) := by
    intro m j
    generalize hd : m.length - j = d
    induction d generalizing j with
    | zero => intro hj; rw [List.drop_of_length_le (by omega)]; rfl
    | succ d ih =>
      intro hj
      have hjl : j < m.length := by omega
      rw [List.drop_eq_getElem_cons hjl, List.any_cons, ← ih (j + 1) (by omega) (by omega)]
      simp only [firstI, findI]
      have : covP m a (a + 1) j = (decide (m[j].From ≤ a) && decide (a + 1 ≤ m[j].To)) := by unfold covP; rw [List.getElem?_eq_getElem hjl]
      rw [this]
      cases (decide (m[j].From ≤ a) && decide (a + 1 ≤ m[j].To)) <;> rfl
  have := h1 (l.map spanOf) 0 (by omega)
  rw [Nat.sub_zero, List.drop_zero] at this
  rw [this, List.any_map]
  refine any_cg l fun p hp => ?_
  simp only [Function.comp]
  rw [hs p hp]
  rfl
theorem I_new {k : Nat} (hk : 1073741824 ≤ k) {l : List IPiece} {x : List UInt8} {n F : Nat} {base : List Int} (hl : l.length ≤ 8) (hn : n ≤ 600) (hF : F + x.length ≤ n) (hs : ∀ p ∈ l, spanOf p = ⟨p.From, p.From + (p.Data.length : Int)⟩)
    (hb : base.length = n) (hbg : ∀ i : Nat, i < n → base[i]? = some (match bAt l (i : Int) with | some c => (c.toNat : Int) | none => 0)) :
    ∀ (m i : Nat) (r : List Int), i ≤ x.length → x.length - i < m → r.length = n → (∀ j : Nat, r[j]? = if F ≤ j ∧ j < F + i then x[j - F]?.map (fun c => (c.toNat : Int)) else base[j]?) →
      ∃ r', I_AddPiece_b2 k m l (x.length : Int) (i : Int) (F : Int) x r = some (bif allB (okB l F x) (x.length - i) i then .nrm r' else .oth (l, false)) ∧ r'.length = n ∧ ∀ j : Nat, r'[j]? = if F ≤ j ∧ j < F + x.length then x[j - F]?.map (fun c => (c.toNat : Int)) else base[j]? := by
  intro m
  induction m with
  | zero => intro i _ _ h; omega
  | succ m ih =>
    intro i r hi hm hr hg
    rw [I_AddPiece_b2, bif_dec]
    by_cases c : i < x.length
    · have e1 : IntKind.wrap .i64 ((F : Int) + (i : Int)) = ((F + i : Nat) : Int) := by rw [wrap_id (by omega) (by omega)]; push_cast; rfl
      have hFi : F + i < r.length := by omega
      have hc := cov_one (a := ((F + i : Nat) : Int)) hs
      have e2 : IntKind.wrap .i64 (((F + i : Nat) : Int) + 1) = ((F + i : Nat) : Int) + 1 := wrap_id (by omega) (by omega)
      have hri : r[F + i]? = some (match bAt l ((F + i : Nat) : Int) with | some c => (c.toNat : Int) | none => 0) := by
        rw [hg (F + i), if_neg (by omega)]
        exact hbg (F + i) (by omega)
      have hri2 : r[F + i] = (match bAt l ((F + i : Nat) : Int) with | some c => (c.toNat : Int) | none => 0) := by
        rw [List.getElem?_eq_getElem hFi, Option.some.injEq] at hri
        exact hri
      obtain ⟨r', h1, h2, h3⟩ := ih (i + 1) (r.set (F + i) (x[i].toNat : Int)) (by omega) (by omega) (by rw [List.length_set]; exact hr) (fun j => by
        by_cases cj : j = F + i
        · subst cj
          rw [List.getElem?_set_self hFi, if_pos (by omega), show F + i - F = i by omega, List.getElem?_eq_getElem c]; rfl
        · rw [List.getElem?_set_ne (by omega), hg j]
          by_cases cc : F ≤ j ∧ j < F + i
          · rw [if_pos cc, if_pos (by omega)]
          · rw [if_neg cc, if_neg (by omega)])
      refine ⟨r', ?_, h2, h3⟩
      rw [if_pos (by omega), I_SpansOf_eq hk l (by omega), Option.bind_some, e1, e2, I_CoversSpan_eq hk _ _ (by simp; omega), Option.bind_some, hc, idx_nat hFi, idx_nat c]
      simp only [Option.bind_some]
      rw [wrap_succ (by omega), Int.toNat_natCast, h1, show x.length - i = (x.length - (i + 1)) + 1 by omega, allB_succ]
      have hok : okB l F x i = (match bAt l ((F + i : Nat) : Int) with | some c => c == x[i] | none => true) := by
        unfold okB
        rw [List.getElem?_eq_getElem c]
      have hcl : slices_Clone_IPiece k l = some l := by
        show app 24 [] l = some l
        rw [appn_ok (by simp; omega), List.nil_append]
      rw [hok, hcl, Option.bind_some, hri2]
      cases hbx : bAt l ((F + i : Nat) : Int) with
      | none => simp
      | some d =>
        simp only [Option.isSome_some, cond_true]
        have hne : (((d.toNat : Nat) : Int) != ((x[i].toNat : Nat) : Int)) = !(d == x[i]) := by rw [bne, u8_eq]
        rw [hne]
        cases (d == x[i]) <;> rfl
    · refine ⟨r, ?_, hr, fun j => ?_⟩
      · rw [if_neg (by omega), show x.length - i = 0 by omega]; rfl
      · rw [hg j, show i = x.length by omega]
theorem S_chk {k : Nat} (hk : 1073741824 ≤ k) {l : List IPiece} {x : List UInt8} {n F : Nat} {r8 : List IPiece} (hl : l.length ≤ 8) (hn : n ≤ 600) (hF : F + x.length ≤ n) (hp : PcL l n) :
    ∀ (m i : Nat), i ≤ x.length → x.length - i < m → S_AddPiece_b0 k m l ((F + x.length : Nat) : Int) ((F + i : Nat) : Int) (F : Int) x r8 = some (bif allB (okB l F x) (x.length - i) i then .nrm () else .oth (r8, false)) := by
  intro m
  induction m with
  | zero => intro i _ h; omega
  | succ m ih =>
    intro i hi hm
    rw [S_AddPiece_b0, bif_dec]
    by_cases c : i < x.length
    · have e1 : IntKind.wrap .i64 (((F + i : Nat) : Int) - (F : Int)) = (i : Int) := by rw [wrap_id (by omega) (by omega)]; push_cast; omega
      have hb := UInt8.toNat_lt x[i]
      rw [if_pos (by omega), S_l10Byte_eq hk (by omega) (by omega) (fun p h => by have := hp.all p h; omega), Option.bind_some, e1, idx_nat c, Option.bind_some, wrap_nat8 hb, wrap_succ (by omega), Nat.add_assoc, ih (i + 1) (by omega) (by omega), show x.length - i = (x.length - (i + 1)) + 1 by omega, allB_succ]
      have hok : okB l F x i = (match bAt l ((F + i : Nat) : Int) with | some c => c == x[i] | none => true) := by
        unfold okB
        rw [List.getElem?_eq_getElem c]
      rw [hok]
      unfold byI
      cases hbx : bAt l ((F + i : Nat) : Int) with
      | none => rfl
      | some d =>
        simp only
        have hne : (((d.toNat : Nat) : Int) != ((x[i].toNat : Nat) : Int)) = !(d == x[i]) := by rw [bne, u8_eq]
        rw [decide_eq_true (by omega), cond_true, hne]
        cases (d == x[i]) <;> rfl
    · rw [if_neg (by omega), show x.length - i = 0 by omega]; rfl
def valA (l : List IPiece) (F : Nat) (x : List UInt8) (a : Nat) : Int := match bAt l (a : Int) with | some c => (c.toNat : Int) | none => (x[a - F]?.map fun c => (c.toNat : Int)).getD 0
def gen (l : List IPiece) (F : Nat) (x : List UInt8) : Nat → Nat → List Int
  | 0, _ => []
  | m + 1, a => valA l F x a :: gen l F x m (a + 1)
theorem gen_len (l : List IPiece) (F : Nat) (x : List UInt8) : ∀ m a, (gen l F x m a).length = m
  | 0, _ => rfl
  | m + 1, a => by rw [gen, List.length_cons, gen_len l F x m (a + 1)]
theorem valA_in (l : List IPiece) (F : Nat) (x : List UInt8) (a : Nat) : 0 ≤ valA l F x a ∧ valA l F x a ≤ 255 := by
  unfold valA
  cases bAt l (a : Int) with
  | some c => have := UInt8.toNat_lt c; simp only; omega
  | none =>
    cases x[a - F]? with
    | none => simp
    | some c => have := UInt8.toNat_lt c; simp only [Option.map_some, Option.getD_some]; omega
theorem take_gen {l : List IPiece} {F : Nat} {x : List UInt8} {r : List Int} : ∀ (m a : Nat), a + m ≤ r.length → (∀ j : Nat, a ≤ j → j < a + m → r[j]? = some (valA l F x j)) → (r.take (a + m)).drop a = gen l F x m a
  | 0, a, h, _ => by
    rw [gen, List.drop_of_length_le (by rw [List.length_take]; omega)]
  | m + 1, a, h, hv => by
    have ha : a < (r.take (a + (m + 1))).length := by simp; omega
    have ih := take_gen (l := l) (F := F) (x := x) (r := r) m (a + 1) (by omega) (fun j h1 h2 => hv j (by omega) (by omega))
    have e := hv a (by omega) (by omega)
    rw [List.getElem?_eq_getElem (by omega), Option.some.injEq] at e
    rw [List.drop_eq_getElem_cons ha, gen, ← ih, show a + 1 + m = a + (m + 1) by omega, List.getElem_take, e]
theorem S_gen {k : Nat} (hk : 1073741824 ≤ k) {l : List IPiece} {x : List UInt8} {n F : Nat} {sp : List ISpan} {r13 : List IPiece} {i t : Nat} (hl : l.length ≤ 8) (hn : n ≤ 600) (hF : F + x.length ≤ n) (hp : PcL l n) (hi : i < sp.length) (hsp : sp.length < 1073741824) (ht : sp[i].To = (t : Int)) (htn : t ≤ n)
    (hcov : ∀ a : Nat, sp[i].From ≤ (a : Int) → a < t → bAt l (a : Int) = none → F ≤ a ∧ a < F + x.length) : ∀ (m a : Nat) (r : List Int), sp[i].From ≤ (a : Int) → a ≤ t → t - a < m → r.length ≤ a →
      S_AddPiece_b4 k m l (i : Int) (a : Int) (F : Int) x sp r13 r = some (r ++ gen l F x (t - a) a) := by
  intro m
  induction m with
  | zero => intro a _ _ _ h; omega
  | succ m ih =>
    intro a r h1 h2 h3 hr
    rw [S_AddPiece_b4, idx_nat hi, Option.bind_some, Option.bind_some, ht, bif_dec]
    by_cases c : a < t
    · have hv := valA_in l F x a
      have e5 : S_AddPiece_b5 k l (i : Int) (a : Int) (F : Int) x sp r13 r = some (r ++ [valA l F x a]) := by
        rw [S_AddPiece_b5, S_l10Byte_eq hk (by omega) (by omega) (fun p h => by have := hp.all p h; omega), Option.bind_some, S_AddPiece_c122]
        unfold byI
        cases hbx : bAt l (a : Int) with
        | some d =>
          have hb := UInt8.toNat_lt d
          have ev : valA l F x a = (d.toNat : Int) := by unfold valA; rw [hbx]
          simp only
          rw [decide_eq_false (by omega), cond_false, Option.bind_some, u8w (by omega), appn_ok (by simp; omega), Option.bind_some, ev]
        | none =>
          obtain ⟨g1, g2⟩ := hcov a h1 c hbx
          have e1 : IntKind.wrap .i64 ((a : Int) - (F : Int)) = ((a - F : Nat) : Int) := by rw [wrap_id (by omega) (by omega)]; omega
          have hx : a - F < x.length := by omega
          have hb := UInt8.toNat_lt x[a - F]
          have ev : valA l F x a = (x[a - F].toNat : Int) := by unfold valA; rw [hbx]; simp only; rw [List.getElem?_eq_getElem hx]; rfl
          simp only
          rw [show decide ((-1 : Int) < 0) = true from rfl, cond_true, e1, idx_nat hx, Option.bind_some, wrap_nat8 hb, Option.bind_some, u8w (by omega), appn_ok (by simp; omega), Option.bind_some, ev]
      rw [if_pos (by omega), e5, Option.bind_some, wrap_succ (by omega), ih (a + 1) _ (by omega) (by omega) (by omega) (by simp; omega), show t - a = (t - (a + 1)) + 1 by omega, gen, List.append_assoc]; rfl
    · rw [if_neg (by omega), show t - a = 0 by omega, gen, List.append_nil]
def newP (l : List IPiece) (F : Nat) (x : List UInt8) (s : ISpan) : IPiece := ⟨s.From, bytesOf (gen l F x (s.To - s.From).toNat s.From.toNat)⟩
structure SpOK (l : List IPiece) (F : Nat) (x : List UInt8) (n : Nat) (sp : List ISpan) : Prop where
  rng : ∀ s ∈ sp, 0 ≤ s.From ∧ s.From ≤ s.To ∧ s.To ≤ (n : Int)
  cov : ∀ s ∈ sp, ∀ a : Nat, s.From ≤ (a : Int) → (a : Int) < s.To → bAt l (a : Int) = none → F ≤ a ∧ a < F + x.length
theorem S_out {k : Nat} (hk : 1073741824 ≤ k) {l : List IPiece} {x : List UInt8} {n F : Nat} {sp : List ISpan} (hl : l.length ≤ 8) (hn : n ≤ 600) (hF : F + x.length ≤ n) (hp : PcL l n) (hsp : sp.length ≤ 8) (h : SpOK l F x n sp) : ∀ (m i : Nat) (r : List IPiece), i ≤ sp.length → sp.length - i < m → r.length ≤ i →
    S_AddPiece_b2 k m l (i : Int) (F : Int) x sp r = some (r ++ (sp.drop i).map (newP l F x)) := by
  intro m
  induction m with
  | zero => intro i _ _ h; omega
  | succ m ih =>
    intro i r hi hm hr
    rw [S_AddPiece_b2, bif_dec]
    by_cases c : i < sp.length
    · obtain ⟨g1, g2, g3⟩ := h.rng _ (List.getElem_mem c)
      have hg := S_gen hk (l := l) (x := x) (n := n) (F := F) (sp := sp) (r13 := r) (i := i) (t := sp[i].To.toNat) hl hn hF hp c (by omega) (by omega) (by omega) (fun a q1 q2 q3 => h.cov _ (List.getElem_mem c) a q1 (by omega) q3) k sp[i].From.toNat [] (by omega) (by omega) (by omega) (by simp)
      have hg' : S_AddPiece_b4 k k l (i : Int) sp[i].From (F : Int) x sp r [] = some (gen l F x (sp[i].To - sp[i].From).toNat sp[i].From.toNat) := by
        have e1 : ((sp[i].From.toNat : Nat) : Int) = sp[i].From := by omega
        rw [e1, List.nil_append] at hg
        rw [hg]
        congr 2; omega
      rw [if_pos (by omega), idx_nat c, Option.bind_some, Option.bind_some, hg', Option.bind_some, Option.bind_some, Option.bind_some, appn_ok (by simp; omega), Option.bind_some, wrap_succ (by omega), ih (i + 1) _ (by omega) (by omega) (by simp; omega), List.drop_eq_getElem_cons c, List.map_cons, List.append_assoc]; rfl
    · rw [if_neg (by omega), List.drop_of_length_le (by omega)]; simp
theorem I_out {k : Nat} (hk : 1073741824 ≤ k) {l : List IPiece} {x : List UInt8} {n F : Nat} {sp : List ISpan} {r8 : List Int} (hn : n ≤ 600) (hsp : sp.length ≤ 1000) (h : SpOK l F x n sp) (hr8 : r8.length = n) (hv : ∀ s ∈ sp, ∀ a : Nat, s.From ≤ (a : Int) → (a : Int) < s.To → r8[a]? = some (valA l F x a)) : ∀ (m i : Nat) (r : List IPiece), i ≤ sp.length → sp.length - i < m → r.length ≤ i →
    I_AddPiece_b4 k m l r8 (sp.length : Int) (i : Int) r sp = some (r ++ (sp.drop i).map (newP l F x)) := by
  intro m
  induction m with
  | zero => intro i _ _ h; omega
  | succ m ih =>
    intro i r hi hm hr
    rw [I_AddPiece_b4, bif_dec]
    by_cases c : i < sp.length
    · obtain ⟨g1, g2, g3⟩ := h.rng _ (List.getElem_mem c)
      have ht := take_gen (l := l) (F := F) (x := x) (r := r8) (sp[i].To - sp[i].From).toNat sp[i].From.toNat (by omega) (fun j h1 h2 => hv _ (List.getElem_mem c) j (by omega) (by omega))
      have hs : ssub r8 sp[i].From sp[i].To = some (gen l F x (sp[i].To - sp[i].From).toNat sp[i].From.toNat) := by
        rw [ssub_ok (by omega) (by omega) (by omega), ← ht]
        congr 3; omega
      rw [if_pos (by omega), idx_nat c, Option.bind_some, Option.bind_some, hs, Option.bind_some, appn_ok (by simp; omega), Option.bind_some, wrap_succ (by omega), ih (i + 1) _ (by omega) (by omega) (by simp; omega), List.drop_eq_getElem_cons c, List.map_cons, List.append_assoc]; rfl
    · rw [if_neg (by omega), List.drop_of_length_le (by omega)]; simp
theorem fold_cov {n : Int} : ∀ (x : List ISpan) (s : Int × Int), (∀ e ∈ x, 0 ≤ e.From ∧ e.From < e.To ∧ e.To ≤ n) → 0 ≤ s.1 → s.1 < s.2 → s.2 ≤ n →
    0 ≤ (x.foldl stepS s).1 ∧ (x.foldl stepS s).1 < (x.foldl stepS s).2 ∧ (x.foldl stepS s).2 ≤ n ∧ ∀ a : Int, (x.foldl stepS s).1 ≤ a → a < (x.foldl stepS s).2 → (s.1 ≤ a ∧ a < s.2) ∨ ∃ e ∈ x, e.From ≤ a ∧ a < e.To
  | [], s, _, h1, h2, h3 => ⟨h1, h2, h3, fun a ha hb => .inl ⟨ha, hb⟩⟩
  | e :: x, s, h, h1, h2, h3 => by
    obtain ⟨e1, e2, e3⟩ := h e (by simp)
    have hx := fun y hy => h y (List.mem_cons_of_mem _ hy)
    rw [List.foldl_cons]
    by_cases c : e.To ≥ s.1 ∧ e.From ≤ s.2
    · have es : stepS s e = stepU s e := by unfold stepS; rw [if_pos c]
      have b1 : (stepU s e).1 = if e.From < s.1 then e.From else s.1 := rfl
      have b2 : (stepU s e).2 = if e.To > s.2 then e.To else s.2 := rfl
      have i1 : 0 ≤ (stepU s e).1 ∧ (stepU s e).1 < (stepU s e).2 ∧ (stepU s e).2 ≤ n ∧ ∀ a : Int, (stepU s e).1 ≤ a → a < (stepU s e).2 → (s.1 ≤ a ∧ a < s.2) ∨ (e.From ≤ a ∧ a < e.To) := by
        rw [b1, b2]
        split <;> split <;> refine ⟨by omega, by omega, by omega, fun a ha hb => by omega⟩
      rw [es]
      obtain ⟨g1, g2, g3, g4⟩ := fold_cov x (stepU s e) hx i1.1 i1.2.1 i1.2.2.1
      refine ⟨g1, g2, g3, fun a ha hb => ?_⟩
      rcases g4 a ha hb with q | ⟨y, hy, q⟩
      · rcases i1.2.2.2 a q.1 q.2 with q | q
        · exact .inl q
        · exact .inr ⟨e, by simp, q⟩
      · exact .inr ⟨y, List.mem_cons_of_mem _ hy, q⟩
    · have es : stepS s e = s := by unfold stepS; rw [if_neg c]
      rw [es]
      obtain ⟨g1, g2, g3, g4⟩ := fold_cov x s hx h1 h2 h3
      refine ⟨g1, g2, g3, fun a ha hb => ?_⟩
      rcases g4 a ha hb with q | ⟨y, hy, q⟩
      · exact .inl q
      · exact .inr ⟨y, List.mem_cons_of_mem _ hy, q⟩
theorem addS_cov {n : Int} {x : List ISpan} {y : ISpan} (h : ∀ e ∈ x, 0 ≤ e.From ∧ e.From < e.To ∧ e.To ≤ n) (h1 : 0 ≤ y.From) (h2 : y.From < y.To) (h3 : y.To ≤ n) : ∀ s ∈ addS x y, (0 ≤ s.From ∧ s.From ≤ s.To ∧ s.To ≤ n) ∧ ∀ a : Int, s.From ≤ a → a < s.To → (y.From ≤ a ∧ a < y.To) ∨ ∃ e ∈ x, e.From ≤ a ∧ a < e.To := by
  intro s hs
  obtain ⟨g1, g2, g3, g4⟩ := fold_cov x (y.From, y.To) h h1 h2 h3
  unfold addS at hs
  rw [List.mem_append, List.mem_append, List.mem_singleton] at hs
  rcases hs with (hs | rfl) | hs
  · have := h s ((List.mem_filter.1 hs).1)
    exact ⟨by omega, fun a ha hb => .inr ⟨s, (List.mem_filter.1 hs).1, ha, hb⟩⟩
  · exact ⟨⟨g1, by simp only; omega, g3⟩, g4⟩
  · have := h s ((List.mem_filter.1 hs).1)
    exact ⟨by omega, fun a ha hb => .inr ⟨s, (List.mem_filter.1 hs).1, ha, hb⟩⟩
def addPc (l : List IPiece) (n : Int) (x : IPiece) : List IPiece × Bool :=
  bif !areP l n then (l, false) else if x.From < 0 ∨ x.Data.length = 0 ∨ n < x.From + (x.Data.length : Int) then (l, false)
  else bif !allB (okB l x.From.toNat x.Data) x.Data.length 0 then (l, false)
  else if (addSp (l.map spanOf) ⟨x.From, x.From + (x.Data.length : Int)⟩).length > 8 then (l, false)
  else ((addSp (l.map spanOf) ⟨x.From, x.From + (x.Data.length : Int)⟩).map (newP l x.From.toNat x.Data), true)
theorem spOK_of {l : List IPiece} {n F : Nat} {x : List UInt8} (hn : n ≤ 600) (hF : F + x.length ≤ n) (hx : x.length ≠ 0) (hs : ∀ p ∈ l, spanOf p = ⟨p.From, p.From + (p.Data.length : Int)⟩) (hset : isSet (l.map spanOf) = true) (hall : ∀ e ∈ l.map spanOf, 0 ≤ e.From ∧ e.From < e.To ∧ e.To ≤ (n : Int)) :
    SpOK l F x n (addSp (l.map spanOf) ⟨(F : Int), (F : Int) + (x.length : Int)⟩) := by
  have hgood : goodS ⟨(F : Int), (F : Int) + (x.length : Int)⟩ = true := by
    unfold goodS
    simp only [Bool.and_eq_true, decide_eq_true_eq]
    omega
  have e : addSp (l.map spanOf) ⟨(F : Int), (F : Int) + (x.length : Int)⟩ = addS (l.map spanOf) ⟨(F : Int), (F : Int) + (x.length : Int)⟩ := by
    unfold addSp
    rw [hset, hgood, Bool.true_and, cond_true, addS_addU (isSet_SetL hset) (by simp only; omega)]
  have hc := addS_cov (x := l.map spanOf) (y := ⟨(F : Int), (F : Int) + (x.length : Int)⟩) hall (by simp only; omega) (by simp only; omega) (by simp only; omega)
  rw [e]
  refine ⟨fun s h => (hc s h).1, fun s h a h1 h2 hb => ?_⟩
  rcases (hc s h).2 a h1 h2 with q | ⟨y, hy, q⟩
  · simp only at q; omega
  · exfalso
    obtain ⟨p, hp, rfl⟩ := List.mem_map.1 hy
    rw [hs p hp] at q
    have := bAt_cov l (a : Int)
    rw [hb] at this
    have h5 : (l.any fun p => decide (p.From ≤ (a : Int)) && decide ((a : Int) < p.From + (p.Data.length : Int))) = true := by
      rw [List.any_eq_true]
      exact ⟨p, hp, by simp only at q; rw [decide_eq_true q.1, decide_eq_true q.2]; rfl⟩
    rw [h5] at this
    cases this
theorem I_AddPiece_eq {k : Nat} (hk : 1073741824 ≤ k) (l : List IPiece) (n : Int) (x : IPiece) (hl : l.length < 1073741824) (hd : ∀ p ∈ l, p.Data.length ≤ 1048576) (hx : x.Data.length ≤ 1048576) (hxf : InI x.From) (hn : InI n) : I_AddPiece k l n x = some (addPc l n x) := by
  have hcl : slices_Clone_IPiece k l = some l := by
    show app 24 [] l = some l
    rw [appn_ok (by simp; omega), List.nil_append]
  rw [I_AddPiece, I_ArePieces_eq hk l n hl, Option.bind_some, hcl]
  simp only [Option.bind_some]
  unfold addPc
  cases ha : areP l n with
  | false => rfl
  | true =>
    obtain ⟨q1, q2, q3, q4, q5, q6, q7, q8⟩ := areP_PcL ha hd
    obtain ⟨m, rfl⟩ : ∃ m : Nat, n = (m : Int) := ⟨n.toNat, by omega⟩
    rw [Int.toNat_natCast] at q6
    rw [Bool.not_true, cond_false, cond_false, wrap_id (n := (m : Int) - (x.Data.length : Int)) (by omega) (by omega)]
    by_cases c1 : x.Data.length = 0
    · have : (x.Data == []) = true := by rw [List.length_eq_zero_iff.1 c1]; rfl
      rw [this, cond_true, if_pos (by omega)]
    · have hne : (x.Data == []) = false := beq_ne fun e => c1 (by rw [e]; rfl)
      rw [hne, cond_false, bif_dec, bif_dec]
      by_cases c2 : x.From < 0
      · rw [if_pos c2, if_pos (by omega)]
      · by_cases c3 : x.From > (m : Int) - (x.Data.length : Int)
        · rw [if_neg c2, if_pos c3, if_pos (by omega)]
        · obtain ⟨F, hFe⟩ : ∃ F : Nat, x.From = (F : Int) := ⟨x.From.toNat, by omega⟩
          have hF : F + x.Data.length ≤ m := by omega
          have hz := mks_ok (α := Int) (n := 1) (m := m) (z := 0) (by omega)
          have ho := I_ovl (k := k) (x0 := l) (y0 := x.From) (y1 := x.Data) q6 hl k 0 (List.replicate m 0) (by omega) (by omega) (by simp)
          have ho' : I_AddPiece_b0 k k l l (l.length : Int) 0 x.From x.Data (List.replicate m 0) = some (ovl (l.drop 0) (List.replicate m 0)) := ho
          rw [List.drop_zero] at ho'
          obtain ⟨o1, o2⟩ := ovl_get l (List.replicate m (0 : Int)) q6 (by simp)
          obtain ⟨r', n1, n2, n3⟩ := I_new hk (l := l) (x := x.Data) (n := m) (F := F) (base := ovl l (List.replicate m 0)) q3 (by omega) hF q7 o1 (fun i hi => by
            rw [o2 i]
            cases bAt l (i : Int) with
            | some c => rfl
            | none => simp [List.getElem?_replicate, hi]) k 0 (ovl l (List.replicate m 0)) (by omega) (by omega) o1 (fun j => by rw [if_neg (by omega)])
          rw [Nat.sub_zero] at n1
          have n1' : I_AddPiece_b2 k k l (x.Data.length : Int) 0 (F : Int) x.Data (ovl l (List.replicate m 0)) = some (bif allB (okB l F x.Data) x.Data.length 0 then .nrm r' else .oth (l, false)) := n1
          have hsp := spOK_of (l := l) (n := m) (F := F) (x := x.Data) (by omega) hF c1 q7 q5 q8
          have hlen := addSp_len (l.map spanOf) ⟨(F : Int), (F : Int) + (x.Data.length : Int)⟩
          rw [List.length_map] at hlen
          rw [if_neg c2, if_neg c3, if_neg (by omega), guardT_self, hz, Option.bind_some, ho', Option.bind_some, hFe, n1', Option.bind_some, Int.toNat_natCast, wrap_id (n := (F : Int) + (x.Data.length : Int)) (by omega) (by omega)]
          cases hok : allB (okB l F x.Data) x.Data.length 0 with
          | false => rfl
          | true =>
            rw [cond_true]
            simp only [oc]
            have hval : ∀ s ∈ addSp (l.map spanOf) ⟨(F : Int), (F : Int) + (x.Data.length : Int)⟩, ∀ a : Nat, s.From ≤ (a : Int) → (a : Int) < s.To → r'[a]? = some (valA l F x.Data a) := by
              intro s hs a h1 h2
              have hr := hsp.rng s hs
              rw [n3 a]
              unfold valA
              by_cases ca : F ≤ a ∧ a < F + x.Data.length
              · have hxa : a - F < x.Data.length := by omega
                rw [if_pos ca, List.getElem?_eq_getElem hxa]
                cases hb : bAt l (a : Int) with
                | none => rfl
                | some c =>
                  have h3 := allB_at (p := okB l F x.Data) x.Data.length 0 hok (a - F) (by omega) (by omega)
                  unfold okB at h3
                  rw [show F + (a - F) = a by omega, hb, List.getElem?_eq_getElem hxa] at h3
                  simp only [beq_iff_eq] at h3
                  simp only [Option.map_some]
                  rw [h3]
              · rw [if_neg ca, o2 a]
                cases hb : bAt l (a : Int) with
                | some c => rfl
                | none => exact absurd (hsp.cov s hs a h1 h2 hb) ca
            have hout := I_out hk (n := m) (by omega) (by omega) hsp n2 hval k 0 [] (by omega) (by omega) (by simp)
            rw [List.drop_zero, List.nil_append] at hout
            have hout' : I_AddPiece_b4 k k l r' ((addSp (l.map spanOf) ⟨(F : Int), (F : Int) + (x.Data.length : Int)⟩).length : Int) 0 [] (addSp (l.map spanOf) ⟨(F : Int), (F : Int) + (x.Data.length : Int)⟩) = _ := hout
            rw [I_SpansOf_eq hk l hl, Option.bind_some, I_AddSpan_eq hk _ _ (by simp; omega), Option.bind_some, hout', Option.bind_some, bif_dec, Bool.not_true, cond_false, List.length_map]
            by_cases c8 : (addSp (l.map spanOf) ⟨(F : Int), (F : Int) + (x.Data.length : Int)⟩).length > 8
            · rw [if_pos (by omega), if_pos c8]
            · rw [if_neg (by omega), if_neg c8]
theorem S_AddPiece_eq {k : Nat} (hk : 1073741824 ≤ k) (l : List IPiece) (n : Int) (x : IPiece) (hl : l.length < 1073741824) (hd : ∀ p ∈ l, p.Data.length ≤ 1048576) (hx : x.Data.length ≤ 1048576) (hxf : InI x.From) (hn : InI n) : S_AddPiece k l n x = some (addPc l n x) := by
  have hcl : app 24 ([] : List IPiece) l = some l := by
    rw [appn_ok (by simp; omega), List.nil_append]
  rw [S_AddPiece, hcl, Option.bind_some, S_ArePieces_eq hk l n hl, Option.bind_some]
  unfold addPc
  cases ha : areP l n with
  | false => rfl
  | true =>
    obtain ⟨q1, q2, q3, q4, q5, q6, q7, q8⟩ := areP_PcL ha hd
    obtain ⟨m, rfl⟩ : ∃ m : Nat, n = (m : Int) := ⟨n.toNat, by omega⟩
    rw [Int.toNat_natCast] at q6
    rw [Bool.not_true, cond_false, cond_false, wrap_id (n := (m : Int) - (x.Data.length : Int)) (by omega) (by omega), bif_dec]
    by_cases c2 : x.From < 0
    · rw [if_pos c2, if_pos (by omega)]
    · rw [if_neg c2]
      by_cases c1 : x.Data.length = 0
      · rw [beq_iff_eq.2 (by omega : (x.Data.length : Int) = 0), cond_true, if_pos (by omega)]
      · rw [beq_ne (by omega : ¬ (x.Data.length : Int) = 0), cond_false, bif_dec, bif_dec]
        by_cases c4 : (x.Data.length : Int) > (m : Int)
        · rw [if_pos c4, if_pos (by omega)]
        · by_cases c3 : x.From > (m : Int) - (x.Data.length : Int)
          · rw [if_neg c4, if_pos c3, if_pos (by omega)]
          · obtain ⟨F, hFe⟩ : ∃ F : Nat, x.From = (F : Int) := ⟨x.From.toNat, by omega⟩
            have hF : F + x.Data.length ≤ m := by omega
            have hc := S_chk hk (l := l) (x := x.Data) (n := m) (F := F) (r8 := l) q3 (by omega) hF q6 k 0 (by omega) (by omega)
            rw [Nat.sub_zero, Nat.add_zero] at hc
            have hsp := spOK_of (l := l) (n := m) (F := F) (x := x.Data) (by omega) hF c1 q7 q5 q8
            have hlen := addSp_len (l.map spanOf) ⟨(F : Int), (F : Int) + (x.Data.length : Int)⟩
            rw [List.length_map] at hlen
            have ec : ((F : Int) + (x.Data.length : Int)) = ((F + x.Data.length : Nat) : Int) := by push_cast; rfl
            rw [if_neg c4, if_neg c3, if_neg (by omega), hFe, wrap_id (n := (F : Int) + (x.Data.length : Int)) (by omega) (by omega), Int.toNat_natCast]
            rw [ec] at hsp hlen ⊢
            rw [hc, Option.bind_some]
            cases hok : allB (okB l F x.Data) x.Data.length 0 with
            | false => rfl
            | true =>
              rw [cond_true]
              simp only [oc]
              rw [S_SpansOf_eq hk l hl, Option.bind_some, S_AddSpan_eq hk _ _ (by simp; omega), Option.bind_some, bif_dec, Bool.not_true, cond_false]
              by_cases c8 : (addSp (l.map spanOf) ⟨(F : Int), ((F + x.Data.length : Nat) : Int)⟩).length > 8
              · rw [if_pos (by omega), if_pos c8]
              · have hout := S_out hk (n := m) q3 (by omega) hF q6 (by omega) hsp k 0 [] (by omega) (by omega) (by simp)
                rw [List.drop_zero, List.nil_append] at hout
                have hout' : S_AddPiece_b2 k k l 0 (F : Int) x.Data (addSp (l.map spanOf) ⟨(F : Int), ((F + x.Data.length : Nat) : Int)⟩) [] = _ := hout
                rw [if_neg (by omega), if_neg c8, hout', Option.bind_some]
theorem addPc_len (l : List IPiece) (n : Int) (x : IPiece) : (addPc l n x).1.length ≤ l.length + 8 := by
  unfold addPc
  cases areP l n with
  | false => simp
  | true =>
    rw [Bool.not_true, cond_false]
    split
    · simp
    · cases allB (okB l x.From.toNat x.Data) x.Data.length 0 with
      | false => simp
      | true =>
        rw [Bool.not_true, cond_false]
        split
        · simp
        · simp only [List.length_map]; omega
def rpP (x : List IPiece) (f t : Int) (i : Nat) : Bool := match x[i]? with | some e => decide (e.From ≤ f) && decide (t ≤ IntKind.wrap .i64 (e.From + (e.Data.length : Int))) | none => false
def rpV (x : List IPiece) (f t : Int) (i : Nat) : List UInt8 × Bool := match x[i]? with | some e => ((e.Data.take (t - e.From).toNat).drop (f - e.From).toNat, true) | none => ([], true)
def rpO (x : List IPiece) (a : ISpan) : List UInt8 × Bool :=
  if a.From ≥ a.To then ([], true) else match firstI (rpP x a.From a.To) x.length 0 with
  | some i => rpV x a.From a.To i
  | none => ([], false)
theorem rp_sub {e : IPiece} {f t : Int} (he : InI e.From) (hl : e.Data.length ≤ 1048576) (hf : InI f) (ht : InI t) (h : f < t) (c1 : e.From ≤ f) (c2 : t ≤ IntKind.wrap .i64 (e.From + (e.Data.length : Int))) :
    ssub e.Data (IntKind.wrap .i64 (f - e.From)) (IntKind.wrap .i64 (t - e.From)) = some ((e.Data.take (t - e.From).toNat).drop (f - e.From).toNat) := by
  unfold InI at *
  have hw : t ≤ e.From + (e.Data.length : Int) := by
    rw [IntKind.wrap_i64] at c2
    omega
  rw [wrap_id (by omega) (by omega), wrap_id (by omega) (by omega), ssub_ok (by omega) (by omega) (by omega)]
theorem I_ReadPieces_eq {k : Nat} (hk : 1073741824 ≤ k) (x : List IPiece) (a : ISpan) (h : x.length < 1073741824) (hx : ∀ e ∈ x, InI e.From ∧ e.Data.length ≤ 1048576) (hf : InI a.From) (ht : InI a.To) : I_ReadPieces k x a = some (rpO x a) := by
  unfold rpO
  rw [I_ReadPieces, bif_dec]
  by_cases c : a.From ≥ a.To
  · rw [if_pos c, if_pos c]
  have c0 : a.From < a.To := by omega
  have := find_all (len := x.length) (c := fun i => bif rpP x a.From a.To i then some (rpV x a.From a.To i) else none) (F := fun n i => I_ReadPieces_b0 k n x (x.length : Int) i a.From a.To) (fun n i hi => by
    simp only [I_ReadPieces_b0, idx_nat hi, Option.bind_some, wrap_succ (by omega : i < 9223372036854775807), bif_dec, lt_cast, hi, if_true, rpP, rpV, List.getElem?_eq_getElem hi]
    by_cases c1 : x[i].From ≤ a.From
    · by_cases c2 : a.To ≤ IntKind.wrap .i64 (x[i].From + (x[i].Data.length : Int))
      · obtain ⟨q1, q2⟩ := hx _ (List.getElem_mem hi)
        rw [rp_sub q1 q2 hf ht c0 c1 c2]
        simp [c1, c2]
      · simp [c1, c2]
    · simp [c1]) (fun n i hi => by
    simp only [I_ReadPieces_b0, bif_dec, lt_cast]
    rw [if_neg (by omega)]) (k := k) (by omega)
  rw [if_neg c, if_neg c, this, findI_first]
  cases firstI (rpP x a.From a.To) x.length 0 with
  | none => simp [ocOf, oc]
  | some j => simp [ocOf, oc]
theorem covB_any {l : List ISpan} {y : ISpan} (h : y.From < y.To) : covB l y = l.any fun e => decide (e.From ≤ y.From) && decide (y.To ≤ e.To) := by
  unfold covB
  rw [decide_eq_false (by omega), Bool.false_or]
  have h1 : ∀ (m : List ISpan) (j : Nat), j ≤ m.length → (firstI (covP m y.From y.To) (m.length - j) j).isSome = (m.drop j).any fun e => decide (e.From ≤ y.From) && decide (y.To ≤ e.To) := by
    intro m j
    generalize hd : m.length - j = d
    induction d generalizing j with
    | zero => intro hj; rw [List.drop_of_length_le (by omega)]; rfl
    | succ d ih =>
      intro hj
      have hjl : j < m.length := by omega
      rw [List.drop_eq_getElem_cons hjl, List.any_cons, ← ih (j + 1) (by omega) (by omega)]
      simp only [firstI, findI]
      have : covP m y.From y.To j = (decide (m[j].From ≤ y.From) && decide (y.To ≤ m[j].To)) := by unfold covP; rw [List.getElem?_eq_getElem hjl]
      rw [this]
      cases (decide (m[j].From ≤ y.From) && decide (y.To ≤ m[j].To)) <;> rfl
  have := h1 l 0 (by omega)
  rw [Nat.sub_zero, List.drop_zero] at this
  exact this
theorem unionN_abs : ∀ (l : List ISpan) (s : Int × Int), (∀ e ∈ l, e.To ≥ s.1 ∧ e.From < e.To) → s.1 ≤ s.2 →
    (unionN l s).2.1 ≤ s.1 ∧ s.2 ≤ (unionN l s).2.2 ∧ (∀ e ∈ l.take (unionN l s).1, (unionN l s).2.1 ≤ e.From ∧ e.To ≤ (unionN l s).2.2) ∧ (unionN l s).2.2 - (unionN l s).2.1 ≤ (s.2 - s.1) + ((l.take (unionN l s).1).map fun e => e.To - e.From).sum
  | [], s, _, h => by simp [unionN]
  | e :: l, s, h, h0 => by
    obtain ⟨e1, e2⟩ := h e (by simp)
    rw [unionN]
    by_cases c : e.From ≤ s.2
    · rw [if_pos c]
      have b1 : (stepU s e).1 = if e.From < s.1 then e.From else s.1 := rfl
      have b2 : (stepU s e).2 = if e.To > s.2 then e.To else s.2 := rfl
      have b3 : (stepU s e).1 ≤ s.1 ∧ (stepU s e).1 ≤ e.From ∧ s.2 ≤ (stepU s e).2 ∧ e.To ≤ (stepU s e).2 ∧ (stepU s e).2 - (stepU s e).1 ≤ (s.2 - s.1) + (e.To - e.From) := by
        rw [b1, b2]; split <;> split <;> omega
      obtain ⟨g1, g2, g3, g4⟩ := unionN_abs l (stepU s e) (fun y hy => ⟨by have := h y (List.mem_cons_of_mem _ hy); omega, (h y (List.mem_cons_of_mem _ hy)).2⟩) (by omega)
      simp only [List.take_succ_cons, List.map_cons, List.sum_cons]
      refine ⟨by omega, by omega, fun y hy => ?_, by omega⟩
      rcases List.mem_cons.1 hy with rfl | hy
      · omega
      · exact g3 y hy
    · rw [if_neg c]
      simp
theorem unionN_rest : ∀ (l : List ISpan) (s : Int × Int), SetL l → ∀ e ∈ l.drop (unionN l s).1, (unionN l s).2.2 < e.From
  | [], s, _, e, he => by simp at he
  | y :: l, s, h, e, he => by
    obtain ⟨t1, t2, t3⟩ := h.tail
    rw [unionN] at he ⊢
    by_cases c : y.From ≤ s.2
    · rw [if_pos c] at he ⊢
      simp only [List.drop_succ_cons] at he
      exact unionN_rest l _ t1 e he
    · rw [if_neg c] at he ⊢
      simp only [List.drop_zero] at he
      rcases List.mem_cons.1 he with rfl | he
      · simp only; omega
      · have := t2 e he
        simp only; omega
theorem unionN_low {c : Int} : ∀ (l : List ISpan) (s : Int × Int), (∀ e ∈ l, c < e.From) → c < s.1 → c < (unionN l s).2.1
  | [], s, _, h => h
  | e :: l, s, h, h0 => by
    rw [unionN]
    split
    · refine unionN_low l _ (fun y hy => h y (List.mem_cons_of_mem _ hy)) ?_
      have := h e (by simp)
      show c < (if e.From < s.1 then e.From else s.1)
      split <;> omega
    · exact h0
theorem unionN_top {c : Int} : ∀ (l : List ISpan) (s : Int × Int), (∀ e ∈ l, e.To ≤ c) → s.2 ≤ c → (unionN l s).2.2 ≤ c
  | [], s, _, h => h
  | e :: l, s, h, h0 => by
    rw [unionN]
    split
    · refine unionN_top l _ (fun y hy => h y (List.mem_cons_of_mem _ hy)) ?_
      have := h e (by simp)
      show (if e.To > s.2 then e.To else s.2) ≤ c
      split <;> omega
    · exact h0
def sizL (l : List ISpan) : Int := (l.map fun e => e.To - e.From).sum
theorem sizL_app (a b : List ISpan) : sizL (a ++ b) = sizL a + sizL b := by unfold sizL; rw [List.map_append, List.sum_append]
theorem mem_tw {A : Type} {p : A → Bool} : ∀ {l : List A} {e : A}, e ∈ l.takeWhile p → p e = true
  | a :: l, e, h => by
    rw [List.takeWhile_cons] at h
    cases hp : p a with
    | false => rw [hp] at h; simp at h
    | true =>
      rw [hp, if_pos rfl] at h
      rcases List.mem_cons.1 h with rfl | h
      · exact hp
      · exact mem_tw h
theorem head_dw {A : Type} {p : A → Bool} : ∀ {l m : List A} {z : A}, l.dropWhile p = z :: m → p z = false
  | [], _, _, h => by simp at h
  | a :: l, m, z, h => by
    rw [List.dropWhile_cons] at h
    cases hp : p a with
    | true => rw [hp, if_pos rfl] at h; exact head_dw h
    | false =>
      rw [hp, if_neg (by simp)] at h
      simp only [List.cons.injEq] at h
      rw [← h.1]; exact hp
structure AddF (x : List ISpan) (y : ISpan) : Prop where
  set : SetL (addSp x y)
  sub : ∀ e ∈ x, ∃ e' ∈ addSp x y, e'.From ≤ e.From ∧ e.To ≤ e'.To
  own : ∃ e' ∈ addSp x y, e'.From ≤ y.From ∧ y.To ≤ e'.To
  siz : sizL (addSp x y) ≤ sizL x + (y.To - y.From)
theorem addF_of {x : List ISpan} {y : ISpan} (h : isSet x = true) (hy : goodS y = true) : AddF x y := by
  have hs := isSet_SetL h
  unfold goodS at hy
  have hg := hy
  rw [Bool.and_eq_true, Bool.and_eq_true, decide_eq_true_eq, decide_eq_true_eq, decide_eq_true_eq] at hy
  obtain ⟨⟨y1, y2⟩, y3⟩ := hy
  have e : addSp x y = x.takeWhile (befP y.From) ++ [(⟨(unionN (x.dropWhile (befP y.From)) (y.From, y.To)).2.1, (unionN (x.dropWhile (befP y.From)) (y.From, y.To)).2.2⟩ : ISpan)] ++ (x.dropWhile (befP y.From)).drop (unionN (x.dropWhile (befP y.From)) (y.From, y.To)).1 := by
    unfold addSp
    rw [h]
    have : goodS y = true := hg
    rw [this]; rfl
  have hx : x.takeWhile (befP y.From) ++ x.dropWhile (befP y.From) = x := List.takeWhile_append_dropWhile
  have hmem : ∀ e, e ∈ x ↔ e ∈ x.takeWhile (befP y.From) ∨ e ∈ x.dropWhile (befP y.From) := by
    intro e
    conv => lhs; rw [← hx]
    rw [List.mem_append]
  have hpw := hs.1
  rw [← hx, List.pairwise_append] at hpw
  obtain ⟨p1, p2, p3⟩ := hpw
  have hbef : ∀ e ∈ x.takeWhile (befP y.From), e.To < y.From := by
    intro e he
    have := mem_tw he
    unfold befP at this
    simpa using this
  have hsD : SetL (x.dropWhile (befP y.From)) := ⟨p2, fun e he => hs.2 e ((hmem e).2 (.inr he))⟩
  have hD : ∀ e ∈ x.dropWhile (befP y.From), e.To ≥ y.From := by
    intro e he
    cases hd : x.dropWhile (befP y.From) with
    | nil => rw [hd] at he; cases he
    | cons z l =>
      have hz : befP y.From z = false := head_dw hd
      unfold befP at hz
      rw [decide_eq_false_iff_not] at hz
      rw [hd] at he
      rcases List.mem_cons.1 he with rfl | he
      · omega
      · rw [hd] at hsD
        have h1 := hsD.tail.2.1 e he
        have h2 := hsD.2 e (by simp [he])
        omega
  generalize hDD : x.dropWhile (befP y.From) = D at *
  generalize hTT : x.takeWhile (befP y.From) = A at *
  obtain ⟨u1, u2, u3, u4⟩ := unionN_abs D (y.From, y.To) (fun e he => ⟨hD e he, (hsD.2 e he).2.1⟩) (by simp only; omega)
  have u5 := unionN_rest D (y.From, y.To) hsD
  have u6 := unionN_top (c := 1000000000000) D (y.From, y.To) (fun e he => (hsD.2 e he).2.2) y3
  have u7 := unionN_low (c := -1) D (y.From, y.To) (fun e he => by have := (hsD.2 e he).1; omega) (by simp only; omega)
  simp only at u1 u2 u4
  refine ⟨?_, ?_, ?_, ?_⟩
  · rw [e]
    refine ⟨?_, ?_⟩
    · rw [List.pairwise_append, List.pairwise_append]
      refine ⟨⟨p1, by simp, ?_⟩, p2.sublist (List.drop_sublist _ _), ?_⟩
      · intro a ha b hb
        rw [List.mem_singleton] at hb
        subst hb
        exact unionN_low (c := a.To) D (y.From, y.To) (fun z hz => p3 a ha z hz) (hbef a ha)
      · intro a ha b hb
        rw [List.mem_append, List.mem_singleton] at ha
        rcases ha with ha | rfl
        · exact p3 a ha b (List.mem_of_mem_drop hb)
        · exact u5 b hb
    · intro z hz
      rw [List.mem_append, List.mem_append, List.mem_singleton] at hz
      rcases hz with (hz | rfl) | hz
      · exact hs.2 z ((hmem z).2 (.inl hz))
      · exact ⟨by simp only; omega, by simp only; omega, u6⟩
      · exact hs.2 z ((hmem z).2 (.inr (List.mem_of_mem_drop hz)))
  · intro z hz
    rw [e]
    rcases (hmem z).1 hz with hz | hz
    · exact ⟨z, by simp [hz], by omega, by omega⟩
    · rw [← List.take_append_drop (unionN D (y.From, y.To)).1 D, List.mem_append] at hz
      rcases hz with hz | hz
      · exact ⟨_, by rw [List.mem_append, List.mem_append, List.mem_singleton]; exact .inl (.inr rfl), (u3 z hz).1, (u3 z hz).2⟩
      · exact ⟨z, by rw [List.mem_append]; exact .inr hz, by omega, by omega⟩
  · rw [e]
    exact ⟨_, by rw [List.mem_append, List.mem_append, List.mem_singleton]; exact .inl (.inr rfl), u1, u2⟩
  · have e1 : sizL x = sizL A + (sizL (D.take (unionN D (y.From, y.To)).1) + sizL (D.drop (unionN D (y.From, y.To)).1)) := by
      rw [← sizL_app, List.take_append_drop, ← sizL_app, hx]
    rw [e, sizL_app, sizL_app, e1]
    have e2 : sizL [(⟨(unionN D (y.From, y.To)).2.1, (unionN D (y.From, y.To)).2.2⟩ : ISpan)] = (unionN D (y.From, y.To)).2.2 - (unionN D (y.From, y.To)).2.1 := by simp [sizL]
    rw [e2]
    unfold sizL
    omega
theorem S_l1Int_tot {k : Nat} {c : Sl1Cur} (h : CurOk c) {l : List Int} (h0 : 0 < l.length) : ∃ v c', S_l1Int k c l = some (v, c') ∧ v ∈ l ∧ CurOk c' := by
  unfold S_l1Int
  obtain ⟨v, c1, e1, ⟨a1, b1⟩, h1⟩ := S_l1Below_tot (k := k) h (n := (l.length : Int)) (by omega)
  obtain ⟨m, rfl⟩ := Int.eq_ofNat_of_zero_le a1
  rw [e1, Option.bind_some, idx_nat (by omega), Option.bind_some]
  exact ⟨_, _, rfl, List.getElem_mem _, h1⟩
theorem I_Size_loop {k : Nat} {l : List ISpan} (hl : l.length ≤ 1000) (hb : ∀ e ∈ l, 0 ≤ e.To - e.From ∧ e.To - e.From ≤ 1000000000000) : ∀ (n i : Nat) (s : Int), i ≤ l.length → l.length - i < n → 0 ≤ s → s ≤ (i : Int) * 1000000000000 →
    I_SpanSize_b0 k n s l (l.length : Int) (i : Int) = some (s + sizL (l.drop i)) := by
  intro n
  induction n with
  | zero => intro i _ _ h; omega
  | succ n ih =>
    intro i s hi hn h0 h1
    rw [I_SpanSize_b0, bif_dec]
    by_cases c : i < l.length
    · obtain ⟨b1, b2⟩ := hb _ (List.getElem_mem c)
      have hm : ((i + 1 : Nat) : Int) * 1000000000000 = (i : Int) * 1000000000000 + 1000000000000 := by push_cast; omega
      have es : sizL (l.drop i) = (l[i].To - l[i].From) + sizL (l.drop (i + 1)) := by unfold sizL; rw [List.drop_eq_getElem_cons c, List.map_cons, List.sum_cons]
      rw [if_pos (by omega), idx_nat c, Option.bind_some, wrap_id (n := l[i].To - l[i].From) (by omega) (by omega), wrap_id (n := s + (l[i].To - l[i].From)) (by omega) (by omega), wrap_succ (by omega), ih (i + 1) _ (by omega) (by omega) (by omega) (by omega), es]
      congr 1; omega
    · rw [if_neg (by omega), List.drop_of_length_le (by omega)]
      simp [sizL]
theorem I_SpanSize_eq {k : Nat} (hk : 1073741824 ≤ k) {l : List ISpan} (hl : l.length ≤ 1000) (hb : ∀ e ∈ l, 0 ≤ e.To - e.From ∧ e.To - e.From ≤ 1000000000000) : I_SpanSize k l = some (sizL l) := by
  have := I_Size_loop (k := k) hl hb k 0 0 (by omega) (by omega) (by omega) (by omega)
  rw [List.drop_zero, Int.zero_add] at this
  have h0 : I_SpanSize_b0 k k 0 l (l.length : Int) 0 = some (sizL l) := this
  rw [I_SpanSize, h0, Option.bind_some]
def pc (p : IPiece) (a : Int) (c : UInt8) : Prop := p.From ≤ a ∧ p.Data[(a - p.From).toNat]? = some c
theorem pc_lt {p : IPiece} {a : Int} {c : UInt8} (h : pc p a c) : a < p.From + (p.Data.length : Int) := by
  obtain ⟨h1, h2⟩ := h
  have := (List.getElem?_eq_some_iff.1 h2).1
  omega
theorem bAt_iff {n : Nat} : ∀ (l : List IPiece), PcL l n → ∀ (a : Int) (c : UInt8), bAt l a = some c ↔ ∃ p ∈ l, pc p a c
  | [], _, a, c => by simp [bAt]
  | p :: l, h, a, c => by
    obtain ⟨t1, t2⟩ := h.tail
    by_cases hc : p.From ≤ a ∧ a < p.From + (p.Data.length : Int)
    · obtain ⟨hl, e⟩ := bAt_in (l := l) hc.1 hc.2
      rw [e]
      constructor
      · intro hh
        exact ⟨p, by simp, hc.1, by rw [List.getElem?_eq_getElem hl]; exact hh⟩
      · rintro ⟨q, hq, hh⟩
        rcases List.mem_cons.1 hq with rfl | hq
        · rw [← hh.2, List.getElem?_eq_getElem hl]
        · have := t2 q hq
          have := hh.1
          omega
    · rw [bAt_out hc, bAt_iff l t1 a c]
      constructor
      · rintro ⟨q, hq, hh⟩
        exact ⟨q, by simp [hq], hh⟩
      · rintro ⟨q, hq, hh⟩
        rcases List.mem_cons.1 hq with rfl | hq
        · exact absurd ⟨hh.1, pc_lt hh⟩ hc
        · exact ⟨q, hq, hh⟩
theorem gen_get {l : List IPiece} {F : Nat} {x : List UInt8} : ∀ (m a j : Nat), j < m → (gen l F x m a)[j]? = some (valA l F x (a + j))
  | 0, _, j, h => by omega
  | m + 1, a, 0, h => by rw [gen]; rfl
  | m + 1, a, j + 1, h => by rw [gen, List.getElem?_cons_succ, gen_get m (a + 1) j (by omega)]; congr 2; omega
theorem newP_len {l : List IPiece} {F : Nat} {x : List UInt8} {s : ISpan} : (newP l F x s).Data.length = (s.To - s.From).toNat := by
  unfold newP bytesOf
  simp only [List.length_map]
  exact gen_len _ _ _ _ _
theorem newP_pc {l : List IPiece} {F : Nat} {x : List UInt8} {s : ISpan} (h0 : 0 ≤ s.From) {a : Int} {c : UInt8} : pc (newP l F x s) a c ↔ s.From ≤ a ∧ a < s.To ∧ UInt8.ofNat (valA l F x a.toNat).toNat = c := by
  have hf : (newP l F x s).From = s.From := rfl
  constructor
  · intro h
    have h1 := pc_lt h
    obtain ⟨h2, h3⟩ := h
    rw [newP_len, hf] at h1
    rw [hf] at h2 h3
    refine ⟨h2, by omega, ?_⟩
    unfold newP bytesOf at h3
    simp only [List.getElem?_map] at h3
    rw [gen_get _ _ _ (by omega), show s.From.toNat + (a - s.From).toNat = a.toNat by omega] at h3
    simpa using h3
  · rintro ⟨h1, h2, h3⟩
    refine ⟨h1, ?_⟩
    rw [hf]
    unfold newP bytesOf
    simp only [List.getElem?_map]
    rw [gen_get _ _ _ (by omega), show s.From.toNat + (a - s.From).toNat = a.toNat by omega]
    simp [h3]
theorem u8_back (c : UInt8) : UInt8.ofNat ((c.toNat : Nat) : Int).toNat = c := by simp
structure GoodL (l : List IPiece) (n : Int) : Prop where
  are : areP l n = true
  dat : ∀ p ∈ l, p.Data.length ≤ 1048576
theorem newP_span {l : List IPiece} {F : Nat} {x : List UInt8} {s : ISpan} (h0 : 0 ≤ s.From) (h1 : s.From ≤ s.To) (h2 : s.To ≤ 600) : spanOf (newP l F x s) = s := by
  unfold spanOf
  rw [newP_len]
  have hf : (newP l F x s).From = s.From := rfl
  rw [hf, wrap_id (by omega) (by omega)]
  have : s.From + ((s.To - s.From).toNat : Int) = s.To := by omega
  rw [this]
structure AddOK (l : List IPiece) (n : Int) (x : IPiece) (y : List IPiece) : Prop where
  f0 : 0 ≤ x.From
  len : x.Data.length ≠ 0
  top : x.From + (x.Data.length : Int) ≤ n
  gl : GoodL l n
  gy : GoodL y n
  sp : y.map spanOf = addSp (l.map spanOf) ⟨x.From, x.From + (x.Data.length : Int)⟩
  af : AddF (l.map spanOf) ⟨x.From, x.From + (x.Data.length : Int)⟩
  cont : ∀ (a : Int) (c : UInt8), (∃ p ∈ y, pc p a c) ↔ (∃ p ∈ l, pc p a c) ∨ pc x a c
theorem addPc_no {l : List IPiece} {n : Int} {x : IPiece} (h : (addPc l n x).2 = false) : (addPc l n x).1 = l := by
  unfold addPc at h ⊢
  cases ha : areP l n with
  | false => rfl
  | true =>
    rw [ha, Bool.not_true, cond_false] at h
    rw [Bool.not_true, cond_false]
    by_cases c1 : x.From < 0 ∨ x.Data.length = 0 ∨ n < x.From + (x.Data.length : Int)
    · rw [if_pos c1]
    · rw [if_neg c1] at h ⊢
      cases hb : allB (okB l x.From.toNat x.Data) x.Data.length 0 with
      | false => rfl
      | true =>
        rw [hb, Bool.not_true, cond_false] at h
        rw [Bool.not_true, cond_false]
        by_cases c2 : (addSp (l.map spanOf) ⟨x.From, x.From + (x.Data.length : Int)⟩).length > 8
        · rw [if_pos c2]
        · rw [if_neg c2] at h; cases h
theorem addPc_yes {l : List IPiece} {n : Int} {x : IPiece} (h : (addPc l n x).2 = true) (hd : ∀ p ∈ l, p.Data.length ≤ 1048576) : AddOK l n x (addPc l n x).1 := by
  unfold addPc at h ⊢
  cases ha : areP l n with
  | false => rw [ha] at h; cases h
  | true =>
    rw [ha, Bool.not_true, cond_false] at h
    rw [Bool.not_true, cond_false]
    by_cases c1 : x.From < 0 ∨ x.Data.length = 0 ∨ n < x.From + (x.Data.length : Int)
    · rw [if_pos c1] at h; cases h
    rw [if_neg c1] at h ⊢
    cases hok : allB (okB l x.From.toNat x.Data) x.Data.length 0 with
    | false => rw [hok] at h; cases h
    | true =>
      rw [hok, Bool.not_true, cond_false] at h
      rw [Bool.not_true, cond_false]
      by_cases c2 : (addSp (l.map spanOf) ⟨x.From, x.From + (x.Data.length : Int)⟩).length > 8
      · rw [if_pos c2] at h; cases h
      rw [if_neg c2]
      obtain ⟨q1, q2, q3, q4, q5, q6, q7, q8⟩ := areP_PcL ha hd
      obtain ⟨F, hFe⟩ : ∃ F : Nat, x.From = (F : Int) := ⟨x.From.toNat, by omega⟩
      have hok2 : allB (okB l F x.Data) x.Data.length 0 = true := by
        rw [hFe, Int.toNat_natCast] at hok
        exact hok
      obtain ⟨m, rfl⟩ : ∃ m : Nat, n = (m : Int) := ⟨n.toNat, by omega⟩
      rw [Int.toNat_natCast] at q6
      have hF : F + x.Data.length ≤ m := by omega
      have hlen : x.Data.length ≠ 0 := by omega
      have hsp := spOK_of (l := l) (n := m) (F := F) (x := x.Data) (by omega) hF hlen q7 q5 q8
      have hgood : goodS ⟨(F : Int), (F : Int) + (x.Data.length : Int)⟩ = true := by
        unfold goodS
        simp only [Bool.and_eq_true, decide_eq_true_eq]
        omega
      have haf := addF_of q5 hgood
      rw [hFe] at c2 ⊢
      simp only [Int.toNat_natCast] at *
      generalize hS : addSp (l.map spanOf) ⟨(F : Int), (F : Int) + (x.Data.length : Int)⟩ = sp at *
      have hmap : (sp.map (newP l F x.Data)).map spanOf = sp := by
        rw [List.map_map]
        conv => rhs; rw [← List.map_id sp]
        refine List.map_congr_left fun s hs => ?_
        obtain ⟨g1, g2, g3⟩ := hsp.rng s hs
        exact newP_span g1 g2 (by omega)
      have hset : SetL sp := hS ▸ haf.set
      have hdat : ∀ p ∈ sp.map (newP l F x.Data), p.Data.length ≤ 1048576 := by
        intro p hp
        obtain ⟨s, hs, rfl⟩ := List.mem_map.1 hp
        obtain ⟨g1, g2, g3⟩ := hsp.rng s hs
        rw [newP_len]; omega
      have hare : areP (sp.map (newP l F x.Data)) (m : Int) = true := by
        unfold areP
        rw [hmap, decide_eq_true q1, decide_eq_true q2, List.length_map, decide_eq_true (by omega), SetL_isSet hset]
        cases hg : sp.getLast? with
        | none => rfl
        | some s =>
          have := (hsp.rng s (List.mem_of_getLast? hg)).2.2
          simp only [Bool.true_and]
          exact decide_eq_true this
      have hgy : GoodL (sp.map (newP l F x.Data)) (m : Int) := ⟨hare, hdat⟩
      refine ⟨by omega, hlen, by omega, ⟨ha, hd⟩, hgy, by rw [hmap, hFe, hS], by rw [hFe]; exact haf, fun a c => ?_⟩
      have hcov : ∀ a : Int, bAt l a = none → ¬ ∃ p ∈ l, ∃ c, pc p a c := by
        rintro a hb ⟨p, hp, c, hc⟩
        have := (bAt_iff l q6 a c).2 ⟨p, hp, hc⟩
        rw [hb] at this; cases this
      constructor
      · rintro ⟨p, hp, hpc⟩
        obtain ⟨s, hs, rfl⟩ := List.mem_map.1 hp
        obtain ⟨g1, g2, g3⟩ := hsp.rng s hs
        obtain ⟨h1, h2, h3⟩ := (newP_pc g1).1 hpc
        obtain ⟨b, rfl⟩ : ∃ b : Nat, a = (b : Int) := ⟨a.toNat, by omega⟩
        rw [Int.toNat_natCast] at h3
        unfold valA at h3
        cases hb : bAt l (b : Int) with
        | some d =>
          rw [hb] at h3
          simp only at h3
          rw [u8_back] at h3
          subst h3
          exact .inl ((bAt_iff l q6 _ _).1 hb)
        | none =>
          obtain ⟨k1, k2⟩ := hsp.cov s hs b h1 h2 hb
          rw [hb] at h3
          simp only at h3
          have hx : b - F < x.Data.length := by omega
          rw [List.getElem?_eq_getElem hx] at h3
          simp only [Option.map_some, Option.getD_some] at h3
          rw [u8_back] at h3
          refine .inr ⟨by omega, ?_⟩
          rw [show ((b : Int) - x.From).toNat = b - F by omega, List.getElem?_eq_getElem hx, h3]
      · have put : ∀ (e : ISpan), (∃ e' ∈ sp, e'.From ≤ e.From ∧ e.To ≤ e'.To) → e.From ≤ a → a < e.To → UInt8.ofNat (valA l F x.Data a.toNat).toNat = c → ∃ p ∈ sp.map (newP l F x.Data), pc p a c := by
          rintro e ⟨e', he', h1, h2⟩ h3 h4 h5
          obtain ⟨g1, g2, g3⟩ := hsp.rng e' he'
          exact ⟨_, List.mem_map_of_mem he', (newP_pc g1).2 ⟨by omega, by omega, h5⟩⟩
        rintro (⟨p, hp, hpc⟩ | hpc)
        · have hlt := pc_lt hpc
          have hb := (bAt_iff l q6 a c).2 ⟨p, hp, hpc⟩
          have hp0 := (q6.all p hp).1
          have hpf := hpc.1
          refine put ⟨p.From, p.From + (p.Data.length : Int)⟩ ?_ hpf hlt ?_
          · have := haf.sub (spanOf p) (List.mem_map_of_mem hp)
            rw [hS, q7 p hp] at this
            exact this
          · unfold valA
            rw [show ((a.toNat : Nat) : Int) = a by omega, hb]
            exact u8_back c
        · have hlt := pc_lt hpc
          obtain ⟨h1, h2⟩ := hpc
          obtain ⟨b, rfl⟩ : ∃ b : Nat, a = (b : Int) := ⟨a.toNat, by omega⟩
          have hx : b - F < x.Data.length := by omega
          rw [show ((b : Int) - x.From).toNat = b - F by omega, List.getElem?_eq_getElem hx, Option.some.injEq] at h2
          refine put ⟨(F : Int), (F : Int) + (x.Data.length : Int)⟩ ?_ (by simp only; omega) (by simp only; omega) ?_
          · have := haf.own
            rw [hS] at this
            exact this
          · unfold valA
            rw [Int.toNat_natCast]
            cases hb : bAt l (b : Int) with
            | none =>
              simp only
              rw [List.getElem?_eq_getElem hx]
              simp only [Option.map_some, Option.getD_some]
              rw [u8_back, h2]
            | some d =>
              have h3 := allB_at (p := okB l F x.Data) x.Data.length 0 hok2 (b - F) (by omega) (by omega)
              unfold okB at h3
              rw [show F + (b - F) = b by omega, hb, List.getElem?_eq_getElem hx] at h3
              simp only [beq_iff_eq] at h3
              simp only
              rw [u8_back, h3, h2]
theorem pc_first {p : IPiece} (h : p.Data.length ≠ 0) : ∃ c, pc p p.From c := ⟨p.Data[0]'(by omega), by omega, by rw [show (p.From - p.From).toNat = 0 by omega, List.getElem?_eq_getElem (by omega : 0 < p.Data.length)]⟩
theorem canon {n : Nat} : ∀ (y z : List IPiece), PcL y n → PcL z n → (∀ p ∈ y, p.Data.length ≠ 0) → (∀ p ∈ z, p.Data.length ≠ 0) → (∀ a c, (∃ p ∈ y, pc p a c) ↔ ∃ p ∈ z, pc p a c) → y = z
  | [], [], _, _, _, _, _ => rfl
  | [], q :: z, _, _, _, h, hc => by
    obtain ⟨c, e⟩ := pc_first (h q (by simp))
    obtain ⟨p, hp, _⟩ := (hc q.From c).2 ⟨q, by simp, e⟩
    cases hp
  | p :: y, [], _, _, h, _, hc => by
    obtain ⟨c, e⟩ := pc_first (h p (by simp))
    obtain ⟨q, hq, _⟩ := (hc p.From c).1 ⟨p, by simp, e⟩
    cases hq
  | p :: y, q :: z, hy, hz, ny, nz, hc => by
    obtain ⟨ty, sy⟩ := hy.tail
    obtain ⟨tz, sz⟩ := hz.tail
    have lowz : ∀ r ∈ q :: z, q.From ≤ r.From := by
      intro r hr
      rcases List.mem_cons.1 hr with rfl | hr
      · omega
      · have := sz r hr; omega
    have lowy : ∀ r ∈ p :: y, p.From ≤ r.From := by
      intro r hr
      rcases List.mem_cons.1 hr with rfl | hr
      · omega
      · have := sy r hr; omega
    have e1 : p.From = q.From := by
      obtain ⟨c, e⟩ := pc_first (ny p (by simp))
      obtain ⟨r, hr, h1⟩ := (hc _ _).1 ⟨p, by simp, e⟩
      have a1 := lowz r hr
      have a2 := h1.1
      obtain ⟨c', e'⟩ := pc_first (nz q (by simp))
      obtain ⟨r', hr', h1'⟩ := (hc _ _).2 ⟨q, by simp, e'⟩
      have b1 := lowy r' hr'
      have b2 := h1'.1
      omega
    have e2 : p.Data = q.Data := by
      apply List.ext_getElem?
      intro j
      have toq : ∀ c, p.Data[j]? = some c → q.Data[j]? = some c := by
        intro c h
        have hp : pc p (p.From + (j : Int)) c := ⟨by omega, by rw [show (p.From + (j : Int) - p.From).toNat = j by omega]; exact h⟩
        obtain ⟨r, hr, h1⟩ := (hc _ _).1 ⟨p, by simp, hp⟩
        rcases List.mem_cons.1 hr with rfl | hr
        · have := h1.2
          rw [show (p.From + (j : Int) - r.From).toNat = j by omega] at this
          exact this
        · exfalso
          -- the place just behind q lies in no piece of z
          have s1 := sz r hr
          have h2 := h1.1
          have h3 : (j : Int) < (p.Data.length : Int) := by have := pc_lt hp; omega
          have hq : q.Data.length < p.Data.length := by omega
          have hg : pc p (p.From + (q.Data.length : Int)) (p.Data[q.Data.length]'hq) := ⟨by omega, by rw [show (p.From + (q.Data.length : Int) - p.From).toNat = q.Data.length by omega, List.getElem?_eq_getElem hq]⟩
          obtain ⟨r2, hr2, h4⟩ := (hc _ _).1 ⟨p, by simp, hg⟩
          rcases List.mem_cons.1 hr2 with rfl | hr2
          · have := pc_lt h4; omega
          · have := sz r2 hr2
            have := h4.1
            omega
      have top : ∀ c, q.Data[j]? = some c → p.Data[j]? = some c := by
        intro c h
        have hp : pc q (q.From + (j : Int)) c := ⟨by omega, by rw [show (q.From + (j : Int) - q.From).toNat = j by omega]; exact h⟩
        obtain ⟨r, hr, h1⟩ := (hc _ _).2 ⟨q, by simp, hp⟩
        rcases List.mem_cons.1 hr with rfl | hr
        · have := h1.2
          rw [show (q.From + (j : Int) - r.From).toNat = j by omega] at this
          exact this
        · exfalso
          have s1 := sy r hr
          have h2 := h1.1
          have h3 : (j : Int) < (q.Data.length : Int) := by have := pc_lt hp; omega
          have hq : p.Data.length < q.Data.length := by omega
          have hg : pc q (q.From + (p.Data.length : Int)) (q.Data[p.Data.length]'hq) := ⟨by omega, by rw [show (q.From + (p.Data.length : Int) - q.From).toNat = p.Data.length by omega, List.getElem?_eq_getElem hq]⟩
          obtain ⟨r2, hr2, h4⟩ := (hc _ _).2 ⟨q, by simp, hg⟩
          rcases List.mem_cons.1 hr2 with rfl | hr2
          · have := pc_lt h4; omega
          · have := sy r2 hr2
            have := h4.1
            omega
      cases h1 : p.Data[j]? with
      | some c => exact (toq c h1).symm
      | none =>
        cases h2 : q.Data[j]? with
        | none => rfl
        | some c => rw [top c h2] at h1; cases h1
    have e3 : p = q := by
      obtain ⟨pf, pd⟩ := p
      obtain ⟨qf, qd⟩ := q
      simp only at e1 e2
      rw [e1, e2]
    subst e3
    have e4 : y = z := canon y z ty tz (fun r hr => ny r (by simp [hr])) (fun r hr => nz r (by simp [hr])) fun a c => by
      constructor
      · rintro ⟨r, hr, h1⟩
        obtain ⟨s, hs, h2⟩ := (hc a c).1 ⟨r, by simp [hr], h1⟩
        rcases List.mem_cons.1 hs with rfl | hs
        · have := sy r hr
          have := h1.1
          have := pc_lt h2
          omega
        · exact ⟨s, hs, h2⟩
      · rintro ⟨r, hr, h1⟩
        obtain ⟨s, hs, h2⟩ := (hc a c).2 ⟨r, by simp [hr], h1⟩
        rcases List.mem_cons.1 hs with rfl | hs
        · have := sz r hr
          have := h1.1
          have := pc_lt h2
          omega
        · exact ⟨s, hs, h2⟩
    rw [e4]
theorem GoodL.ne {l : List IPiece} {n : Int} (h : GoodL l n) : ∀ p ∈ l, p.Data.length ≠ 0 := by
  intro p hp
  obtain ⟨q1, q2, q3, q4, q5, q6, q7, q8⟩ := areP_PcL h.are h.dat
  have := q8 (spanOf p) (List.mem_map_of_mem hp)
  rw [q7 p hp] at this
  simp only at this
  omega
theorem rpO_good {y : List IPiece} {n : Int} (h : GoodL y n) {f : Int} {D : List UInt8} (hD : D.length ≠ 0) (hin : ∃ p ∈ y, p.From ≤ f ∧ f + (D.length : Int) ≤ p.From + (p.Data.length : Int)) (hc : ∀ j : Nat, ∀ hj : j < D.length, ∃ p ∈ y, pc p (f + (j : Int)) D[j]) : rpO y ⟨f, f + (D.length : Int)⟩ = (D, true) := by
  obtain ⟨q1, q2, q3, q4, q5, q6, q7, q8⟩ := areP_PcL h.are h.dat
  have hw : ∀ p ∈ y, IntKind.wrap .i64 (p.From + (p.Data.length : Int)) = p.From + (p.Data.length : Int) := by
    intro p hp
    have := q6.all p hp
    exact wrap_id (by omega) (by omega)
  unfold rpO
  rw [if_neg (by simp only; omega)]
  obtain ⟨p, hp, p1, p2⟩ := hin
  obtain ⟨i, hi, rfl⟩ := List.mem_iff_getElem.1 hp
  cases hf : firstI (rpP y f (f + (D.length : Int))) y.length 0 with
  | none =>
    exfalso
    have := firstI_none y.length 0 hf i (by omega) (by omega)
    unfold rpP at this
    rw [List.getElem?_eq_getElem hi] at this
    simp only at this
    rw [decide_eq_true p1, hw _ (List.getElem_mem hi), decide_eq_true p2] at this
    cases this
  | some k =>
    obtain ⟨g1, g2, g3, _⟩ := firstI_some y.length 0 k hf
    have hk : k < y.length := by omega
    unfold rpP at g3
    rw [List.getElem?_eq_getElem hk] at g3
    simp only at g3
    rw [hw _ (List.getElem_mem hk), Bool.and_eq_true, decide_eq_true_eq, decide_eq_true_eq] at g3
    simp only
    unfold rpV
    rw [List.getElem?_eq_getElem hk]
    simp only
    have : (y[k].Data.take (f + (D.length : Int) - y[k].From).toNat).drop (f - y[k].From).toNat = D := by
      apply List.ext_getElem?
      intro j
      rw [List.getElem?_drop, List.getElem?_take]
      by_cases hj : j < D.length
      · rw [if_pos (by omega), List.getElem?_eq_getElem hj]
        obtain ⟨r, hr, h1⟩ := hc j hj
        have hb := (bAt_iff y q6 _ _).2 ⟨r, hr, h1⟩
        have hlt : (f - y[k].From).toNat + j < y[k].Data.length := by omega
        have hpc : pc y[k] (f + (j : Int)) (y[k].Data[(f - y[k].From).toNat + j]'hlt) := ⟨by omega, by rw [show (f + (j : Int) - y[k].From).toNat = (f - y[k].From).toNat + j by omega, List.getElem?_eq_getElem hlt]⟩
        have hb2 := (bAt_iff y q6 _ _).2 ⟨_, List.getElem_mem hk, hpc⟩
        rw [hb] at hb2
        rw [List.getElem?_eq_getElem hlt, ← hb2]
      · rw [if_neg (by omega), List.getElem?_eq_none (by omega)]
    rw [this]
theorem size_le {n : Int} : ∀ (l : List ISpan) (lo : Int), SetL l → (∀ e ∈ l, lo ≤ e.From ∧ e.To ≤ n) → lo ≤ n → sizL l ≤ n - lo
  | [], lo, _, _, h => by simp [sizL]; omega
  | e :: l, lo, h, hb, h0 => by
    obtain ⟨t1, t2, t3⟩ := h.tail
    have hb1 := hb e (by simp)
    have es : sizL (e :: l) = (e.To - e.From) + sizL l := by simp [sizL]
    have := size_le l e.To t1 (fun z hz => ⟨by have := t2 z hz; omega, (hb z (by simp [hz])).2⟩) (by omega)
    rw [es]; omega
theorem size_pos : ∀ (l : List ISpan), SetL l → 0 ≤ sizL l
  | [], _ => by simp [sizL]
  | e :: l, h => by
    obtain ⟨t1, t2, t3⟩ := h.tail
    have := size_pos l t1
    have es : sizL (e :: l) = (e.To - e.From) + sizL l := by simp [sizL]
    rw [es]; omega
theorem size_mem : ∀ (l : List ISpan), SetL l → ∀ e ∈ l, e.To - e.From ≤ sizL l
  | z :: l, h, e, he => by
    obtain ⟨t1, t2, t3⟩ := h.tail
    have es : sizL (z :: l) = (z.To - z.From) + sizL l := by simp [sizL]
    rw [es]
    rcases List.mem_cons.1 he with rfl | he
    · have := size_pos l t1; omega
    · have := size_mem l t1 e he; omega
theorem whole_iff {l : List ISpan} {n : Int} (h : SetL l) (hb : ∀ e ∈ l, 0 ≤ e.From ∧ e.To ≤ n) (hn : 0 < n) : covB l ⟨0, n⟩ = (sizL l == n) := by
  rw [covB_any (by simp only; omega)]
  apply Bool.eq_iff_iff.2
  rw [List.any_eq_true, beq_iff_eq]
  have hle := size_le l 0 h hb (by omega)
  constructor
  · rintro ⟨e, he, h1⟩
    rw [Bool.and_eq_true, decide_eq_true_eq, decide_eq_true_eq] at h1
    simp only at h1
    have := size_mem l h e he
    omega
  · intro hs
    cases l with
    | nil => simp [sizL] at hs; omega
    | cons e l =>
      obtain ⟨t1, t2, t3⟩ := h.tail
      have hb1 := hb e (by simp)
      have es : sizL (e :: l) = (e.To - e.From) + sizL l := by simp [sizL]
      rw [es] at hs
      cases l with
      | nil =>
        have : sizL ([] : List ISpan) = 0 := rfl
        exact ⟨e, by simp, by rw [decide_eq_true (by simp only; omega), decide_eq_true (by simp only; omega)]; rfl⟩
      | cons z l =>
        exfalso
        have hz := t2 z (by simp)
        have hz2 := hb z (by simp)
        have hz3 := t1.2 z (by simp)
        have := size_le (z :: l) (e.To + 1) t1 (fun w hw => ⟨by have := t2 w hw; omega, (hb w (by simp [hw])).2⟩) (by omega)
        omega
theorem addPc_data {l : List IPiece} {n : Int} {x : IPiece} (hd : ∀ p ∈ l, p.Data.length ≤ 1048576) : ∀ p ∈ (addPc l n x).1, p.Data.length ≤ 1048576 := by
  cases h : (addPc l n x).2 with
  | false => rw [addPc_no h]; exact hd
  | true => exact (addPc_yes h hd).gy.dat
theorem S_l10Piece_tot {k : Nat} {c : Sl1Cur} (h : CurOk c) : ∃ p c', S_l10Piece k c = some (p, c') ∧ (0 ≤ p.From ∧ p.From ≤ 20 ∧ p.Data.length ≤ 20) ∧ CurOk c' := by
  unfold S_l10Piece
  obtain ⟨v1, c1, e1, ⟨a1, b1⟩, h1⟩ := S_l1Below_tot (k := k) h (n := 20) (by omega)
  obtain ⟨v2, c2, e2, ⟨a2, b2⟩, h2⟩ := S_l1Below_tot (k := k) h1 (n := 7) (by omega)
  rw [e1, Option.bind_some, e2, Option.bind_some, wrap_id (n := v1 + 1) (by omega) (by omega), wrap_id (by omega) (by omega), S_Min, bif_dec]
  have l20 : ([84, 104, 101, 32, 113, 117, 105, 99, 107, 32, 98, 114, 111, 119, 110, 32, 102, 111, 120, 46] : List UInt8).length = 20 := rfl
  by_cases c3 : v1 + 1 + v2 < 20
  · rw [if_pos c3, Option.bind_some, ssub_ok (by omega) (by omega) (by rw [l20]; omega), Option.bind_some]
    exact ⟨_, _, rfl, ⟨a1, by simp only; omega, by simp only [List.length_drop, List.length_take, l20]; omega⟩, h2⟩
  · rw [if_neg c3, Option.bind_some, ssub_ok (by omega) (by omega) (by rw [l20]; omega), Option.bind_some]
    exact ⟨_, _, rfl, ⟨a1, by simp only; omega, by simp only [List.length_drop, List.length_take, l20]; omega⟩, h2⟩
theorem S_l10Draw_loop {k : Nat} (hk : 1073741824 ≤ k) : ∀ (n j : Nat) (r : List IPiece) (b : List Int) (i h : Int), j < n → r.length + 8 * j ≤ 1000 → CurOk ⟨b, i, h⟩ → (∀ p ∈ r, p.Data.length ≤ 1048576) →
    ∃ b' i' h' t, S_l10Draw_b0 k n (j : Int) b i h r = some (b', i', h', t) ∧ t.length ≤ 1000 ∧ CurOk ⟨b', i', h'⟩ ∧ ∀ p ∈ t, p.Data.length ≤ 1048576 := by
  intro n
  induction n with
  | zero => intro j r b i h hj; omega
  | succ n ih =>
    intro j r b i h hj hx hc hr
    rw [S_l10Draw_b0, bif_dec]
    cases j with
    | zero => rw [if_neg (by omega)]; exact ⟨_, _, _, _, rfl, by omega, hc, hr⟩
    | succ j =>
      obtain ⟨p, c1, e1, hp, h1⟩ := S_l10Piece_tot (k := k) hc
      have hl := addPc_len r 20 p
      obtain ⟨b', i', h', t, e, q⟩ := ih j (addPc r 20 p).1 c1.b c1.i c1.h (by omega) (by omega) h1 (addPc_data hr)
      rw [if_pos (by omega), e1, Option.bind_some, S_AddPiece_eq hk r 20 p (by omega) hr (by omega) ⟨by omega, by omega⟩ ⟨by omega, by omega⟩, Option.bind_some, wrap_pred (by omega)]
      exact ⟨b', i', h', t, e, q⟩
theorem S_DrawAddPiece_tot {k : Nat} (hk : 1073741824 ≤ k) {z : List Int} (hz : z.length ≤ 1048576) : ∃ l n x, S_DrawAddPiece k z = some (l, n, x) ∧ l.length ≤ 2000 ∧ (∀ p ∈ l, p.Data.length ≤ 1048576) ∧ InI n ∧ InI x.From ∧ x.Data.length ≤ 20 := by
  unfold S_DrawAddPiece S_l10Draw
  obtain ⟨c0, e0, h0⟩ := S_l1New_tot hk hz
  obtain ⟨v, c1, e1, ⟨a1, b1⟩, h1⟩ := S_l1Below_tot (k := k) h0 (n := 5) (by omega)
  obtain ⟨m, rfl⟩ := Int.eq_ofNat_of_zero_le a1
  obtain ⟨b', i', h', t, e2, q1, q2, q3⟩ := S_l10Draw_loop hk k m [] c1.b c1.i c1.h (by omega) (by simp; omega) h1 (by simp)
  obtain ⟨v3, c3, e3, _, h3⟩ := S_l1Below_tot (k := k) q2 (n := 9) (by omega)
  have eo : S_l1Once k ⟨b', i', h'⟩ 9 = some (v3 == 0, c3) := by rw [S_l1Once, e3]; rfl
  rw [e0, Option.bind_some, e1, Option.bind_some, e2, Option.bind_some]
  simp only
  rw [eo, Option.bind_some]
  simp only
  have hc20 : ∃ l c4, S_l10Draw_c20 k (v3 == 0) c3.b c3.i c3.h t = some (c4.b, c4.i, c4.h, l) ∧ CurOk c4 ∧ l.length ≤ 2000 ∧ ∀ p ∈ l, p.Data.length ≤ 1048576 := by
    rw [S_l10Draw_c20]
    cases (v3 == 0) with
    | false => exact ⟨t, c3, rfl, h3, by omega, q3⟩
    | true =>
      obtain ⟨p, c4, e4, hp, h4⟩ := S_l10Piece_tot (k := k) h3
      have e4' : S_l10Piece k ⟨c3.b, c3.i, c3.h⟩ = some (p, c4) := e4
      rw [cond_true, e4', Option.bind_some, appn_ok (by simp; omega), Option.bind_some]
      refine ⟨_, c4, rfl, h4, by simp; omega, fun r hr => ?_⟩
      rw [List.mem_append, List.mem_singleton] at hr
      rcases hr with hr | rfl
      · exact q3 r hr
      · omega
  obtain ⟨l, c4, e4, h4, l1, l2⟩ := hc20
  obtain ⟨p, c5, e5, hp, h5⟩ := S_l10Piece_tot (k := k) h4
  have e5' : S_l10Piece k ⟨c4.b, c4.i, c4.h⟩ = some (p, c5) := e5
  obtain ⟨v6, c6, e6, _, h6⟩ := S_l1Below_tot (k := k) h5 (n := 6) (by omega)
  rw [e4]
  simp only [Option.bind_some]
  rw [e5', Option.bind_some, e6, Option.bind_some]
  have hb0 : ∃ c7 f d, S_DrawAddPiece_b0 k v6 0 [] c6.b c6.i c6.h l p.From p.Data = some (c7.b, c7.i, c7.h, f, d) ∧ CurOk c7 ∧ InI f ∧ d.length ≤ 20 := by
    rw [S_DrawAddPiece_b0, S_DrawAddPiece_c16, S_DrawAddPiece_c19]
    cases (v6 == 0) with
    | true => exact ⟨c6, p.From, _, rfl, h6, ⟨by omega, by omega⟩, by simp⟩
    | false =>
      cases (v6 == 1) with
      | false => exact ⟨c6, p.From, _, rfl, h6, ⟨by omega, by omega⟩, hp.2.2⟩
      | true =>
        obtain ⟨v4, c8, e8, hv, h8⟩ := S_l1Int_tot (k := k) h6 (l := [(-1 : Int), (0 : Int), (1 : Int), (2 : Int), (255 : Int), (256 : Int), (65535 : Int), (2147483647 : Int), (2147483648 : Int), (4294967295 : Int), (4294967296 : Int), (-2147483648 : Int), (9223372036854775807 : Int), (-9223372036854775808 : Int)]) (by simp)
        have e9 : S_l1Odd k ⟨c6.b, c6.i, c6.h⟩ = some (v4, c8) := by
          have e8' : S_l1Int k ⟨c6.b, c6.i, c6.h⟩ _ = some (v4, c8) := e8
          rw [S_l1Odd, e8']; rfl
        rw [cond_false, cond_true, e9]
        have hvi : InI v4 := by
          simp only [List.mem_cons, List.not_mem_nil, or_false] at hv
          unfold InI
          rcases hv with rfl | rfl | rfl | rfl | rfl | rfl | rfl | rfl | rfl | rfl | rfl | rfl | rfl | rfl <;> omega
        exact ⟨c8, _, _, rfl, h8, hvi, hp.2.2⟩
  obtain ⟨c7, f, d, e7, h7, f1, d1⟩ := hb0
  obtain ⟨v9, c9, e9, hv9, h9⟩ := S_l1Int_tot (k := k) h7 (l := [(20 : Int), (20 : Int), (20 : Int), (15 : Int)]) (by simp)
  have e9' : S_l1Int k ⟨c7.b, c7.i, c7.h⟩ [(20 : Int), (20 : Int), (20 : Int), (15 : Int)] = some (v9, c9) := e9
  have hvi : InI v9 := by
    simp only [List.mem_cons, List.not_mem_nil, or_false] at hv9
    unfold InI
    omega
  rw [e7, Option.bind_some]
  simp only
  rw [e9', Option.bind_some]
  exact ⟨_, _, _, rfl, l1, l2, hvi, f1, d1⟩
theorem FP_b0 {k : Nat} (hk : 1073741824 ≤ k) {l y : List IPiece} {n : Int} {x : IPiece} {x4 y0 : Int} {y1 : List UInt8} (h : AddOK l n x y) : ∀ (m i : Nat), i ≤ l.length → l.length - i < m → L_FnPieces_b0 k m x4 (i : Int) l y0 y1 y = some (.nrm ()) := by
  obtain ⟨q1, q2, q3, q4, q5, q6, q7, q8⟩ := areP_PcL h.gl.are h.gl.dat
  obtain ⟨r1, r2, r3, r4, r5, r6, r7, r8⟩ := areP_PcL h.gy.are h.gy.dat
  intro m
  induction m with
  | zero => intro i _ h; omega
  | succ m ih =>
    intro i hi hm
    rw [L_FnPieces_b0, bif_dec]
    by_cases c : i < l.length
    · have hmem := List.getElem_mem c
      obtain ⟨p1, p2⟩ := q6.all _ hmem
      have hne := h.gl.ne _ hmem
      have hy8 : y.length < 1073741824 := by omega
      have hread := I_ReadPieces_eq hk y ⟨l[i].From, l[i].From + (l[i].Data.length : Int)⟩ hy8 (fun e he => ⟨⟨by have := r6.all e he; omega, by have := r6.all e he; omega⟩, h.gy.dat e he⟩) ⟨by simp only; omega, by simp only; omega⟩ ⟨by simp only; omega, by simp only; omega⟩
      have hrp : rpO y ⟨l[i].From, l[i].From + (l[i].Data.length : Int)⟩ = (l[i].Data, true) := by
        refine rpO_good h.gy hne ?_ fun j hj => ?_
        · obtain ⟨e', he', g1, g2⟩ := h.af.sub (spanOf l[i]) (List.mem_map_of_mem hmem)
          rw [← h.sp] at he'
          obtain ⟨p, hp, rfl⟩ := List.mem_map.1 he'
          rw [q7 _ hmem, r7 p hp] at g1
          rw [q7 _ hmem, r7 p hp] at g2
          exact ⟨p, hp, g1, g2⟩
        · exact (h.cont _ _).2 (.inl ⟨_, hmem, by omega, by rw [show (l[i].From + (j : Int) - l[i].From).toNat = j by omega, List.getElem?_eq_getElem hj]⟩)
      rw [if_pos (by omega), idx_nat c]
      simp only [Option.bind_some]
      rw [wrap_id (n := l[i].From + (l[i].Data.length : Int)) (by omega) (by omega), hread, hrp, Option.bind_some]
      simp only [Bool.not_true, cond_false, BEq.rfl]
      rw [wrap_succ (by omega), ih (i + 1) (by omega) (by omega)]
    · rw [if_neg (by omega)]
theorem FP_b2 {k : Nat} (hk : 1073741824 ≤ k) {l y : List IPiece} {n : Int} {x : IPiece} (hn : InI n) (hl : GoodL l n) : ∀ (m i : Nat) (f : Bool) (z : List IPiece), i ≤ l.length → l.length - i < m →
    (f = true → GoodL z n ∧ ∀ a c, (∃ p ∈ z, pc p a c) ↔ pc x a c ∨ ∃ p ∈ l.take i, pc p a c) →
      ∃ b w, L_FnPieces_b2 k m n f (i : Int) l y z = some (b, w) ∧ (b = true → GoodL w n ∧ ∀ a c, (∃ p ∈ w, pc p a c) ↔ pc x a c ∨ ∃ p ∈ l, pc p a c) := by
  obtain ⟨q1, q2, q3, q4, q5, q6, q7, q8⟩ := areP_PcL hl.are hl.dat
  intro m
  induction m with
  | zero => intro i _ _ _ h; omega
  | succ m ih =>
    intro i f z hi hm hf
    rw [L_FnPieces_b2, bif_dec]
    by_cases c : i < l.length
    · rw [if_pos (by omega)]
      cases f with
      | false => exact ⟨false, z, rfl, fun h => by cases h⟩
      | true =>
        obtain ⟨g1, g2⟩ := hf rfl
        obtain ⟨z1, z2, z3, _⟩ := areP_PcL g1.are g1.dat
        have hmem := List.getElem_mem c
        have hp := q6.all _ hmem
        rw [cond_true, idx_nat c, Option.bind_some, Option.bind_some, I_AddPiece_eq hk z n l[i] (by omega) g1.dat (hl.dat _ hmem) ⟨by omega, by omega⟩ hn, Option.bind_some, wrap_succ (by omega)]
        refine ih (i + 1) _ _ (by omega) (by omega) fun hok => ?_
        have ho := addPc_yes hok g1.dat
        refine ⟨ho.gy, fun a c' => ?_⟩
        rw [ho.cont a c', g2 a c', List.take_add_one, List.getElem?_eq_getElem c]
        simp only [Option.toList_some, List.mem_append, List.mem_singleton]
        constructor
        · rintro ((h1 | ⟨p, hp, h1⟩) | h1)
          · exact .inl h1
          · exact .inr ⟨p, .inl hp, h1⟩
          · exact .inr ⟨_, .inr rfl, h1⟩
        · rintro (h1 | ⟨p, hp | rfl, h1⟩)
          · exact .inl (.inl h1)
          · exact .inl (.inr ⟨p, hp, h1⟩)
          · exact .inr h1
    · rw [if_neg (by omega)]
      refine ⟨f, z, rfl, fun h => ?_⟩
      obtain ⟨g1, g2⟩ := hf h
      refine ⟨g1, fun a c' => ?_⟩
      rw [g2 a c', List.take_of_length_le (by omega)]
theorem L_same_eq {k : Nat} (hk : 1073741824 ≤ k) {y : List IPiece} (h : y.length < 1073741824) : L_samePieces k y y = some true := by
  have main : ∀ (n i : Nat), i ≤ y.length → y.length - i < n → L_samePieces_b0 k n y y (i : Int) = some (.nrm ()) := by
    intro n
    induction n with
    | zero => intro i _ h; omega
    | succ n ih =>
      intro i hi hn
      rw [L_samePieces_b0, bif_dec]
      by_cases c : i < y.length
      · rw [if_pos (by omega), idx_nat c, Option.bind_some, Option.bind_some, wrap_succ (by omega), ih (i + 1) (by omega) (by omega)]
        simp
      · rw [if_neg (by omega)]
  have := main k 0 (by omega) (by omega)
  have h0 : L_samePieces_b0 k k y y 0 = some (.nrm ()) := this
  rw [L_samePieces, bne_self_eq_false, cond_false, h0]; rfl
theorem FnPieces_pure {k : Nat} (hk : 1073741824 ≤ k) (a0 : List Int) (h0 : InL InB a0) : L_FnPieces k a0 = some true := by
  unfold L_FnPieces
  rw [L_big_eq, Option.bind_some, bif_dec]
  by_cases c1 : (a0.length : Int) > 1048576
  · rw [if_pos c1]
  rw [if_neg c1]
  obtain ⟨l, n, x, e1, l1, l2, hn, hxf, hxd⟩ := S_DrawAddPiece_tot hk (z := a0) (by omega)
  rw [e1, Option.bind_some]
  simp only
  rw [I_AddPiece_eq hk l n x (by omega) l2 (by omega) hxf hn, Option.bind_some]
  cases hok : (addPc l n x).2 with
  | false =>
    rw [addPc_no hok, Bool.not_false, cond_true, beq_self_eq_true]
  | true =>
    have ho := addPc_yes hok l2
    rw [Bool.not_true, cond_false]
    generalize (addPc l n x).1 = y at *
    obtain ⟨q1, q2, q3, q4, q5, q6, q7, q8⟩ := areP_PcL ho.gl.are ho.gl.dat
    obtain ⟨r1, r2, r3, r4, r5, r6, r7, r8⟩ := areP_PcL ho.gy.are ho.gy.dat
    have f0 := ho.f0
    have flen := ho.len
    have ftop := ho.top
    have hread := I_ReadPieces_eq hk y ⟨x.From, x.From + (x.Data.length : Int)⟩ (by omega) (fun e he => ⟨⟨by have := r6.all e he; omega, by have := r6.all e he; omega⟩, ho.gy.dat e he⟩) ⟨by simp only; omega, by simp only; omega⟩ ⟨by simp only; omega, by simp only; omega⟩
    have hrp : rpO y ⟨x.From, x.From + (x.Data.length : Int)⟩ = (x.Data, true) := by
      refine rpO_good ho.gy flen ?_ fun j hj => ?_
      · obtain ⟨e', he', g1, g2⟩ := ho.af.own
        rw [← ho.sp] at he'
        obtain ⟨p, hp, rfl⟩ := List.mem_map.1 he'
        rw [r7 p hp] at g1 g2
        exact ⟨p, hp, g1, g2⟩
      · exact (ho.cont _ _).2 (.inr ⟨by omega, by rw [show (x.From + (j : Int) - x.From).toNat = j by omega, List.getElem?_eq_getElem hj]⟩)
    have hsz := I_SpanSize_eq hk (l := y.map spanOf) (by simp; omega) (fun e he => by have := r8 e he; omega)
    have hsl := size_le (n := n) (y.map spanOf) 0 r4 (fun e he => by have := r8 e he; omega) (by omega)
    have hwh := whole_iff (n := n) r4 (fun e he => by have := r8 e he; omega) (by omega)
    have b0 := FP_b0 hk (x4 := n) (y0 := x.From) (y1 := x.Data) ho k 0 (by omega) (by omega)
    have b0' : L_FnPieces_b0 k k n 0 l x.From x.Data y = some (.nrm ()) := b0
    obtain ⟨b, w, e2, hw⟩ := FP_b2 hk (l := l) (y := y) (n := n) (x := x) hn ho.gl k 0 (addPc [] n x).2 (addPc [] n x).1 (by omega) (by omega) (fun hb => by
      have h2 := addPc_yes hb (by simp)
      refine ⟨h2.gy, fun a c => ?_⟩
      rw [h2.cont a c]
      simp)
    have e2' : L_FnPieces_b2 k k n (addPc [] n x).2 0 l y (addPc [] n x).1 = some (b, w) := e2
    have hiw : I_IsWhole k y n = some (sizL (y.map spanOf) == n) := by
      rw [I_IsWhole, I_SpansOf_eq hk y (by omega), Option.bind_some, I_CoversSpan_eq hk _ _ (by simp; omega), Option.bind_some, hwh]
    rw [wrap_id (n := x.From + (x.Data.length : Int)) (by omega) (by omega), hread, hrp, Option.bind_some]
    simp only [Bool.not_true, cond_false, BEq.rfl]
    rw [S_ArePieces_eq hk y n (by omega), Option.bind_some, ho.gy.are, Bool.not_true, cond_false, I_SpansOf_eq hk y (by omega), Option.bind_some, hsz, Option.bind_some, bif_dec, if_neg (by omega), b0', Option.bind_some]
    simp only [oc]
    rw [I_AddPiece_eq hk [] n x (by simp) (by simp) (by omega) hxf hn, Option.bind_some, e2', Option.bind_some]
    simp only
    cases b with
    | false => rw [cond_false, hiw, Option.bind_some, Option.bind_some, hsz, Option.bind_some, beq_self_eq_true]
    | true =>
      obtain ⟨g1, g2⟩ := hw rfl
      obtain ⟨s1, s2, s3, s4, s5, s6, s7, s8⟩ := areP_PcL g1.are g1.dat
      have hwy : w = y := canon w y s6 r6 g1.ne ho.gy.ne fun a c => by
        rw [g2 a c, ho.cont a c]
        exact Or.comm
      subst hwy
      rw [cond_true, L_same_eq hk (by omega), Option.bind_some, Bool.not_true, cond_false, hiw, Option.bind_some, Option.bind_some, hsz, Option.bind_some, beq_self_eq_true]
end
end Go.Ytolmhhnhmbiofaa
