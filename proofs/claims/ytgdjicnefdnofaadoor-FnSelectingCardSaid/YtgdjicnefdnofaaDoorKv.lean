/- What the functions come to. Nothing is claimed here. -/
import Derived.Test.YtgdjicnefdnofaaDoorKu
set_option linter.unusedVariables false
set_option linter.unusedSimpArgs false
set_option maxRecDepth 100000
namespace Go.YtgdjicnefdnofaaDoor
open Go Go.RowKit Go.Pv Go.Pu

/-! Text without blanks around it. -/
def blank (c : UInt8) : Bool := c == 32 || c == 9
def rtrim (x : List UInt8) : List UInt8 := (x.reverse.dropWhile blank).reverse
def trimT (x : List UInt8) : List UInt8 := rtrim (x.dropWhile blank)
theorem rtrim_cons (e : UInt8) (l : List UInt8) : rtrim (e :: l) = if rtrim l = [] then (if blank e then [] else [e]) else e :: rtrim l := by
  unfold rtrim
  rw [List.reverse_cons, List.dropWhile_append]
  cases h : l.reverse.dropWhile blank with
  | nil => cases hb : blank e <;> simp [List.dropWhile_cons, hb]
  | cons a m => simp
theorem rtrim_snoc (l : List UInt8) (c : UInt8) : rtrim (l ++ [c]) = if blank c then rtrim l else l ++ [c] := by
  unfold rtrim
  rw [List.reverse_append]
  cases hb : blank c <;> simp [List.dropWhile_cons, hb]
theorem trim_comm : ∀ x : List UInt8, rtrim (x.dropWhile blank) = (rtrim x).dropWhile blank
  | [] => rfl
  | e :: l => by
    have ih := trim_comm l
    rw [rtrim_cons, List.dropWhile_cons]
    cases hb : blank e with
    | true =>
      by_cases h : rtrim l = []
      · rw [h] at ih; simp [h, ih]
      · simp [h, List.dropWhile_cons, hb, ih]
    | false =>
      rw [if_neg (by simp), rtrim_cons]
      by_cases h : rtrim l = []
      · simp [h, List.dropWhile_cons, hb]
      · simp [h, List.dropWhile_cons, hb]
theorem trimS_eq (x : List UInt8) : Lib.trimS x [32, 9] = trimT x := by
  have hc : (fun b : UInt8 => ([32, 9] : List UInt8).contains b) = blank := by
    funext b; unfold blank
    simp only [List.contains, List.elem]
    cases h1 : (b == 32) <;> cases h2 : (b == 9) <;> rfl
  unfold Lib.trimS Lib.trimLeftS Lib.trimRightS trimT
  rw [hc, trim_comm]; rfl
theorem rtrim_len (x : List UInt8) : (rtrim x).length ≤ x.length := by
  unfold rtrim
  have := (List.dropWhile_sublist blank (l := x.reverse)).length_le
  simpa using this
theorem trimT_len (x : List UInt8) : (trimT x).length ≤ x.length := by
  have h1 := (List.dropWhile_sublist blank (l := x)).length_le
  have h2 := rtrim_len (x.dropWhile blank)
  unfold trimT; omega
theorem I_TrimText_eq {k : Nat} (x : List UInt8) (h : x.length < 1073741824) : I_TrimText k x = some (trimT x) := by
  have hd : (decide (x.length ≤ 9223372036854775807) && decide (([32, 9] : List UInt8).length < 4294967281) && ([32, 9] : List UInt8).all (fun b => decide (b.toNat < 128))) = true := by
    rw [Bool.and_eq_true, Bool.and_eq_true]; exact ⟨⟨decide_eq_true (by omega), by decide⟩, by decide⟩
  rw [I_TrimText, strings_Trim, trimO, hd, cond_true, trimS_eq]; rfl
/-! Lists split. -/
def cutG (b : UInt8) : List UInt8 → Bool → Bool → List UInt8 → List (List UInt8)
  | [], _, _, cur => [cur]
  | c :: r, q, true, cur => cutG b r q false (cur ++ [c])
  | c :: r, q, false, cur => bif q && c == 92 then cutG b r q true (cur ++ [c]) else bif c == 34 then cutG b r (!q) false (cur ++ [c]) else bif !q && c == b then cur :: cutG b r q false [] else cutG b r q false (cur ++ [c])
theorem cutG_mem (b : UInt8) : ∀ (l : List UInt8) (q sk : Bool) (cur p : List UInt8), p ∈ cutG b l q sk cur → p.length ≤ cur.length + l.length
  | [], q, sk, cur, p, h => by
    unfold cutG at h
    have : p = cur := by simpa using h
    rw [this]; omega
  | c :: r, q, true, cur, p, h => by
    have := cutG_mem b r q false (cur ++ [c]) p (by simpa [cutG] using h)
    simp at this ⊢; omega
  | c :: r, q, false, cur, p, h => by
    rw [cutG] at h
    have step : ∀ q' sk', p ∈ cutG b r q' sk' (cur ++ [c]) → p.length ≤ cur.length + (c :: r).length := fun q' sk' h => by
      have := cutG_mem b r q' sk' (cur ++ [c]) p h
      simp at this ⊢; omega
    cases h1 : (q && c == 92) with
    | true => rw [h1] at h; exact step _ _ h
    | false =>
      rw [h1] at h
      cases h2 : (c == 34) with
      | true => rw [h2] at h; exact step _ _ h
      | false =>
        rw [h2] at h
        cases h3 : (!q && c == b) with
        | false => rw [h3] at h; exact step _ _ h
        | true =>
          rw [h3] at h
          simp only [cond_true, cond_false] at h
          rcases List.mem_cons.1 h with rfl | h
          · omega
          · have := cutG_mem b r q false [] p h
            simp at this ⊢; omega
theorem cutG_len (b : UInt8) : ∀ (l : List UInt8) (q sk : Bool) (cur : List UInt8), (cutG b l q sk cur).length ≤ l.length + 1
  | [], q, sk, cur => by simp [cutG]
  | c :: r, q, true, cur => by have := cutG_len b r q false (cur ++ [c]); simp [cutG]; omega
  | c :: r, q, false, cur => by
    rw [cutG]
    have s1 := fun q' sk' cur' => cutG_len b r q' sk' cur'
    cases (q && c == 92) with
    | true => rw [cond_true]; have := s1 q true (cur ++ [c]); simp; omega
    | false =>
      cases (c == 34) with
      | true => rw [cond_false, cond_true]; have := s1 (!q) false (cur ++ [c]); simp; omega
      | false =>
        cases (!q && c == b) with
        | true => rw [cond_false, cond_false, cond_true]; have := s1 q false []; simp; omega
        | false => rw [cond_false, cond_false, cond_false]; have := s1 q false (cur ++ [c]); simp; omega
def sub (x : List UInt8) (f i : Nat) : List UInt8 := (x.take i).drop f
theorem sub_succ {x : List UInt8} {f i : Nat} (hf : f ≤ i) (hi : i < x.length) : sub x f (i + 1) = sub x f i ++ [x[i]] := by
  unfold sub
  have : x.take (i + 1) = x.take i ++ [x[i]] := by rw [List.take_add_one, List.getElem?_eq_getElem hi]; rfl
  rw [this, List.drop_append_of_le_length (by simp; omega)]
theorem sub_self (x : List UInt8) (i : Nat) : sub x i i = [] := by unfold sub; rw [List.drop_eq_nil_iff]; simp; omega
theorem sub_end {x : List UInt8} {f i : Nat} (h : x.length ≤ i) : sub x f i = x.drop f := by unfold sub; rw [List.take_of_length_le h]
theorem ssub_sub {x : List UInt8} {f i : Nat} (h1 : f ≤ i) (h : i ≤ x.length) : ssub x (f : Int) (i : Int) = some (sub x f i) := ssub_mid h1 h
theorem cutG_skip {b : UInt8} {x : List UInt8} {f i : Nat} {q : Bool} (hf : f ≤ i) (hi : i < x.length) : cutG b (x.drop (i + 1)) q true (sub x f i ++ [x[i]]) = cutG b (x.drop (i + 2)) q false (sub x f (i + 2)) := by
  rw [← sub_succ hf hi]
  by_cases h : i + 1 < x.length
  · rw [List.drop_eq_getElem_cons h, cutG, sub_succ (by omega) h]
  · rw [List.drop_of_length_le (by omega), List.drop_of_length_le (by omega), cutG, cutG, sub_end (by omega), sub_end (by omega)]
def keepF (p : List UInt8) : List (List UInt8) := bif !(trimT p == []) then [trimT p] else []
def splitL (x : List UInt8) : List (List UInt8) := (cutG 44 x false false []).flatMap keepF
theorem keepF_len (p : List UInt8) : (keepF p).length ≤ 1 := by unfold keepF; cases (trimT p == []) <;> simp
theorem keep_len : ∀ l : List (List UInt8), (l.flatMap keepF).length ≤ l.length
  | [] => by simp
  | p :: l => by
    have := keep_len l
    have := keepF_len p
    rw [List.flatMap_cons, List.length_append, List.length_cons]; omega
theorem splitL_len (x : List UInt8) : (splitL x).length ≤ x.length + 1 := by
  have := keep_len (cutG 44 x false false [])
  have := cutG_len 44 x false false []
  unfold splitL; omega
theorem keepF_nil : keepF [] = [] := rfl
def tailK (x : List UInt8) (f : Nat) (r : List (List UInt8)) : List (List UInt8) := bif decide (f < x.length) then r ++ keepF (x.drop f) else r
theorem tailK_eq (x : List UInt8) (f : Nat) (r : List (List UInt8)) : tailK x f r = r ++ keepF (x.drop f) := by
  unfold tailK
  by_cases h : f < x.length
  · rw [decide_eq_true h]; rfl
  · rw [decide_eq_false h, List.drop_of_length_le (by omega), keepF_nil, List.append_nil]; rfl
theorem I_SplitList_loop {k : Nat} {x : List UInt8} (hx : x.length < 1073741000) : ∀ (n i f : Nat) (q : Bool) (r : List (List UInt8)), f ≤ i → x.length + 2 ≤ i + n → i ≤ x.length + 1 → r.length ≤ i →
    ∃ (f' : Nat) (r' : List (List UInt8)), I_SplitList_b0 k n x (f : Int) q (i : Int) r = some ((f' : Int), r') ∧ r'.length ≤ x.length + 1 ∧ f' ≤ x.length + 1 ∧ r' ++ keepF (x.drop f') = r ++ (cutG 44 (x.drop i) q false (sub x f i)).flatMap keepF := by
  intro n
  induction n with
  | zero => intro i f q r _ h h2; omega
  | succ n ih =>
    intro i f q r hf hn hi hr
    rw [I_SplitList_b0, bif_dec]
    have add : ∀ p : List UInt8, p.length < 1073741824 → ∀ (x5 : Bool) (x6 : Int), ((I_TrimText k p).bind fun w => (I_SplitList_c53 k x x5 x6 w (!(w == [])) r).bind fun o => some (((IntKind.wrap .i64 (x6 + 1)), x5, x6, o))) = some ((IntKind.wrap .i64 (x6 + 1)), x5, x6, r ++ keepF p) := fun p hp x5 x6 => by
      rw [I_TrimText_eq p hp, Option.bind_some, I_SplitList_c53]
      unfold keepF
      cases (trimT p == []) with
      | false => simp only [Bool.not_false, cond_true]; rw [appn_ok (by simp; omega)]; rfl
      | true => simp only [Bool.not_true, cond_false, List.append_nil]; rfl
    by_cases c0 : i ≤ x.length
    · rw [if_pos (by omega)]
      have hmin : (if x.length < i then ((x.length : Nat) : Int) else (i : Int)) = (i : Int) := by rw [if_neg (by omega)]
      by_cases c : i < x.length
      · have u92 := u8_eq x[i] 92
        have u34 := u8_eq x[i] 34
        have u44 := u8_eq x[i] 44
        rw [show (((92 : UInt8).toNat : Nat) : Int) = 92 from rfl] at u92
        rw [show (((34 : UInt8).toNat : Nat) : Int) = 34 from rfl] at u34
        rw [show (((44 : UInt8).toNat : Nat) : Int) = 44 from rfl] at u44
        rw [List.drop_eq_getElem_cons c, cutG]
        have plain := fun q' => ih (i + 1) f q' r (by omega) (by omega) (by omega) (by omega)
        have une : ((UInt8.toNat x[i] : Int) != 44) = !(x[i] == 44) := by rw [← u44]; rfl
        simp only [I_SplitList_b1, bif_dec, lt_cast, c, if_true, idx_nat c, Option.bind_some, I_SplitList_c32, I_SplitList_c41, u92, u34, une, hmin]
        cases q with
        | true =>
          simp only [cond_true, Bool.true_and]
          cases h2 : (x[i] == 34) with
          | true =>
            have h1 : (x[i] == 92) = false := by
              have e : x[i] = 34 := by simpa using h2
              rw [e]; rfl
            simp only [h1, cond_true, cond_false, Option.bind_some, Bool.not_true]
            rw [wrap_succ (by omega), ← sub_succ hf c]; exact plain false
          | false =>
            simp only [cond_false, Option.bind_some, cond_true, Bool.not_true, Bool.false_and]
            cases h1 : (x[i] == 92) with
            | true =>
              simp only [cond_true, Option.bind_some]
              rw [wrap_succ (by omega), wrap_succ (by omega), cutG_skip hf c]
              exact ih (i + 2) f true r (by omega) (by omega) (by omega) (by omega)
            | false => simp only [cond_false, Option.bind_some]; rw [wrap_succ (by omega), ← sub_succ hf c]; exact plain true
        | false =>
          simp only [cond_false, Bool.false_and, Bool.not_false, Bool.true_and]
          cases h3 : (x[i] == 44) with
          | true =>
            have h2 : (x[i] == 34) = false := by
              have e : x[i] = 44 := by simpa using h3
              rw [e]; rfl
            simp only [h2, Bool.not_true, cond_false, cond_true]
            rw [ssub_sub hf (by omega), Option.bind_some, add (sub x f i) (by unfold sub; simp; omega), Option.bind_some]
            simp only
            rw [wrap_succ (by omega)]
            have hk1 := keepF_len (sub x f i)
            obtain ⟨f', r', e1, e2, e3, e4⟩ := ih (i + 1) (i + 1) false (r ++ keepF (sub x f i)) (by omega) (by omega) (by omega) (by simp; omega)
            rw [sub_self] at e4
            exact ⟨f', r', e1, e2, e3, by rw [e4, List.flatMap_cons, List.append_assoc]⟩
          | false =>
            simp only [Bool.not_false, cond_true, cond_false]
            cases h2 : (x[i] == 34) with
            | true =>
              have h1 : (x[i] == 92) = false := by
                have e : x[i] = 34 := by simpa using h2
                rw [e]; rfl
              simp only [h1, cond_true, cond_false, Option.bind_some]
              rw [wrap_succ (by omega), ← sub_succ hf c]; exact plain true
            | false => simp only [cond_false, Option.bind_some]; rw [wrap_succ (by omega), ← sub_succ hf c]; exact plain false
      · have hil : i = x.length := by omega
        simp only [I_SplitList_b1, bif_dec, lt_cast, c, if_false, hmin]
        rw [ssub_sub hf (by omega), Option.bind_some, add (sub x f i) (by unfold sub; simp; omega), Option.bind_some]
        simp only
        rw [wrap_succ (by omega)]
        have hk1 := keepF_len (sub x f i)
        obtain ⟨f', r', e1, e2, e3, e4⟩ := ih (i + 1) (i + 1) q (r ++ keepF (sub x f i)) (by omega) (by omega) (by omega) (by simp; omega)
        refine ⟨f', r', e1, e2, e3, ?_⟩
        rw [e4, List.drop_of_length_le (by omega), List.drop_of_length_le (by omega), sub_self, cutG, cutG]
        simp [keepF_nil]
    · rw [if_neg (by omega), List.drop_of_length_le (by omega), cutG, sub_end (by omega)]
      exact ⟨f, r, rfl, by omega, by omega, by simp⟩
theorem I_SplitList_eq {k : Nat} (hk : 1073741824 ≤ k) (x : List UInt8) (h : x.length < 1073741000) : I_SplitList k x = some (splitL x) := by
  obtain ⟨f', r', e1, e2, e3, e4⟩ := I_SplitList_loop (k := k) h k 0 0 false [] (by omega) (by omega) (by omega) (by simp)
  rw [show ((0 : Nat) : Int) = 0 from rfl] at e1
  have e5 : sub x 0 0 = [] := sub_self x 0
  rw [List.drop_zero, e5, List.nil_append] at e4
  rw [I_SplitList, e1, Option.bind_some, I_SplitList_c63, splitL, ← e4]
  simp only [bif_dec]
  by_cases c : f' < x.length
  · rw [if_pos (by omega), ssub_drop (by omega), Option.bind_some, I_TrimText_eq _ (by simp; omega), Option.bind_some, I_SplitList_c69]
    unfold keepF
    cases (trimT (x.drop f') == []) with
    | false => simp only [Bool.not_false, cond_true]; rw [appn_ok (by simp; omega)]; rfl
    | true => simp only [Bool.not_true, cond_false, List.append_nil]; rfl
  · rw [if_neg (by omega), List.drop_of_length_le (by omega), keepF_nil, List.append_nil]; rfl
theorem lens_cons (p : List UInt8) (l : List (List UInt8)) : Lib.lens (p :: l) = p.length + Lib.lens l := rfl
theorem cutG_sum (b : UInt8) : ∀ (l : List UInt8) (q sk : Bool) (cur : List UInt8), Lib.lens (cutG b l q sk cur) ≤ cur.length + l.length
  | [], q, sk, cur => by rw [cutG, lens_cons]; simp [Lib.lens]
  | c :: r, q, true, cur => by have := cutG_sum b r q false (cur ++ [c]); rw [cutG]; simp at this ⊢; omega
  | c :: r, q, false, cur => by
    rw [cutG]
    have s1 := fun q' sk' => cutG_sum b r q' sk' (cur ++ [c])
    simp only [List.length_append, List.length_cons, List.length_nil] at s1
    rw [List.length_cons]
    cases (q && c == 92) with
    | true => rw [cond_true]; have := s1 q true; omega
    | false =>
      cases (c == 34) with
      | true => rw [cond_false, cond_true]; have := s1 (!q) false; omega
      | false =>
        cases (!q && c == b) with
        | true => rw [cond_false, cond_false, cond_true, lens_cons]; have := cutG_sum b r q false []; simp at this; omega
        | false => rw [cond_false, cond_false, cond_false]; have := s1 q false; omega
theorem keep_sum : ∀ l : List (List UInt8), Lib.lens (l.flatMap keepF) ≤ Lib.lens l
  | [] => by simp
  | p :: l => by
    have h1 := keep_sum l
    have h2 := trimT_len p
    rw [List.flatMap_cons, lens_cons]
    unfold keepF at h1 ⊢
    cases (trimT p == []) with
    | true => simpa using (by omega : Lib.lens (l.flatMap fun p => bif !(trimT p == []) then [trimT p] else []) ≤ p.length + Lib.lens l)
    | false => simp only [Bool.not_false, cond_true, List.cons_append, List.nil_append, lens_cons]; omega
theorem splitL_sum (x : List UInt8) : Lib.lens (splitL x) ≤ x.length := by
  have h1 := keep_sum (cutG 44 x false false [])
  have h2 := cutG_sum 44 x false false []
  unfold splitL; simp at h2; omega
/-! Text split at a byte. -/
def cutP (b : UInt8) : List UInt8 → List UInt8 → List (List UInt8)
  | [], cur => [cur]
  | c :: r, cur => bif c == b then cur :: cutP b r [] else cutP b r (cur ++ [c])
theorem cutP_mem (b : UInt8) : ∀ (l cur p : List UInt8), p ∈ cutP b l cur → p.length ≤ cur.length + l.length
  | [], cur, p, h => by
    have : p = cur := by simpa [cutP] using h
    rw [this]; omega
  | c :: r, cur, p, h => by
    rw [cutP] at h
    cases h3 : (c == b) with
    | true =>
      rw [h3, cond_true] at h
      rcases List.mem_cons.1 h with rfl | h
      · omega
      · have := cutP_mem b r [] p h
        simp at this ⊢; omega
    | false =>
      rw [h3, cond_false] at h
      have := cutP_mem b r (cur ++ [c]) p h
      simp at this ⊢; omega
theorem cutP_len (b : UInt8) : ∀ (l cur : List UInt8), (cutP b l cur).length ≤ l.length + 1
  | [], cur => by simp [cutP]
  | c :: r, cur => by
    rw [cutP]
    have h1 := cutP_len b r []
    have h2 := cutP_len b r (cur ++ [c])
    cases (c == b) with
    | true => rw [cond_true]; simp; omega
    | false => rw [cond_false]; simp; omega
theorem cutP_pos (b : UInt8) : ∀ (l cur : List UInt8), 0 < (cutP b l cur).length
  | [], cur => by simp [cutP]
  | c :: r, cur => by
    rw [cutP]
    have h2 := cutP_pos b r (cur ++ [c])
    cases (c == b) with
    | true => rw [cond_true]; simp
    | false => rw [cond_false]; exact h2
theorem index_cons (b c : UInt8) (r : List UInt8) : Lib.index (c :: r) [b] = if c == b then 0 else if Lib.index r [b] == -1 then -1 else Lib.index r [b] + 1 := by
  rw [Lib.index_one, Lib.index_one, Lib.indexByte]
theorem count_first (b c : UInt8) (r : List UInt8) (h : (c == b) = true) : Lib.count (c :: r) [b] = 1 + Lib.count r [b] := by
  have := Lib.count_hit (s := c :: r) (sub := [b]) (i := 0) (by simp) (by rw [index_cons, if_pos h]; rfl)
  simpa using this
theorem split_cons (b c : UInt8) (r : List UInt8) : Lib.split (c :: r) [b] = bif c == b then [] :: Lib.split r [b] else match Lib.split r [b] with | [] => [[c]] | p :: ps => (c :: p) :: ps := by
  cases h : (c == b) with
  | true =>
    unfold Lib.split
    rw [count_first b c r h, Nat.add_comm, Lib.splitK, index_cons, if_pos h]
    simp
  | false =>
    rw [cond_false]
    have hn : ¬ (c == b) = true := by rw [h]; exact Bool.false_ne_true
    have hi := index_cons b c r
    rw [if_neg hn] at hi
    rcases Lib.index_spec r [b] with ⟨h1, _⟩ | ⟨i, h1, _, _, _⟩
    · rw [h1] at hi
      unfold Lib.split
      rw [Lib.count_miss h1, Lib.count_miss (s := c :: r) (by rw [hi]; rfl), Lib.splitK, Lib.splitK]
    · have hm : ¬ ((i : Int) == -1) = true := fun e => by have := beq_iff_eq.1 e; omega
      rw [h1, if_neg hm] at hi
      have c1 := Lib.count_hit (s := r) (sub := [b]) (i := i) (by simp) h1
      have c2 := Lib.count_hit (s := c :: r) (sub := [b]) (i := i + 1) (by simp) (by rw [hi]; rfl)
      have hm2 : ¬ ((i : Int) + 1 == -1) = true := fun e => by have := beq_iff_eq.1 e; omega
      unfold Lib.split
      rw [c1, c2, Nat.add_comm 1, Nat.add_comm 1, Lib.splitK, Lib.splitK, h1, hi, if_neg hm, if_neg hm2]
      rw [show ((i : Int) + 1).toNat = i + 1 by omega, show ((i : Int)).toNat = i by omega]
      simp [List.take_succ_cons, Nat.add_right_comm]
theorem split_ne (b : UInt8) (s : List UInt8) : Lib.split s [b] ≠ [] := by
  unfold Lib.split
  cases Lib.count s [b] with
  | zero => simp [Lib.splitK]
  | succ n => rw [Lib.splitK]; split <;> simp
theorem cutP_split (b : UInt8) : ∀ (s cur : List UInt8), cutP b s cur = match Lib.split s [b] with | [] => [] | p :: ps => (cur ++ p) :: ps
  | [], cur => by
    have : Lib.split [] [b] = [[]] := by
      unfold Lib.split
      rw [Lib.count_miss (by rw [Lib.index_one]; rfl)]; rfl
    rw [this]; simp [cutP]
  | c :: r, cur => by
    have h1 := cutP_split b r []
    have h2 := cutP_split b r (cur ++ [c])
    have hne := split_ne b r
    rw [cutP, split_cons, h1, h2]
    cases hs : Lib.split r [b] with
    | nil => exact absurd hs hne
    | cons p ps =>
      cases (c == b) with
      | true => simp
      | false => simp
theorem split_cutP (b : UInt8) (s : List UInt8) : Lib.split s [b] = cutP b s [] := by
  rw [cutP_split]
  cases hs : Lib.split s [b] with
  | nil => exact absurd hs (split_ne b s)
  | cons p ps => simp
theorem strings_Split_eq {k : Nat} (x : List UInt8) (b : UInt8) (h : x.length < 1073741824) : strings_Split k x [b] = some (cutP b x []) := by
  have hd : (decide (x.length < 4294967281) && decide (1 ≤ [b].length)) = true := by rw [Bool.and_eq_true]; exact ⟨decide_eq_true (by omega), by simp⟩
  rw [strings_Split, splitO, hd, cond_true, ← split_cutP]; rfl
/-! Lists joined. -/
def joinT (l : List (List UInt8)) : List UInt8 := Lib.join l [44, 32]
theorem joinT_len (l : List (List UInt8)) : (joinT l).length ≤ 2 * l.length + Lib.lens l := by
  cases l with
  | nil => simp [joinT, Lib.join_nil]
  | cons x r => unfold joinT; rw [Lib.join_length]; simp; omega
theorem I_JoinList_eq {k : Nat} (l : List (List UInt8)) (h : 2 * l.length + Lib.lens l < 1073741824) : I_JoinList k l = some (joinT l) := by
  have hl := joinT_len l
  have hd : (decide (l.length ≤ 140737488355328) && decide ((Lib.join l [44, 32]).length ≤ 140737488355328)) = true := by
    rw [Bool.and_eq_true]; exact ⟨decide_eq_true (by omega), decide_eq_true (by unfold joinT at hl; omega)⟩
  rw [I_JoinList, strings_Join, joinO, hd]; rfl
/-! A list that is joined and split again. -/
def noQ (x : List UInt8) : Prop := ∀ c ∈ x, c ≠ 34
theorem cutG_plain (b : UInt8) : ∀ (x cur : List UInt8), noQ x → cutG b x false false cur = cutP b x cur
  | [], cur, _ => by rw [cutG, cutP]
  | c :: r, cur, h => by
    have h1 : (c == 34) = false := beq_eq_false_iff_ne.2 (h c (.head _))
    have h2 : noQ r := fun d hd => h d (.tail _ hd)
    rw [cutG, cutP, Bool.false_and, cond_false, h1, cond_false, Bool.not_false, Bool.true_and, cutG_plain b r [] h2, cutG_plain b r (cur ++ [c]) h2]
theorem cutP_el (b : UInt8) : ∀ (l cur p : List UInt8), p ∈ cutP b l cur → ∀ c ∈ p, c ∈ cur ∨ (c ∈ l ∧ c ≠ b)
  | [], cur, p, h, c, hc => by
    have : p = cur := by simpa [cutP] using h
    exact .inl (this ▸ hc)
  | d :: r, cur, p, h, c, hc => by
    rw [cutP] at h
    cases h3 : (d == b) with
    | true =>
      rw [h3, cond_true] at h
      rcases List.mem_cons.1 h with rfl | h
      · exact .inl hc
      · rcases cutP_el b r [] p h c hc with h' | ⟨h1, h2⟩
        · cases h'
        · exact .inr ⟨.tail _ h1, h2⟩
    | false =>
      rw [h3, cond_false] at h
      rcases cutP_el b r (cur ++ [d]) p h c hc with h' | ⟨h1, h2⟩
      · rcases List.mem_append.1 h' with h' | h'
        · exact .inl h'
        · have : c = d := by simpa using h'
          subst this
          exact .inr ⟨.head _, by simpa using h3⟩
      · exact .inr ⟨.tail _ h1, h2⟩
theorem dropW_idem (p : UInt8 → Bool) : ∀ l : List UInt8, (l.dropWhile p).dropWhile p = l.dropWhile p
  | [] => rfl
  | a :: l => by
    cases h : p a with
    | true => rw [List.dropWhile_cons_of_pos h]; exact dropW_idem p l
    | false => rw [List.dropWhile_cons_of_neg (by simp [h]), List.dropWhile_cons_of_neg (by simp [h])]
theorem rtrim_idem (x : List UInt8) : rtrim (rtrim x) = rtrim x := by unfold rtrim; rw [List.reverse_reverse, dropW_idem]
theorem trimT_idem (x : List UInt8) : trimT (trimT x) = trimT x := by
  have h : (trimT x).dropWhile blank = trimT x := by unfold trimT; rw [trim_comm, dropW_idem]
  show rtrim ((trimT x).dropWhile blank) = trimT x
  rw [h]; unfold trimT; rw [rtrim_idem]
theorem trimT_sub {x : List UInt8} {c : UInt8} (h : c ∈ trimT x) : c ∈ x := by
  unfold trimT rtrim at h
  have h1 := (List.dropWhile_sublist _).subset (List.mem_reverse.1 h)
  exact (List.dropWhile_sublist _).subset (List.mem_reverse.1 h1)
def goodP (p : List UInt8) : Prop := p ≠ [] ∧ (∀ c ∈ p, c ≠ 44 ∧ c ≠ 34) ∧ trimT p = p
theorem keepF_mem {p q : List UInt8} (h : q ∈ keepF p) : q = trimT p ∧ q ≠ [] := by
  unfold keepF at h
  cases hc : (trimT p == []) with
  | true => rw [hc] at h; simp at h
  | false =>
    rw [hc] at h
    have : q = trimT p := by simpa using h
    subst this
    exact ⟨rfl, by simpa using hc⟩
theorem splitL_good {x : List UInt8} (h : noQ x) : ∀ p ∈ splitL x, goodP p := by
  intro p hp
  unfold splitL at hp
  rw [cutG_plain 44 x [] h] at hp
  obtain ⟨y, hy, hp⟩ := List.mem_flatMap.1 hp
  obtain ⟨rfl, h2⟩ := keepF_mem hp
  refine ⟨h2, fun c hc => ?_, trimT_idem y⟩
  rcases cutP_el 44 x [] y hy c (trimT_sub hc) with h' | ⟨h3, h4⟩
  · cases h'
  · exact ⟨h4, h c h3⟩
theorem cutP_one (b : UInt8) : ∀ (p cur : List UInt8), (∀ c ∈ p, c ≠ b) → cutP b p cur = [cur ++ p]
  | [], cur, _ => by rw [cutP, List.append_nil]
  | c :: r, cur, h => by
    rw [cutP, beq_eq_false_iff_ne.2 (h c (.head _)), cond_false, cutP_one b r _ fun d hd => h d (.tail _ hd), List.append_assoc]; rfl
theorem cutP_app (b : UInt8) (rest : List UInt8) : ∀ (p cur : List UInt8), (∀ c ∈ p, c ≠ b) → cutP b (p ++ b :: rest) cur = (cur ++ p) :: cutP b rest []
  | [], cur, _ => by rw [List.nil_append, cutP, BEq.rfl, cond_true, List.append_nil]
  | c :: r, cur, h => by
    rw [List.cons_append, cutP, beq_eq_false_iff_ne.2 (h c (.head _)), cond_false, cutP_app b rest r _ fun d hd => h d (.tail _ hd), List.append_assoc]; rfl
theorem joinT_two (p q : List UInt8) (r : List (List UInt8)) : joinT (p :: q :: r) = p ++ 44 :: ([32] ++ joinT (q :: r)) := by
  unfold joinT
  rw [Lib.join_cons, Lib.join_cons]
  simp [Lib.joinTail]
theorem joinT_one (p : List UInt8) : joinT [p] = p := by unfold joinT; rw [Lib.join_cons]; simp [Lib.joinTail]
theorem joinT_mem {c : UInt8} : ∀ l : List (List UInt8), c ∈ joinT l → c = 44 ∨ c = 32 ∨ ∃ p ∈ l, c ∈ p
  | [], h => by simp [joinT, Lib.join_nil] at h
  | [p], h => by rw [joinT_one] at h; exact .inr (.inr ⟨p, .head _, h⟩)
  | p :: q :: r, h => by
    rw [joinT_two] at h
    rcases List.mem_append.1 h with h | h
    · exact .inr (.inr ⟨p, .head _, h⟩)
    rcases List.mem_cons.1 h with h | h
    · exact .inl h
    rcases List.mem_append.1 h with h | h
    · exact .inr (.inl (by simpa using h))
    rcases joinT_mem (q :: r) h with h | h | ⟨s, h1, h2⟩
    · exact .inl h
    · exact .inr (.inl h)
    · exact .inr (.inr ⟨s, .tail _ h1, h2⟩)
theorem noQ_join {l : List (List UInt8)} (h : ∀ p ∈ l, noQ p) : noQ (joinT l) := fun c hc => by
  rcases joinT_mem l hc with h' | h' | ⟨p, h1, h2⟩
  · subst h'; decide
  · subst h'; decide
  · exact h p h1 c h2
theorem blank_comma {c : UInt8} (h : blank c = true) : c ≠ 44 := fun e => by subst e; revert h; decide
theorem trimT_pre {pre p : List UInt8} (h : ∀ c ∈ pre, blank c = true) : trimT (pre ++ p) = trimT p := by
  unfold trimT
  rw [List.dropWhile_append_of_pos h]
theorem keep_good {p : List UInt8} (h : goodP p) {pre : List UInt8} (hp : ∀ c ∈ pre, blank c = true) : keepF (pre ++ p) = [p] := by
  unfold keepF
  rw [trimT_pre hp, h.2.2, beq_eq_false_iff_ne.2 h.1]; rfl
theorem split_join : ∀ (l : List (List UInt8)), (∀ p ∈ l, goodP p) → ∀ pre : List UInt8, (∀ c ∈ pre, blank c = true) → (cutP 44 (pre ++ joinT l) []).flatMap keepF = l
  | [], _, pre, hp => by
    rw [show joinT [] = [] from rfl, List.append_nil, cutP_one 44 pre [] fun c hc => blank_comma (hp c hc)]
    have : trimT pre = [] := by have := trimT_pre (p := []) hp; rw [List.append_nil] at this; rw [this]; rfl
    simp [keepF, this]
  | [p], h, pre, hp => by
    have hg := h p (.head _)
    rw [joinT_one, cutP_one 44 (pre ++ p) [] fun c hc => by
      rcases List.mem_append.1 hc with hc | hc
      · exact blank_comma (hp c hc)
      · exact (hg.2.1 c hc).1]
    rw [List.flatMap_cons, List.nil_append, keep_good hg hp]; rfl
  | p :: q :: r, h, pre, hp => by
    have hg := h p (.head _)
    rw [joinT_two, ← List.append_assoc, cutP_app 44 _ (pre ++ p) [] fun c hc => by
      rcases List.mem_append.1 hc with hc | hc
      · exact blank_comma (hp c hc)
      · exact (hg.2.1 c hc).1]
    rw [List.flatMap_cons, List.nil_append, keep_good hg hp, split_join (q :: r) (fun s hs => h s (.tail _ hs)) [32] (by decide)]; rfl
theorem splitL_join {l : List (List UInt8)} (h : ∀ p ∈ l, goodP p) : splitL (joinT l) = l := by
  unfold splitL
  rw [cutG_plain 44 _ [] (noQ_join fun p hp c hc => ((h p hp).2.1 c hc).2)]
  exact split_join l h [] (by simp)
theorem splitL_twice {x : List UInt8} (h : noQ x) : splitL (joinT (splitL x)) = splitL x := splitL_join (splitL_good h)
/-! The cursor that draws: every draw is total. -/
def CurOk (c : Sl1Cur) : Prop := 0 ≤ c.i ∧ c.i ≤ (c.b.length : Int) ∧ c.b.length ≤ 1048576
theorem and255 (n : Int) : 0 ≤ andI .i64 n 255 ∧ andI .i64 n 255 ≤ 255 := by
  have h : (BitVec.ofInt 64 n &&& BitVec.ofInt 64 255).toNat ≤ 255 := by
    rw [BitVec.toNat_and]; exact Nat.le_trans Nat.and_le_right (by decide)
  show 0 ≤ IntKind.wrap .i64 (((BitVec.ofInt 64 n &&& BitVec.ofInt 64 255).toNat : Nat) : Int) ∧ IntKind.wrap .i64 (((BitVec.ofInt 64 n &&& BitVec.ofInt 64 255).toNat : Nat) : Int) ≤ 255
  rw [wrap_id (by omega) (by omega)]; omega
theorem S_l1Byte_tot {k : Nat} {c : Sl1Cur} (h : CurOk c) : ∃ v c', S_l1Byte k c = some (v, c') ∧ (0 ≤ v ∧ v ≤ 255) ∧ CurOk c' := by
  obtain ⟨b, i, hh⟩ := c
  obtain ⟨h1, h2, h3⟩ := h
  obtain ⟨n, rfl⟩ := Int.eq_ofNat_of_zero_le h1
  have h2 : (n : Int) ≤ (b.length : Int) := h2
  have h3 : b.length ≤ 1048576 := h3
  unfold S_l1Byte
  generalize IntKind.wrap .i64 (IntKind.wrap .i64 ((⟨b, (n : Int), hh⟩ : Sl1Cur).h * 6364136223846793005) + 1442695040888963407) = g
  obtain ⟨q1, e1⟩ : ∃ q, shrI .i64 g 33 = some q := ⟨_, rfl⟩
  obtain ⟨q2, e2⟩ : ∃ q, shrI .i64 g 47 = some q := ⟨_, rfl⟩
  rw [e1, Option.bind_some, e2, Option.bind_some, S_l1Byte_c34, bif_dec]
  by_cases c : (n : Int) < (b.length : Int)
  · have e3 : idx b (n : Int) = some b[n] := idx_nat (by omega)
    rw [if_pos c]
    simp only [e3, Option.bind_some]
    refine ⟨_, _, rfl, and255 _, ?_, ?_, h3⟩
    · show 0 ≤ IntKind.wrap .i64 ((n : Int) + 1)
      rw [wrap_succ (by omega)]; omega
    · show IntKind.wrap .i64 ((n : Int) + 1) ≤ (b.length : Int)
      rw [wrap_succ (by omega)]; omega
  · rw [if_neg c, Option.bind_some]
    exact ⟨_, _, rfl, and255 _, h1, h2, h3⟩
theorem md_pos {a n : Int} (h : 0 ≤ a) (hn : 0 < n) : ∃ r, md a n = some r ∧ 0 ≤ r ∧ r < n :=
  ⟨a.tmod n, by unfold md; rw [if_neg (by omega)], Int.tmod_nonneg n h, Int.tmod_lt_of_pos a hn⟩
theorem S_l1Below_tot {k : Nat} {c : Sl1Cur} (h : CurOk c) {n : Int} (hn : 0 < n) : ∃ v c', S_l1Below k c n = some (v, c') ∧ (0 ≤ v ∧ v < n) ∧ CurOk c' := by
  unfold S_l1Below
  rw [bif_dec, if_neg (by omega), bif_dec]
  obtain ⟨v1, c1, e1, ⟨a1, b1⟩, h1⟩ := S_l1Byte_tot (k := k) h
  rw [e1]
  by_cases hs : n ≤ 256
  · rw [if_pos hs, Option.bind_some]
    obtain ⟨r, er, hr⟩ := md_pos a1 hn
    rw [er]
    exact ⟨_, _, rfl, hr, h1⟩
  · rw [if_neg hs, Option.bind_some]
    obtain ⟨v2, c2, e2, ⟨a2, b2⟩, h2⟩ := S_l1Byte_tot (k := k) h1
    obtain ⟨v3, c3, e3, ⟨a3, b3⟩, h3⟩ := S_l1Byte_tot (k := k) h2
    rw [e2, Option.bind_some, e3, Option.bind_some]
    rw [wrap_id (n := v1 * 65536) (by omega) (by omega), wrap_id (n := v2 * 256) (by omega) (by omega), wrap_id (n := v1 * 65536 + v2 * 256) (by omega) (by omega), wrap_id (by omega) (by omega)]
    obtain ⟨r, er, hr⟩ := md_pos (a := v1 * 65536 + v2 * 256 + v3) (by omega) hn
    rw [er]
    exact ⟨_, _, rfl, hr, h3⟩
theorem S_l1Str_tot {k : Nat} {c : Sl1Cur} (h : CurOk c) {l : List (List UInt8)} (h0 : 0 < l.length) : ∃ s c', S_l1Str k c l = some (s, c') ∧ s ∈ l ∧ CurOk c' := by
  unfold S_l1Str
  obtain ⟨v, c1, e1, ⟨a1, b1⟩, h1⟩ := S_l1Below_tot (k := k) h (n := (l.length : Int)) (by omega)
  obtain ⟨m, rfl⟩ := Int.eq_ofNat_of_zero_le a1
  rw [e1, Option.bind_some, idx_nat (by omega), Option.bind_some]
  exact ⟨_, _, rfl, List.getElem_mem _, h1⟩
theorem S_l1Str_len {k : Nat} {c : Sl1Cur} (h : CurOk c) {l : List (List UInt8)} (h0 : 0 < l.length) {n : Nat} (hn : ∀ s ∈ l, s.length ≤ n) : ∃ s c', S_l1Str k c l = some (s, c') ∧ s.length ≤ n ∧ CurOk c' := by
  obtain ⟨s, c', e, hs, h'⟩ := S_l1Str_tot (k := k) h h0
  exact ⟨s, c', e, hn s hs, h'⟩
theorem S_l1New_loop {k : Nat} {x : List Int} (hx : x.length ≤ 1048576) : ∀ (n i : Nat) (s : Int), i ≤ x.length → x.length - i < n → ∃ r, S_l1New_b0 k n x s (i : Int) = some r := by
  intro n
  induction n with
  | zero => intro i s _ h; omega
  | succ n ih =>
    intro i s hi hn
    rw [S_l1New_b0, bif_dec, bif_dec]
    by_cases c : (i : Int) < (x.length : Int)
    · rw [if_pos c]
      by_cases c2 : (i : Int) < 4000
      · rw [if_pos c2, idx_nat (by omega), Option.bind_some, wrap_succ (by omega)]
        exact ih (i + 1) _ (by omega) (by omega)
      · rw [if_neg c2]; exact ⟨_, rfl⟩
    · rw [if_neg c]; exact ⟨_, rfl⟩
theorem S_l1New_tot {k : Nat} (hk : 1073741824 ≤ k) {x : List Int} (hx : x.length ≤ 1048576) : ∃ c, S_l1New k x = some c ∧ CurOk c := by
  unfold S_l1New
  obtain ⟨r, e⟩ := S_l1New_loop (k := k) hx k 0 (IntKind.wrap .i64 ((271091 : Int) + (x.length : Int))) (by omega) (by omega)
  rw [show (((0 : Nat)) : Int) = 0 from rfl] at e
  rw [e, Option.bind_some]
  exact ⟨_, rfl, by show (0 : Int) ≤ 0; omega, by show (0 : Int) ≤ (x.length : Int); omega, hx⟩
theorem wrap_pred {j : Nat} (h : j + 1 ≤ 9223372036854775807) : IntKind.wrap .i64 (((j + 1 : Nat) : Int) - 1) = (j : Int) := by rw [wrap_id (by omega) (by omega)]; omega
theorem L_big_eq {k : Nat} {x : List Int} : L_big k x = some (decide ((x.length : Int) > 1048576)) := rfl
/-! A field's values. -/
def valOfF (n : List UInt8) (e : IField) : List (List UInt8) := bif e.Name == n then [e.Value] else []
def valsF (l : List IField) (n : List UInt8) : List (List UInt8) := l.flatMap (valOfF n)
def fsz (l : List IField) : Nat := l.length + (l.map fun e => e.Value.length).sum
theorem valsF_len (n : List UInt8) : ∀ l : List IField, (valsF l n).length ≤ l.length
  | [] => by simp [valsF]
  | e :: l => by
    have := valsF_len n l
    unfold valsF at this ⊢
    rw [List.flatMap_cons, List.length_append]
    have h2 : (valOfF n e).length ≤ 1 := by unfold valOfF; cases (e.Name == n) <;> simp
    rw [List.length_cons]; omega
theorem valsF_lens (n : List UInt8) : ∀ l : List IField, Lib.lens (valsF l n) ≤ (l.map fun e => e.Value.length).sum
  | [] => by simp [valsF, Lib.lens]
  | e :: l => by
    have := valsF_lens n l
    unfold valsF at this ⊢
    rw [List.flatMap_cons]
    unfold valOfF at this ⊢
    cases (e.Name == n) with
    | true => simp only [cond_true, List.cons_append, List.nil_append, List.map_cons, List.sum_cons]; show e.Value.length + Lib.lens _ ≤ _; omega
    | false => simp only [cond_false, List.nil_append, List.map_cons, List.sum_cons]; omega
def getF (l : List IField) (n : List UInt8) : List UInt8 × Bool := (joinT (valsF l n), decide (((valsF l n).length : Int) > 0))
theorem getF_len (l : List IField) (n : List UInt8) : (getF l n).1.length ≤ 2 * fsz l := by
  have h1 := joinT_len (valsF l n)
  have h2 := valsF_len n l
  have h3 := valsF_lens n l
  unfold getF fsz; simp only; omega
theorem I_GetField_eq {k : Nat} (hk : 1073741824 ≤ k) (l : List IField) (n : List UInt8) (h : fsz l < 268435456) : I_GetField k l n = some (getF l n) := by
  have hl : l.length < 268435456 := by unfold fsz at h; omega
  have := fold_all (len := l.length) (g := fun j s => s ++ (l[j]?).elim [] (valOfF n)) (Inv := fun i s => s.length ≤ i) (F := fun m i s => I_GetField_b0 k m n l (l.length : Int) i s) (out := id) (fun m i s hi hI => by
    simp only [I_GetField_b0, bif_dec, lt_cast, hi, if_true, I_GetField_b1, idx_nat hi, Option.bind_some, I_GetField_c19, wrap_succ (by omega : i < 9223372036854775807), List.getElem?_eq_getElem hi, Option.elim_some, valOfF]
    cases (l[i].Name == n) with
    | true => rw [cond_true, cond_true, appn_ok (by simp; omega)]; exact ⟨rfl, by simp; omega⟩
    | false => rw [cond_false, cond_false, List.append_nil]; exact ⟨rfl, by omega⟩) (fun m i s hi => by
    simp only [I_GetField_b0, bif_dec, lt_cast]
    rw [if_neg (by omega)]; rfl) (k := k) (by omega) (s := []) (by simp)
  have h1 : I_GetField_b0 k k n l (l.length : Int) 0 [] = some (foldI (fun j s => s ++ (l[j]?).elim [] (valOfF n)) l.length 0 []) := this.1
  have h2 := valsF_len n l
  have h3 := valsF_lens n l
  have hv : foldI (fun j s => s ++ (l[j]?).elim [] (valOfF n)) l.length 0 [] = valsF l n := by
    rw [foldI_append (f := valOfF n) l.length 0 [] (by omega), List.drop_zero]; rfl
  rw [I_GetField, h1, hv, Option.bind_some, I_JoinList_eq _ (by unfold fsz at h; omega)]; rfl
/-! Fields that are drawn. -/
def shortF (e : IField) : Prop := e.Value.length ≤ 60 ∧ noQ e.Value
theorem fsz_le {n : Nat} : ∀ {l : List IField}, (∀ e ∈ l, e.Value.length ≤ n) → fsz l ≤ l.length + l.length * n
  | [], _ => by simp [fsz]
  | e :: l, h => by
    have h1 := h e (.head _)
    have h2 := fsz_le (l := l) fun e he => h e (.tail _ he)
    unfold fsz at h2 ⊢
    simp only [List.length_cons, List.map_cons, List.sum_cons, Nat.add_mul, Nat.one_mul] at h2 ⊢
    omega
theorem S_l14Fields_loop {k : Nat} : ∀ (n j : Nat) (r : List IField) (b : List Int) (i h : Int), j < n → r.length + j ≤ 100 → CurOk ⟨b, i, h⟩ → (∀ e ∈ r, shortF e) →
    ∃ b' i' h' t, S_l14Fields_b0 k n (j : Int) b i h r = some (b', i', h', t) ∧ t.length ≤ r.length + j ∧ CurOk ⟨b', i', h'⟩ ∧ ∀ e ∈ t, shortF e := by
  intro n
  induction n with
  | zero => intro j r b i h hj; omega
  | succ n ih =>
    intro j r b i h hj hx hc hr
    rw [S_l14Fields_b0, bif_dec]
    cases j with
    | zero => rw [if_neg (by omega)]; exact ⟨_, _, _, _, rfl, by omega, hc, hr⟩
    | succ j =>
      rw [if_pos (by omega)]
      obtain ⟨s1, c1, e1, l1, h1⟩ := S_l1Str_tot (k := k) hc (l := [([97, 99, 99, 101, 112, 116, 45, 108, 97, 110, 103, 117, 97, 103, 101] : List UInt8), ([97, 117, 116, 104, 111, 114, 105, 122, 97, 116, 105, 111, 110] : List UInt8), ([97] : List UInt8)]) (by decide)
      rw [e1, Option.bind_some]
      obtain ⟨s2, c2, e2, l2, h2⟩ := S_l1Str_tot (k := k) h1 (l := [([100, 101] : List UInt8), ([100, 101, 32, 44, 32, 101, 110] : List UInt8), ([100, 101, 44, 101, 110] : List UInt8), ([] : List UInt8), ([117, 49] : List UInt8), ([117, 50] : List UInt8)]) (by decide)
      have g2 : s2.length ≤ 60 ∧ ∀ c ∈ s2, c ≠ 34 := (show ∀ s ∈ [([100, 101] : List UInt8), ([100, 101, 32, 44, 32, 101, 110] : List UInt8), ([100, 101, 44, 101, 110] : List UInt8), ([] : List UInt8), ([117, 49] : List UInt8), ([117, 50] : List UInt8)], s.length ≤ 60 ∧ ∀ c ∈ s, c ≠ 34 by decide) s2 l2
      simp only [e2, Option.bind_some]
      rw [appn_ok (by simp only [List.length_cons, List.length_nil]; omega), Option.bind_some, wrap_pred (by omega)]
      obtain ⟨b', i', h', t, e, hl, hc', ht⟩ := ih j (r ++ [⟨s1, s2⟩]) c2.b c2.i c2.h (by omega) (by simp only [List.length_append, List.length_cons, List.length_nil]; omega) h2 (fun e he => by
        rcases List.mem_append.1 he with he | he
        · exact hr e he
        · have : e = ⟨s1, s2⟩ := by simpa using he
          subst this; exact g2)
      exact ⟨b', i', h', t, e, by simp only [List.length_append, List.length_cons, List.length_nil] at hl; omega, hc', ht⟩
theorem S_l14Fields_tot {k : Nat} (hk : 1073741824 ≤ k) {c : Sl1Cur} (h : CurOk c) : ∃ t c', S_l14Fields k c = some (t, c') ∧ CurOk c' ∧ t.length ≤ 3 ∧ ∀ e ∈ t, shortF e := by
  unfold S_l14Fields
  obtain ⟨v, c1, e1, ⟨a1, b1⟩, h1⟩ := S_l1Below_tot (k := k) h (n := 4) (by omega)
  obtain ⟨m, rfl⟩ := Int.eq_ofNat_of_zero_le a1
  rw [e1, Option.bind_some]
  obtain ⟨b', i', h', t, e, hl, hc', ht⟩ := S_l14Fields_loop (k := k) k m [] c1.b c1.i c1.h (by omega) (by simp only [List.length_nil]; omega) h1 (by simp)
  simp only [e, Option.bind_some]
  exact ⟨t, _, rfl, hc', by simp only [List.length_nil] at hl; omega, ht⟩
theorem S_l5Draw_loop {k : Nat} : ∀ (n j : Nat) (r : List IField) (b : List Int) (i h : Int), j < n → r.length + j ≤ 100 → CurOk ⟨b, i, h⟩ → (∀ e ∈ r, e.Value.length ≤ 60) →
    ∃ b' i' h' t, S_l5Draw_b0 k n (j : Int) b i h r = some (b', i', h', t) ∧ t.length ≤ r.length + j ∧ CurOk ⟨b', i', h'⟩ ∧ ∀ e ∈ t, e.Value.length ≤ 60 := by
  intro n
  induction n with
  | zero => intro j r b i h hj; omega
  | succ n ih =>
    intro j r b i h hj hx hc hr
    rw [S_l5Draw_b0, bif_dec]
    cases j with
    | zero => rw [if_neg (by omega)]; exact ⟨_, _, _, _, rfl, by omega, hc, hr⟩
    | succ j =>
      rw [if_pos (by omega)]
      obtain ⟨s1, c1, e1, l1, h1⟩ := S_l1Str_tot (k := k) hc (l := [([97, 99, 99, 101, 112, 116, 45, 108, 97, 110, 103, 117, 97, 103, 101] : List UInt8), ([97] : List UInt8), ([98] : List UInt8), ([99, 97, 99, 104, 101, 45, 99, 111, 110, 116, 114, 111, 108] : List UInt8), ([120, 45, 107] : List UInt8), ([97] : List UInt8)]) (by decide)
      rw [e1, Option.bind_some]
      obtain ⟨s2, c2, e2, l2, h2⟩ := S_l1Str_len (k := k) h1 (l := [([] : List UInt8), ([100, 101, 44, 32, 101, 110] : List UInt8), ([110, 111, 45, 99, 97, 99, 104, 101] : List UInt8), ([49] : List UInt8), ([120, 32, 32, 121] : List UInt8), ([109, 97, 120, 45, 97, 103, 101, 61, 53] : List UInt8), ([34, 113, 34] : List UInt8)]) (by decide) (n := 60) (by decide)
      simp only [e2, Option.bind_some]
      rw [appn_ok (by simp only [List.length_cons, List.length_nil]; omega), Option.bind_some, wrap_pred (by omega)]
      obtain ⟨b', i', h', t, e, hl, hc', ht⟩ := ih j (r ++ [⟨s1, s2⟩]) c2.b c2.i c2.h (by omega) (by simp only [List.length_append, List.length_cons, List.length_nil]; omega) h2 (fun e he => by
        rcases List.mem_append.1 he with he | he
        · exact hr e he
        · have : e = ⟨s1, s2⟩ := by simpa using he
          subst this; exact l2)
      exact ⟨b', i', h', t, e, by simp only [List.length_append, List.length_cons, List.length_nil] at hl; omega, hc', ht⟩
theorem S_l5Draw_tot {k : Nat} (hk : 1073741824 ≤ k) {c : Sl1Cur} (h : CurOk c) : ∃ t c', S_l5Draw k c = some (t, c') ∧ CurOk c' ∧ t.length ≤ 5 ∧ ∀ e ∈ t, e.Value.length ≤ 60 := by
  unfold S_l5Draw
  obtain ⟨v, c1, e1, ⟨a1, b1⟩, h1⟩ := S_l1Below_tot (k := k) h (n := 6) (by omega)
  obtain ⟨m, rfl⟩ := Int.eq_ofNat_of_zero_le a1
  rw [e1, Option.bind_some]
  obtain ⟨b', i', h', t, e, hl, hc', ht⟩ := S_l5Draw_loop (k := k) k m [] c1.b c1.i c1.h (by omega) (by simp only [List.length_nil]; omega) h1 (by simp)
  simp only [e, Option.bind_some]
  exact ⟨t, _, rfl, hc', by simp only [List.length_nil] at hl; omega, ht⟩
theorem S_l1Once_tot {k : Nat} {c : Sl1Cur} (h : CurOk c) {n : Int} (hn : 0 < n) : ∃ v c', S_l1Once k c n = some (v, c') ∧ CurOk c' := by
  unfold S_l1Once
  obtain ⟨v, c1, e1, _, h1⟩ := S_l1Below_tot (k := k) h hn
  rw [e1]; exact ⟨_, _, rfl, h1⟩
theorem S_l11Target_tot {k : Nat} {c : Sl1Cur} (h : CurOk c) : ∃ v c', S_l11Target k c = some (v, c') ∧ v.length ≤ 20 ∧ CurOk c' := by
  unfold S_l11Target
  obtain ⟨v, c1, e1, l1, h1⟩ := S_l1Str_len (k := k) h (l := [([47, 97] : List UInt8), ([47, 98] : List UInt8), ([47, 97, 63, 120, 61, 49, 38, 121, 61, 50] : List UInt8), ([47, 97, 63, 121, 61, 50, 38, 120, 61, 49] : List UInt8), ([47, 46, 47, 97] : List UInt8), ([47, 99, 47, 46, 46, 47, 97] : List UInt8), ([47, 37, 54, 49] : List UInt8), ([47, 112] : List UInt8), ([47, 112, 97, 103, 101] : List UInt8), ([47, 108, 97, 110, 103] : List UInt8), ([47, 109, 105, 110, 101] : List UInt8), ([47, 110, 111, 110, 101] : List UInt8), ([47, 98, 105, 103] : List UInt8), ([47, 65] : List UInt8), ([47, 97, 63] : List UInt8)]) (by decide) (n := 20) (by decide)
  rw [e1]; exact ⟨_, _, rfl, l1, h1⟩
theorem S_l11Request_tot {k : Nat} (hk : 1073741824 ≤ k) {c : Sl1Cur} (h : CurOk c) : ∃ r c', S_l11Request k c = some (r, c') ∧ CurOk c' ∧ (r.Method.length ≤ 20 ∧ r.Host.length ≤ 20 ∧ r.Target.length ≤ 20) ∧ r.Fields.length ≤ 5 ∧ ∀ e ∈ r.Fields, e.Value.length ≤ 60 := by
  unfold S_l11Request
  obtain ⟨v1, c1, e1, l1, h1⟩ := S_l1Str_len (k := k) h (l := [([71, 69, 84] : List UInt8), ([71, 69, 84] : List UInt8), ([71, 69, 84] : List UInt8), ([72, 69, 65, 68] : List UInt8), ([80, 79, 83, 84] : List UInt8), ([103, 101, 116] : List UInt8)]) (by decide) (n := 20) (by decide)
  obtain ⟨v2, c2, e2, l2, h2⟩ := S_l1Str_len (k := k) h1 (l := [([104, 46, 101, 120, 97, 109, 112, 108, 101] : List UInt8), ([104, 46, 101, 120, 97, 109, 112, 108, 101] : List UInt8), ([120] : List UInt8), ([72] : List UInt8)]) (by decide) (n := 20) (by decide)
  obtain ⟨v3, c3, e3, l3, h3⟩ := S_l11Target_tot (k := k) h2
  obtain ⟨v4, c4, e4, h4, n4, l4⟩ := S_l5Draw_tot hk h3
  obtain ⟨v5, c5, e5, h5⟩ := S_l1Once_tot (k := k) h4 (n := 12) (by omega)
  simp only [e1, Option.bind_some, e2, e3, e4, e5]
  cases v5 with
  | false => exact ⟨_, _, rfl, h5, ⟨l1, l2, l3⟩, n4, l4⟩
  | true =>
    obtain ⟨v6, c6, e6, l6, h6⟩ := S_l1Str_len (k := k) h5 (l := [([97] : List UInt8), ([47, 97, 32, 98] : List UInt8), ([47, 195, 169] : List UInt8), ([42] : List UInt8)]) (by decide) (n := 20) (by decide)
    have e6' : S_l1Str k (⟨c5.b, c5.i, c5.h⟩ : Sl1Cur) [([97] : List UInt8), ([47, 97, 32, 98] : List UInt8), ([47, 195, 169] : List UInt8), ([42] : List UInt8)] = some (v6, c6) := e6
    simp only [S_l11Request_c16, cond_true, e6', Option.bind_some]
    exact ⟨_, _, rfl, h6, ⟨l1, l2, l6⟩, n4, l4⟩
/-! A pair at a sign of equality. -/
def pairT (s : List UInt8) : List UInt8 × List UInt8 × Bool := match firstI (byteP s 61) s.length 0 with | some i => (trimT (s.take i), trimT (s.drop (i + 1)), true) | none => (trimT s, [], false)
theorem I_SplitPair_eq {k : Nat} (s : List UInt8) (h : s.length < 1073741824) : I_SplitPair k s = some (pairT s) := by
  have hd : decide (s.length < 4294967281) = true := by simp; omega
  rw [I_SplitPair, strings_Cut, cutO, hd, cond_true, Option.bind_some, cut_byte]
  unfold pairT
  cases firstI (byteP s 61) s.length 0 with
  | none => simp only; rw [I_TrimText_eq s h, Option.bind_some, I_TrimText_eq [] (by simp)]; rfl
  | some i => simp only; rw [I_TrimText_eq _ (by simp; omega), Option.bind_some, I_TrimText_eq _ (by simp; omega)]; rfl
theorem pairT_len (s : List UInt8) : (pairT s).1.length ≤ s.length ∧ (pairT s).2.1.length ≤ s.length := by
  unfold pairT
  cases firstI (byteP s 61) s.length 0 with
  | none => have := trimT_len s; simp only [List.length_nil]; omega
  | some i =>
    have h1 := trimT_len (s.take i)
    have h2 := trimT_len (s.drop (i + 1))
    simp at h1 h2 ⊢; omega
/-! Tokens. -/
def mk15 : List UInt8 := [33, 35, 36, 37, 38, 39, 42, 43, 45, 46, 94, 95, 124, 126, 96]
def mk14 : List UInt8 := [33, 35, 36, 37, 38, 39, 42, 43, 45, 46, 94, 95, 124, 126]
def letB (c : UInt8) : Bool := (decide (97 ≤ c.toNat) && decide (c.toNat ≤ 122)) || (decide (65 ≤ c.toNat) && decide (c.toNat ≤ 90)) || (decide (48 ≤ c.toNat) && decide (c.toNat ≤ 57))
def mkP (c : UInt8) (i : Nat) : Bool := match mk15[i]? with | some m => c == m | none => false
def tokB (c : UInt8) : Bool := (firstI (mkP c) 15 0).isSome || letB c
theorem tok_tab : ∀ j : Fin 256, tokB (UInt8.ofNat j.val) = (letB (UInt8.ofNat j.val) || decide (Lib.indexByte mk14 (UInt8.ofNat j.val) ≥ 0) || (UInt8.ofNat j.val == 96)) := by decide +kernel
theorem tok_eq (c : UInt8) : tokB c = (letB c || decide (Lib.indexByte mk14 c ≥ 0) || (c == 96)) := by
  have := tok_tab ⟨c.toNat, UInt8.toNat_lt c⟩
  simpa using this
theorem I_isTokenByte_eq {k : Nat} (c : UInt8) : I_isTokenByte k (c.toNat : Int) = some (tokB c) := by
  have hb := UInt8.toNat_lt c
  have hi : strings_IndexByte k [33, 35, 36, 37, 38, 39, 42, 43, 45, 46, 94, 95, 124, 126] (c.toNat : Int) = some (Lib.indexByte mk14 c) := by
    rw [strings_IndexByte, indexByteO, Int.toNat_natCast]; simp [mk14]
  have h96 : ((c.toNat : Int) == 96) = (c == 96) := u8_eq c 96
  rw [I_isTokenByte, hi, h96, tok_eq]
  simp only [Option.bind_some, bif_dec, letB]
  by_cases a1 : 97 ≤ c.toNat <;> by_cases a2 : c.toNat ≤ 122 <;> by_cases a3 : 65 ≤ c.toNat <;> by_cases a4 : c.toNat ≤ 90 <;> by_cases a5 : 48 ≤ c.toNat <;> by_cases a6 : c.toNat ≤ 57 <;> by_cases a7 : Lib.indexByte mk14 c ≥ 0 <;>
    simp [a1, a2, a3, a4, a5, a6, a7, show ((c.toNat : Int) ≥ 97) = (97 ≤ c.toNat) from by simp; omega, show ((c.toNat : Int) ≤ 122) = (c.toNat ≤ 122) from by simp; omega, show ((c.toNat : Int) ≥ 65) = (65 ≤ c.toNat) from by simp; omega, show ((c.toNat : Int) ≤ 90) = (c.toNat ≤ 90) from by simp; omega, show ((c.toNat : Int) ≥ 48) = (48 ≤ c.toNat) from by simp; omega, show ((c.toNat : Int) ≤ 57) = (c.toNat ≤ 57) from by simp; omega]
def ntP (x : List UInt8) (i : Nat) : Bool := match x[i]? with | some c => !tokB c | none => false
def inR (n a b : Int) : Bool := decide (a ≤ n) && decide (n ≤ b)
theorem I_inRange_eq {k : Nat} (n a b : Int) : I_inRange k n a b = some (inR n a b) := by
  rw [I_inRange, bif_dec, inR]
  by_cases h : a ≤ n <;> simp [h]
def isTok (x : List UInt8) : Bool := (firstI (ntP x) x.length 0).isNone && inR (x.length : Int) 1 40
theorem I_IsToken_eq {k : Nat} (hk : 1073741824 ≤ k) (x : List UInt8) (h : x.length < 1073741824) : I_IsToken k x = some (isTok x) := by
  have := find_all (len := x.length) (c := fun i => bif ntP x i then some false else none) (F := fun n i => I_IsToken_b0 k n x (x.length : Int) i) (fun n i hi => by
    simp only [I_IsToken_b0, idx_nat hi, Option.bind_some, wrap_succ (by omega : i < 9223372036854775807), bif_dec, lt_cast, hi, if_true, ntP, List.getElem?_eq_getElem hi, I_isTokenByte_eq]
    cases tokB x[i] <;> rfl) (fun n i hi => by
    simp only [I_IsToken_b0, bif_dec, lt_cast]
    rw [if_neg (by omega)]) (k := k) (by omega)
  rw [I_IsToken, this, findI_first]
  unfold isTok
  cases firstI (ntP x) x.length 0 <;> simp [ocOf, oc, I_inRange_eq]
/-! Text in small letters. -/
def lowB (c : UInt8) : UInt8 := bif decide (65 ≤ c.toNat) && decide (c.toNat ≤ 90) then c + 32 else c
def lowT (s : List UInt8) : List UInt8 := s.map lowB
theorem lowB_add : ∀ j : Fin 256, (65 ≤ j.val ∧ j.val ≤ 90) → IntKind.wrap .u8 ((j.val : Int) + 32) = (((UInt8.ofNat j.val) + 32).toNat : Int) := by decide +kernel
theorem low_wrap (c : UInt8) (h : 65 ≤ c.toNat ∧ c.toNat ≤ 90) : IntKind.wrap .u8 ((c.toNat : Int) + 32) = ((c + 32).toNat : Int) := by
  have := lowB_add ⟨c.toNat, UInt8.toNat_lt c⟩ h
  simpa using this
theorem bytes_ints (s : List UInt8) : bytesOf (intsOf s) = s := by
  unfold bytesOf intsOf
  rw [List.map_map]
  conv => rhs; rw [← List.map_id s]
  refine List.map_congr_left fun c _ => ?_
  simp
theorem ints_len (s : List UInt8) : (intsOf s).length = s.length := by unfold intsOf; simp
theorem ints_idx {s : List UInt8} {i : Nat} (h : i < s.length) : idx (intsOf s) (i : Int) = some (s[i].toNat : Int) := by
  rw [idx_nat (by rw [ints_len]; exact h)]; simp [intsOf]
theorem ints_set (s : List UInt8) (i : Nat) (c : UInt8) : (intsOf s).set i (c.toNat : Int) = intsOf (s.set i c) := by
  unfold intsOf; rw [List.map_set]
theorem low_loop {L : Nat} {F : Nat → Int → List Int → Option (List Int)} (T : ∀ n (i : Nat) (s : List UInt8) (h : i < s.length), s.length = L → F (n + 1) (i : Int) (intsOf s) = F n ((i + 1 : Nat) : Int) (intsOf (s.set i (lowB s[i]))))
    (E : ∀ n (i : Nat) (s : List UInt8), s.length ≤ i → s.length = L → F (n + 1) (i : Int) (intsOf s) = some (intsOf s)) : ∀ (n i : Nat) (s : List UInt8), i ≤ s.length → s.length - i < n → s.length = L → F n (i : Int) (intsOf s) = some (intsOf (s.take i ++ (s.drop i).map lowB)) := by
  intro n
  induction n with
  | zero => intro i s _ h; omega
  | succ n ih =>
    intro i s hi hn hs
    by_cases h : i < s.length
    · rw [T n i s h hs, ih (i + 1) _ (by simp; omega) (by simp; omega) (by simpa using hs)]
      congr 2
      rw [List.drop_eq_getElem_cons h, List.map_cons]
      have e1 : (s.set i (lowB s[i])).take (i + 1) = s.take i ++ [lowB s[i]] := by
        apply List.ext_getElem?
        intro j
        by_cases hj : j < i
        · rw [List.getElem?_take, if_pos (by omega), List.getElem?_set_ne (by omega), List.getElem?_append_left (by simp; omega), List.getElem?_take, if_pos hj]
        · by_cases hj2 : j = i
          · subst hj2
            rw [List.getElem?_take, if_pos (by omega), List.getElem?_set_self h, List.getElem?_append_right (by simp; omega)]
            simp [Nat.min_eq_left (Nat.le_of_lt h)]
          · rw [List.getElem?_take, if_neg (by omega), List.getElem?_eq_none (by simp; omega)]
      have e2 : (s.set i (lowB s[i])).drop (i + 1) = s.drop (i + 1) := by
        apply List.ext_getElem?
        intro j
        rw [List.getElem?_drop, List.getElem?_drop, List.getElem?_set_ne (by omega)]
      rw [e1, e2, List.append_assoc]; rfl
    · rw [E n i s (by omega) hs, List.drop_of_length_le (by omega), List.take_of_length_le (by omega)]; simp
theorem I_LowerText_eq {k : Nat} (hk : 1073741824 ≤ k) (s : List UInt8) (h : s.length < 1073741824) : I_LowerText k s = some (lowT s) := by
  have := low_loop (L := s.length) (F := fun n i r => I_LowerText_b0 k n (s.length : Int) i r) (fun n i t hi hs => by
    have hb := UInt8.toNat_lt t[i]
    have hlen : ((i : Int) < (s.length : Int)) := by omega
    simp only [I_LowerText_b0, bif_dec, hlen, if_true, I_LowerText_b1, ints_idx hi, Option.bind_some, wrap_succ (by omega : i < 9223372036854775807)]
    by_cases c1 : 65 ≤ t[i].toNat
    · by_cases c2 : t[i].toNat ≤ 90
      · have e1 : ((t[i].toNat : Int) ≥ 65) := by omega
        have e2 : decide ((t[i].toNat : Int) ≤ 90) = true := decide_eq_true (by omega)
        have e3 : lowB t[i] = t[i] + 32 := by unfold lowB; rw [decide_eq_true c1, decide_eq_true c2]; rfl
        simp only [e1, e2, if_true, I_LowerText_c20, cond_true, Option.bind_some, ints_idx hi, low_wrap _ ⟨c1, c2⟩, Int.toNat_natCast, ints_set, e3]
      · have e1 : ((t[i].toNat : Int) ≥ 65) := by omega
        have e2 : decide ((t[i].toNat : Int) ≤ 90) = false := decide_eq_false (by omega)
        have e3 : lowB t[i] = t[i] := by unfold lowB; rw [decide_eq_false c2]; simp
        simp only [e1, e2, if_true, I_LowerText_c20, cond_false, Option.bind_some, e3, List.set_getElem_self]
    · have e1 : ¬ ((t[i].toNat : Int) ≥ 65) := by omega
      have e3 : lowB t[i] = t[i] := by unfold lowB; rw [decide_eq_false c1]; simp
      simp only [e1, if_false, I_LowerText_c20, cond_false, Option.bind_some, e3, List.set_getElem_self]) (fun n i t hi ht => by
    have hlen : ¬ ((i : Int) < (s.length : Int)) := by omega
    simp only [I_LowerText_b0, bif_dec, hlen, if_false]) k 0 s (by omega) (by omega) rfl
  have h1 : I_LowerText_b0 k k (s.length : Int) 0 (intsOf s) = some (intsOf (s.take 0 ++ (s.drop 0).map lowB)) := this
  rw [I_LowerText, ints_len, h1, Option.bind_some, bytes_ints]; simp [lowT]
theorem lowT_len (s : List UInt8) : (lowT s).length = s.length := by unfold lowT; simp
theorem lowB_star : ∀ j : Fin 256, (lowB (UInt8.ofNat j.val) = 42) → UInt8.ofNat j.val = 42 := by decide +kernel
theorem lowT_star (s : List UInt8) : (lowT s == [42]) = (s == [42]) := by
  by_cases h : s = [42]
  · subst h; rfl
  · have h2 : ¬ lowT s = [42] := fun e => by
      cases s with
      | nil => cases e
      | cons c l =>
        cases l with
        | cons d l => simp [lowT] at e
        | nil =>
          simp [lowT] at e
          have := lowB_star ⟨c.toNat, UInt8.toNat_lt c⟩ (by simpa using e)
          simp at this
          exact h (by rw [this])
    rw [beq_eq_false_iff_ne.2 h2, beq_eq_false_iff_ne.2 h]
/-! Weights. -/
def dig : List UInt8 → Int → Int → Option Int
  | [], q, _ => some q
  | d :: r, q, sc => bif inR (d.toNat : Int) 48 57 then dig r (q + sc * ((d.toNat : Int) - 48)) (sc.tdiv 10) else none
def fin1 (o : Option Int) : Option Int := o.bind fun q => bif decide (q > 1000) then none else some q
def wtT : List UInt8 → Option Int
  | [] => none
  | c :: r => bif c == 48 || c == 49 then (match r with
    | [] => fin1 (some (1000 * ((c.toNat : Int) - 48)))
    | p :: ds => bif p == 46 && decide (ds.length ≤ 3) then fin1 (dig ds (1000 * ((c.toNat : Int) - 48)) 100) else none) else none
theorem wrap_dig8 : ∀ j : Fin 256, (48 ≤ j.val ∧ j.val ≤ 57) → IntKind.wrap .u8 ((j.val : Int) - 48) = (j.val : Int) - 48 := by decide +kernel
theorem wrap_dig (c : UInt8) (h : 48 ≤ c.toNat ∧ c.toNat ≤ 57) : IntKind.wrap .u8 ((c.toNat : Int) - 48) = (c.toNat : Int) - 48 := wrap_dig8 ⟨c.toNat, UInt8.toNat_lt c⟩ h
theorem inR_iff {n a b : Int} : inR n a b = true ↔ a ≤ n ∧ n ≤ b := by unfold inR; simp
theorem prod_in {sc d : Int} (h1 : 0 ≤ sc) (h2 : sc ≤ 100) (h3 : 0 ≤ d) (h4 : d ≤ 9) : 0 ≤ sc * d ∧ sc * d ≤ 900 :=
  ⟨Int.mul_nonneg h1 h3, by have := Int.mul_le_mul h2 h4 h3 (by omega : (0 : Int) ≤ 100); omega⟩
theorem tdiv_in {sc : Int} (h1 : 0 ≤ sc) (h2 : sc ≤ 100) : 0 ≤ sc.tdiv 10 ∧ sc.tdiv 10 ≤ 100 := by
  rw [Int.tdiv_eq_ediv_of_nonneg h1]; omega
theorem dig_nonneg : ∀ (l : List UInt8) (q sc r : Int), 0 ≤ q → 0 ≤ sc → sc ≤ 100 → dig l q sc = some r → 0 ≤ r
  | [], q, sc, r, hq, _, _, h => by
    have : q = r := by simpa [dig] using h
    omega
  | d :: l, q, sc, r, hq, h1, h2, h => by
    rw [dig] at h
    cases hi : inR (d.toNat : Int) 48 57 with
    | false => rw [hi] at h; cases h
    | true =>
      rw [hi, cond_true] at h
      obtain ⟨i1, i2⟩ := inR_iff.1 hi
      have p := prod_in h1 h2 (show 0 ≤ (d.toNat : Int) - 48 by omega) (by omega)
      have t := tdiv_in h1 h2
      exact dig_nonneg l _ _ r (by omega) t.1 t.2 h
theorem I_w_loop {k : Nat} {x : List UInt8} (hx : x.length ≤ 1000) : ∀ (n i : Nat) (q sc : Int), x.length - i < n → i ≤ 5000 → 0 ≤ q → q + 900 * ((x.length - i : Nat) : Int) ≤ 10000000 → 0 ≤ sc → sc ≤ 100 →
    I_weightIn_b0 k n q sc (x.length : Int) (i : Int) (intsOf x) = some (match dig (x.drop i) q sc with | some r => .nrm r | none => .oth (0, false)) := by
  intro n
  induction n with
  | zero => intro i q sc h; omega
  | succ n ih =>
    intro i q sc hn hi hq hb h1 h2
    rw [I_weightIn_b0, bif_dec]
    by_cases c : i < x.length
    · have hb := UInt8.toNat_lt x[i]
      rw [if_pos (by omega), ints_idx c, Option.bind_some, Option.bind_some, List.drop_eq_getElem_cons c, dig, bif_dec, bif_dec]
      cases hr : inR (x[i].toNat : Int) 48 57 with
      | false =>
        have hno : ¬ (48 ≤ (x[i].toNat : Int) ∧ (x[i].toNat : Int) ≤ 57) := fun e => by rw [inR_iff.2 e] at hr; cases hr
        by_cases c1 : (x[i].toNat : Int) < 48
        · rw [if_pos c1]; rfl
        · rw [if_neg c1, if_pos (by omega)]; rfl
      | true =>
        obtain ⟨i1, i2⟩ := inR_iff.1 hr
        have p := prod_in h1 h2 (show 0 ≤ (x[i].toNat : Int) - 48 by omega) (by omega)
        have t := tdiv_in h1 h2
        have ed : dv sc 10 = some (sc.tdiv 10) := by simp [dv]
        rw [if_neg (by omega), if_neg (by omega), cond_true, ed, Option.bind_some, wrap_dig _ (by omega), wrap_id (n := (x[i].toNat : Int) - 48) (by omega) (by omega)]
        generalize sc * ((x[i].toNat : Int) - 48) = pr at p
        rw [wrap_id (n := pr) (by omega) (by omega), wrap_id (n := q + pr) (by omega) (by omega), wrap_id (n := sc.tdiv 10) (by omega) (by omega), wrap_succ (by omega)]
        exact ih (i + 1) (q + pr) (sc.tdiv 10) (by omega) (by omega) (by omega) (by omega) t.1 t.2
    · rw [if_neg (by omega), List.drop_of_length_le (by omega), dig]
theorem wtT_nonneg {v : List UInt8} {q : Int} (h : wtT v = some q) : 0 ≤ q := by
  have fin0 : ∀ {o : Option Int} {q : Int}, fin1 o = some q → o = some q := fun {o q} h => by
    unfold fin1 at h
    cases o with
    | none => cases h
    | some r =>
      rw [Option.bind_some] at h
      cases hd : decide (r > 1000) with
      | true => rw [hd] at h; cases h
      | false => rw [hd] at h; exact h
  cases v with
  | nil => cases h
  | cons c r =>
    unfold wtT at h
    simp only at h
    cases hc : (c == 48 || c == 49) with
    | false => rw [hc] at h; cases h
    | true =>
      have hc2 : 48 ≤ c.toNat := by
        rcases Bool.or_eq_true _ _ ▸ hc with e | e
        · have : c = 48 := by simpa using e
          subst this; decide
        · have : c = 49 := by simpa using e
          subst this; decide
      rw [hc, cond_true] at h
      cases r with
      | nil =>
        have := fin0 h
        have : 1000 * ((c.toNat : Int) - 48) = q := by simpa using this
        omega
      | cons p ds =>
        cases hp : (p == 46 && decide (ds.length ≤ 3)) with
        | false => simp only [hp, cond_false] at h; cases h
        | true =>
          simp only [hp, cond_true] at h
          exact dig_nonneg _ _ _ _ (by omega) (by omega) (by omega) (fin0 h)
theorem ocS {o : Option Int} : oc (match o with | some r => (Oc.nrm r : Oc Int Int) | none => .oth (-1)) (fun q => bif decide (q > 1000) then some (-1 : Int) else some q) (fun r => some r) = some ((fin1 o).getD (-1)) := by
  cases o with
  | none => rfl
  | some q =>
    show (bif decide (q > 1000) then some (-1 : Int) else some q) = some (((some q).bind fun q => bif decide (q > 1000) then none else some q).getD (-1))
    rw [Option.bind_some]
    cases decide (q > 1000) <;> rfl
theorem take_ne {c a : UInt8} {r : List UInt8} {i : Nat} (h : i ≠ 1) (hl : i < (c :: r).length) : ((c :: r).take i == [a]) = false := by
  rw [beq_eq_false_iff_ne]
  intro e
  have := congrArg List.length e
  simp at this hl
  omega
theorem I_weightIn_eq {k : Nat} (hk : 1073741824 ≤ k) (v : List UInt8) (hv : v.length < 1073741824) : ∃ r, I_weightIn k v = some r ∧ r.2 = (wtT v).isSome ∧ ∀ q, wtT v = some q → r.1 = q := by
  have hd : decide (v.length < 4294967281) = true := by simp; omega
  have run : ∀ (c : UInt8) (ds : List UInt8), 48 ≤ c.toNat ∧ c.toNat ≤ 49 → ds.length ≤ 3 →
      ((I_weightIn_b0 k k (IntKind.wrap .i64 (1000 * IntKind.wrap .i64 (IntKind.wrap .u8 ((c.toNat : Int) - 48)))) 100 ((intsOf ds).length : Int) 0 (intsOf ds)).bind fun o => oc o (fun o6 => some (o6, decide (o6 ≤ (1000 : Int)))) (fun o7 => some o7)) =
      some (match dig ds (1000 * ((c.toNat : Int) - 48)) 100 with | some r => (r, decide (r ≤ 1000)) | none => (0, false)) := by
    intro c ds hc hl
    have := I_w_loop (k := k) (x := ds) (by omega) k 0 (1000 * ((c.toNat : Int) - 48)) 100 (by omega) (by omega) (by omega) (by omega) (by omega) (by omega)
    rw [show (((0 : Nat)) : Int) = 0 from rfl] at this
    rw [wrap_dig c (by omega), wrap_id (n := (c.toNat : Int) - 48) (by omega) (by omega), wrap_id (by omega) (by omega), ints_len, this, List.drop_zero, Option.bind_some]
    cases dig ds (1000 * ((c.toNat : Int) - 48)) 100 <;> rfl
  have fin : ∀ (o : Option Int), (match o with | some r => (r, decide (r ≤ 1000)) | none => ((0 : Int), false)).2 = (fin1 o).isSome ∧ ∀ q, fin1 o = some q → (match o with | some r => (r, decide (r ≤ 1000)) | none => ((0 : Int), false)).1 = q := by
    intro o
    cases o with
    | none => exact ⟨rfl, fun q h => by cases h⟩
    | some r =>
      unfold fin1
      rw [Option.bind_some]
      by_cases h : r > 1000
      · rw [decide_eq_true h]; exact ⟨decide_eq_false (by omega), fun q h => by cases h⟩
      · rw [decide_eq_false h]; exact ⟨decide_eq_true (by omega), fun q h => by cases h; rfl⟩
  rw [I_weightIn, strings_Cut, cutO, hd, cond_true, Option.bind_some, cut_byte]
  have lone : ∀ c : UInt8, (c == 48) = true ∨ (c == 49) = true → 48 ≤ c.toNat ∧ c.toNat ≤ 49 := fun c h => by
    rcases h with e | e
    · have : c = 48 := by simpa using e
      subst this; decide
    · have : c = 49 := by simpa using e
      subst this; decide
  cases hf : firstI (byteP v 46) v.length 0 with
  | none =>
    have hno := firstI_none _ _ hf
    cases v with
    | nil => exact ⟨(0, false), rfl, rfl, fun q h => by cases h⟩
    | cons c r =>
      cases r with
      | nil =>
        cases hc : (c == 48 || c == 49) with
        | false =>
          have h1 : (c == 48) = false := by cases h : (c == 48) <;> simp_all
          have h2 : (c == 49) = false := by cases h : (c == 49) <;> simp_all
          have e1 : (([c] : List UInt8) == [48]) = false := by simpa using h1
          have e2 : (([c] : List UInt8) == [49]) = false := by simpa using h2
          have hw : wtT [c] = none := by unfold wtT; simp only [hc, cond_false]
          refine ⟨(0, false), ?_, by rw [hw]; rfl, fun q h => by rw [hw] at h; cases h⟩
          simp only [e1, e2]; rfl
        | true =>
          have h48 := lone c (by simpa using hc)
          have hw : wtT [c] = fin1 (some (1000 * ((c.toNat : Int) - 48))) := by unfold wtT; simp only [hc, cond_true]
          have hr := run c [] h48 (by simp)
          refine ⟨_, ?_, (fin (dig [] (1000 * ((c.toNat : Int) - 48)) 100)).1.trans (by rw [hw]; rfl), fun q h => (fin (dig [] (1000 * ((c.toNat : Int) - 48)) 100)).2 q (by rw [hw] at h; exact h)⟩
          rw [← hr]
          cases h1 : (c == 48) with
          | true =>
            have e1 : (([c] : List UInt8) == [48]) = true := by simpa using h1
            simp only [e1]; rfl
          | false =>
            have h2 : (c == 49) = true := by rw [h1] at hc; exact hc
            have e1 : (([c] : List UInt8) == [48]) = false := by simpa using h1
            have e2 : (([c] : List UInt8) == [49]) = true := by simpa using h2
            simp only [e1, e2]; rfl
      | cons p ds =>
        have e1 : ((c :: p :: ds : List UInt8) == [48]) = false := by rw [beq_eq_false_iff_ne]; simp
        have e2 : ((c :: p :: ds : List UInt8) == [49]) = false := by rw [beq_eq_false_iff_ne]; simp
        have hp : (p == 46) = false := by
          have := hno 1 (by omega) (by simp)
          rw [byteP_at (by simp)] at this; simpa using this
        have hw : wtT (c :: p :: ds) = none := by
          unfold wtT
          simp only [hp, Bool.false_and, cond_false]
          cases (c == 48 || c == 49) <;> rfl
        refine ⟨(0, false), ?_, by rw [hw]; rfl, fun q h => by rw [hw] at h; cases h⟩
        simp only [e1, e2]; rfl
  | some i =>
    obtain ⟨_, g2, g3, g4⟩ := firstI_some _ _ _ hf
    cases v with
    | nil => simp at g2
    | cons c r =>
      by_cases h1 : i = 1
      · subst h1
        cases r with
        | nil => simp at g2
        | cons p ds =>
          have hp : (p == 46) = true := by rw [byteP_at (by simp)] at g3; simpa using g3
          have et : (c :: p :: ds).take 1 = [c] := rfl
          have ed : (c :: p :: ds).drop (1 + 1) = ds := rfl
          cases hc : (c == 48 || c == 49) with
          | false =>
            have h1 : (c == 48) = false := by cases h : (c == 48) <;> simp_all
            have h2 : (c == 49) = false := by cases h : (c == 49) <;> simp_all
            have e1 : (([c] : List UInt8) == [48]) = false := by simpa using h1
            have e2 : (([c] : List UInt8) == [49]) = false := by simpa using h2
            have hw : wtT (c :: p :: ds) = none := by unfold wtT; simp only [hc, cond_false]
            refine ⟨(0, false), ?_, by rw [hw]; rfl, fun q h => by rw [hw] at h; cases h⟩
            simp only [et, e1, e2]; rfl
          | true =>
            have h48 := lone c (by simpa using hc)
            by_cases hl : ds.length ≤ 3
            · have hw : wtT (c :: p :: ds) = fin1 (dig ds (1000 * ((c.toNat : Int) - 48)) 100) := by unfold wtT; simp only [hc, hp, cond_true, decide_eq_true hl, Bool.and_self]
              have hr := run c ds h48 hl
              have el : decide ((ds.length : Int) > 3) = false := decide_eq_false (by omega)
              refine ⟨_, ?_, (fin (dig ds (1000 * ((c.toNat : Int) - 48)) 100)).1.trans (by rw [hw]), fun q h => (fin (dig ds (1000 * ((c.toNat : Int) - 48)) 100)).2 q (by rw [hw] at h; exact h)⟩
              rw [← hr]
              cases h1 : (c == 48) with
              | true =>
                have e1 : (([c] : List UInt8) == [48]) = true := by simpa using h1
                simp only [et, ed, e1, el]; rfl
              | false =>
                have h2 : (c == 49) = true := by rw [h1] at hc; exact hc
                have e1 : (([c] : List UInt8) == [48]) = false := by simpa using h1
                have e2 : (([c] : List UInt8) == [49]) = true := by simpa using h2
                simp only [et, ed, e1, e2, el]; rfl
            · have hw : wtT (c :: p :: ds) = none := by unfold wtT; simp only [hc, cond_true, decide_eq_false hl, Bool.and_false, cond_false]
              have el : decide ((ds.length : Int) > 3) = true := decide_eq_true (by omega)
              refine ⟨(0, false), ?_, by rw [hw]; rfl, fun q h => by rw [hw] at h; cases h⟩
              cases h1 : (c == 48) with
              | true =>
                have e1 : (([c] : List UInt8) == [48]) = true := by simpa using h1
                simp only [et, ed, e1, el]; rfl
              | false =>
                have h2 : (c == 49) = true := by rw [h1] at hc; exact hc
                have e1 : (([c] : List UInt8) == [48]) = false := by simpa using h1
                have e2 : (([c] : List UInt8) == [49]) = true := by simpa using h2
                simp only [et, ed, e1, e2, el]; rfl
      · have e1 : ((c :: r).take i == [48]) = false := take_ne h1 (by simpa using g2)
        have e2 : ((c :: r).take i == [49]) = false := take_ne h1 (by simpa using g2)
        have hw : wtT (c :: r) = none := by
          unfold wtT
          simp only
          rcases Nat.eq_zero_or_pos i with h0 | h0
          · subst h0
            rw [byteP_at (by simp)] at g3
            have : c = 46 := by simpa using g3
            subst this; rfl
          · cases r with
            | nil => simp at g2; omega
            | cons p ds =>
              have hp : (p == 46) = false := by
                have := g4 1 (by omega) (by omega)
                rw [byteP_at (by simp)] at this; simpa using this
              simp only [hp, Bool.false_and, cond_false]
              cases (c == 48 || c == 49) <;> rfl
        refine ⟨(0, false), ?_, by rw [hw]; rfl, fun q h => by rw [hw] at h; cases h⟩
        simp only [e1, e2]; rfl
/-! Qualities that are read. -/
theorem lowB_q : ∀ j : Fin 256, (lowB (UInt8.ofNat j.val) == 113) = (UInt8.ofNat j.val == 113 || UInt8.ofNat j.val == 81) := by decide +kernel
theorem lowT_q (s : List UInt8) : (lowT s == [113]) = (s == [113] || s == [81]) := by
  cases s with
  | nil => rfl
  | cons c l =>
    cases l with
    | cons d l => rw [beq_eq_false_iff_ne.2 (by simp [lowT]), beq_eq_false_iff_ne.2 (by simp), beq_eq_false_iff_ne.2 (by simp)]; rfl
    | nil =>
      have := lowB_q ⟨c.toNat, UInt8.toNat_lt c⟩
      simp only [UInt8.ofNat_toNat] at this
      simpa [lowT] using this
def qPart : List (List UInt8) → Option Int
  | [] => none
  | [_] => some 1000
  | [_, p] => bif (pairT p).2.2 && (lowT (pairT p).1 == [113]) then wtT (pairT p).2.1 else none
  | _ :: _ :: _ :: _ => none
def partP (ps : List (List UInt8)) : List IQuality := match ps with
  | [] => []
  | n :: _ => bif isTok (lowT (trimT n)) then (match qPart ps with | some q => [(⟨lowT (trimT n), q⟩ : IQuality)] | none => []) else []
def partF (e : List UInt8) : List IQuality := partP (cutP 59 e [])
def parseQ (x : List UInt8) : List IQuality := (splitL x).flatMap partF
theorem qPart_nonneg {ps : List (List UInt8)} {q : Int} (h : qPart ps = some q) : 0 ≤ q := by
  match ps, h with
  | [_], h => have : (1000 : Int) = q := by simpa [qPart] using h
              omega
  | [_, p], h =>
    have h : (bif (pairT p).2.2 && (lowT (pairT p).1 == [113]) then wtT (pairT p).2.1 else none) = some q := h
    cases hc : ((pairT p).2.2 && (lowT (pairT p).1 == [113])) with
    | true => rw [hc] at h; exact wtT_nonneg h
    | false => rw [hc] at h; cases h
theorem partF_len (e : List UInt8) : (partF e).length ≤ 1 := by
  unfold partF partP
  cases cutP 59 e [] with
  | nil => simp
  | cons n r =>
    show (bif isTok (lowT (trimT n)) then (match qPart (n :: r) with | some q => [(⟨lowT (trimT n), q⟩ : IQuality)] | none => []) else []).length ≤ 1
    cases isTok (lowT (trimT n)) <;> cases qPart (n :: r) <;> simp
theorem I_part {k : Nat} (hk : 1073741824 ≤ k) {x17 x18 : Int} {r16 : List (List UInt8)} {r3 : List IQuality} {e : List UInt8} (hi : idx r16 x18 = some e) (he : e.length < 1073741000) (hr : r3.length ≤ 1073741824) : I_ParseQualities_b1 k x17 x18 r3 r16 = some (r3 ++ partF e) := by
  have hm := fun p => cutP_mem 59 e [] p
  have hpos := cutP_pos 59 e []
  rw [I_ParseQualities_b1, hi, Option.bind_some, Option.bind_some, strings_Split_eq e 59 (by omega), Option.bind_some]
  unfold partF
  cases hps : cutP 59 e [] with
  | nil => rw [hps] at hpos; simp at hpos
  | cons n rest =>
    rw [hps] at hm
    have hb : ∀ p ∈ n :: rest, p.length < 1073741824 := fun p hp => by have := hm p hp; simp at this; omega
    have hn := hb n (by simp)
    have ht := trimT_len n
    have hlw := lowT_len (trimT n)
    rw [show idx (n :: rest) (0 : Int) = some n from rfl, Option.bind_some, Option.bind_some, I_TrimText_eq n hn, Option.bind_some, I_LowerText_eq (by omega) _ (by omega), Option.bind_some, I_IsToken_eq hk _ (by omega), Option.bind_some]
    unfold partP
    match rest, hb with
    | [], hb =>
      have e1 : (((([n] : List (List UInt8)).length : Nat) : Int) == 2) = false := rfl
      have e2 : decide (((([n] : List (List UInt8)).length : Nat) : Int) ≤ 2) = true := rfl
      rw [e1, e2]
      simp only [I_ParseQualities_c40, cond_false, Option.bind_some, I_ParseQualities_c71, qPart]
      cases isTok (lowT (trimT n)) with
      | false => simp
      | true => rw [cond_true, cond_true, cond_true, appn_ok (by simp; omega)]; rfl
    | [p], hb =>
      have hp := hb p (by simp)
      have hl := pairT_len p
      have e1 : (((([n, p] : List (List UInt8)).length : Nat) : Int) == 2) = true := rfl
      have e2 : decide (((([n, p] : List (List UInt8)).length : Nat) : Int) ≤ 2) = true := rfl
      have i1 : idx ([n, p] : List (List UInt8)) (1 : Int) = some p := rfl
      obtain ⟨w, w1, w2, w3⟩ := I_weightIn_eq hk (pairT p).2.1 (by omega)
      rw [e1, e2]
      simp only [I_ParseQualities_c40, cond_true, cond_false, i1, Option.bind_some, I_SplitPair_eq p hp, w1, w2, I_ParseQualities_c71, qPart, lowT_q]
      cases isTok (lowT (trimT n)) with
      | false => simp
      | true =>
        cases hw : wtT (pairT p).2.1 with
        | none =>
          cases (pairT p).2.2 <;> cases ((pairT p).1 == [113]) <;> cases ((pairT p).1 == [81]) <;> simp
        | some q =>
          have hq := w3 q hw
          have ha : app 24 r3 ([(⟨lowT (trimT n), q⟩ : IQuality)]) = some (r3 ++ [(⟨lowT (trimT n), q⟩ : IQuality)]) := appn_ok (by simp; omega)
          cases (pairT p).2.2 <;> cases ((pairT p).1 == [113]) <;> cases ((pairT p).1 == [81]) <;> simp [hq, ha]
    | p :: p2 :: r, hb =>
      have e1 : ((((n :: p :: p2 :: r).length : Nat) : Int) == 2) = false := by rw [beq_eq_false_iff_ne]; simp; omega
      have e2 : decide ((((n :: p :: p2 :: r).length : Nat) : Int) ≤ 2) = false := decide_eq_false (by simp; omega)
      rw [e1, e2]
      simp only [I_ParseQualities_c40, cond_false, Option.bind_some, I_ParseQualities_c71, qPart]
      cases isTok (lowT (trimT n)) <;> simp
theorem splitL_mem {x p : List UInt8} (h : p ∈ splitL x) : p.length ≤ x.length := by
  unfold splitL at h
  obtain ⟨y, hy, hp⟩ := List.mem_flatMap.1 h
  have h1 := cutG_mem 44 x false false [] y hy
  have h2 := trimT_len y
  unfold keepF at hp
  cases hc : (trimT y == []) with
  | true => rw [hc] at hp; simp at hp
  | false =>
    rw [hc] at hp
    have : p = trimT y := by simpa using hp
    subst this
    simp at h1; omega
theorem I_ParseQualities_eq {k : Nat} (hk : 1073741824 ≤ k) (x : List UInt8) (h : x.length < 1073741000) : I_ParseQualities k x = some (parseQ x) := by
  have hl := splitL_len x
  have hm := fun p => splitL_mem (x := x) (p := p)
  rw [I_ParseQualities, I_SplitList_eq hk x h, Option.bind_some]
  unfold parseQ
  generalize splitL x = w at hl hm
  have := fold_all (len := w.length) (g := fun j s => s ++ (w[j]?).elim [] partF) (Inv := fun i s => s.length ≤ i) (F := fun m i s => I_ParseQualities_b0 k m (w.length : Int) i s w) (out := id) (fun m i s hi hI => by
    have hp := hm w[i] (List.getElem_mem hi)
    have hI : s.length ≤ i := hI
    have e1 : (w[i]?).elim [] partF = partF w[i] := by rw [List.getElem?_eq_getElem hi, Option.elim_some]
    have hl1 := partF_len w[i]
    constructor
    · show I_ParseQualities_b0 k (m + 1) (w.length : Int) (i : Int) s w = I_ParseQualities_b0 k m (w.length : Int) _ (s ++ (w[i]?).elim [] partF) w
      rw [e1, I_ParseQualities_b0, bif_dec, if_pos (by omega), I_part hk (idx_nat hi) (by omega) (by omega), Option.bind_some, wrap_succ (by omega)]
    · show (s ++ (w[i]?).elim [] partF).length ≤ _
      rw [e1, List.length_append]; omega) (fun m i s hi => by
    simp only [I_ParseQualities_b0, bif_dec, lt_cast]
    rw [if_neg (by omega)]; rfl) (k := k) (by omega) (s := []) (by simp)
  have h1 : I_ParseQualities_b0 k k (w.length : Int) 0 [] w = some (foldI (fun j s => s ++ (w[j]?).elim [] partF) w.length 0 []) := this.1
  rw [h1, foldI_append (f := partF) w.length 0 [] (by omega), List.drop_zero]; rfl
/-! Qualities. -/
def nameP (x : List IQuality) (s : List UInt8) (i : Nat) : Bool := match x[i]? with | some e => e.Name == s | none => false
def qAt (x : List IQuality) (i : Nat) : Int := match x[i]? with | some e => e.Q | none => 0
def qOf (x : List IQuality) (s : List UInt8) : Int :=
  match firstI (nameP x s) x.length 0 with
  | some i => qAt x i
  | none => match firstI (nameP x [42]) x.length 0 with
    | some i => qAt x i
    | none => 0

theorem I_QualityOf_eq {k : Nat} (hk : 1073741824 ≤ k) (x : List IQuality) (s : List UInt8) (h : x.length < 1073741824) : I_QualityOf k x s = some (qOf x s) := by
  have inner : ∀ (s : List UInt8) (a b : Int) (r : List (List UInt8)), I_QualityOf_b2 k k x s a b x (x.length : Int) 0 r = some (ocOf ((firstI (nameP x s) x.length 0).map (qAt x))) := by
    intro s a b r
    have := find_all (len := x.length) (c := fun i => bif nameP x s i then some (qAt x i) else none) (F := fun n i => I_QualityOf_b2 k n x s a b x (x.length : Int) i r) (fun n i hi => by
      simp only [I_QualityOf_b2, idx_nat hi, Option.bind_some, wrap_succ (by omega : i < 9223372036854775807), bif_dec, lt_cast, hi, if_true, nameP, qAt, List.getElem?_eq_getElem hi]
      cases (x[i].Name == s) <;> rfl) (fun n i hi => by
      simp only [I_QualityOf_b2, bif_dec, lt_cast]
      rw [if_neg (by omega)]) (k := k) (by omega)
    rw [this, findI_first]
  obtain ⟨k', rfl⟩ : ∃ k', k = k' + 3 := ⟨k - 3, by omega⟩
  rw [I_QualityOf, show k' + 3 = (k' + 2) + 1 from rfl, I_QualityOf_b0]
  simp only [List.length_cons, List.length_nil, bif_dec]
  rw [if_pos (by omega), show idx ([s, [42]] : List (List UInt8)) 0 = some s from rfl, Option.bind_some, Option.bind_some, inner, Option.bind_some]
  unfold qOf
  cases firstI (nameP x s) x.length 0 with
  | some j => simp [ocOf, oc]
  | none =>
    simp only [Option.map_none, ocOf, oc]
    rw [show IntKind.wrap .i64 (0 + 1) = 1 from by decide, I_QualityOf_b0]
    simp only [bif_dec]
    rw [if_pos (by omega), show idx ([s, [42]] : List (List UInt8)) 1 = some [42] from rfl, Option.bind_some, Option.bind_some, inner, Option.bind_some]
    cases firstI (nameP x [42]) x.length 0 with
    | some j => simp [ocOf, oc]
    | none =>
      simp only [Option.map_none, ocOf, oc]
      rw [show IntKind.wrap .i64 (1 + 1) = 2 from by decide, I_QualityOf_b0]
      simp [bif_dec]
theorem partFs_len : ∀ l : List (List UInt8), (l.flatMap partF).length ≤ l.length
  | [] => by simp
  | p :: l => by
    have := partFs_len l
    have := partF_len p
    rw [List.flatMap_cons, List.length_append, List.length_cons]; omega
theorem parseQ_len (x : List UInt8) : (parseQ x).length ≤ x.length + 1 := by
  have h1 := partFs_len (splitL x)
  have h2 := splitL_len x
  unfold parseQ; omega
/-! The name that is chosen: the place of the best so far. -/
def bestS (q : List IQuality) (x : List (List UInt8)) (j b : Nat) : Nat := match x[j]?, x[b]? with
  | some n, some m => bif decide (qOf q n > qOf q m) then j else b
  | _, _ => b
def bestI (q : List IQuality) (x : List (List UInt8)) (j : Nat) (m : List UInt8) : List UInt8 := match x[j]? with
  | some n => bif j == 0 || decide (qOf q n > qOf q m) then n else m
  | none => m
theorem best_rel {q : List IQuality} {x : List (List UInt8)} (i b : Nat) (m : List UInt8) (hi : i < x.length) (h : b ≤ i ∧ (i = 0 → b = 0) ∧ (0 < i → b < x.length ∧ x[b]? = some m)) :
    bestS q x i b ≤ i + 1 ∧ (i + 1 = 0 → bestS q x i b = 0) ∧ (0 < i + 1 → bestS q x i b < x.length ∧ x[bestS q x i b]? = some (bestI q x i m)) := by
  obtain ⟨h1, h2, h3⟩ := h
  have hb : b < x.length := by omega
  have e1 : x[i]? = some x[i] := List.getElem?_eq_getElem hi
  have e2 : x[b]? = some x[b] := List.getElem?_eq_getElem hb
  have key : bestS q x i b = (bif decide (qOf q x[i] > qOf q x[b]) then i else b) := by unfold bestS; rw [e1, e2]
  have key2 : bestI q x i m = (bif i == 0 || decide (qOf q x[i] > qOf q m) then x[i] else m) := by unfold bestI; rw [e1]
  rw [key, key2]
  rcases Nat.eq_zero_or_pos i with h0 | h0
  · have hb0 := h2 h0
    subst h0
    subst hb0
    have : (bif decide (qOf q x[0] > qOf q x[0]) then 0 else 0) = 0 := by cases decide (qOf q x[0] > qOf q x[0]) <;> rfl
    rw [this]
    exact ⟨by omega, fun _ => rfl, fun _ => ⟨hi, by rw [e1]; rfl⟩⟩
  · obtain ⟨h4, h5⟩ := h3 h0
    have hm : x[b] = m := by rw [e2] at h5; exact Option.some.inj h5
    have hz : (i == 0) = false := beq_eq_false_iff_ne.2 (by omega)
    rw [hz, Bool.false_or, hm]
    cases decide (qOf q x[i] > qOf q m) with
    | true => exact ⟨by show i ≤ i + 1; omega, fun e => by omega, fun _ => ⟨hi, e1⟩⟩
    | false => exact ⟨by show b ≤ i + 1; omega, fun e => by omega, fun _ => ⟨hb, by show x[b]? = some m; exact h5⟩⟩
theorem I_Choose_loop {k : Nat} (hk : 1073741824 ≤ k) {q : List IQuality} {x : List (List UInt8)} (hq : q.length < 1073741824) (hx : x.length < 1073741824) : I_ChooseName_b0 k k [] x (x.length : Int) 0 q = some (foldI (bestI q x) x.length 0 []) := by
  have := fold_all (len := x.length) (g := bestI q x) (Inv := fun _ _ => True) (F := fun m i m' => I_ChooseName_b0 k m m' x (x.length : Int) i q) (out := id) (fun m i m' hi hI => by
    have e1 : x[i]? = some x[i] := List.getElem?_eq_getElem hi
    have key : bestI q x i m' = (bif i == 0 || decide (qOf q x[i] > qOf q m') then x[i] else m') := by unfold bestI; rw [e1]
    have hz : (((i : Int)) == 0) = (i == 0) := by
      rcases Nat.eq_zero_or_pos i with h | h
      · subst h; rfl
      · rw [beq_eq_false_iff_ne.2 (by omega : ((i : Int)) ≠ 0), beq_eq_false_iff_ne.2 (by omega : i ≠ 0)]
    refine ⟨?_, trivial⟩
    show I_ChooseName_b0 k (m + 1) m' x (x.length : Int) (i : Int) q = I_ChooseName_b0 k m (bestI q x i m') x (x.length : Int) _ q
    rw [key, I_ChooseName_b0, bif_dec, if_pos (by omega), I_ChooseName_b1, idx_nat hi, Option.bind_some, hz, wrap_succ (by omega)]
    cases hi0 : (i == 0) with
    | true => rw [cond_true, Bool.true_or, cond_true]; simp only [I_ChooseName_c28, cond_true, Option.bind_some]
    | false =>
      rw [cond_false, Bool.false_or, I_QualityOf_eq hk _ _ hq, Option.bind_some, I_QualityOf_eq hk _ _ hq, Option.bind_some]
      cases decide (qOf q x[i] > qOf q m') <;> rfl) (fun m i b hi => by
    simp only [I_ChooseName_b0, bif_dec, lt_cast]
    rw [if_neg (by omega)]; rfl) (k := k) (by omega) (s := []) trivial
  exact this.1
def chooseT (x : List (List UInt8)) (a : List UInt8) : List UInt8 := foldI (bestI (parseQ a) x) x.length 0 []
theorem I_ChooseName_eq {k : Nat} (hk : 1073741824 ≤ k) (x : List (List UInt8)) (a : List UInt8) (hx : x.length < 1073741824) (ha : a.length < 1073741000) : I_ChooseName k x a = some (chooseT x a) := by
  have hp := parseQ_len a
  rw [I_ChooseName, I_ParseQualities_eq hk a ha, Option.bind_some, I_Choose_loop hk (by omega) hx]; rfl
/-! What an answer varies by. -/
def hasT (out : List (List UInt8)) (s : List UInt8) : Bool := out.any fun e => e == s
def varyL : List (List UInt8) → List (List UInt8) → List (List UInt8) × Bool
  | [], out => (out, false)
  | e :: l, out => bif e == [42] then ([], true) else varyL l (bif !hasT out (lowT e) then out ++ [lowT e] else out)
theorem varyL_len : ∀ (l out : List (List UInt8)), (varyL l out).1.length ≤ out.length + l.length
  | [], out => by simp [varyL]
  | e :: l, out => by
    rw [varyL]
    cases (e == ([42] : List UInt8)) with
    | true => simp
    | false =>
      rw [cond_false]
      have := varyL_len l (bif !hasT out (lowT e) then out ++ [lowT e] else out)
      cases h : hasT out (lowT e) <;> rw [h] at this <;> simp at this ⊢ <;> omega
def varyOf (l : List IField) : List (List UInt8) × Bool := varyL (splitL (getF l [118, 97, 114, 121]).1) []
theorem beq_sym (a b : List UInt8) : (a == b) = (b == a) := by
  by_cases h : a = b
  · rw [h]
  · rw [beq_eq_false_iff_ne.2 h, beq_eq_false_iff_ne.2 fun e => h e.symm]
theorem contains_loop {k : Nat} {s : List UInt8} {out : List (List UInt8)} (h : out.length < 1073741824) : ∀ (n i : Nat), i ≤ out.length → out.length - i < n →
    ∃ o, slices_Index_string_b0 k n out s (out.length : Int) (i : Int) = some o ∧ (oc o (fun _ => some (-1 : Int)) fun v => some v).map (fun v => decide (v ≥ 0)) = some ((out.drop i).any fun e => e == s) := by
  intro n
  induction n with
  | zero => intro i _ h; omega
  | succ n ih =>
    intro i hi hn
    rw [slices_Index_string_b0, bif_dec]
    by_cases c : i < out.length
    · rw [if_pos (by omega), List.drop_eq_getElem_cons c, List.any_cons, idx_nat c, Option.bind_some, beq_sym]
      cases (out[i] == s) with
      | true => exact ⟨_, rfl, by simp [oc]⟩
      | false => rw [cond_false, wrap_succ (by omega), Bool.false_or]; exact ih (i + 1) (by omega) (by omega)
    · rw [if_neg (by omega), List.drop_of_length_le (by omega)]
      exact ⟨_, rfl, rfl⟩
theorem contains_eq {k : Nat} (hk : 1073741824 ≤ k) (out : List (List UInt8)) (s : List UInt8) (h : out.length < 1073741824) : slices_Contains_string k out s = some (hasT out s) := by
  obtain ⟨o, h1, h2⟩ := contains_loop (k := k) (s := s) h k 0 (by omega) (by omega)
  rw [show ((0 : Nat) : Int) = 0 from rfl] at h1
  rw [List.drop_zero] at h2
  rw [slices_Contains_string, slices_Index_string, h1, Option.bind_some]
  unfold hasT
  rw [← h2]
  cases o <;> rfl
theorem I_VaryOf_loop {k : Nat} (hk : 1073741824 ≤ k) {w : List (List UInt8)} (hw : w.length < 1073741824) (hm : ∀ p ∈ w, p.length < 1073741824) : ∀ (n i : Nat) (out : List (List UInt8)), i ≤ w.length → w.length - i < n → out.length ≤ i →
    ∃ o, I_VaryOf_b0 k n (w.length : Int) (i : Int) out w = some o ∧ (oc o (fun v => some (v, false)) fun v => some v) = some (varyL (w.drop i) out) := by
  intro n
  induction n with
  | zero => intro i out _ h; omega
  | succ n ih =>
    intro i out hi hn ho
    rw [I_VaryOf_b0, bif_dec]
    by_cases c : i < w.length
    · rw [if_pos (by omega), List.drop_eq_getElem_cons c, varyL, I_VaryOf_b1, idx_nat c]
      simp only [Option.bind_some]
      rw [I_LowerText_eq hk _ (hm _ (List.getElem_mem c)), Option.bind_some, lowT_star]
      cases (w[i] == ([42] : List UInt8)) with
      | true => exact ⟨_, rfl, rfl⟩
      | false =>
        rw [cond_false, contains_eq hk _ _ (by omega), Option.bind_some, I_VaryOf_c30]
        cases hasT out (lowT w[i]) with
        | false => simp only [Bool.not_false, cond_true]; rw [appn_ok (by simp; omega)]; simp only [Option.bind_some, oc]; rw [wrap_succ (by omega)]; exact ih (i + 1) _ (by omega) (by omega) (by simp; omega)
        | true => simp only [Bool.not_true, cond_false, Option.bind_some, oc]; rw [wrap_succ (by omega)]; exact ih (i + 1) _ (by omega) (by omega) (by omega)
    · rw [if_neg (by omega), List.drop_of_length_le (by omega)]
      exact ⟨_, rfl, rfl⟩
theorem I_VaryOf_eq {k : Nat} (hk : 1073741824 ≤ k) (l : List IField) (h : fsz l < 134217728) : I_VaryOf k l = some (varyOf l) := by
  have hg := getF_len l [118, 97, 114, 121]
  rw [I_VaryOf, I_GetField_eq hk l _ (by omega), Option.bind_some, I_SplitList_eq hk _ (by omega), Option.bind_some]
  have hw := splitL_len (getF l [118, 97, 114, 121]).1
  obtain ⟨o, h1, h2⟩ := I_VaryOf_loop hk (w := splitL (getF l [118, 97, 114, 121]).1) (by omega) (fun p hp => by have := splitL_mem hp; omega) k 0 [] (by omega) (by omega) (by simp)
  rw [show ((0 : Nat) : Int) = 0 from rfl] at h1
  rw [h1, Option.bind_some, h2, List.drop_zero]; rfl
/-! Selecting fields. -/
def selV (fs : List IField) (n : List UInt8) : List UInt8 := joinT (splitL (getF fs n).1)
theorem selV_len (fs : List IField) (n : List UInt8) : (selV fs n).length ≤ 6 * fsz fs + 2 := by
  have h1 := getF_len fs n
  have h2 := splitL_len (getF fs n).1
  have h3 := splitL_sum (getF fs n).1
  have h4 := joinT_len (splitL (getF fs n).1)
  unfold selV; omega
theorem selV_ok {fs : List IField} (n : List UInt8) (h : fsz fs < 67108864) : (getF fs n).1.length < 1073741000 ∧ 2 * (splitL (getF fs n).1).length + Lib.lens (splitL (getF fs n).1) < 1073741824 := by
  have h1 := getF_len fs n
  have h2 := splitL_len (getF fs n).1
  have h3 := splitL_sum (getF fs n).1
  omega
def selOf (fs : List IField) (ns : List (List UInt8)) : List IField := ns.map fun n => ⟨n, selV fs n⟩
theorem selFold (fs : List IField) (ns : List (List UInt8)) : foldI (fun j s => s ++ (ns[j]?).elim [] fun n => [(⟨n, selV fs n⟩ : IField)]) ns.length 0 [] = selOf fs ns := by
  rw [foldI_append (f := fun n => [(⟨n, selV fs n⟩ : IField)]) ns.length 0 [] (by omega), List.drop_zero, List.nil_append]
  unfold selOf
  induction ns with
  | nil => rfl
  | cons a l ih => rw [List.flatMap_cons, ih]; rfl
theorem I_SelectingOf_eq {k : Nat} (hk : 1073741824 ≤ k) (r : IRequest) (ns : List (List UInt8)) (h : fsz r.Fields < 67108864) (hn : ns.length < 1073741824) : I_SelectingOf k r ns = some (selOf r.Fields ns) := by
  have := fold_all (len := ns.length) (g := fun j s => s ++ (ns[j]?).elim [] fun n => [(⟨n, selV r.Fields n⟩ : IField)]) (Inv := fun i s => s.length ≤ i) (F := fun m i s => I_SelectingOf_b0 k m ns (ns.length : Int) i r.Method r.Host r.Target r.Fields s) (out := id) (fun m i s hi hI => by
    obtain ⟨s1, s2⟩ := selV_ok ns[i] h
    simp only [I_SelectingOf_b0, bif_dec, lt_cast, hi, if_true, idx_nat hi, Option.bind_some, wrap_succ (by omega : i < 9223372036854775807), List.getElem?_eq_getElem hi, Option.elim_some]
    rw [I_GetField_eq hk _ _ (by omega), Option.bind_some, I_SplitList_eq hk _ s1, Option.bind_some, I_JoinList_eq _ s2, Option.bind_some, appn_ok (by simp; omega)]
    exact ⟨rfl, by simp; omega⟩) (fun m i s hi => by
    simp only [I_SelectingOf_b0, bif_dec, lt_cast]
    rw [if_neg (by omega)]; rfl) (k := k) (by omega) (s := []) (by simp)
  have h1 : I_SelectingOf_b0 k k ns (ns.length : Int) 0 r.Method r.Host r.Target r.Fields [] = some (foldI (fun j s => s ++ (ns[j]?).elim [] fun n => [(⟨n, selV r.Fields n⟩ : IField)]) ns.length 0 []) := this.1
  rw [I_SelectingOf, h1, selFold]; rfl
def agrP (fs : List IField) (l : List IField) (i : Nat) : Bool := match l[i]? with | some e => !(selV fs e.Name == e.Value) | none => false
def agrees (fs l : List IField) : Bool := (firstI (agrP fs l) l.length 0).isNone
theorem I_Agrees_eq {k : Nat} (hk : 1073741824 ≤ k) (r : IRequest) (l : List IField) (h : fsz r.Fields < 67108864) (hn : l.length < 1073741824) : I_Agrees k r l = some (agrees r.Fields l) := by
  have := find_all (len := l.length) (c := fun i => bif agrP r.Fields l i then some false else none) (F := fun n i => I_Agrees_b0 k n l (l.length : Int) i r.Method r.Host r.Target r.Fields) (fun n i hi => by
    have hsel := I_SelectingOf_eq hk (⟨r.Method, r.Host, r.Target, r.Fields⟩ : IRequest) [l[i].Name] h (by simp)
    simp only [I_Agrees_b0, idx_nat hi, Option.bind_some, wrap_succ (by omega : i < 9223372036854775807), bif_dec, lt_cast, hi, if_true, agrP, List.getElem?_eq_getElem hi, hsel]
    have e : idx (selOf r.Fields [l[i].Name]) (0 : Int) = some ⟨l[i].Name, selV r.Fields l[i].Name⟩ := rfl
    simp only [e, Option.bind_some]
    cases (selV r.Fields l[i].Name == l[i].Value) <;> rfl) (fun n i hi => by
    simp only [I_Agrees_b0, bif_dec, lt_cast]
    rw [if_neg (by omega)]) (k := k) (by omega)
  rw [I_Agrees, this, findI_first]
  unfold agrees
  cases firstI (agrP r.Fields l) l.length 0 <;> simp [ocOf, oc]
theorem S_DrawSel_loop {k : Nat} {y20 y21 y22 y50 y51 y52 : List UInt8} {fs : List IField} : ∀ (n j : Nat) (r : List (List UInt8)) (b : List Int) (i h : Int), j < n → r.length + j ≤ 100 → CurOk ⟨b, i, h⟩ →
    ∃ t, S_DrawSelectingOf_b0 k n (j : Int) y20 y21 y22 b i h y50 y51 y52 fs r = some t ∧ t.length ≤ r.length + j := by
  intro n
  induction n with
  | zero => intro j r b i h hj; omega
  | succ n ih =>
    intro j r b i h hj hx hc
    rw [S_DrawSelectingOf_b0, bif_dec]
    cases j with
    | zero => rw [if_neg (by omega)]; exact ⟨_, rfl, by omega⟩
    | succ j =>
      rw [if_pos (by omega)]
      obtain ⟨s1, c1, e1, l1, h1⟩ := S_l1Str_tot (k := k) hc (l := [([97, 99, 99, 101, 112, 116, 45, 108, 97, 110, 103, 117, 97, 103, 101] : List UInt8), ([97, 117, 116, 104, 111, 114, 105, 122, 97, 116, 105, 111, 110] : List UInt8), ([97] : List UInt8), ([110, 111, 110, 101] : List UInt8)]) (by decide)
      rw [e1, Option.bind_some, appn_ok (by simp only [List.length_cons, List.length_nil]; omega), Option.bind_some, wrap_pred (by omega)]
      obtain ⟨t, e, hl⟩ := ih j (r ++ [s1]) c1.b c1.i c1.h (by omega) (by simp only [List.length_append, List.length_cons, List.length_nil]; omega) h1
      exact ⟨t, e, by simp only [List.length_append, List.length_cons, List.length_nil] at hl; omega⟩
theorem S_DrawSelectingOf_tot {k : Nat} (hk : 1073741824 ≤ k) {x : List Int} (hx : x.length ≤ 1048576) : ∃ r ns, S_DrawSelectingOf k x = some (r, ns) ∧ ns.length ≤ 100 ∧ r.Fields.length ≤ 3 ∧ ∀ e ∈ r.Fields, shortF e := by
  unfold S_DrawSelectingOf
  obtain ⟨c, e, h⟩ := S_l1New_tot hk hx
  obtain ⟨r, c1, e1, h1, _⟩ := S_l11Request_tot hk h
  obtain ⟨fs, c2, e2, h2, n2, l2⟩ := S_l14Fields_tot hk h1
  obtain ⟨v, c3, e3, ⟨a3, b3⟩, h3⟩ := S_l1Below_tot (k := k) h2 (n := 4) (by omega)
  obtain ⟨m, rfl⟩ := Int.eq_ofNat_of_zero_le a3
  obtain ⟨t, e4, hl⟩ := S_DrawSel_loop (k := k) (y20 := []) (y21 := []) (y22 := []) (y50 := r.Method) (y51 := r.Host) (y52 := r.Target) (fs := fs) k m [] c3.b c3.i c3.h (by omega) (by simp only [List.length_nil]; omega) h3
  simp only [e, Option.bind_some, e1, e2, e3, e4]
  exact ⟨_, _, rfl, by simp only [List.length_nil] at hl; omega, n2, l2⟩
theorem S_DrawVary_loop {k : Nat} : ∀ (n j : Nat) (r : List IField) (b : List Int) (i h : Int), j < n → r.length + j ≤ 100 → CurOk ⟨b, i, h⟩ → (∀ e ∈ r, e.Value.length ≤ 60) →
    ∃ t, S_DrawVaryOf_b0 k n (j : Int) b i h r = some t ∧ t.length ≤ r.length + j ∧ ∀ e ∈ t, e.Value.length ≤ 60 := by
  intro n
  induction n with
  | zero => intro j r b i h hj; omega
  | succ n ih =>
    intro j r b i h hj hx hc hr
    rw [S_DrawVaryOf_b0, bif_dec]
    cases j with
    | zero => rw [if_neg (by omega)]; exact ⟨_, rfl, by omega, hr⟩
    | succ j =>
      rw [if_pos (by omega)]
      obtain ⟨s1, c1, e1, l1, h1⟩ := S_l1Str_len (k := k) hc (l := [([65, 99, 99, 101, 112, 116, 45, 76, 97, 110, 103, 117, 97, 103, 101] : List UInt8), ([97, 44, 32, 65] : List UInt8), ([42] : List UInt8), ([97, 44, 32, 42] : List UInt8), ([] : List UInt8), ([97, 117, 116, 104, 111, 114, 105, 122, 97, 116, 105, 111, 110, 44, 32, 97, 99, 99, 101, 112, 116, 45, 108, 97, 110, 103, 117, 97, 103, 101] : List UInt8)]) (by decide) (n := 60) (by decide)
      rw [e1, Option.bind_some, appn_ok (by simp only [List.length_cons, List.length_nil]; omega), Option.bind_some, wrap_pred (by omega)]
      obtain ⟨t, e, hl, ht⟩ := ih j (r ++ [⟨[118, 97, 114, 121], s1⟩]) c1.b c1.i c1.h (by omega) (by simp only [List.length_append, List.length_cons, List.length_nil]; omega) h1 (fun e he => by
        rcases List.mem_append.1 he with he | he
        · exact hr e he
        · have : e = ⟨[118, 97, 114, 121], s1⟩ := by simpa using he
          subst this; exact l1)
      exact ⟨t, e, by simp only [List.length_append, List.length_cons, List.length_nil] at hl; omega, ht⟩
theorem S_DrawVaryOf_tot {k : Nat} (hk : 1073741824 ≤ k) {x : List Int} (hx : x.length ≤ 1048576) : ∃ t, S_DrawVaryOf k x = some t ∧ t.length ≤ 100 ∧ ∀ e ∈ t, e.Value.length ≤ 60 := by
  unfold S_DrawVaryOf
  obtain ⟨c, e, h⟩ := S_l1New_tot hk hx
  obtain ⟨fs, c2, e2, h2, n2, l2⟩ := S_l14Fields_tot hk h
  obtain ⟨v, c3, e3, ⟨a3, b3⟩, h3⟩ := S_l1Below_tot (k := k) h2 (n := 3) (by omega)
  obtain ⟨m, rfl⟩ := Int.eq_ofNat_of_zero_le a3
  obtain ⟨t, e4, hl, ht⟩ := S_DrawVary_loop (k := k) k m fs c3.b c3.i c3.h (by omega) (by omega) h3 fun e he => (l2 e he).1
  simp only [e, Option.bind_some, e2, e3, e4]
  exact ⟨t, rfl, by omega, ht⟩
theorem varyL_star : ∀ (l out : List (List UInt8)), (varyL l out).2 = true → (varyL l out).1 = []
  | [], out, h => by simp [varyL] at h
  | e :: l, out, h => by
    rw [varyL] at h ⊢
    cases hc : (e == ([42] : List UInt8)) with
    | true => rfl
    | false => rw [hc, cond_false] at h; rw [cond_false]; exact varyL_star l _ h
theorem hasT_snoc {out : List (List UInt8)} {s : List UInt8} (h : out.Nodup) (hs : hasT out s = false) : (out ++ [s]).Nodup := by
  refine List.pairwise_append.2 ⟨h, by simp, fun a ha b hb e => ?_⟩
  have : b = s := by simpa using hb
  subst this
  subst e
  have := List.any_eq_false.1 hs a ha
  simp at this
theorem varyL_nodup : ∀ (l out : List (List UInt8)), out.Nodup → (varyL l out).1.Nodup
  | [], out, h => by rw [varyL]; exact h
  | e :: l, out, h => by
    rw [varyL]
    cases hc : (e == ([42] : List UInt8)) with
    | true => exact List.nodup_nil
    | false =>
      rw [cond_false]
      refine varyL_nodup l _ ?_
      cases hs : hasT out (lowT e) with
      | true => exact h
      | false => exact hasT_snoc h hs
theorem Sel_in {k : Nat} {x8 : Bool} {y0 y1 y2 : List UInt8} {fs r5 : List IField} {r4 l : List (List UInt8)} (hl : l.length < 1073741824) (h : l.Nodup) {j : Nat} (hj : j < l.length) : ∀ (n i : Nat), i ≤ j → j - i < n →
    L_FnSelecting_b2 k n x8 (j : Int) (i : Int) y0 y1 y2 fs r4 r5 l = some (.nrm ()) := by
  intro n
  induction n with
  | zero => intro i _ h; omega
  | succ n ih =>
    intro i hi hn
    rw [L_FnSelecting_b2, bif_dec]
    by_cases c : i < j
    · have hne : l[i] ≠ l[j] := List.pairwise_iff_getElem.1 h i j (by omega) hj c
      rw [if_pos (by omega)]
      simp only [idx_nat (show i < l.length by omega), idx_nat hj, Option.bind_some]
      rw [beq_eq_false_iff_ne.2 hne, cond_false, wrap_succ (by omega)]
      exact ih (i + 1) (by omega) (by omega)
    · rw [if_neg (by omega)]
theorem Sel_out {k : Nat} (hk : 1073741824 ≤ k) {x8 : Bool} {y0 y1 y2 : List UInt8} {fs r5 : List IField} {r4 l : List (List UInt8)} (hl : l.length < 1073741824) (h : l.Nodup) : ∀ (n i : Nat), i ≤ l.length → l.length - i < n →
    L_FnSelecting_b0 k n x8 (i : Int) y0 y1 y2 fs r4 r5 l = some (.nrm ()) := by
  intro n
  induction n with
  | zero => intro i _ h; omega
  | succ n ih =>
    intro i hi hn
    rw [L_FnSelecting_b0, bif_dec]
    by_cases c : i < l.length
    · have := Sel_in (k := k) (x8 := x8) (y0 := y0) (y1 := y1) (y2 := y2) (fs := fs) (r5 := r5) (r4 := r4) hl h c k 0 (by omega) (by omega)
      rw [show (((0 : Nat)) : Int) = 0 from rfl] at this
      rw [if_pos (by omega), this, Option.bind_some, wrap_succ (by omega)]
      exact ih (i + 1) (by omega) (by omega)
    · rw [if_neg (by omega)]
theorem agrees_own (fs : List IField) (ns : List (List UInt8)) : agrees fs (selOf fs ns) = true := by
  unfold agrees
  rw [firstI_no]
  · rfl
  · intro j hj
    unfold agrP
    rw [List.getElem?_eq_getElem hj]
    simp [selOf]
theorem FnSelecting_pure {k : Nat} (hk : 1073741824 ≤ k) (a0 : List Int) (h0 : InL InB a0) : L_FnSelecting k a0 = some true := by
  unfold L_FnSelecting
  rw [L_big_eq, Option.bind_some, bif_dec]
  by_cases c1 : (a0.length : Int) > 1048576
  · rw [if_pos c1]
  rw [if_neg c1]
  obtain ⟨r, ns, er, ln, lf, hf⟩ := S_DrawSelectingOf_tot hk (x := a0) (by omega)
  obtain ⟨l, el, ll, hl⟩ := S_DrawVaryOf_tot hk (x := a0) (by omega)
  have z1 := fsz_le (l := r.Fields) (n := 60) fun e he => (hf e he).1
  have z2 := fsz_le (l := l) (n := 60) hl
  have hv : (varyOf l).1.Nodup := varyL_nodup _ _ List.nodup_nil
  have vl : (varyOf l).1.length < 1073741824 := by
    have h1 := varyL_len (splitL (getF l [118, 97, 114, 121]).1) []
    have h2 := splitL_len (getF l [118, 97, 114, 121]).1
    have h3 := getF_len l [118, 97, 114, 121]
    unfold varyOf
    simp only [List.length_nil] at h1
    omega
  have hs := Sel_out (k := k) hk (x8 := (varyOf l).2) (y0 := r.Method) (y1 := r.Host) (y2 := r.Target) (fs := r.Fields) (r5 := selOf r.Fields ns) (r4 := ns) vl hv k 0 (by omega) (by omega)
  rw [show (((0 : Nat)) : Int) = 0 from rfl] at hs
  have lo : (selOf r.Fields ns).length = ns.length := by unfold selOf; rw [List.length_map]
  rw [er, Option.bind_some]
  simp only [I_SelectingOf_eq hk r _ (by omega) (show ns.length < 1073741824 by omega), Option.bind_some, el, I_VaryOf_eq hk l (by omega), hs, oc]
  rw [I_GetField_eq hk _ _ (by omega), Option.bind_some, I_SelectingOf_eq hk r _ (by omega) (by simp), Option.bind_some, I_Agrees_eq hk r _ (by omega) (by omega), Option.bind_some, agrees_own, cond_true, lo, BEq.rfl, cond_true]
  have i0 : idx (selOf r.Fields [([97, 99, 99, 101, 112, 116, 45, 108, 97, 110, 103, 117, 97, 103, 101] : List UInt8)]) (0 : Int) = some ⟨[97, 99, 99, 101, 112, 116, 45, 108, 97, 110, 103, 117, 97, 103, 101], selV r.Fields [97, 99, 99, 101, 112, 116, 45, 108, 97, 110, 103, 117, 97, 103, 101]⟩ := rfl
  have lg := getF_len r.Fields [97, 99, 99, 101, 112, 116, 45, 108, 97, 110, 103, 117, 97, 103, 101]
  have ls := selV_len r.Fields [97, 99, 99, 101, 112, 116, 45, 108, 97, 110, 103, 117, 97, 103, 101]
  simp only [i0, Option.bind_some]
  have nq : noQ (getF r.Fields [97, 99, 99, 101, 112, 116, 45, 108, 97, 110, 103, 117, 97, 103, 101]).1 := noQ_join fun p hp => by
    unfold valsF at hp
    obtain ⟨e, he, hp⟩ := List.mem_flatMap.1 hp
    unfold valOfF at hp
    cases hc : (e.Name == ([97, 99, 99, 101, 112, 116, 45, 108, 97, 110, 103, 117, 97, 103, 101] : List UInt8)) with
    | false => rw [hc] at hp; cases hp
    | true =>
      rw [hc] at hp
      have : p = e.Value := by simpa using hp
      subst this
      exact (hf e he).2
  have pq : parseQ (selV r.Fields [97, 99, 99, 101, 112, 116, 45, 108, 97, 110, 103, 117, 97, 103, 101]) = parseQ (getF r.Fields [97, 99, 99, 101, 112, 116, 45, 108, 97, 110, 103, 117, 97, 103, 101]).1 := by
    unfold parseQ selV
    rw [splitL_twice nq]
  rw [I_ChooseName_eq hk _ _ (by simp) (by omega), Option.bind_some, I_ChooseName_eq hk _ _ (by simp) (by omega), Option.bind_some]
  have ct : ∀ x, chooseT x (selV r.Fields [97, 99, 99, 101, 112, 116, 45, 108, 97, 110, 103, 117, 97, 103, 101]) = chooseT x (getF r.Fields [97, 99, 99, 101, 112, 116, 45, 108, 97, 110, 103, 117, 97, 103, 101]).1 := fun x => by unfold chooseT; rw [pq]
  rw [ct, BEq.rfl]
  cases hst : (varyOf l).2 with
  | false => rfl
  | true =>
    have : (varyOf l).1 = [] := varyL_star _ _ hst
    rw [this]; rfl

end Go.YtgdjicnefdnofaaDoor
