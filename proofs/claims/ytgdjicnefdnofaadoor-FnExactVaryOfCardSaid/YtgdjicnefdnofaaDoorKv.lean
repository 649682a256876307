/- What the functions come to. Nothing is claimed here. -/
import Derived.Test.YtgdjicnefdnofaaDoorKu
set_option linter.unusedVariables false
set_option linter.unusedSimpArgs false
set_option maxRecDepth 100000
namespace Go.YtgdjicnefdnofaaDoor
open Go Go.RowKit Go.Pv Go.Pu

/-! Text without blanks around it. -/
def blank (c : UInt8) : Bool := c == 32 || c == 9
def rtrim (x : List UInt8) : List UInt8 := (x.reverse.dropWhile blank).reverse
def trimT (x : List UInt8) : List UInt8 := rtrim (x.dropWhile blank)
theorem rtrim_cons (e : UInt8) (l : List UInt8) : rtrim (e :: l) = if rtrim l = [] then (if blank e then [] else [e]) else e :: rtrim l := by
  unfold rtrim
  rw [List.reverse_cons, List.dropWhile_append]
  cases h : l.reverse.dropWhile blank with
  | nil => cases hb : blank e <;> simp [List.dropWhile_cons, hb]
  | cons a m => simp
theorem rtrim_snoc (l : List UInt8) (c : UInt8) : rtrim (l ++ [c]) = if blank c then rtrim l else l ++ [c] := by
  unfold rtrim
  rw [List.reverse_append]
  cases hb : blank c <;> simp [List.dropWhile_cons, hb]
theorem trim_comm : ∀ x : List UInt8, rtrim (x.dropWhile blank) = (rtrim x).dropWhile blank
  | [] => rfl
  | e :: l => by
    have ih := trim_comm l
    rw [rtrim_cons, List.dropWhile_cons]
    cases hb : blank e with
    | true =>
      by_cases h : rtrim l = []
      · rw [h] at ih; simp [h, ih]
      · simp [h, List.dropWhile_cons, hb, ih]
    | false =>
      rw [if_neg (by simp), rtrim_cons]
      by_cases h : rtrim l = []
      · simp [h, List.dropWhile_cons, hb]
      · simp [h, List.dropWhile_cons, hb]
theorem trimS_eq (x : List UInt8) : Lib.trimS x [32, 9] = trimT x := by
  have hc : (fun b : UInt8 => ([32, 9] : List UInt8).contains b) = blank := by
    funext b; unfold blank
    simp only [List.contains, List.elem]
    cases h1 : (b == 32) <;> cases h2 : (b == 9) <;> rfl
  unfold Lib.trimS Lib.trimLeftS Lib.trimRightS trimT
  rw [hc, trim_comm]; rfl
theorem rtrim_len (x : List UInt8) : (rtrim x).length ≤ x.length := by
  unfold rtrim
  have := (List.dropWhile_sublist blank (l := x.reverse)).length_le
  simpa using this
theorem trimT_len (x : List UInt8) : (trimT x).length ≤ x.length := by
  have h1 := (List.dropWhile_sublist blank (l := x)).length_le
  have h2 := rtrim_len (x.dropWhile blank)
  unfold trimT; omega
theorem I_TrimText_eq {k : Nat} (x : List UInt8) (h : x.length < 1073741824) : I_TrimText k x = some (trimT x) := by
  have hd : (decide (x.length ≤ 9223372036854775807) && decide (([32, 9] : List UInt8).length < 4294967281) && ([32, 9] : List UInt8).all (fun b => decide (b.toNat < 128))) = true := by
    rw [Bool.and_eq_true, Bool.and_eq_true]; exact ⟨⟨decide_eq_true (by omega), by decide⟩, by decide⟩
  rw [I_TrimText, strings_Trim, trimO, hd, cond_true, trimS_eq]; rfl
theorem S_l4Blank_eq {k : Nat} (c : UInt8) : S_l4Blank k (UInt8.toNat c : Int) = some (blank c) := by
  have h1 := u8_eq c 32
  have h2 := u8_eq c 9
  rw [S_l4Blank, show (32 : Int) = ((32 : UInt8).toNat : Int) from rfl, h1, show (9 : Int) = ((9 : UInt8).toNat : Int) from rfl, h2]
  unfold blank
  cases (c == 32) <;> rfl
theorem S_Trim_1 {k : Nat} : ∀ (n : Nat) (x : List UInt8), x.length < n → x.length < 1073741824 → S_TrimText_b0 k n x = some (x.dropWhile blank) := by
  intro n
  induction n with
  | zero => intro x h; omega
  | succ n ih =>
    intro x h hx
    rw [S_TrimText_b0, bif_dec]
    cases x with
    | nil => rw [if_neg (by simp)]; rfl
    | cons c l =>
      have e : idx (c :: l) (0 : Int) = some c := rfl
      have hs : ssub (c :: l) (1 : Int) ((c :: l).length : Int) = some l := by
        have := ssub_drop (x := c :: l) (i := 1) (by simp)
        simpa using this
      rw [if_pos (by rw [List.length_cons]; omega), e, Option.bind_some, S_l4Blank_eq, Option.bind_some, List.dropWhile_cons]
      cases blank c with
      | true => rw [cond_true, hs, Option.bind_some, ih l (by simp at h; omega) (by simp at hx; omega), if_pos rfl]
      | false => rw [cond_false, if_neg (by simp)]
theorem S_Trim_2 {k : Nat} : ∀ (n : Nat) (x : List UInt8), x.length < n → x.length < 1073741824 → S_TrimText_b2 k n x = some (rtrim x) := by
  intro n
  induction n with
  | zero => intro x h; omega
  | succ n ih =>
    intro x h hx
    rw [S_TrimText_b2, bif_dec]
    rcases List.eq_nil_or_concat x with rfl | ⟨l, c, rfl⟩
    · rw [if_neg (by simp)]; rfl
    · rw [List.concat_eq_append] at *
      have hl : (l ++ [c]).length = l.length + 1 := by simp
      have e1 : IntKind.wrap .i64 (((l ++ [c]).length : Int) - 1) = (l.length : Int) := by rw [wrap_id (by omega) (by omega)]; omega
      have e2 : idx (l ++ [c]) (l.length : Int) = some c := by
        show (l ++ [c])[l.length]? = some c
        simp
      have e3 : ssub (l ++ [c]) (0 : Int) (l.length : Int) = some l := by
        rw [ssub_take (by omega)]; simp
      rw [if_pos (by omega), e1, e2, Option.bind_some, S_l4Blank_eq, Option.bind_some, rtrim_snoc]
      cases blank c with
      | true => rw [cond_true, e3, Option.bind_some, ih l (by omega) (by omega), if_pos rfl]
      | false => rw [cond_false, if_neg (by simp)]
theorem S_TrimText_eq {k : Nat} (hk : 1073741824 ≤ k) (x : List UInt8) (h : x.length < 1073741824) : S_TrimText k x = some (trimT x) := by
  have h1 := (List.dropWhile_sublist blank (l := x)).length_le
  rw [S_TrimText, S_Trim_1 k x (by omega) h, Option.bind_some, S_Trim_2 k _ (by omega) (by omega)]; rfl
/-! Lists split. -/
def cutG (b : UInt8) : List UInt8 → Bool → Bool → List UInt8 → List (List UInt8)
  | [], _, _, cur => [cur]
  | c :: r, q, true, cur => cutG b r q false (cur ++ [c])
  | c :: r, q, false, cur => bif q && c == 92 then cutG b r q true (cur ++ [c]) else bif c == 34 then cutG b r (!q) false (cur ++ [c]) else bif !q && c == b then cur :: cutG b r q false [] else cutG b r q false (cur ++ [c])
theorem cutG_mem (b : UInt8) : ∀ (l : List UInt8) (q sk : Bool) (cur p : List UInt8), p ∈ cutG b l q sk cur → p.length ≤ cur.length + l.length
  | [], q, sk, cur, p, h => by
    unfold cutG at h
    have : p = cur := by simpa using h
    rw [this]; omega
  | c :: r, q, true, cur, p, h => by
    have := cutG_mem b r q false (cur ++ [c]) p (by simpa [cutG] using h)
    simp at this ⊢; omega
  | c :: r, q, false, cur, p, h => by
    rw [cutG] at h
    have step : ∀ q' sk', p ∈ cutG b r q' sk' (cur ++ [c]) → p.length ≤ cur.length + (c :: r).length := fun q' sk' h => by
      have := cutG_mem b r q' sk' (cur ++ [c]) p h
      simp at this ⊢; omega
    cases h1 : (q && c == 92) with
    | true => rw [h1] at h; exact step _ _ h
    | false =>
      rw [h1] at h
      cases h2 : (c == 34) with
      | true => rw [h2] at h; exact step _ _ h
      | false =>
        rw [h2] at h
        cases h3 : (!q && c == b) with
        | false => rw [h3] at h; exact step _ _ h
        | true =>
          rw [h3] at h
          simp only [cond_true, cond_false] at h
          rcases List.mem_cons.1 h with rfl | h
          · omega
          · have := cutG_mem b r q false [] p h
            simp at this ⊢; omega
theorem cutG_len (b : UInt8) : ∀ (l : List UInt8) (q sk : Bool) (cur : List UInt8), (cutG b l q sk cur).length ≤ l.length + 1
  | [], q, sk, cur => by simp [cutG]
  | c :: r, q, true, cur => by have := cutG_len b r q false (cur ++ [c]); simp [cutG]; omega
  | c :: r, q, false, cur => by
    rw [cutG]
    have s1 := fun q' sk' cur' => cutG_len b r q' sk' cur'
    cases (q && c == 92) with
    | true => rw [cond_true]; have := s1 q true (cur ++ [c]); simp; omega
    | false =>
      cases (c == 34) with
      | true => rw [cond_false, cond_true]; have := s1 (!q) false (cur ++ [c]); simp; omega
      | false =>
        cases (!q && c == b) with
        | true => rw [cond_false, cond_false, cond_true]; have := s1 q false []; simp; omega
        | false => rw [cond_false, cond_false, cond_false]; have := s1 q false (cur ++ [c]); simp; omega
def sub (x : List UInt8) (f i : Nat) : List UInt8 := (x.take i).drop f
theorem sub_succ {x : List UInt8} {f i : Nat} (hf : f ≤ i) (hi : i < x.length) : sub x f (i + 1) = sub x f i ++ [x[i]] := by
  unfold sub
  have : x.take (i + 1) = x.take i ++ [x[i]] := by rw [List.take_add_one, List.getElem?_eq_getElem hi]; rfl
  rw [this, List.drop_append_of_le_length (by simp; omega)]
theorem sub_self (x : List UInt8) (i : Nat) : sub x i i = [] := by unfold sub; rw [List.drop_eq_nil_iff]; simp; omega
theorem sub_end {x : List UInt8} {f i : Nat} (h : x.length ≤ i) : sub x f i = x.drop f := by unfold sub; rw [List.take_of_length_le h]
theorem ssub_sub {x : List UInt8} {f i : Nat} (h1 : f ≤ i) (h : i ≤ x.length) : ssub x (f : Int) (i : Int) = some (sub x f i) := ssub_mid h1 h
theorem cutG_skip {b : UInt8} {x : List UInt8} {f i : Nat} {q : Bool} (hf : f ≤ i) (hi : i < x.length) : cutG b (x.drop (i + 1)) q true (sub x f i ++ [x[i]]) = cutG b (x.drop (i + 2)) q false (sub x f (i + 2)) := by
  rw [← sub_succ hf hi]
  by_cases h : i + 1 < x.length
  · rw [List.drop_eq_getElem_cons h, cutG, sub_succ (by omega) h]
  · rw [List.drop_of_length_le (by omega), List.drop_of_length_le (by omega), cutG, cutG, sub_end (by omega), sub_end (by omega)]
theorem S_l4Cut_loop {k : Nat} {x : List UInt8} {b : UInt8} (hx : x.length < 1073741824) : ∀ (n i f : Nat) (q : Bool) (r : List (List UInt8)), f ≤ i → f ≤ x.length → x.length + 2 ≤ i + n → i ≤ x.length + 1 → r.length ≤ i →
    ∃ (f' : Nat) (r' : List (List UInt8)), S_l4Cut_b0 k n x (b.toNat : Int) (f : Int) q (i : Int) r = some ((f' : Int), r') ∧ f' ≤ x.length ∧ r'.length ≤ x.length + 1 ∧ r' ++ [x.drop f'] = r ++ cutG b (x.drop i) q false (sub x f i) := by
  intro n
  induction n with
  | zero => intro i f q r _ _ h h2; omega
  | succ n ih =>
    intro i f q r hf hf2 hn hi hr
    rw [S_l4Cut_b0, bif_dec]
    by_cases c : i < x.length
    · have u92 := u8_eq x[i] 92
      have u34 := u8_eq x[i] 34
      have ub := u8_eq x[i] b
      rw [show (((92 : UInt8).toNat : Nat) : Int) = 92 from rfl] at u92
      rw [show (((34 : UInt8).toNat : Nat) : Int) = 34 from rfl] at u34
      rw [if_pos (by omega), List.drop_eq_getElem_cons c, cutG]
      simp only [S_l4Cut_b1, S_l4Cut_b2, idx_nat c, Option.bind_some, S_l4Cut_c16, S_l4Cut_c26, S_l4Cut_c33, u92, u34, ub]
      have plain := fun q' => ih (i + 1) f q' r (by omega) hf2 (by omega) (by omega) (by omega)
      cases q with
      | true =>
        cases h1 : (x[i] == 92) with
        | true =>
          simp only [cond_true, Option.bind_some, Bool.true_and]
          rw [wrap_succ (by omega), wrap_succ (by omega), cutG_skip hf c]
          exact ih (i + 2) f true r (by omega) hf2 (by omega) (by omega) (by omega)
        | false =>
          simp only [cond_true, cond_false, Option.bind_some, Bool.true_and]
          rw [← sub_succ hf c]
          cases h2 : (x[i] == 34) with
          | true => simp only [cond_true, Option.bind_some]; rw [wrap_succ (by omega)]; exact plain false
          | false => simp only [cond_false, Bool.not_true, Option.bind_some, Bool.false_and]; rw [wrap_succ (by omega)]; exact plain true
      | false =>
        simp only [cond_false, Option.bind_some, Bool.false_and]
        cases h2 : (x[i] == 34) with
        | true => simp only [cond_true, Option.bind_some]; rw [wrap_succ (by omega), ← sub_succ hf c]; exact plain true
        | false =>
          simp only [cond_false, Bool.not_false, cond_true, Bool.true_and]
          cases h3 : (x[i] == b) with
          | true =>
            simp only [cond_true]
            rw [ssub_sub hf (by omega), Option.bind_some, appn_ok (by simp; omega)]
            simp only [Option.bind_some]
            rw [wrap_succ (by omega)]
            obtain ⟨f', r', e1, e2, e3, e4⟩ := ih (i + 1) (i + 1) false (r ++ [sub x f i]) (by omega) (by omega) (by omega) (by omega) (by simp; omega)
            rw [sub_self] at e4
            exact ⟨f', r', e1, e2, e3, by rw [e4]; simp⟩
          | false => simp only [cond_false, Option.bind_some]; rw [wrap_succ (by omega), ← sub_succ hf c]; exact plain false
    · rw [if_neg (by omega), List.drop_of_length_le (by omega), cutG, sub_end (by omega)]
      exact ⟨f, r, rfl, hf2, by omega, rfl⟩
theorem S_l4Cut_eq {k : Nat} (hk : 1073741824 ≤ k) (x : List UInt8) (b : UInt8) (h : x.length < 1073741000) : S_l4Cut k x (b.toNat : Int) = some (cutG b x false false []) := by
  obtain ⟨f', r', e1, e2, e3, e4⟩ := S_l4Cut_loop (k := k) (b := b) (show x.length < 1073741824 by omega) k 0 0 false [] (by omega) (by omega) (by omega) (by omega) (by simp)
  rw [show ((0 : Nat) : Int) = 0 from rfl] at e1
  rw [S_l4Cut, e1, Option.bind_some]
  simp only
  rw [ssub_drop e2, Option.bind_some, appn_ok (by simp; omega), e4]
  simp [sub]
def keepF (p : List UInt8) : List (List UInt8) := bif !(trimT p == []) then [trimT p] else []
def splitL (x : List UInt8) : List (List UInt8) := (cutG 44 x false false []).flatMap keepF
theorem keepF_len (p : List UInt8) : (keepF p).length ≤ 1 := by unfold keepF; cases (trimT p == []) <;> simp
theorem keep_len : ∀ l : List (List UInt8), (l.flatMap keepF).length ≤ l.length
  | [] => by simp
  | p :: l => by
    have := keep_len l
    have := keepF_len p
    rw [List.flatMap_cons, List.length_append, List.length_cons]; omega
theorem splitL_len (x : List UInt8) : (splitL x).length ≤ x.length + 1 := by
  have := keep_len (cutG 44 x false false [])
  have := cutG_len 44 x false false []
  unfold splitL; omega
theorem S_SplitList_eq {k : Nat} (hk : 1073741824 ≤ k) (x : List UInt8) (h : x.length < 1073741000) : S_SplitList k x = some (splitL x) := by
  have hc := S_l4Cut_eq hk x 44 h
  rw [show (((44 : UInt8).toNat : Nat) : Int) = 44 from rfl] at hc
  have hm := fun p => cutG_mem 44 x false false [] p
  have hl := cutG_len 44 x false false []
  rw [S_SplitList, hc, Option.bind_some]
  generalize hw : cutG 44 x false false [] = w at hm hl
  have := fold_all (len := w.length) (g := fun j s => s ++ (w[j]?).elim [] keepF) (Inv := fun i s => s.length ≤ i) (F := fun m i s => S_SplitList_b0 k m i w s) (out := id) (fun m i s hi hI => by
    have hp := hm w[i] (List.getElem_mem hi)
    simp only [S_SplitList_b0, bif_dec, lt_cast, hi, if_true, S_SplitList_b1, idx_nat hi, Option.bind_some, S_SplitList_c22, wrap_succ (by omega : i < 9223372036854775807), List.getElem?_eq_getElem hi, Option.elim_some, keepF, S_TrimText_eq hk w[i] (by simp at hp; omega)]
    cases (trimT w[i] == []) with
    | false => simp only [Bool.not_false, cond_true]; rw [appn_ok (by simp; omega)]; exact ⟨rfl, by simp; omega⟩
    | true => simp only [Bool.not_true, cond_false, List.append_nil]; exact ⟨rfl, by omega⟩) (fun m i s hi => by
    simp only [S_SplitList_b0, bif_dec, lt_cast]
    rw [if_neg (by omega)]; rfl) (k := k) (by omega) (s := []) (by simp)
  have h1 : S_SplitList_b0 k k 0 w [] = some (foldI (fun j s => s ++ (w[j]?).elim [] keepF) w.length 0 []) := this.1
  rw [h1, foldI_append (f := keepF) w.length 0 [] (by omega), List.drop_zero, Option.bind_some, splitL, hw]; rfl
theorem keepF_nil : keepF [] = [] := rfl
def tailK (x : List UInt8) (f : Nat) (r : List (List UInt8)) : List (List UInt8) := bif decide (f < x.length) then r ++ keepF (x.drop f) else r
theorem tailK_eq (x : List UInt8) (f : Nat) (r : List (List UInt8)) : tailK x f r = r ++ keepF (x.drop f) := by
  unfold tailK
  by_cases h : f < x.length
  · rw [decide_eq_true h]; rfl
  · rw [decide_eq_false h, List.drop_of_length_le (by omega), keepF_nil, List.append_nil]; rfl
theorem I_SplitList_loop {k : Nat} {x : List UInt8} (hx : x.length < 1073741000) : ∀ (n i f : Nat) (q : Bool) (r : List (List UInt8)), f ≤ i → x.length + 2 ≤ i + n → i ≤ x.length + 1 → r.length ≤ i →
    ∃ (f' : Nat) (r' : List (List UInt8)), I_SplitList_b0 k n x (f : Int) q (i : Int) r = some ((f' : Int), r') ∧ r'.length ≤ x.length + 1 ∧ f' ≤ x.length + 1 ∧ r' ++ keepF (x.drop f') = r ++ (cutG 44 (x.drop i) q false (sub x f i)).flatMap keepF := by
  intro n
  induction n with
  | zero => intro i f q r _ h h2; omega
  | succ n ih =>
    intro i f q r hf hn hi hr
    rw [I_SplitList_b0, bif_dec]
    have add : ∀ p : List UInt8, p.length < 1073741824 → ∀ (x5 : Bool) (x6 : Int), ((I_TrimText k p).bind fun w => (I_SplitList_c53 k x x5 x6 w (!(w == [])) r).bind fun o => some (((IntKind.wrap .i64 (x6 + 1)), x5, x6, o))) = some ((IntKind.wrap .i64 (x6 + 1)), x5, x6, r ++ keepF p) := fun p hp x5 x6 => by
      rw [I_TrimText_eq p hp, Option.bind_some, I_SplitList_c53]
      unfold keepF
      cases (trimT p == []) with
      | false => simp only [Bool.not_false, cond_true]; rw [appn_ok (by simp; omega)]; rfl
      | true => simp only [Bool.not_true, cond_false, List.append_nil]; rfl
    by_cases c0 : i ≤ x.length
    · rw [if_pos (by omega)]
      have hmin : (if x.length < i then ((x.length : Nat) : Int) else (i : Int)) = (i : Int) := by rw [if_neg (by omega)]
      by_cases c : i < x.length
      · have u92 := u8_eq x[i] 92
        have u34 := u8_eq x[i] 34
        have u44 := u8_eq x[i] 44
        rw [show (((92 : UInt8).toNat : Nat) : Int) = 92 from rfl] at u92
        rw [show (((34 : UInt8).toNat : Nat) : Int) = 34 from rfl] at u34
        rw [show (((44 : UInt8).toNat : Nat) : Int) = 44 from rfl] at u44
        rw [List.drop_eq_getElem_cons c, cutG]
        have plain := fun q' => ih (i + 1) f q' r (by omega) (by omega) (by omega) (by omega)
        have une : ((UInt8.toNat x[i] : Int) != 44) = !(x[i] == 44) := by rw [← u44]; rfl
        simp only [I_SplitList_b1, bif_dec, lt_cast, c, if_true, idx_nat c, Option.bind_some, I_SplitList_c32, I_SplitList_c41, u92, u34, une, hmin]
        cases q with
        | true =>
          simp only [cond_true, Bool.true_and]
          cases h2 : (x[i] == 34) with
          | true =>
            have h1 : (x[i] == 92) = false := by
              have e : x[i] = 34 := by simpa using h2
              rw [e]; rfl
            simp only [h1, cond_true, cond_false, Option.bind_some, Bool.not_true]
            rw [wrap_succ (by omega), ← sub_succ hf c]; exact plain false
          | false =>
            simp only [cond_false, Option.bind_some, cond_true, Bool.not_true, Bool.false_and]
            cases h1 : (x[i] == 92) with
            | true =>
              simp only [cond_true, Option.bind_some]
              rw [wrap_succ (by omega), wrap_succ (by omega), cutG_skip hf c]
              exact ih (i + 2) f true r (by omega) (by omega) (by omega) (by omega)
            | false => simp only [cond_false, Option.bind_some]; rw [wrap_succ (by omega), ← sub_succ hf c]; exact plain true
        | false =>
          simp only [cond_false, Bool.false_and, Bool.not_false, Bool.true_and]
          cases h3 : (x[i] == 44) with
          | true =>
            have h2 : (x[i] == 34) = false := by
              have e : x[i] = 44 := by simpa using h3
              rw [e]; rfl
            simp only [h2, Bool.not_true, cond_false, cond_true]
            rw [ssub_sub hf (by omega), Option.bind_some, add (sub x f i) (by unfold sub; simp; omega), Option.bind_some]
            simp only
            rw [wrap_succ (by omega)]
            have hk1 := keepF_len (sub x f i)
            obtain ⟨f', r', e1, e2, e3, e4⟩ := ih (i + 1) (i + 1) false (r ++ keepF (sub x f i)) (by omega) (by omega) (by omega) (by simp; omega)
            rw [sub_self] at e4
            exact ⟨f', r', e1, e2, e3, by rw [e4, List.flatMap_cons, List.append_assoc]⟩
          | false =>
            simp only [Bool.not_false, cond_true, cond_false]
            cases h2 : (x[i] == 34) with
            | true =>
              have h1 : (x[i] == 92) = false := by
                have e : x[i] = 34 := by simpa using h2
                rw [e]; rfl
              simp only [h1, cond_true, cond_false, Option.bind_some]
              rw [wrap_succ (by omega), ← sub_succ hf c]; exact plain true
            | false => simp only [cond_false, Option.bind_some]; rw [wrap_succ (by omega), ← sub_succ hf c]; exact plain false
      · have hil : i = x.length := by omega
        simp only [I_SplitList_b1, bif_dec, lt_cast, c, if_false, hmin]
        rw [ssub_sub hf (by omega), Option.bind_some, add (sub x f i) (by unfold sub; simp; omega), Option.bind_some]
        simp only
        rw [wrap_succ (by omega)]
        have hk1 := keepF_len (sub x f i)
        obtain ⟨f', r', e1, e2, e3, e4⟩ := ih (i + 1) (i + 1) q (r ++ keepF (sub x f i)) (by omega) (by omega) (by omega) (by simp; omega)
        refine ⟨f', r', e1, e2, e3, ?_⟩
        rw [e4, List.drop_of_length_le (by omega), List.drop_of_length_le (by omega), sub_self, cutG, cutG]
        simp [keepF_nil]
    · rw [if_neg (by omega), List.drop_of_length_le (by omega), cutG, sub_end (by omega)]
      exact ⟨f, r, rfl, by omega, by omega, by simp⟩
theorem I_SplitList_eq {k : Nat} (hk : 1073741824 ≤ k) (x : List UInt8) (h : x.length < 1073741000) : I_SplitList k x = some (splitL x) := by
  obtain ⟨f', r', e1, e2, e3, e4⟩ := I_SplitList_loop (k := k) h k 0 0 false [] (by omega) (by omega) (by omega) (by simp)
  rw [show ((0 : Nat) : Int) = 0 from rfl] at e1
  have e5 : sub x 0 0 = [] := sub_self x 0
  rw [List.drop_zero, e5, List.nil_append] at e4
  rw [I_SplitList, e1, Option.bind_some, I_SplitList_c63, splitL, ← e4]
  simp only [bif_dec]
  by_cases c : f' < x.length
  · rw [if_pos (by omega), ssub_drop (by omega), Option.bind_some, I_TrimText_eq _ (by simp; omega), Option.bind_some, I_SplitList_c69]
    unfold keepF
    cases (trimT (x.drop f') == []) with
    | false => simp only [Bool.not_false, cond_true]; rw [appn_ok (by simp; omega)]; rfl
    | true => simp only [Bool.not_true, cond_false, List.append_nil]; rfl
  · rw [if_neg (by omega), List.drop_of_length_le (by omega), keepF_nil, List.append_nil]; rfl
theorem lens_cons (p : List UInt8) (l : List (List UInt8)) : Lib.lens (p :: l) = p.length + Lib.lens l := rfl
theorem cutG_sum (b : UInt8) : ∀ (l : List UInt8) (q sk : Bool) (cur : List UInt8), Lib.lens (cutG b l q sk cur) ≤ cur.length + l.length
  | [], q, sk, cur => by rw [cutG, lens_cons]; simp [Lib.lens]
  | c :: r, q, true, cur => by have := cutG_sum b r q false (cur ++ [c]); rw [cutG]; simp at this ⊢; omega
  | c :: r, q, false, cur => by
    rw [cutG]
    have s1 := fun q' sk' => cutG_sum b r q' sk' (cur ++ [c])
    simp only [List.length_append, List.length_cons, List.length_nil] at s1
    rw [List.length_cons]
    cases (q && c == 92) with
    | true => rw [cond_true]; have := s1 q true; omega
    | false =>
      cases (c == 34) with
      | true => rw [cond_false, cond_true]; have := s1 (!q) false; omega
      | false =>
        cases (!q && c == b) with
        | true => rw [cond_false, cond_false, cond_true, lens_cons]; have := cutG_sum b r q false []; simp at this; omega
        | false => rw [cond_false, cond_false, cond_false]; have := s1 q false; omega
theorem keep_sum : ∀ l : List (List UInt8), Lib.lens (l.flatMap keepF) ≤ Lib.lens l
  | [] => by simp
  | p :: l => by
    have h1 := keep_sum l
    have h2 := trimT_len p
    rw [List.flatMap_cons, lens_cons]
    unfold keepF at h1 ⊢
    cases (trimT p == []) with
    | true => simpa using (by omega : Lib.lens (l.flatMap fun p => bif !(trimT p == []) then [trimT p] else []) ≤ p.length + Lib.lens l)
    | false => simp only [Bool.not_false, cond_true, List.cons_append, List.nil_append, lens_cons]; omega
theorem splitL_sum (x : List UInt8) : Lib.lens (splitL x) ≤ x.length := by
  have h1 := keep_sum (cutG 44 x false false [])
  have h2 := cutG_sum 44 x false false []
  unfold splitL; simp at h2; omega
/-! Text in small letters. -/
def lowB (c : UInt8) : UInt8 := bif decide (65 ≤ c.toNat) && decide (c.toNat ≤ 90) then c + 32 else c
def lowT (s : List UInt8) : List UInt8 := s.map lowB
theorem lowB_add : ∀ j : Fin 256, (65 ≤ j.val ∧ j.val ≤ 90) → IntKind.wrap .u8 ((j.val : Int) + 32) = (((UInt8.ofNat j.val) + 32).toNat : Int) := by decide +kernel
theorem low_wrap (c : UInt8) (h : 65 ≤ c.toNat ∧ c.toNat ≤ 90) : IntKind.wrap .u8 ((c.toNat : Int) + 32) = ((c + 32).toNat : Int) := by
  have := lowB_add ⟨c.toNat, UInt8.toNat_lt c⟩ h
  simpa using this
theorem bytes_ints (s : List UInt8) : bytesOf (intsOf s) = s := by
  unfold bytesOf intsOf
  rw [List.map_map]
  conv => rhs; rw [← List.map_id s]
  refine List.map_congr_left fun c _ => ?_
  simp
theorem ints_len (s : List UInt8) : (intsOf s).length = s.length := by unfold intsOf; simp
theorem ints_idx {s : List UInt8} {i : Nat} (h : i < s.length) : idx (intsOf s) (i : Int) = some (s[i].toNat : Int) := by
  rw [idx_nat (by rw [ints_len]; exact h)]; simp [intsOf]
theorem ints_set (s : List UInt8) (i : Nat) (c : UInt8) : (intsOf s).set i (c.toNat : Int) = intsOf (s.set i c) := by
  unfold intsOf; rw [List.map_set]
theorem low_loop {L : Nat} {F : Nat → Int → List Int → Option (List Int)} (T : ∀ n (i : Nat) (s : List UInt8) (h : i < s.length), s.length = L → F (n + 1) (i : Int) (intsOf s) = F n ((i + 1 : Nat) : Int) (intsOf (s.set i (lowB s[i]))))
    (E : ∀ n (i : Nat) (s : List UInt8), s.length ≤ i → s.length = L → F (n + 1) (i : Int) (intsOf s) = some (intsOf s)) : ∀ (n i : Nat) (s : List UInt8), i ≤ s.length → s.length - i < n → s.length = L → F n (i : Int) (intsOf s) = some (intsOf (s.take i ++ (s.drop i).map lowB)) := by
  intro n
  induction n with
  | zero => intro i s _ h; omega
  | succ n ih =>
    intro i s hi hn hs
    by_cases h : i < s.length
    · rw [T n i s h hs, ih (i + 1) _ (by simp; omega) (by simp; omega) (by simpa using hs)]
      congr 2
      rw [List.drop_eq_getElem_cons h, List.map_cons]
      have e1 : (s.set i (lowB s[i])).take (i + 1) = s.take i ++ [lowB s[i]] := by
        apply List.ext_getElem?
        intro j
        by_cases hj : j < i
        · rw [List.getElem?_take, if_pos (by omega), List.getElem?_set_ne (by omega), List.getElem?_append_left (by simp; omega), List.getElem?_take, if_pos hj]
        · by_cases hj2 : j = i
          · subst hj2
            rw [List.getElem?_take, if_pos (by omega), List.getElem?_set_self h, List.getElem?_append_right (by simp; omega)]
            simp [Nat.min_eq_left (Nat.le_of_lt h)]
          · rw [List.getElem?_take, if_neg (by omega), List.getElem?_eq_none (by simp; omega)]
      have e2 : (s.set i (lowB s[i])).drop (i + 1) = s.drop (i + 1) := by
        apply List.ext_getElem?
        intro j
        rw [List.getElem?_drop, List.getElem?_drop, List.getElem?_set_ne (by omega)]
      rw [e1, e2, List.append_assoc]; rfl
    · rw [E n i s (by omega) hs, List.drop_of_length_le (by omega), List.take_of_length_le (by omega)]; simp
theorem S_LowerText_eq {k : Nat} (hk : 1073741824 ≤ k) (s : List UInt8) (h : s.length < 1073741824) : S_LowerText k s = some (lowT s) := by
  have := low_loop (L := s.length) (F := fun n i r => S_LowerText_b0 k n i r) (fun n i s hi hs => by
    have hb := UInt8.toNat_lt s[i]
    have hlen : ((i : Int) < ((intsOf s).length : Int)) := by rw [ints_len]; omega
    simp only [S_LowerText_b0, bif_dec, hlen, if_true, S_LowerText_b1, ints_idx hi, Option.bind_some, wrap_succ (by omega : i < 9223372036854775807)]
    rw [wrap_id (by omega) (by omega), S_l1In]
    by_cases c1 : 65 ≤ s[i].toNat
    · by_cases c2 : s[i].toNat ≤ 90
      · have e1 : decide ((s[i].toNat : Int) ≥ 65) = true := decide_eq_true (by omega)
        have e2 : decide ((s[i].toNat : Int) ≤ 90) = true := decide_eq_true (by omega)
        have e3 : lowB s[i] = s[i] + 32 := by unfold lowB; rw [decide_eq_true c1, decide_eq_true c2]; rfl
        simp only [e1, e2, S_LowerText_c18, cond_true, Option.bind_some, ints_idx hi, low_wrap _ ⟨c1, c2⟩, Int.toNat_natCast, ints_set, e3]
      · have e1 : decide ((s[i].toNat : Int) ≥ 65) = true := decide_eq_true (by omega)
        have e2 : decide ((s[i].toNat : Int) ≤ 90) = false := decide_eq_false (by omega)
        have e3 : lowB s[i] = s[i] := by unfold lowB; rw [decide_eq_false c2]; simp
        simp only [e1, e2, cond_true, cond_false, Option.bind_some, S_LowerText_c18, e3, List.set_getElem_self]
    · have e1 : decide ((s[i].toNat : Int) ≥ 65) = false := decide_eq_false (by omega)
      have e3 : lowB s[i] = s[i] := by unfold lowB; rw [decide_eq_false c1]; simp
      simp only [e1, cond_false, Option.bind_some, S_LowerText_c18, e3, List.set_getElem_self]) (fun n i s hi _ => by
    have hlen : ¬ ((i : Int) < ((intsOf s).length : Int)) := by rw [ints_len]; omega
    simp only [S_LowerText_b0, bif_dec, hlen, if_false]) k 0 s (by omega) (by omega) rfl
  have h1 : S_LowerText_b0 k k 0 (intsOf s) = some (intsOf (s.take 0 ++ (s.drop 0).map lowB)) := this
  rw [S_LowerText, h1, Option.bind_some, bytes_ints]; simp [lowT]
theorem I_LowerText_eq {k : Nat} (hk : 1073741824 ≤ k) (s : List UInt8) (h : s.length < 1073741824) : I_LowerText k s = some (lowT s) := by
  have := low_loop (L := s.length) (F := fun n i r => I_LowerText_b0 k n (s.length : Int) i r) (fun n i t hi hs => by
    have hb := UInt8.toNat_lt t[i]
    have hlen : ((i : Int) < (s.length : Int)) := by omega
    simp only [I_LowerText_b0, bif_dec, hlen, if_true, I_LowerText_b1, ints_idx hi, Option.bind_some, wrap_succ (by omega : i < 9223372036854775807)]
    by_cases c1 : 65 ≤ t[i].toNat
    · by_cases c2 : t[i].toNat ≤ 90
      · have e1 : ((t[i].toNat : Int) ≥ 65) := by omega
        have e2 : decide ((t[i].toNat : Int) ≤ 90) = true := decide_eq_true (by omega)
        have e3 : lowB t[i] = t[i] + 32 := by unfold lowB; rw [decide_eq_true c1, decide_eq_true c2]; rfl
        simp only [e1, e2, if_true, I_LowerText_c20, cond_true, Option.bind_some, ints_idx hi, low_wrap _ ⟨c1, c2⟩, Int.toNat_natCast, ints_set, e3]
      · have e1 : ((t[i].toNat : Int) ≥ 65) := by omega
        have e2 : decide ((t[i].toNat : Int) ≤ 90) = false := decide_eq_false (by omega)
        have e3 : lowB t[i] = t[i] := by unfold lowB; rw [decide_eq_false c2]; simp
        simp only [e1, e2, if_true, I_LowerText_c20, cond_false, Option.bind_some, e3, List.set_getElem_self]
    · have e1 : ¬ ((t[i].toNat : Int) ≥ 65) := by omega
      have e3 : lowB t[i] = t[i] := by unfold lowB; rw [decide_eq_false c1]; simp
      simp only [e1, if_false, I_LowerText_c20, cond_false, Option.bind_some, e3, List.set_getElem_self]) (fun n i t hi ht => by
    have hlen : ¬ ((i : Int) < (s.length : Int)) := by omega
    simp only [I_LowerText_b0, bif_dec, hlen, if_false]) k 0 s (by omega) (by omega) rfl
  have h1 : I_LowerText_b0 k k (s.length : Int) 0 (intsOf s) = some (intsOf (s.take 0 ++ (s.drop 0).map lowB)) := this
  rw [I_LowerText, ints_len, h1, Option.bind_some, bytes_ints]; simp [lowT]
theorem lowT_len (s : List UInt8) : (lowT s).length = s.length := by unfold lowT; simp
theorem lowB_star : ∀ j : Fin 256, (lowB (UInt8.ofNat j.val) = 42) → UInt8.ofNat j.val = 42 := by decide +kernel
theorem lowT_star (s : List UInt8) : (lowT s == [42]) = (s == [42]) := by
  by_cases h : s = [42]
  · subst h; rfl
  · have h2 : ¬ lowT s = [42] := fun e => by
      cases s with
      | nil => cases e
      | cons c l =>
        cases l with
        | cons d l => simp [lowT] at e
        | nil =>
          simp [lowT] at e
          have := lowB_star ⟨c.toNat, UInt8.toNat_lt c⟩ (by simpa using e)
          simp at this
          exact h (by rw [this])
    rw [beq_eq_false_iff_ne.2 h2, beq_eq_false_iff_ne.2 h]
/-! Lists joined. -/
def joinT (l : List (List UInt8)) : List UInt8 := Lib.join l [44, 32]
theorem joinT_len (l : List (List UInt8)) : (joinT l).length ≤ 2 * l.length + Lib.lens l := by
  cases l with
  | nil => simp [joinT, Lib.join_nil]
  | cons x r => unfold joinT; rw [Lib.join_length]; simp; omega
theorem I_JoinList_eq {k : Nat} (l : List (List UInt8)) (h : 2 * l.length + Lib.lens l < 1073741824) : I_JoinList k l = some (joinT l) := by
  have hl := joinT_len l
  have hd : (decide (l.length ≤ 140737488355328) && decide ((Lib.join l [44, 32]).length ≤ 140737488355328)) = true := by
    rw [Bool.and_eq_true]; exact ⟨decide_eq_true (by omega), decide_eq_true (by unfold joinT at hl; omega)⟩
  rw [I_JoinList, strings_Join, joinO, hd]; rfl
theorem S_JoinList_loop {k : Nat} {x : List UInt8} {r : List (List UInt8)} (h : 2 * r.length + Lib.lens (x :: r) < 1073741824) : ∀ (n j : Nat), j ≤ r.length → r.length - j < n →
    S_JoinList_b0 k n (x :: r) (x ++ Lib.joinTail [44, 32] (r.take j)) ((j + 1 : Nat) : Int) = some (x ++ Lib.joinTail [44, 32] r) := by
  have hx : Lib.lens (x :: r) = x.length + Lib.lens r := rfl
  intro n
  induction n with
  | zero => intro j _ h; omega
  | succ n ih =>
    intro j hj hn
    rw [S_JoinList_b0, bif_dec]
    by_cases c : j < r.length
    · have hlen : ((j + 1 : Nat) : Int) < ((x :: r).length : Int) := by simp; omega
      have e1 : decide (((j + 1 : Nat) : Int) > 0) = true := decide_eq_true (by omega)
      have e2 : idx (x :: r) ((j + 1 : Nat) : Int) = some r[j] := by
        rw [idx_nat (by simp; omega)]; simp
      have b1 := Lib.joinTail_take_le [44, 32] r j
      have b2 := Lib.joinTail_length [44, 32] r
      have b3 := Lib.joinTail_take_le [44, 32] r (j + 1)
      have b4 := Lib.joinTail_take_succ [44, 32] r j r[j] (List.getElem?_eq_getElem c)
      have b5 := congrArg List.length b4
      simp only [List.length_append, List.length_cons, List.length_nil] at b2 b5
      rw [if_pos hlen, S_JoinList_b1, S_JoinList_c12, e1, cond_true, cat_ok (by simp; omega), Option.bind_some, Option.bind_some, e2, Option.bind_some, cat_ok (by simp; omega), Option.bind_some, Option.bind_some, wrap_succ (by omega)]
      have := ih (j + 1) (by omega) (by omega)
      rw [b4] at this
      rw [← this]
      congr 1
      simp
    · have hlen : ¬ ((j + 1 : Nat) : Int) < ((x :: r).length : Int) := by simp; omega
      rw [if_neg hlen, List.take_of_length_le (by omega)]
theorem S_JoinList_eq {k : Nat} (hk : 1073741824 ≤ k) (l : List (List UInt8)) (h : 2 * l.length + Lib.lens l < 1073741824) : S_JoinList k l = some (joinT l) := by
  obtain ⟨n, rfl⟩ : ∃ n, k = n + 1 := ⟨k - 1, by omega⟩
  rw [S_JoinList, S_JoinList_b0, bif_dec]
  cases l with
  | nil => rfl
  | cons x r =>
    have hx : Lib.lens (x :: r) = x.length + Lib.lens r := rfl
    simp only [List.length_cons] at h
    have hlen : (0 : Int) < ((x :: r).length : Int) := by rw [List.length_cons]; omega
    have e2 : idx (x :: r) (0 : Int) = some x := rfl
    have := S_JoinList_loop (k := n + 1) (x := x) (r := r) (by omega) n 0 (by omega) (by omega)
    rw [List.take_zero] at this
    rw [if_pos hlen, S_JoinList_b1, S_JoinList_c12, e2]
    rw [show (decide ((0 : Int) > 0)) = false from rfl, cond_false, Option.bind_some, Option.bind_some, cat_ok (by simp; omega), Option.bind_some, Option.bind_some]
    rw [show IntKind.wrap .i64 ((0 : Int) + 1) = ((0 + 1 : Nat) : Int) from by rw [wrap_id (by omega) (by omega)]; rfl]
    have e3 : Lib.joinTail [44, 32] ([] : List (List UInt8)) = [] := rfl
    rw [e3, List.append_nil] at this
    rw [List.nil_append, this, Option.bind_some, joinT, Lib.join_cons]
/-! A field's values. -/
def valOfF (n : List UInt8) (e : IField) : List (List UInt8) := bif e.Name == n then [e.Value] else []
def valsF (l : List IField) (n : List UInt8) : List (List UInt8) := l.flatMap (valOfF n)
def fsz (l : List IField) : Nat := l.length + (l.map fun e => e.Value.length).sum
theorem valsF_len (n : List UInt8) : ∀ l : List IField, (valsF l n).length ≤ l.length
  | [] => by simp [valsF]
  | e :: l => by
    have := valsF_len n l
    unfold valsF at this ⊢
    rw [List.flatMap_cons, List.length_append]
    have h2 : (valOfF n e).length ≤ 1 := by unfold valOfF; cases (e.Name == n) <;> simp
    rw [List.length_cons]; omega
theorem valsF_lens (n : List UInt8) : ∀ l : List IField, Lib.lens (valsF l n) ≤ (l.map fun e => e.Value.length).sum
  | [] => by simp [valsF, Lib.lens]
  | e :: l => by
    have := valsF_lens n l
    unfold valsF at this ⊢
    rw [List.flatMap_cons]
    unfold valOfF at this ⊢
    cases (e.Name == n) with
    | true => simp only [cond_true, List.cons_append, List.nil_append, List.map_cons, List.sum_cons]; show e.Value.length + Lib.lens _ ≤ _; omega
    | false => simp only [cond_false, List.nil_append, List.map_cons, List.sum_cons]; omega
def getF (l : List IField) (n : List UInt8) : List UInt8 × Bool := (joinT (valsF l n), decide (((valsF l n).length : Int) > 0))
theorem getF_len (l : List IField) (n : List UInt8) : (getF l n).1.length ≤ 2 * fsz l := by
  have h1 := joinT_len (valsF l n)
  have h2 := valsF_len n l
  have h3 := valsF_lens n l
  unfold getF fsz; simp only; omega
theorem S_GetField_eq {k : Nat} (hk : 1073741824 ≤ k) (l : List IField) (n : List UInt8) (h : fsz l < 268435456) : S_GetField k l n = some (getF l n) := by
  have hl : l.length < 268435456 := by unfold fsz at h; omega
  have := fold_all (len := l.length) (g := fun j s => s ++ (l[j]?).elim [] (valOfF n)) (Inv := fun i s => s.length ≤ i) (F := fun m i s => S_GetField_b0 k m l n i s) (out := id) (fun m i s hi hI => by
    simp only [S_GetField_b0, bif_dec, lt_cast, hi, if_true, S_GetField_b1, idx_nat hi, Option.bind_some, S_GetField_c21, wrap_succ (by omega : i < 9223372036854775807), List.getElem?_eq_getElem hi, Option.elim_some, valOfF]
    cases (l[i].Name == n) with
    | true => rw [cond_true, cond_true, appn_ok (by simp; omega)]; exact ⟨rfl, by simp; omega⟩
    | false => rw [cond_false, cond_false, List.append_nil]; exact ⟨rfl, by omega⟩) (fun m i s hi => by
    simp only [S_GetField_b0, bif_dec, lt_cast]
    rw [if_neg (by omega)]; rfl) (k := k) (by omega) (s := []) (by simp)
  have h1 : S_GetField_b0 k k l n 0 [] = some (foldI (fun j s => s ++ (l[j]?).elim [] (valOfF n)) l.length 0 []) := this.1
  have h2 := valsF_len n l
  have h3 := valsF_lens n l
  have hv : foldI (fun j s => s ++ (l[j]?).elim [] (valOfF n)) l.length 0 [] = valsF l n := by
    rw [foldI_append (f := valOfF n) l.length 0 [] (by omega), List.drop_zero]; rfl
  rw [S_GetField, h1, hv, Option.bind_some, S_JoinList_eq hk _ (by unfold fsz at h; omega)]; rfl
theorem I_GetField_eq {k : Nat} (hk : 1073741824 ≤ k) (l : List IField) (n : List UInt8) (h : fsz l < 268435456) : I_GetField k l n = some (getF l n) := by
  have hl : l.length < 268435456 := by unfold fsz at h; omega
  have := fold_all (len := l.length) (g := fun j s => s ++ (l[j]?).elim [] (valOfF n)) (Inv := fun i s => s.length ≤ i) (F := fun m i s => I_GetField_b0 k m n l (l.length : Int) i s) (out := id) (fun m i s hi hI => by
    simp only [I_GetField_b0, bif_dec, lt_cast, hi, if_true, I_GetField_b1, idx_nat hi, Option.bind_some, I_GetField_c19, wrap_succ (by omega : i < 9223372036854775807), List.getElem?_eq_getElem hi, Option.elim_some, valOfF]
    cases (l[i].Name == n) with
    | true => rw [cond_true, cond_true, appn_ok (by simp; omega)]; exact ⟨rfl, by simp; omega⟩
    | false => rw [cond_false, cond_false, List.append_nil]; exact ⟨rfl, by omega⟩) (fun m i s hi => by
    simp only [I_GetField_b0, bif_dec, lt_cast]
    rw [if_neg (by omega)]; rfl) (k := k) (by omega) (s := []) (by simp)
  have h1 : I_GetField_b0 k k n l (l.length : Int) 0 [] = some (foldI (fun j s => s ++ (l[j]?).elim [] (valOfF n)) l.length 0 []) := this.1
  have h2 := valsF_len n l
  have h3 := valsF_lens n l
  have hv : foldI (fun j s => s ++ (l[j]?).elim [] (valOfF n)) l.length 0 [] = valsF l n := by
    rw [foldI_append (f := valOfF n) l.length 0 [] (by omega), List.drop_zero]; rfl
  rw [I_GetField, h1, hv, Option.bind_some, I_JoinList_eq _ (by unfold fsz at h; omega)]; rfl
/-! What an answer varies by. -/
def hasT (out : List (List UInt8)) (s : List UInt8) : Bool := out.any fun e => e == s
def varyL : List (List UInt8) → List (List UInt8) → List (List UInt8) × Bool
  | [], out => (out, false)
  | e :: l, out => bif e == [42] then ([], true) else varyL l (bif !hasT out (lowT e) then out ++ [lowT e] else out)
theorem varyL_len : ∀ (l out : List (List UInt8)), (varyL l out).1.length ≤ out.length + l.length
  | [], out => by simp [varyL]
  | e :: l, out => by
    rw [varyL]
    cases (e == ([42] : List UInt8)) with
    | true => simp
    | false =>
      rw [cond_false]
      have := varyL_len l (bif !hasT out (lowT e) then out ++ [lowT e] else out)
      cases h : hasT out (lowT e) <;> rw [h] at this <;> simp at this ⊢ <;> omega
def varyOf (l : List IField) : List (List UInt8) × Bool := varyL (splitL (getF l [118, 97, 114, 121]).1) []
theorem beq_sym (a b : List UInt8) : (a == b) = (b == a) := by
  by_cases h : a = b
  · rw [h]
  · rw [beq_eq_false_iff_ne.2 h, beq_eq_false_iff_ne.2 fun e => h e.symm]
theorem S_VaryOf_in {k : Nat} {x6 : Int} {s : List UInt8} {r4 out : List (List UInt8)} (h : out.length < 1073741824) : ∀ (n i : Nat) (b : Bool), i ≤ out.length → out.length - i < n → S_VaryOf_b2 k n x6 s b (i : Int) r4 out = some (b || (out.drop i).any fun e => e == s) := by
  intro n
  induction n with
  | zero => intro i b _ h; omega
  | succ n ih =>
    intro i b hi hn
    rw [S_VaryOf_b2, bif_dec]
    by_cases c : i < out.length
    · rw [if_pos (by omega), List.drop_eq_getElem_cons c, List.any_cons]
      cases b with
      | true => rw [cond_true, wrap_succ (by omega), ih (i + 1) true (by omega) (by omega)]; rfl
      | false => rw [cond_false, idx_nat c, Option.bind_some, Option.bind_some, wrap_succ (by omega), ih (i + 1) _ (by omega) (by omega)]; rfl
    · rw [if_neg (by omega), List.drop_of_length_le (by omega)]; simp
theorem contains_loop {k : Nat} {s : List UInt8} {out : List (List UInt8)} (h : out.length < 1073741824) : ∀ (n i : Nat), i ≤ out.length → out.length - i < n →
    ∃ o, slices_Index_string_b0 k n out s (out.length : Int) (i : Int) = some o ∧ (oc o (fun _ => some (-1 : Int)) fun v => some v).map (fun v => decide (v ≥ 0)) = some ((out.drop i).any fun e => e == s) := by
  intro n
  induction n with
  | zero => intro i _ h; omega
  | succ n ih =>
    intro i hi hn
    rw [slices_Index_string_b0, bif_dec]
    by_cases c : i < out.length
    · rw [if_pos (by omega), List.drop_eq_getElem_cons c, List.any_cons, idx_nat c, Option.bind_some, beq_sym]
      cases (out[i] == s) with
      | true => exact ⟨_, rfl, by simp [oc]⟩
      | false => rw [cond_false, wrap_succ (by omega), Bool.false_or]; exact ih (i + 1) (by omega) (by omega)
    · rw [if_neg (by omega), List.drop_of_length_le (by omega)]
      exact ⟨_, rfl, rfl⟩
theorem contains_eq {k : Nat} (hk : 1073741824 ≤ k) (out : List (List UInt8)) (s : List UInt8) (h : out.length < 1073741824) : slices_Contains_string k out s = some (hasT out s) := by
  obtain ⟨o, h1, h2⟩ := contains_loop (k := k) (s := s) h k 0 (by omega) (by omega)
  rw [show ((0 : Nat) : Int) = 0 from rfl] at h1
  rw [List.drop_zero] at h2
  rw [slices_Contains_string, slices_Index_string, h1, Option.bind_some]
  unfold hasT
  rw [← h2]
  cases o <;> rfl
theorem S_VaryOf_loop {k : Nat} (hk : 1073741824 ≤ k) {w : List (List UInt8)} (hw : w.length < 1073741824) (hm : ∀ p ∈ w, p.length < 1073741824) : ∀ (n i : Nat) (out : List (List UInt8)), i ≤ w.length → w.length - i < n → out.length ≤ i →
    ∃ o, S_VaryOf_b0 k n (i : Int) w out = some o ∧ (oc o (fun v => some (v, false)) fun v => some v) = some (varyL (w.drop i) out) := by
  intro n
  induction n with
  | zero => intro i out _ h; omega
  | succ n ih =>
    intro i out hi hn ho
    rw [S_VaryOf_b0, bif_dec]
    by_cases c : i < w.length
    · rw [if_pos (by omega), List.drop_eq_getElem_cons c, varyL, S_VaryOf_b1, idx_nat c]
      simp only [Option.bind_some]
      cases (w[i] == ([42] : List UInt8)) with
      | true => exact ⟨_, rfl, rfl⟩
      | false =>
        have hin := S_VaryOf_in (k := k) (x6 := (i : Int)) (s := lowT w[i]) (r4 := w) (out := out) (by omega) k 0 false (by omega) (by omega)
        rw [show ((0 : Nat) : Int) = 0 from rfl, Bool.false_or, List.drop_zero] at hin
        rw [cond_false, S_LowerText_eq hk _ (hm _ (List.getElem_mem c)), Option.bind_some, hin, Option.bind_some, S_VaryOf_c47]
        have hh : (out.any fun e => e == lowT w[i]) = hasT out (lowT w[i]) := rfl
        rw [hh]
        cases hasT out (lowT w[i]) with
        | false => simp only [Bool.not_false, cond_true]; rw [appn_ok (by simp; omega)]; simp only [Option.bind_some, oc]; rw [wrap_succ (by omega)]; exact ih (i + 1) _ (by omega) (by omega) (by simp; omega)
        | true => simp only [Bool.not_true, cond_false, Option.bind_some, oc]; rw [wrap_succ (by omega)]; exact ih (i + 1) _ (by omega) (by omega) (by omega)
    · rw [if_neg (by omega), List.drop_of_length_le (by omega)]
      exact ⟨_, rfl, rfl⟩
theorem I_VaryOf_loop {k : Nat} (hk : 1073741824 ≤ k) {w : List (List UInt8)} (hw : w.length < 1073741824) (hm : ∀ p ∈ w, p.length < 1073741824) : ∀ (n i : Nat) (out : List (List UInt8)), i ≤ w.length → w.length - i < n → out.length ≤ i →
    ∃ o, I_VaryOf_b0 k n (w.length : Int) (i : Int) out w = some o ∧ (oc o (fun v => some (v, false)) fun v => some v) = some (varyL (w.drop i) out) := by
  intro n
  induction n with
  | zero => intro i out _ h; omega
  | succ n ih =>
    intro i out hi hn ho
    rw [I_VaryOf_b0, bif_dec]
    by_cases c : i < w.length
    · rw [if_pos (by omega), List.drop_eq_getElem_cons c, varyL, I_VaryOf_b1, idx_nat c]
      simp only [Option.bind_some]
      rw [I_LowerText_eq hk _ (hm _ (List.getElem_mem c)), Option.bind_some, lowT_star]
      cases (w[i] == ([42] : List UInt8)) with
      | true => exact ⟨_, rfl, rfl⟩
      | false =>
        rw [cond_false, contains_eq hk _ _ (by omega), Option.bind_some, I_VaryOf_c30]
        cases hasT out (lowT w[i]) with
        | false => simp only [Bool.not_false, cond_true]; rw [appn_ok (by simp; omega)]; simp only [Option.bind_some, oc]; rw [wrap_succ (by omega)]; exact ih (i + 1) _ (by omega) (by omega) (by simp; omega)
        | true => simp only [Bool.not_true, cond_false, Option.bind_some, oc]; rw [wrap_succ (by omega)]; exact ih (i + 1) _ (by omega) (by omega) (by omega)
    · rw [if_neg (by omega), List.drop_of_length_le (by omega)]
      exact ⟨_, rfl, rfl⟩
theorem splitL_mem {x p : List UInt8} (h : p ∈ splitL x) : p.length ≤ x.length := by
  have h1 := splitL_sum x
  have : ∀ l : List (List UInt8), p ∈ l → p.length ≤ Lib.lens l := by
    intro l
    induction l with
    | nil => intro h; cases h
    | cons a l ih =>
      intro h
      rw [lens_cons]
      rcases List.mem_cons.1 h with rfl | h
      · omega
      · have := ih h; omega
  have := this _ h; omega
theorem S_VaryOf_eq {k : Nat} (hk : 1073741824 ≤ k) (l : List IField) (h : fsz l < 134217728) : S_VaryOf k l = some (varyOf l) := by
  have hg := getF_len l [118, 97, 114, 121]
  rw [S_VaryOf, S_l5Get, S_GetField_eq hk l _ (by omega), Option.bind_some, Option.bind_some, S_SplitList_eq hk _ (by omega), Option.bind_some]
  have hw := splitL_len (getF l [118, 97, 114, 121]).1
  obtain ⟨o, h1, h2⟩ := S_VaryOf_loop hk (w := splitL (getF l [118, 97, 114, 121]).1) (by omega) (fun p hp => by have := splitL_mem hp; omega) k 0 [] (by omega) (by omega) (by simp)
  rw [show ((0 : Nat) : Int) = 0 from rfl] at h1
  rw [h1, Option.bind_some, h2, List.drop_zero]; rfl
theorem I_VaryOf_eq {k : Nat} (hk : 1073741824 ≤ k) (l : List IField) (h : fsz l < 134217728) : I_VaryOf k l = some (varyOf l) := by
  have hg := getF_len l [118, 97, 114, 121]
  rw [I_VaryOf, I_GetField_eq hk l _ (by omega), Option.bind_some, I_SplitList_eq hk _ (by omega), Option.bind_some]
  have hw := splitL_len (getF l [118, 97, 114, 121]).1
  obtain ⟨o, h1, h2⟩ := I_VaryOf_loop hk (w := splitL (getF l [118, 97, 114, 121]).1) (by omega) (fun p hp => by have := splitL_mem hp; omega) k 0 [] (by omega) (by omega) (by simp)
  rw [show ((0 : Nat) : Int) = 0 from rfl] at h1
  rw [h1, Option.bind_some, h2, List.drop_zero]; rfl
theorem fsz_in : ∀ (x : List LField), fsz (x.map to_LField) ≤ szL sz_LField x
  | [] => by simp [fsz, szL]
  | e :: l => by
    have := fsz_in l
    unfold fsz szL at this ⊢
    simp only [List.map_cons, List.sum_cons, List.length_cons, List.length_map] at this ⊢
    have h1 : (to_LField e).Value.length ≤ sz_LField e := by unfold sz_LField; simp only [to_LField]; omega
    omega
theorem FnExactVaryOf_pure {k : Nat} (hk : 1073741824 ≤ k) (a0 : List LField) (h0 : InL V_LField a0) : L_FnExactVaryOf k a0 = some true := by
  unfold L_FnExactVaryOf
  rw [L_szFieldS_eq hk h0 _ (by omega) (by omega), Option.bind_some, bif_dec]
  by_cases c3 : (szL sz_LField a0 : Int) ≤ 1048576
  case neg => rw [if_neg c3, if_pos (by omega)]
  have hf := fsz_in a0
  have hl : a0.length ≤ szL sz_LField a0 := by unfold szL; omega
  have hx : (a0.map to_LField).length < 1073741824 := by simp; omega
  have hg := getF_len (a0.map to_LField) [118, 97, 114, 121]
  have hw := splitL_len (getF (a0.map to_LField) [118, 97, 114, 121]).1
  have hv := varyL_len (splitL (getF (a0.map to_LField) [118, 97, 114, 121]).1) []
  have hs : (varyOf (a0.map to_LField)).1.length < 1073741824 := by unfold varyOf; simp at hv; omega
  have hfs : fsz (a0.map to_LField) < 134217728 := by omega
  rw [if_pos c3, if_neg (by omega)]
  simp only [L_toFieldS_eq hk a0 (by omega), Option.bind_some, S_VaryOf_eq hk _ hfs, I_VaryOf_eq hk _ hfs, L_eqStringS_eq hk _ _ hs, L_eqFieldS_eq hk _ _ hx, L_markFieldS_eq hk _ hx, L_markStringS_eq hk _ hs, L_heldStringS_eq hk _ hs, decide_true, Bool.not_true, cond_false, bif_dec, bne_self_eq_false, BEq.rfl]
  rw [if_neg (by omega), if_neg (by omega), if_neg (by omega)]

end Go.YtgdjicnefdnofaaDoor
