/- What the functions come to. Nothing is claimed here. -/
import Derived.Test.YtgdjicnefdnofaaDoorKu
set_option linter.unusedVariables false
set_option linter.unusedSimpArgs false
set_option maxRecDepth 100000
namespace Go.YtgdjicnefdnofaaDoor
open Go Go.RowKit Go.Pv Go.Pu

/-! Text without blanks around it. -/
def blank (c : UInt8) : Bool := c == 32 || c == 9
def rtrim (x : List UInt8) : List UInt8 := (x.reverse.dropWhile blank).reverse
def trimT (x : List UInt8) : List UInt8 := rtrim (x.dropWhile blank)
theorem rtrim_cons (e : UInt8) (l : List UInt8) : rtrim (e :: l) = if rtrim l = [] then (if blank e then [] else [e]) else e :: rtrim l := by
  unfold rtrim
  rw [List.reverse_cons, List.dropWhile_append]
  cases h : l.reverse.dropWhile blank with
  | nil => cases hb : blank e <;> simp [List.dropWhile_cons, hb]
  | cons a m => simp
theorem rtrim_snoc (l : List UInt8) (c : UInt8) : rtrim (l ++ [c]) = if blank c then rtrim l else l ++ [c] := by
  unfold rtrim
  rw [List.reverse_append]
  cases hb : blank c <;> simp [List.dropWhile_cons, hb]
theorem trim_comm : ∀ x : List UInt8, rtrim (x.dropWhile blank) = (rtrim x).dropWhile blank
  | [] => rfl
  | e :: l => by
    have ih := trim_comm l
    rw [rtrim_cons, List.dropWhile_cons]
    cases hb : blank e with
    | true =>
      by_cases h : rtrim l = []
      · rw [h] at ih; simp [h, ih]
      · simp [h, List.dropWhile_cons, hb, ih]
    | false =>
      rw [if_neg (by simp), rtrim_cons]
      by_cases h : rtrim l = []
      · simp [h, List.dropWhile_cons, hb]
      · simp [h, List.dropWhile_cons, hb]
theorem trimS_eq (x : List UInt8) : Lib.trimS x [32, 9] = trimT x := by
  have hc : (fun b : UInt8 => ([32, 9] : List UInt8).contains b) = blank := by
    funext b; unfold blank
    simp only [List.contains, List.elem]
    cases h1 : (b == 32) <;> cases h2 : (b == 9) <;> rfl
  unfold Lib.trimS Lib.trimLeftS Lib.trimRightS trimT
  rw [hc, trim_comm]; rfl
theorem rtrim_len (x : List UInt8) : (rtrim x).length ≤ x.length := by
  unfold rtrim
  have := (List.dropWhile_sublist blank (l := x.reverse)).length_le
  simpa using this
theorem trimT_len (x : List UInt8) : (trimT x).length ≤ x.length := by
  have h1 := (List.dropWhile_sublist blank (l := x)).length_le
  have h2 := rtrim_len (x.dropWhile blank)
  unfold trimT; omega
theorem I_TrimText_eq {k : Nat} (x : List UInt8) (h : x.length < 1073741824) : I_TrimText k x = some (trimT x) := by
  have hd : (decide (x.length ≤ 9223372036854775807) && decide (([32, 9] : List UInt8).length < 4294967281) && ([32, 9] : List UInt8).all (fun b => decide (b.toNat < 128))) = true := by
    rw [Bool.and_eq_true, Bool.and_eq_true]; exact ⟨⟨decide_eq_true (by omega), by decide⟩, by decide⟩
  rw [I_TrimText, strings_Trim, trimO, hd, cond_true, trimS_eq]; rfl
theorem S_l4Blank_eq {k : Nat} (c : UInt8) : S_l4Blank k (UInt8.toNat c : Int) = some (blank c) := by
  have h1 := u8_eq c 32
  have h2 := u8_eq c 9
  rw [S_l4Blank, show (32 : Int) = ((32 : UInt8).toNat : Int) from rfl, h1, show (9 : Int) = ((9 : UInt8).toNat : Int) from rfl, h2]
  unfold blank
  cases (c == 32) <;> rfl
theorem S_Trim_1 {k : Nat} : ∀ (n : Nat) (x : List UInt8), x.length < n → x.length < 1073741824 → S_TrimText_b0 k n x = some (x.dropWhile blank) := by
  intro n
  induction n with
  | zero => intro x h; omega
  | succ n ih =>
    intro x h hx
    rw [S_TrimText_b0, bif_dec]
    cases x with
    | nil => rw [if_neg (by simp)]; rfl
    | cons c l =>
      have e : idx (c :: l) (0 : Int) = some c := rfl
      have hs : ssub (c :: l) (1 : Int) ((c :: l).length : Int) = some l := by
        have := ssub_drop (x := c :: l) (i := 1) (by simp)
        simpa using this
      rw [if_pos (by rw [List.length_cons]; omega), e, Option.bind_some, S_l4Blank_eq, Option.bind_some, List.dropWhile_cons]
      cases blank c with
      | true => rw [cond_true, hs, Option.bind_some, ih l (by simp at h; omega) (by simp at hx; omega), if_pos rfl]
      | false => rw [cond_false, if_neg (by simp)]
theorem S_Trim_2 {k : Nat} : ∀ (n : Nat) (x : List UInt8), x.length < n → x.length < 1073741824 → S_TrimText_b2 k n x = some (rtrim x) := by
  intro n
  induction n with
  | zero => intro x h; omega
  | succ n ih =>
    intro x h hx
    rw [S_TrimText_b2, bif_dec]
    rcases List.eq_nil_or_concat x with rfl | ⟨l, c, rfl⟩
    · rw [if_neg (by simp)]; rfl
    · rw [List.concat_eq_append] at *
      have hl : (l ++ [c]).length = l.length + 1 := by simp
      have e1 : IntKind.wrap .i64 (((l ++ [c]).length : Int) - 1) = (l.length : Int) := by rw [wrap_id (by omega) (by omega)]; omega
      have e2 : idx (l ++ [c]) (l.length : Int) = some c := by
        show (l ++ [c])[l.length]? = some c
        simp
      have e3 : ssub (l ++ [c]) (0 : Int) (l.length : Int) = some l := by
        rw [ssub_take (by omega)]; simp
      rw [if_pos (by omega), e1, e2, Option.bind_some, S_l4Blank_eq, Option.bind_some, rtrim_snoc]
      cases blank c with
      | true => rw [cond_true, e3, Option.bind_some, ih l (by omega) (by omega), if_pos rfl]
      | false => rw [cond_false, if_neg (by simp)]
theorem S_TrimText_eq {k : Nat} (hk : 1073741824 ≤ k) (x : List UInt8) (h : x.length < 1073741824) : S_TrimText k x = some (trimT x) := by
  have h1 := (List.dropWhile_sublist blank (l := x)).length_le
  rw [S_TrimText, S_Trim_1 k x (by omega) h, Option.bind_some, S_Trim_2 k _ (by omega) (by omega)]; rfl
/-! Lists split. -/
def cutG (b : UInt8) : List UInt8 → Bool → Bool → List UInt8 → List (List UInt8)
  | [], _, _, cur => [cur]
  | c :: r, q, true, cur => cutG b r q false (cur ++ [c])
  | c :: r, q, false, cur => bif q && c == 92 then cutG b r q true (cur ++ [c]) else bif c == 34 then cutG b r (!q) false (cur ++ [c]) else bif !q && c == b then cur :: cutG b r q false [] else cutG b r q false (cur ++ [c])
theorem cutG_mem (b : UInt8) : ∀ (l : List UInt8) (q sk : Bool) (cur p : List UInt8), p ∈ cutG b l q sk cur → p.length ≤ cur.length + l.length
  | [], q, sk, cur, p, h => by
    unfold cutG at h
    have : p = cur := by simpa using h
    rw [this]; omega
  | c :: r, q, true, cur, p, h => by
    have := cutG_mem b r q false (cur ++ [c]) p (by simpa [cutG] using h)
    simp at this ⊢; omega
  | c :: r, q, false, cur, p, h => by
    rw [cutG] at h
    have step : ∀ q' sk', p ∈ cutG b r q' sk' (cur ++ [c]) → p.length ≤ cur.length + (c :: r).length := fun q' sk' h => by
      have := cutG_mem b r q' sk' (cur ++ [c]) p h
      simp at this ⊢; omega
    cases h1 : (q && c == 92) with
    | true => rw [h1] at h; exact step _ _ h
    | false =>
      rw [h1] at h
      cases h2 : (c == 34) with
      | true => rw [h2] at h; exact step _ _ h
      | false =>
        rw [h2] at h
        cases h3 : (!q && c == b) with
        | false => rw [h3] at h; exact step _ _ h
        | true =>
          rw [h3] at h
          simp only [cond_true, cond_false] at h
          rcases List.mem_cons.1 h with rfl | h
          · omega
          · have := cutG_mem b r q false [] p h
            simp at this ⊢; omega
theorem cutG_len (b : UInt8) : ∀ (l : List UInt8) (q sk : Bool) (cur : List UInt8), (cutG b l q sk cur).length ≤ l.length + 1
  | [], q, sk, cur => by simp [cutG]
  | c :: r, q, true, cur => by have := cutG_len b r q false (cur ++ [c]); simp [cutG]; omega
  | c :: r, q, false, cur => by
    rw [cutG]
    have s1 := fun q' sk' cur' => cutG_len b r q' sk' cur'
    cases (q && c == 92) with
    | true => rw [cond_true]; have := s1 q true (cur ++ [c]); simp; omega
    | false =>
      cases (c == 34) with
      | true => rw [cond_false, cond_true]; have := s1 (!q) false (cur ++ [c]); simp; omega
      | false =>
        cases (!q && c == b) with
        | true => rw [cond_false, cond_false, cond_true]; have := s1 q false []; simp; omega
        | false => rw [cond_false, cond_false, cond_false]; have := s1 q false (cur ++ [c]); simp; omega
def sub (x : List UInt8) (f i : Nat) : List UInt8 := (x.take i).drop f
theorem sub_succ {x : List UInt8} {f i : Nat} (hf : f ≤ i) (hi : i < x.length) : sub x f (i + 1) = sub x f i ++ [x[i]] := by
  unfold sub
  have : x.take (i + 1) = x.take i ++ [x[i]] := by rw [List.take_add_one, List.getElem?_eq_getElem hi]; rfl
  rw [this, List.drop_append_of_le_length (by simp; omega)]
theorem sub_self (x : List UInt8) (i : Nat) : sub x i i = [] := by unfold sub; rw [List.drop_eq_nil_iff]; simp; omega
theorem sub_end {x : List UInt8} {f i : Nat} (h : x.length ≤ i) : sub x f i = x.drop f := by unfold sub; rw [List.take_of_length_le h]
theorem ssub_sub {x : List UInt8} {f i : Nat} (h1 : f ≤ i) (h : i ≤ x.length) : ssub x (f : Int) (i : Int) = some (sub x f i) := ssub_mid h1 h
theorem cutG_skip {b : UInt8} {x : List UInt8} {f i : Nat} {q : Bool} (hf : f ≤ i) (hi : i < x.length) : cutG b (x.drop (i + 1)) q true (sub x f i ++ [x[i]]) = cutG b (x.drop (i + 2)) q false (sub x f (i + 2)) := by
  rw [← sub_succ hf hi]
  by_cases h : i + 1 < x.length
  · rw [List.drop_eq_getElem_cons h, cutG, sub_succ (by omega) h]
  · rw [List.drop_of_length_le (by omega), List.drop_of_length_le (by omega), cutG, cutG, sub_end (by omega), sub_end (by omega)]
theorem S_l4Cut_loop {k : Nat} {x : List UInt8} {b : UInt8} (hx : x.length < 1073741824) : ∀ (n i f : Nat) (q : Bool) (r : List (List UInt8)), f ≤ i → f ≤ x.length → x.length + 2 ≤ i + n → i ≤ x.length + 1 → r.length ≤ i →
    ∃ (f' : Nat) (r' : List (List UInt8)), S_l4Cut_b0 k n x (b.toNat : Int) (f : Int) q (i : Int) r = some ((f' : Int), r') ∧ f' ≤ x.length ∧ r'.length ≤ x.length + 1 ∧ r' ++ [x.drop f'] = r ++ cutG b (x.drop i) q false (sub x f i) := by
  intro n
  induction n with
  | zero => intro i f q r _ _ h h2; omega
  | succ n ih =>
    intro i f q r hf hf2 hn hi hr
    rw [S_l4Cut_b0, bif_dec]
    by_cases c : i < x.length
    · have u92 := u8_eq x[i] 92
      have u34 := u8_eq x[i] 34
      have ub := u8_eq x[i] b
      rw [show (((92 : UInt8).toNat : Nat) : Int) = 92 from rfl] at u92
      rw [show (((34 : UInt8).toNat : Nat) : Int) = 34 from rfl] at u34
      rw [if_pos (by omega), List.drop_eq_getElem_cons c, cutG]
      simp only [S_l4Cut_b1, S_l4Cut_b2, idx_nat c, Option.bind_some, S_l4Cut_c16, S_l4Cut_c26, S_l4Cut_c33, u92, u34, ub]
      have plain := fun q' => ih (i + 1) f q' r (by omega) hf2 (by omega) (by omega) (by omega)
      cases q with
      | true =>
        cases h1 : (x[i] == 92) with
        | true =>
          simp only [cond_true, Option.bind_some, Bool.true_and]
          rw [wrap_succ (by omega), wrap_succ (by omega), cutG_skip hf c]
          exact ih (i + 2) f true r (by omega) hf2 (by omega) (by omega) (by omega)
        | false =>
          simp only [cond_true, cond_false, Option.bind_some, Bool.true_and]
          rw [← sub_succ hf c]
          cases h2 : (x[i] == 34) with
          | true => simp only [cond_true, Option.bind_some]; rw [wrap_succ (by omega)]; exact plain false
          | false => simp only [cond_false, Bool.not_true, Option.bind_some, Bool.false_and]; rw [wrap_succ (by omega)]; exact plain true
      | false =>
        simp only [cond_false, Option.bind_some, Bool.false_and]
        cases h2 : (x[i] == 34) with
        | true => simp only [cond_true, Option.bind_some]; rw [wrap_succ (by omega), ← sub_succ hf c]; exact plain true
        | false =>
          simp only [cond_false, Bool.not_false, cond_true, Bool.true_and]
          cases h3 : (x[i] == b) with
          | true =>
            simp only [cond_true]
            rw [ssub_sub hf (by omega), Option.bind_some, appn_ok (by simp; omega)]
            simp only [Option.bind_some]
            rw [wrap_succ (by omega)]
            obtain ⟨f', r', e1, e2, e3, e4⟩ := ih (i + 1) (i + 1) false (r ++ [sub x f i]) (by omega) (by omega) (by omega) (by omega) (by simp; omega)
            rw [sub_self] at e4
            exact ⟨f', r', e1, e2, e3, by rw [e4]; simp⟩
          | false => simp only [cond_false, Option.bind_some]; rw [wrap_succ (by omega), ← sub_succ hf c]; exact plain false
    · rw [if_neg (by omega), List.drop_of_length_le (by omega), cutG, sub_end (by omega)]
      exact ⟨f, r, rfl, hf2, by omega, rfl⟩
theorem S_l4Cut_eq {k : Nat} (hk : 1073741824 ≤ k) (x : List UInt8) (b : UInt8) (h : x.length < 1073741000) : S_l4Cut k x (b.toNat : Int) = some (cutG b x false false []) := by
  obtain ⟨f', r', e1, e2, e3, e4⟩ := S_l4Cut_loop (k := k) (b := b) (show x.length < 1073741824 by omega) k 0 0 false [] (by omega) (by omega) (by omega) (by omega) (by simp)
  rw [show ((0 : Nat) : Int) = 0 from rfl] at e1
  rw [S_l4Cut, e1, Option.bind_some]
  simp only
  rw [ssub_drop e2, Option.bind_some, appn_ok (by simp; omega), e4]
  simp [sub]
def keepF (p : List UInt8) : List (List UInt8) := bif !(trimT p == []) then [trimT p] else []
def splitL (x : List UInt8) : List (List UInt8) := (cutG 44 x false false []).flatMap keepF
theorem keepF_len (p : List UInt8) : (keepF p).length ≤ 1 := by unfold keepF; cases (trimT p == []) <;> simp
theorem keep_len : ∀ l : List (List UInt8), (l.flatMap keepF).length ≤ l.length
  | [] => by simp
  | p :: l => by
    have := keep_len l
    have := keepF_len p
    rw [List.flatMap_cons, List.length_append, List.length_cons]; omega
theorem splitL_len (x : List UInt8) : (splitL x).length ≤ x.length + 1 := by
  have := keep_len (cutG 44 x false false [])
  have := cutG_len 44 x false false []
  unfold splitL; omega
theorem S_SplitList_eq {k : Nat} (hk : 1073741824 ≤ k) (x : List UInt8) (h : x.length < 1073741000) : S_SplitList k x = some (splitL x) := by
  have hc := S_l4Cut_eq hk x 44 h
  rw [show (((44 : UInt8).toNat : Nat) : Int) = 44 from rfl] at hc
  have hm := fun p => cutG_mem 44 x false false [] p
  have hl := cutG_len 44 x false false []
  rw [S_SplitList, hc, Option.bind_some]
  generalize hw : cutG 44 x false false [] = w at hm hl
  have := fold_all (len := w.length) (g := fun j s => s ++ (w[j]?).elim [] keepF) (Inv := fun i s => s.length ≤ i) (F := fun m i s => S_SplitList_b0 k m i w s) (out := id) (fun m i s hi hI => by
    have hp := hm w[i] (List.getElem_mem hi)
    simp only [S_SplitList_b0, bif_dec, lt_cast, hi, if_true, S_SplitList_b1, idx_nat hi, Option.bind_some, S_SplitList_c22, wrap_succ (by omega : i < 9223372036854775807), List.getElem?_eq_getElem hi, Option.elim_some, keepF, S_TrimText_eq hk w[i] (by simp at hp; omega)]
    cases (trimT w[i] == []) with
    | false => simp only [Bool.not_false, cond_true]; rw [appn_ok (by simp; omega)]; exact ⟨rfl, by simp; omega⟩
    | true => simp only [Bool.not_true, cond_false, List.append_nil]; exact ⟨rfl, by omega⟩) (fun m i s hi => by
    simp only [S_SplitList_b0, bif_dec, lt_cast]
    rw [if_neg (by omega)]; rfl) (k := k) (by omega) (s := []) (by simp)
  have h1 : S_SplitList_b0 k k 0 w [] = some (foldI (fun j s => s ++ (w[j]?).elim [] keepF) w.length 0 []) := this.1
  rw [h1, foldI_append (f := keepF) w.length 0 [] (by omega), List.drop_zero, Option.bind_some, splitL, hw]; rfl
theorem keepF_nil : keepF [] = [] := rfl
def tailK (x : List UInt8) (f : Nat) (r : List (List UInt8)) : List (List UInt8) := bif decide (f < x.length) then r ++ keepF (x.drop f) else r
theorem tailK_eq (x : List UInt8) (f : Nat) (r : List (List UInt8)) : tailK x f r = r ++ keepF (x.drop f) := by
  unfold tailK
  by_cases h : f < x.length
  · rw [decide_eq_true h]; rfl
  · rw [decide_eq_false h, List.drop_of_length_le (by omega), keepF_nil, List.append_nil]; rfl
theorem I_SplitList_loop {k : Nat} {x : List UInt8} (hx : x.length < 1073741000) : ∀ (n i f : Nat) (q : Bool) (r : List (List UInt8)), f ≤ i → x.length + 2 ≤ i + n → i ≤ x.length + 1 → r.length ≤ i →
    ∃ (f' : Nat) (r' : List (List UInt8)), I_SplitList_b0 k n x (f : Int) q (i : Int) r = some ((f' : Int), r') ∧ r'.length ≤ x.length + 1 ∧ f' ≤ x.length + 1 ∧ r' ++ keepF (x.drop f') = r ++ (cutG 44 (x.drop i) q false (sub x f i)).flatMap keepF := by
  intro n
  induction n with
  | zero => intro i f q r _ h h2; omega
  | succ n ih =>
    intro i f q r hf hn hi hr
    rw [I_SplitList_b0, bif_dec]
    have add : ∀ p : List UInt8, p.length < 1073741824 → ∀ (x5 : Bool) (x6 : Int), ((I_TrimText k p).bind fun w => (I_SplitList_c53 k x x5 x6 w (!(w == [])) r).bind fun o => some (((IntKind.wrap .i64 (x6 + 1)), x5, x6, o))) = some ((IntKind.wrap .i64 (x6 + 1)), x5, x6, r ++ keepF p) := fun p hp x5 x6 => by
      rw [I_TrimText_eq p hp, Option.bind_some, I_SplitList_c53]
      unfold keepF
      cases (trimT p == []) with
      | false => simp only [Bool.not_false, cond_true]; rw [appn_ok (by simp; omega)]; rfl
      | true => simp only [Bool.not_true, cond_false, List.append_nil]; rfl
    by_cases c0 : i ≤ x.length
    · rw [if_pos (by omega)]
      have hmin : (if x.length < i then ((x.length : Nat) : Int) else (i : Int)) = (i : Int) := by rw [if_neg (by omega)]
      by_cases c : i < x.length
      · have u92 := u8_eq x[i] 92
        have u34 := u8_eq x[i] 34
        have u44 := u8_eq x[i] 44
        rw [show (((92 : UInt8).toNat : Nat) : Int) = 92 from rfl] at u92
        rw [show (((34 : UInt8).toNat : Nat) : Int) = 34 from rfl] at u34
        rw [show (((44 : UInt8).toNat : Nat) : Int) = 44 from rfl] at u44
        rw [List.drop_eq_getElem_cons c, cutG]
        have plain := fun q' => ih (i + 1) f q' r (by omega) (by omega) (by omega) (by omega)
        have une : ((UInt8.toNat x[i] : Int) != 44) = !(x[i] == 44) := by rw [← u44]; rfl
        simp only [I_SplitList_b1, bif_dec, lt_cast, c, if_true, idx_nat c, Option.bind_some, I_SplitList_c32, I_SplitList_c41, u92, u34, une, hmin]
        cases q with
        | true =>
          simp only [cond_true, Bool.true_and]
          cases h2 : (x[i] == 34) with
          | true =>
            have h1 : (x[i] == 92) = false := by
              have e : x[i] = 34 := by simpa using h2
              rw [e]; rfl
            simp only [h1, cond_true, cond_false, Option.bind_some, Bool.not_true]
            rw [wrap_succ (by omega), ← sub_succ hf c]; exact plain false
          | false =>
            simp only [cond_false, Option.bind_some, cond_true, Bool.not_true, Bool.false_and]
            cases h1 : (x[i] == 92) with
            | true =>
              simp only [cond_true, Option.bind_some]
              rw [wrap_succ (by omega), wrap_succ (by omega), cutG_skip hf c]
              exact ih (i + 2) f true r (by omega) (by omega) (by omega) (by omega)
            | false => simp only [cond_false, Option.bind_some]; rw [wrap_succ (by omega), ← sub_succ hf c]; exact plain true
        | false =>
          simp only [cond_false, Bool.false_and, Bool.not_false, Bool.true_and]
          cases h3 : (x[i] == 44) with
          | true =>
            have h2 : (x[i] == 34) = false := by
              have e : x[i] = 44 := by simpa using h3
              rw [e]; rfl
            simp only [h2, Bool.not_true, cond_false, cond_true]
            rw [ssub_sub hf (by omega), Option.bind_some, add (sub x f i) (by unfold sub; simp; omega), Option.bind_some]
            simp only
            rw [wrap_succ (by omega)]
            have hk1 := keepF_len (sub x f i)
            obtain ⟨f', r', e1, e2, e3, e4⟩ := ih (i + 1) (i + 1) false (r ++ keepF (sub x f i)) (by omega) (by omega) (by omega) (by simp; omega)
            rw [sub_self] at e4
            exact ⟨f', r', e1, e2, e3, by rw [e4, List.flatMap_cons, List.append_assoc]⟩
          | false =>
            simp only [Bool.not_false, cond_true, cond_false]
            cases h2 : (x[i] == 34) with
            | true =>
              have h1 : (x[i] == 92) = false := by
                have e : x[i] = 34 := by simpa using h2
                rw [e]; rfl
              simp only [h1, cond_true, cond_false, Option.bind_some]
              rw [wrap_succ (by omega), ← sub_succ hf c]; exact plain true
            | false => simp only [cond_false, Option.bind_some]; rw [wrap_succ (by omega), ← sub_succ hf c]; exact plain false
      · have hil : i = x.length := by omega
        simp only [I_SplitList_b1, bif_dec, lt_cast, c, if_false, hmin]
        rw [ssub_sub hf (by omega), Option.bind_some, add (sub x f i) (by unfold sub; simp; omega), Option.bind_some]
        simp only
        rw [wrap_succ (by omega)]
        have hk1 := keepF_len (sub x f i)
        obtain ⟨f', r', e1, e2, e3, e4⟩ := ih (i + 1) (i + 1) q (r ++ keepF (sub x f i)) (by omega) (by omega) (by omega) (by simp; omega)
        refine ⟨f', r', e1, e2, e3, ?_⟩
        rw [e4, List.drop_of_length_le (by omega), List.drop_of_length_le (by omega), sub_self, cutG, cutG]
        simp [keepF_nil]
    · rw [if_neg (by omega), List.drop_of_length_le (by omega), cutG, sub_end (by omega)]
      exact ⟨f, r, rfl, by omega, by omega, by simp⟩
theorem I_SplitList_eq {k : Nat} (hk : 1073741824 ≤ k) (x : List UInt8) (h : x.length < 1073741000) : I_SplitList k x = some (splitL x) := by
  obtain ⟨f', r', e1, e2, e3, e4⟩ := I_SplitList_loop (k := k) h k 0 0 false [] (by omega) (by omega) (by omega) (by simp)
  rw [show ((0 : Nat) : Int) = 0 from rfl] at e1
  have e5 : sub x 0 0 = [] := sub_self x 0
  rw [List.drop_zero, e5, List.nil_append] at e4
  rw [I_SplitList, e1, Option.bind_some, I_SplitList_c63, splitL, ← e4]
  simp only [bif_dec]
  by_cases c : f' < x.length
  · rw [if_pos (by omega), ssub_drop (by omega), Option.bind_some, I_TrimText_eq _ (by simp; omega), Option.bind_some, I_SplitList_c69]
    unfold keepF
    cases (trimT (x.drop f') == []) with
    | false => simp only [Bool.not_false, cond_true]; rw [appn_ok (by simp; omega)]; rfl
    | true => simp only [Bool.not_true, cond_false, List.append_nil]; rfl
  · rw [if_neg (by omega), List.drop_of_length_le (by omega), keepF_nil, List.append_nil]; rfl
theorem lens_cons (p : List UInt8) (l : List (List UInt8)) : Lib.lens (p :: l) = p.length + Lib.lens l := rfl
theorem cutG_sum (b : UInt8) : ∀ (l : List UInt8) (q sk : Bool) (cur : List UInt8), Lib.lens (cutG b l q sk cur) ≤ cur.length + l.length
  | [], q, sk, cur => by rw [cutG, lens_cons]; simp [Lib.lens]
  | c :: r, q, true, cur => by have := cutG_sum b r q false (cur ++ [c]); rw [cutG]; simp at this ⊢; omega
  | c :: r, q, false, cur => by
    rw [cutG]
    have s1 := fun q' sk' => cutG_sum b r q' sk' (cur ++ [c])
    simp only [List.length_append, List.length_cons, List.length_nil] at s1
    rw [List.length_cons]
    cases (q && c == 92) with
    | true => rw [cond_true]; have := s1 q true; omega
    | false =>
      cases (c == 34) with
      | true => rw [cond_false, cond_true]; have := s1 (!q) false; omega
      | false =>
        cases (!q && c == b) with
        | true => rw [cond_false, cond_false, cond_true, lens_cons]; have := cutG_sum b r q false []; simp at this; omega
        | false => rw [cond_false, cond_false, cond_false]; have := s1 q false; omega
theorem keep_sum : ∀ l : List (List UInt8), Lib.lens (l.flatMap keepF) ≤ Lib.lens l
  | [] => by simp
  | p :: l => by
    have h1 := keep_sum l
    have h2 := trimT_len p
    rw [List.flatMap_cons, lens_cons]
    unfold keepF at h1 ⊢
    cases (trimT p == []) with
    | true => simpa using (by omega : Lib.lens (l.flatMap fun p => bif !(trimT p == []) then [trimT p] else []) ≤ p.length + Lib.lens l)
    | false => simp only [Bool.not_false, cond_true, List.cons_append, List.nil_append, lens_cons]; omega
theorem splitL_sum (x : List UInt8) : Lib.lens (splitL x) ≤ x.length := by
  have h1 := keep_sum (cutG 44 x false false [])
  have h2 := cutG_sum 44 x false false []
  unfold splitL; simp at h2; omega
/-! Lists joined. -/
def joinT (l : List (List UInt8)) : List UInt8 := Lib.join l [44, 32]
theorem joinT_len (l : List (List UInt8)) : (joinT l).length ≤ 2 * l.length + Lib.lens l := by
  cases l with
  | nil => simp [joinT, Lib.join_nil]
  | cons x r => unfold joinT; rw [Lib.join_length]; simp; omega
theorem I_JoinList_eq {k : Nat} (l : List (List UInt8)) (h : 2 * l.length + Lib.lens l < 1073741824) : I_JoinList k l = some (joinT l) := by
  have hl := joinT_len l
  have hd : (decide (l.length ≤ 140737488355328) && decide ((Lib.join l [44, 32]).length ≤ 140737488355328)) = true := by
    rw [Bool.and_eq_true]; exact ⟨decide_eq_true (by omega), decide_eq_true (by unfold joinT at hl; omega)⟩
  rw [I_JoinList, strings_Join, joinO, hd]; rfl
theorem S_JoinList_loop {k : Nat} {x : List UInt8} {r : List (List UInt8)} (h : 2 * r.length + Lib.lens (x :: r) < 1073741824) : ∀ (n j : Nat), j ≤ r.length → r.length - j < n →
    S_JoinList_b0 k n (x :: r) (x ++ Lib.joinTail [44, 32] (r.take j)) ((j + 1 : Nat) : Int) = some (x ++ Lib.joinTail [44, 32] r) := by
  have hx : Lib.lens (x :: r) = x.length + Lib.lens r := rfl
  intro n
  induction n with
  | zero => intro j _ h; omega
  | succ n ih =>
    intro j hj hn
    rw [S_JoinList_b0, bif_dec]
    by_cases c : j < r.length
    · have hlen : ((j + 1 : Nat) : Int) < ((x :: r).length : Int) := by simp; omega
      have e1 : decide (((j + 1 : Nat) : Int) > 0) = true := decide_eq_true (by omega)
      have e2 : idx (x :: r) ((j + 1 : Nat) : Int) = some r[j] := by
        rw [idx_nat (by simp; omega)]; simp
      have b1 := Lib.joinTail_take_le [44, 32] r j
      have b2 := Lib.joinTail_length [44, 32] r
      have b3 := Lib.joinTail_take_le [44, 32] r (j + 1)
      have b4 := Lib.joinTail_take_succ [44, 32] r j r[j] (List.getElem?_eq_getElem c)
      have b5 := congrArg List.length b4
      simp only [List.length_append, List.length_cons, List.length_nil] at b2 b5
      rw [if_pos hlen, S_JoinList_b1, S_JoinList_c12, e1, cond_true, cat_ok (by simp; omega), Option.bind_some, Option.bind_some, e2, Option.bind_some, cat_ok (by simp; omega), Option.bind_some, Option.bind_some, wrap_succ (by omega)]
      have := ih (j + 1) (by omega) (by omega)
      rw [b4] at this
      rw [← this]
      congr 1
      simp
    · have hlen : ¬ ((j + 1 : Nat) : Int) < ((x :: r).length : Int) := by simp; omega
      rw [if_neg hlen, List.take_of_length_le (by omega)]
theorem S_JoinList_eq {k : Nat} (hk : 1073741824 ≤ k) (l : List (List UInt8)) (h : 2 * l.length + Lib.lens l < 1073741824) : S_JoinList k l = some (joinT l) := by
  obtain ⟨n, rfl⟩ : ∃ n, k = n + 1 := ⟨k - 1, by omega⟩
  rw [S_JoinList, S_JoinList_b0, bif_dec]
  cases l with
  | nil => rfl
  | cons x r =>
    have hx : Lib.lens (x :: r) = x.length + Lib.lens r := rfl
    simp only [List.length_cons] at h
    have hlen : (0 : Int) < ((x :: r).length : Int) := by rw [List.length_cons]; omega
    have e2 : idx (x :: r) (0 : Int) = some x := rfl
    have := S_JoinList_loop (k := n + 1) (x := x) (r := r) (by omega) n 0 (by omega) (by omega)
    rw [List.take_zero] at this
    rw [if_pos hlen, S_JoinList_b1, S_JoinList_c12, e2]
    rw [show (decide ((0 : Int) > 0)) = false from rfl, cond_false, Option.bind_some, Option.bind_some, cat_ok (by simp; omega), Option.bind_some, Option.bind_some]
    rw [show IntKind.wrap .i64 ((0 : Int) + 1) = ((0 + 1 : Nat) : Int) from by rw [wrap_id (by omega) (by omega)]; rfl]
    have e3 : Lib.joinTail [44, 32] ([] : List (List UInt8)) = [] := rfl
    rw [e3, List.append_nil] at this
    rw [List.nil_append, this, Option.bind_some, joinT, Lib.join_cons]
/-! A field's values. -/
def valOfF (n : List UInt8) (e : IField) : List (List UInt8) := bif e.Name == n then [e.Value] else []
def valsF (l : List IField) (n : List UInt8) : List (List UInt8) := l.flatMap (valOfF n)
def fsz (l : List IField) : Nat := l.length + (l.map fun e => e.Value.length).sum
theorem valsF_len (n : List UInt8) : ∀ l : List IField, (valsF l n).length ≤ l.length
  | [] => by simp [valsF]
  | e :: l => by
    have := valsF_len n l
    unfold valsF at this ⊢
    rw [List.flatMap_cons, List.length_append]
    have h2 : (valOfF n e).length ≤ 1 := by unfold valOfF; cases (e.Name == n) <;> simp
    rw [List.length_cons]; omega
theorem valsF_lens (n : List UInt8) : ∀ l : List IField, Lib.lens (valsF l n) ≤ (l.map fun e => e.Value.length).sum
  | [] => by simp [valsF, Lib.lens]
  | e :: l => by
    have := valsF_lens n l
    unfold valsF at this ⊢
    rw [List.flatMap_cons]
    unfold valOfF at this ⊢
    cases (e.Name == n) with
    | true => simp only [cond_true, List.cons_append, List.nil_append, List.map_cons, List.sum_cons]; show e.Value.length + Lib.lens _ ≤ _; omega
    | false => simp only [cond_false, List.nil_append, List.map_cons, List.sum_cons]; omega
def getF (l : List IField) (n : List UInt8) : List UInt8 × Bool := (joinT (valsF l n), decide (((valsF l n).length : Int) > 0))
theorem getF_len (l : List IField) (n : List UInt8) : (getF l n).1.length ≤ 2 * fsz l := by
  have h1 := joinT_len (valsF l n)
  have h2 := valsF_len n l
  have h3 := valsF_lens n l
  unfold getF fsz; simp only; omega
theorem S_GetField_eq {k : Nat} (hk : 1073741824 ≤ k) (l : List IField) (n : List UInt8) (h : fsz l < 268435456) : S_GetField k l n = some (getF l n) := by
  have hl : l.length < 268435456 := by unfold fsz at h; omega
  have := fold_all (len := l.length) (g := fun j s => s ++ (l[j]?).elim [] (valOfF n)) (Inv := fun i s => s.length ≤ i) (F := fun m i s => S_GetField_b0 k m l n i s) (out := id) (fun m i s hi hI => by
    simp only [S_GetField_b0, bif_dec, lt_cast, hi, if_true, S_GetField_b1, idx_nat hi, Option.bind_some, S_GetField_c21, wrap_succ (by omega : i < 9223372036854775807), List.getElem?_eq_getElem hi, Option.elim_some, valOfF]
    cases (l[i].Name == n) with
    | true => rw [cond_true, cond_true, appn_ok (by simp; omega)]; exact ⟨rfl, by simp; omega⟩
    | false => rw [cond_false, cond_false, List.append_nil]; exact ⟨rfl, by omega⟩) (fun m i s hi => by
    simp only [S_GetField_b0, bif_dec, lt_cast]
    rw [if_neg (by omega)]; rfl) (k := k) (by omega) (s := []) (by simp)
  have h1 : S_GetField_b0 k k l n 0 [] = some (foldI (fun j s => s ++ (l[j]?).elim [] (valOfF n)) l.length 0 []) := this.1
  have h2 := valsF_len n l
  have h3 := valsF_lens n l
  have hv : foldI (fun j s => s ++ (l[j]?).elim [] (valOfF n)) l.length 0 [] = valsF l n := by
    rw [foldI_append (f := valOfF n) l.length 0 [] (by omega), List.drop_zero]; rfl
  rw [S_GetField, h1, hv, Option.bind_some, S_JoinList_eq hk _ (by unfold fsz at h; omega)]; rfl
theorem I_GetField_eq {k : Nat} (hk : 1073741824 ≤ k) (l : List IField) (n : List UInt8) (h : fsz l < 268435456) : I_GetField k l n = some (getF l n) := by
  have hl : l.length < 268435456 := by unfold fsz at h; omega
  have := fold_all (len := l.length) (g := fun j s => s ++ (l[j]?).elim [] (valOfF n)) (Inv := fun i s => s.length ≤ i) (F := fun m i s => I_GetField_b0 k m n l (l.length : Int) i s) (out := id) (fun m i s hi hI => by
    simp only [I_GetField_b0, bif_dec, lt_cast, hi, if_true, I_GetField_b1, idx_nat hi, Option.bind_some, I_GetField_c19, wrap_succ (by omega : i < 9223372036854775807), List.getElem?_eq_getElem hi, Option.elim_some, valOfF]
    cases (l[i].Name == n) with
    | true => rw [cond_true, cond_true, appn_ok (by simp; omega)]; exact ⟨rfl, by simp; omega⟩
    | false => rw [cond_false, cond_false, List.append_nil]; exact ⟨rfl, by omega⟩) (fun m i s hi => by
    simp only [I_GetField_b0, bif_dec, lt_cast]
    rw [if_neg (by omega)]; rfl) (k := k) (by omega) (s := []) (by simp)
  have h1 : I_GetField_b0 k k n l (l.length : Int) 0 [] = some (foldI (fun j s => s ++ (l[j]?).elim [] (valOfF n)) l.length 0 []) := this.1
  have h2 := valsF_len n l
  have h3 := valsF_lens n l
  have hv : foldI (fun j s => s ++ (l[j]?).elim [] (valOfF n)) l.length 0 [] = valsF l n := by
    rw [foldI_append (f := valOfF n) l.length 0 [] (by omega), List.drop_zero]; rfl
  rw [I_GetField, h1, hv, Option.bind_some, I_JoinList_eq _ (by unfold fsz at h; omega)]; rfl
/-! Selecting fields. -/
def selV (fs : List IField) (n : List UInt8) : List UInt8 := joinT (splitL (getF fs n).1)
theorem selV_len (fs : List IField) (n : List UInt8) : (selV fs n).length ≤ 6 * fsz fs + 2 := by
  have h1 := getF_len fs n
  have h2 := splitL_len (getF fs n).1
  have h3 := splitL_sum (getF fs n).1
  have h4 := joinT_len (splitL (getF fs n).1)
  unfold selV; omega
theorem selV_ok {fs : List IField} (n : List UInt8) (h : fsz fs < 67108864) : (getF fs n).1.length < 1073741000 ∧ 2 * (splitL (getF fs n).1).length + Lib.lens (splitL (getF fs n).1) < 1073741824 := by
  have h1 := getF_len fs n
  have h2 := splitL_len (getF fs n).1
  have h3 := splitL_sum (getF fs n).1
  omega
def selOf (fs : List IField) (ns : List (List UInt8)) : List IField := ns.map fun n => ⟨n, selV fs n⟩
theorem selFold (fs : List IField) (ns : List (List UInt8)) : foldI (fun j s => s ++ (ns[j]?).elim [] fun n => [(⟨n, selV fs n⟩ : IField)]) ns.length 0 [] = selOf fs ns := by
  rw [foldI_append (f := fun n => [(⟨n, selV fs n⟩ : IField)]) ns.length 0 [] (by omega), List.drop_zero, List.nil_append]
  unfold selOf
  induction ns with
  | nil => rfl
  | cons a l ih => rw [List.flatMap_cons, ih]; rfl
theorem I_SelectingOf_eq {k : Nat} (hk : 1073741824 ≤ k) (r : IRequest) (ns : List (List UInt8)) (h : fsz r.Fields < 67108864) (hn : ns.length < 1073741824) : I_SelectingOf k r ns = some (selOf r.Fields ns) := by
  have := fold_all (len := ns.length) (g := fun j s => s ++ (ns[j]?).elim [] fun n => [(⟨n, selV r.Fields n⟩ : IField)]) (Inv := fun i s => s.length ≤ i) (F := fun m i s => I_SelectingOf_b0 k m ns (ns.length : Int) i r.Method r.Host r.Target r.Fields s) (out := id) (fun m i s hi hI => by
    obtain ⟨s1, s2⟩ := selV_ok ns[i] h
    simp only [I_SelectingOf_b0, bif_dec, lt_cast, hi, if_true, idx_nat hi, Option.bind_some, wrap_succ (by omega : i < 9223372036854775807), List.getElem?_eq_getElem hi, Option.elim_some]
    rw [I_GetField_eq hk _ _ (by omega), Option.bind_some, I_SplitList_eq hk _ s1, Option.bind_some, I_JoinList_eq _ s2, Option.bind_some, appn_ok (by simp; omega)]
    exact ⟨rfl, by simp; omega⟩) (fun m i s hi => by
    simp only [I_SelectingOf_b0, bif_dec, lt_cast]
    rw [if_neg (by omega)]; rfl) (k := k) (by omega) (s := []) (by simp)
  have h1 : I_SelectingOf_b0 k k ns (ns.length : Int) 0 r.Method r.Host r.Target r.Fields [] = some (foldI (fun j s => s ++ (ns[j]?).elim [] fun n => [(⟨n, selV r.Fields n⟩ : IField)]) ns.length 0 []) := this.1
  rw [I_SelectingOf, h1, selFold]; rfl
/-! Tokens. -/
def mk15 : List UInt8 := [33, 35, 36, 37, 38, 39, 42, 43, 45, 46, 94, 95, 124, 126, 96]
def mk14 : List UInt8 := [33, 35, 36, 37, 38, 39, 42, 43, 45, 46, 94, 95, 124, 126]
def letB (c : UInt8) : Bool := (decide (97 ≤ c.toNat) && decide (c.toNat ≤ 122)) || (decide (65 ≤ c.toNat) && decide (c.toNat ≤ 90)) || (decide (48 ≤ c.toNat) && decide (c.toNat ≤ 57))
def mkP (c : UInt8) (i : Nat) : Bool := match mk15[i]? with | some m => c == m | none => false
def tokB (c : UInt8) : Bool := (firstI (mkP c) 15 0).isSome || letB c
theorem S_l4Letter_eq {k : Nat} (c : UInt8) : S_l4Letter k (c.toNat : Int) = some (letB c) := by
  have hb := UInt8.toNat_lt c
  rw [S_l4Letter, wrap_id (by omega) (by omega)]
  simp only [S_l1In, bif_dec, letB]
  by_cases a1 : 97 ≤ c.toNat <;> by_cases a2 : c.toNat ≤ 122 <;> by_cases a3 : 65 ≤ c.toNat <;> by_cases a4 : c.toNat ≤ 90 <;> by_cases a5 : 48 ≤ c.toNat <;> by_cases a6 : c.toNat ≤ 57 <;>
    simp [a1, a2, a3, a4, a5, a6, show ((c.toNat : Int) ≥ 97) = (97 ≤ c.toNat) from by simp; omega, show ((c.toNat : Int) ≤ 122) = (c.toNat ≤ 122) from by simp; omega, show ((c.toNat : Int) ≥ 65) = (65 ≤ c.toNat) from by simp; omega, show ((c.toNat : Int) ≤ 90) = (c.toNat ≤ 90) from by simp; omega, show ((c.toNat : Int) ≥ 48) = (48 ≤ c.toNat) from by simp; omega, show ((c.toNat : Int) ≤ 57) = (c.toNat ≤ 57) from by simp; omega]
theorem S_l4Token_eq {k : Nat} (hk : 1073741824 ≤ k) (c : UInt8) : S_l4Token k (c.toNat : Int) = some (tokB c) := by
  have := find_all (len := 15) (c := fun i => bif mkP c i then some true else none) (F := fun n i => S_l4Token_b0 k n (c.toNat : Int) i) (fun n i hi => by
    have hl : i < mk15.length := hi
    have e : idx ([33, 35, 36, 37, 38, 39, 42, 43, 45, 46, 94, 95, 124, 126, 96] : List UInt8) (i : Int) = some mk15[i] := idx_nat hl
    have e2 : decide ((i : Int) < 15) = true := decide_eq_true (by omega)
    simp only [S_l4Token_b0, e2, cond_true, e, Option.bind_some, u8_eq, wrap_succ (by omega : i < 9223372036854775807), mkP, List.getElem?_eq_getElem hl]
    cases (c == mk15[i]) <;> rfl) (fun n i hi => by
    have e2 : decide ((i : Int) < 15) = false := decide_eq_false (by omega)
    simp only [S_l4Token_b0, e2, cond_false]) (k := k) (by omega)
  rw [S_l4Token, this, findI_first]
  unfold tokB
  cases firstI (mkP c) 15 0 with
  | none => simp [ocOf, oc, S_l4Letter_eq]
  | some j => simp [ocOf, oc]
theorem tok_tab : ∀ j : Fin 256, tokB (UInt8.ofNat j.val) = (letB (UInt8.ofNat j.val) || decide (Lib.indexByte mk14 (UInt8.ofNat j.val) ≥ 0) || (UInt8.ofNat j.val == 96)) := by decide +kernel
theorem tok_eq (c : UInt8) : tokB c = (letB c || decide (Lib.indexByte mk14 c ≥ 0) || (c == 96)) := by
  have := tok_tab ⟨c.toNat, UInt8.toNat_lt c⟩
  simpa using this
theorem I_isTokenByte_eq {k : Nat} (c : UInt8) : I_isTokenByte k (c.toNat : Int) = some (tokB c) := by
  have hb := UInt8.toNat_lt c
  have hi : strings_IndexByte k [33, 35, 36, 37, 38, 39, 42, 43, 45, 46, 94, 95, 124, 126] (c.toNat : Int) = some (Lib.indexByte mk14 c) := by
    rw [strings_IndexByte, indexByteO, Int.toNat_natCast]; simp [mk14]
  have h96 : ((c.toNat : Int) == 96) = (c == 96) := u8_eq c 96
  rw [I_isTokenByte, hi, h96, tok_eq]
  simp only [Option.bind_some, bif_dec, letB]
  by_cases a1 : 97 ≤ c.toNat <;> by_cases a2 : c.toNat ≤ 122 <;> by_cases a3 : 65 ≤ c.toNat <;> by_cases a4 : c.toNat ≤ 90 <;> by_cases a5 : 48 ≤ c.toNat <;> by_cases a6 : c.toNat ≤ 57 <;> by_cases a7 : Lib.indexByte mk14 c ≥ 0 <;>
    simp [a1, a2, a3, a4, a5, a6, a7, show ((c.toNat : Int) ≥ 97) = (97 ≤ c.toNat) from by simp; omega, show ((c.toNat : Int) ≤ 122) = (c.toNat ≤ 122) from by simp; omega, show ((c.toNat : Int) ≥ 65) = (65 ≤ c.toNat) from by simp; omega, show ((c.toNat : Int) ≤ 90) = (c.toNat ≤ 90) from by simp; omega, show ((c.toNat : Int) ≥ 48) = (48 ≤ c.toNat) from by simp; omega, show ((c.toNat : Int) ≤ 57) = (c.toNat ≤ 57) from by simp; omega]
def ntP (x : List UInt8) (i : Nat) : Bool := match x[i]? with | some c => !tokB c | none => false
def inR (n a b : Int) : Bool := decide (a ≤ n) && decide (n ≤ b)
theorem S_l1In_eq {k : Nat} (n a b : Int) : S_l1In k n a b = some (inR n a b) := by
  rw [S_l1In, bif_dec, inR]
  by_cases h : a ≤ n <;> simp [h]
theorem I_inRange_eq {k : Nat} (n a b : Int) : I_inRange k n a b = some (inR n a b) := by
  rw [I_inRange, bif_dec, inR]
  by_cases h : a ≤ n <;> simp [h]
def isTok (x : List UInt8) : Bool := (firstI (ntP x) x.length 0).isNone && inR (x.length : Int) 1 40
theorem S_IsToken_eq {k : Nat} (hk : 1073741824 ≤ k) (x : List UInt8) (h : x.length < 1073741824) : S_IsToken k x = some (isTok x) := by
  have := find_all (len := x.length) (c := fun i => bif ntP x i then some false else none) (F := fun n i => S_IsToken_b0 k n x i) (fun n i hi => by
    simp only [S_IsToken_b0, idx_nat hi, Option.bind_some, wrap_succ (by omega : i < 9223372036854775807), bif_dec, lt_cast, hi, if_true, ntP, List.getElem?_eq_getElem hi, S_l4Token_eq hk]
    cases tokB x[i] <;> rfl) (fun n i hi => by
    simp only [S_IsToken_b0, bif_dec, lt_cast]
    rw [if_neg (by omega)]) (k := k) (by omega)
  rw [S_IsToken, this, findI_first]
  unfold isTok
  cases firstI (ntP x) x.length 0 <;> simp [ocOf, oc, S_l1In_eq]
theorem I_IsToken_eq {k : Nat} (hk : 1073741824 ≤ k) (x : List UInt8) (h : x.length < 1073741824) : I_IsToken k x = some (isTok x) := by
  have := find_all (len := x.length) (c := fun i => bif ntP x i then some false else none) (F := fun n i => I_IsToken_b0 k n x (x.length : Int) i) (fun n i hi => by
    simp only [I_IsToken_b0, idx_nat hi, Option.bind_some, wrap_succ (by omega : i < 9223372036854775807), bif_dec, lt_cast, hi, if_true, ntP, List.getElem?_eq_getElem hi, I_isTokenByte_eq]
    cases tokB x[i] <;> rfl) (fun n i hi => by
    simp only [I_IsToken_b0, bif_dec, lt_cast]
    rw [if_neg (by omega)]) (k := k) (by omega)
  rw [I_IsToken, this, findI_first]
  unfold isTok
  cases firstI (ntP x) x.length 0 <;> simp [ocOf, oc, I_inRange_eq]
def auth : List UInt8 := [97, 117, 116, 104, 111, 114, 105, 122, 97, 116, 105, 111, 110]
def visitor (fs : List IField) : List UInt8 := bif !isTok (selV fs auth) then [] else bif decide (((selV fs auth).length : Int) > 20) then [] else selV fs auth
theorem S_VisitorOf_eq {k : Nat} (hk : 1073741824 ≤ k) (r : IRequest) (h : fsz r.Fields < 67108864) : S_VisitorOf k r = some (visitor r.Fields) := by
  obtain ⟨s1, s2⟩ := selV_ok auth h
  have hl := selV_len r.Fields auth
  rw [S_VisitorOf, S_l5Get, S_GetField_eq hk _ _ (by omega), Option.bind_some, Option.bind_some]
  show ((S_SplitList k (getF r.Fields auth).1).bind _) = _
  rw [S_SplitList_eq hk _ s1, Option.bind_some, S_JoinList_eq hk _ s2, Option.bind_some]
  show ((S_IsToken k (selV r.Fields auth)).bind fun w4 => bif !w4 then some [] else bif decide (((selV r.Fields auth).length : Int) > 20) then some [] else some (selV r.Fields auth)) = _
  rw [S_IsToken_eq hk _ (by omega), Option.bind_some]
  unfold visitor
  cases isTok (selV r.Fields auth) <;> cases decide (((selV r.Fields auth).length : Int) > 20) <;> rfl
theorem I_VisitorOf_eq {k : Nat} (hk : 1073741824 ≤ k) (r : IRequest) (h : fsz r.Fields < 67108864) : I_VisitorOf k r = some (visitor r.Fields) := by
  have hl := selV_len r.Fields auth
  have e : idx (selOf r.Fields [auth]) (0 : Int) = some ⟨auth, selV r.Fields auth⟩ := rfl
  rw [I_VisitorOf]
  show ((I_SelectingOf k r [auth]).bind _) = _
  rw [I_SelectingOf_eq hk r [auth] h (by simp)]
  simp only [Option.bind_some, e]
  rw [I_IsToken_eq hk _ (by omega), Option.bind_some]
  unfold visitor
  cases isTok (selV r.Fields auth) <;> cases decide (((selV r.Fields auth).length : Int) > 20) <;> rfl
theorem fsz_in : ∀ (x : List LField), fsz (x.map to_LField) ≤ szL sz_LField x
  | [] => by simp [fsz, szL]
  | e :: l => by
    have := fsz_in l
    unfold fsz szL at this ⊢
    simp only [List.map_cons, List.sum_cons, List.length_cons, List.length_map] at this ⊢
    have h1 : (to_LField e).Value.length ≤ sz_LField e := by unfold sz_LField; simp only [to_LField]; omega
    omega
theorem req_in {a : LRequest} (h : sz_LRequest a ≤ 1048576) : fsz (to_LRequest a).Fields ≤ 1048576 ∧ (to_LRequest a).Fields.length < 1073741824 := by
  have h1 := fsz_in a.Fields
  unfold sz_LRequest at h
  have h2 : (to_LRequest a).Fields = a.Fields.map to_LField := rfl
  have h3 : (a.Fields.map to_LField).length ≤ fsz (a.Fields.map to_LField) := by unfold fsz; omega
  rw [h2]; omega
theorem FnExactVisitorOf_pure {k : Nat} (hk : 1073741824 ≤ k) (a0 : LRequest) (h0 : V_LRequest a0) : L_FnExactVisitorOf k a0 = some true := by
  unfold L_FnExactVisitorOf
  rw [L_szRequest_eq hk h0 _ (by omega) (by omega), Option.bind_some, bif_dec]
  by_cases c3 : (sz_LRequest a0 : Int) ≤ 1048576
  case neg => rw [if_neg c3, if_pos (by omega)]
  have c4 : sz_LRequest a0 ≤ 1048576 := by omega
  obtain ⟨r1, r2⟩ := req_in c4
  have hfs : fsz (to_LRequest a0).Fields < 67108864 := by omega
  rw [if_pos c3, if_neg (by omega)]
  simp only [L_toRequest_eq hk a0 c4, Option.bind_some, S_VisitorOf_eq hk _ hfs, I_VisitorOf_eq hk _ hfs, L_eqRequest_eq hk _ _ r2, decide_true, Bool.not_true, cond_false, BEq.rfl]

end Go.YtgdjicnefdnofaaDoor
