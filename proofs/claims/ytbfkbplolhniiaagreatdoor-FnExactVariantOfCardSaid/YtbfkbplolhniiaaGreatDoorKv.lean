/- What the functions come to. Nothing is claimed here. -/
import Derived.Test.YtbfkbplolhniiaaGreatDoorKu
set_option linter.unusedVariables false
set_option linter.unusedSimpArgs false
set_option maxRecDepth 100000
namespace Go.YtbfkbplolhniiaaGreatDoor
open Go Go.RowKit Go.Pv Go.Pu

/-! Text without blanks around it. -/
def blank (c : UInt8) : Bool := c == 32 || c == 9
def rtrim (x : List UInt8) : List UInt8 := (x.reverse.dropWhile blank).reverse
def trimT (x : List UInt8) : List UInt8 := rtrim (x.dropWhile blank)
theorem rtrim_cons (e : UInt8) (l : List UInt8) : rtrim (e :: l) = if rtrim l = [] then (if blank e then [] else [e]) else e :: rtrim l := by
  unfold rtrim
  rw [List.reverse_cons, List.dropWhile_append]
  cases h : l.reverse.dropWhile blank with
  | nil => cases hb : blank e <;> simp [List.dropWhile_cons, hb]
  | cons a m => simp
theorem rtrim_snoc (l : List UInt8) (c : UInt8) : rtrim (l ++ [c]) = if blank c then rtrim l else l ++ [c] := by
  unfold rtrim
  rw [List.reverse_append]
  cases hb : blank c <;> simp [List.dropWhile_cons, hb]
theorem trim_comm : ∀ x : List UInt8, rtrim (x.dropWhile blank) = (rtrim x).dropWhile blank
  | [] => rfl
  | e :: l => by
    have ih := trim_comm l
    rw [rtrim_cons, List.dropWhile_cons]
    cases hb : blank e with
    | true =>
      by_cases h : rtrim l = []
      · rw [h] at ih; simp [h, ih]
      · simp [h, List.dropWhile_cons, hb, ih]
    | false =>
      rw [if_neg (by simp), rtrim_cons]
      by_cases h : rtrim l = []
      · simp [h, List.dropWhile_cons, hb]
      · simp [h, List.dropWhile_cons, hb]
theorem trimS_eq (x : List UInt8) : Lib.trimS x [32, 9] = trimT x := by
  have hc : (fun b : UInt8 => ([32, 9] : List UInt8).contains b) = blank := by
    funext b; unfold blank
    simp only [List.contains, List.elem]
    cases h1 : (b == 32) <;> cases h2 : (b == 9) <;> rfl
  unfold Lib.trimS Lib.trimLeftS Lib.trimRightS trimT
  rw [hc, trim_comm]; rfl
theorem rtrim_len (x : List UInt8) : (rtrim x).length ≤ x.length := by
  unfold rtrim
  have := (List.dropWhile_sublist blank (l := x.reverse)).length_le
  simpa using this
theorem trimT_len (x : List UInt8) : (trimT x).length ≤ x.length := by
  have h1 := (List.dropWhile_sublist blank (l := x)).length_le
  have h2 := rtrim_len (x.dropWhile blank)
  unfold trimT; omega
theorem I_TrimText_eq {k : Nat} (x : List UInt8) (h : x.length < 1073741824) : I_TrimText k x = some (trimT x) := by
  have hd : (decide (x.length ≤ 9223372036854775807) && decide (([32, 9] : List UInt8).length < 4294967281) && ([32, 9] : List UInt8).all (fun b => decide (b.toNat < 128))) = true := by
    rw [Bool.and_eq_true, Bool.and_eq_true]; exact ⟨⟨decide_eq_true (by omega), by decide⟩, by decide⟩
  rw [I_TrimText, strings_Trim, trimO, hd, cond_true, trimS_eq]; rfl
theorem S_l4Blank_eq {k : Nat} (c : UInt8) : S_l4Blank k (UInt8.toNat c : Int) = some (blank c) := by
  have h1 := u8_eq c 32
  have h2 := u8_eq c 9
  rw [S_l4Blank, show (32 : Int) = ((32 : UInt8).toNat : Int) from rfl, h1, show (9 : Int) = ((9 : UInt8).toNat : Int) from rfl, h2]
  unfold blank
  cases (c == 32) <;> rfl
theorem S_Trim_1 {k : Nat} : ∀ (n : Nat) (x : List UInt8), x.length < n → x.length < 1073741824 → S_TrimText_b0 k n x = some (x.dropWhile blank) := by
  intro n
  induction n with
  | zero => intro x h; omega
  | succ n ih =>
    intro x h hx
    rw [S_TrimText_b0, bif_dec]
    cases x with
    | nil => rw [if_neg (by simp)]; rfl
    | cons c l =>
      have e : idx (c :: l) (0 : Int) = some c := rfl
      have hs : ssub (c :: l) (1 : Int) ((c :: l).length : Int) = some l := by
        have := ssub_drop (x := c :: l) (i := 1) (by simp)
        simpa using this
      rw [if_pos (by rw [List.length_cons]; omega), e, Option.bind_some, S_l4Blank_eq, Option.bind_some, List.dropWhile_cons]
      cases blank c with
      | true => rw [cond_true, hs, Option.bind_some, ih l (by simp at h; omega) (by simp at hx; omega), if_pos rfl]
      | false => rw [cond_false, if_neg (by simp)]
theorem S_Trim_2 {k : Nat} : ∀ (n : Nat) (x : List UInt8), x.length < n → x.length < 1073741824 → S_TrimText_b2 k n x = some (rtrim x) := by
  intro n
  induction n with
  | zero => intro x h; omega
  | succ n ih =>
    intro x h hx
    rw [S_TrimText_b2, bif_dec]
    rcases List.eq_nil_or_concat x with rfl | ⟨l, c, rfl⟩
    · rw [if_neg (by simp)]; rfl
    · rw [List.concat_eq_append] at *
      have hl : (l ++ [c]).length = l.length + 1 := by simp
      have e1 : IntKind.wrap .i64 (((l ++ [c]).length : Int) - 1) = (l.length : Int) := by rw [wrap_id (by omega) (by omega)]; omega
      have e2 : idx (l ++ [c]) (l.length : Int) = some c := by
        show (l ++ [c])[l.length]? = some c
        simp
      have e3 : ssub (l ++ [c]) (0 : Int) (l.length : Int) = some l := by
        rw [ssub_take (by omega)]; simp
      rw [if_pos (by omega), e1, e2, Option.bind_some, S_l4Blank_eq, Option.bind_some, rtrim_snoc]
      cases blank c with
      | true => rw [cond_true, e3, Option.bind_some, ih l (by omega) (by omega), if_pos rfl]
      | false => rw [cond_false, if_neg (by simp)]
theorem S_TrimText_eq {k : Nat} (hk : 1073741824 ≤ k) (x : List UInt8) (h : x.length < 1073741824) : S_TrimText k x = some (trimT x) := by
  have h1 := (List.dropWhile_sublist blank (l := x)).length_le
  rw [S_TrimText, S_Trim_1 k x (by omega) h, Option.bind_some, S_Trim_2 k _ (by omega) (by omega)]; rfl
/-! Lists split. -/
def cutG (b : UInt8) : List UInt8 → Bool → Bool → List UInt8 → List (List UInt8)
  | [], _, _, cur => [cur]
  | c :: r, q, true, cur => cutG b r q false (cur ++ [c])
  | c :: r, q, false, cur => bif q && c == 92 then cutG b r q true (cur ++ [c]) else bif c == 34 then cutG b r (!q) false (cur ++ [c]) else bif !q && c == b then cur :: cutG b r q false [] else cutG b r q false (cur ++ [c])
theorem cutG_mem (b : UInt8) : ∀ (l : List UInt8) (q sk : Bool) (cur p : List UInt8), p ∈ cutG b l q sk cur → p.length ≤ cur.length + l.length
  | [], q, sk, cur, p, h => by
    unfold cutG at h
    have : p = cur := by simpa using h
    rw [this]; omega
  | c :: r, q, true, cur, p, h => by
    have := cutG_mem b r q false (cur ++ [c]) p (by simpa [cutG] using h)
    simp at this ⊢; omega
  | c :: r, q, false, cur, p, h => by
    rw [cutG] at h
    have step : ∀ q' sk', p ∈ cutG b r q' sk' (cur ++ [c]) → p.length ≤ cur.length + (c :: r).length := fun q' sk' h => by
      have := cutG_mem b r q' sk' (cur ++ [c]) p h
      simp at this ⊢; omega
    cases h1 : (q && c == 92) with
    | true => rw [h1] at h; exact step _ _ h
    | false =>
      rw [h1] at h
      cases h2 : (c == 34) with
      | true => rw [h2] at h; exact step _ _ h
      | false =>
        rw [h2] at h
        cases h3 : (!q && c == b) with
        | false => rw [h3] at h; exact step _ _ h
        | true =>
          rw [h3] at h
          simp only [cond_true, cond_false] at h
          rcases List.mem_cons.1 h with rfl | h
          · omega
          · have := cutG_mem b r q false [] p h
            simp at this ⊢; omega
theorem cutG_len (b : UInt8) : ∀ (l : List UInt8) (q sk : Bool) (cur : List UInt8), (cutG b l q sk cur).length ≤ l.length + 1
  | [], q, sk, cur => by simp [cutG]
  | c :: r, q, true, cur => by have := cutG_len b r q false (cur ++ [c]); simp [cutG]; omega
  | c :: r, q, false, cur => by
    rw [cutG]
    have s1 := fun q' sk' cur' => cutG_len b r q' sk' cur'
    cases (q && c == 92) with
    | true => rw [cond_true]; have := s1 q true (cur ++ [c]); simp; omega
    | false =>
      cases (c == 34) with
      | true => rw [cond_false, cond_true]; have := s1 (!q) false (cur ++ [c]); simp; omega
      | false =>
        cases (!q && c == b) with
        | true => rw [cond_false, cond_false, cond_true]; have := s1 q false []; simp; omega
        | false => rw [cond_false, cond_false, cond_false]; have := s1 q false (cur ++ [c]); simp; omega
def sub (x : List UInt8) (f i : Nat) : List UInt8 := (x.take i).drop f
theorem sub_succ {x : List UInt8} {f i : Nat} (hf : f ≤ i) (hi : i < x.length) : sub x f (i + 1) = sub x f i ++ [x[i]] := by
  unfold sub
  have : x.take (i + 1) = x.take i ++ [x[i]] := by rw [List.take_add_one, List.getElem?_eq_getElem hi]; rfl
  rw [this, List.drop_append_of_le_length (by simp; omega)]
theorem sub_self (x : List UInt8) (i : Nat) : sub x i i = [] := by unfold sub; rw [List.drop_eq_nil_iff]; simp; omega
theorem sub_end {x : List UInt8} {f i : Nat} (h : x.length ≤ i) : sub x f i = x.drop f := by unfold sub; rw [List.take_of_length_le h]
theorem ssub_sub {x : List UInt8} {f i : Nat} (h1 : f ≤ i) (h : i ≤ x.length) : ssub x (f : Int) (i : Int) = some (sub x f i) := ssub_mid h1 h
theorem cutG_skip {b : UInt8} {x : List UInt8} {f i : Nat} {q : Bool} (hf : f ≤ i) (hi : i < x.length) : cutG b (x.drop (i + 1)) q true (sub x f i ++ [x[i]]) = cutG b (x.drop (i + 2)) q false (sub x f (i + 2)) := by
  rw [← sub_succ hf hi]
  by_cases h : i + 1 < x.length
  · rw [List.drop_eq_getElem_cons h, cutG, sub_succ (by omega) h]
  · rw [List.drop_of_length_le (by omega), List.drop_of_length_le (by omega), cutG, cutG, sub_end (by omega), sub_end (by omega)]
theorem S_l4Cut_loop {k : Nat} {x : List UInt8} {b : UInt8} (hx : x.length < 1073741824) : ∀ (n i f : Nat) (q : Bool) (r : List (List UInt8)), f ≤ i → f ≤ x.length → x.length + 2 ≤ i + n → i ≤ x.length + 1 → r.length ≤ i →
    ∃ (f' : Nat) (r' : List (List UInt8)), S_l4Cut_b0 k n x (b.toNat : Int) (f : Int) q (i : Int) r = some ((f' : Int), r') ∧ f' ≤ x.length ∧ r'.length ≤ x.length + 1 ∧ r' ++ [x.drop f'] = r ++ cutG b (x.drop i) q false (sub x f i) := by
  intro n
  induction n with
  | zero => intro i f q r _ _ h h2; omega
  | succ n ih =>
    intro i f q r hf hf2 hn hi hr
    rw [S_l4Cut_b0, bif_dec]
    by_cases c : i < x.length
    · have u92 := u8_eq x[i] 92
      have u34 := u8_eq x[i] 34
      have ub := u8_eq x[i] b
      rw [show (((92 : UInt8).toNat : Nat) : Int) = 92 from rfl] at u92
      rw [show (((34 : UInt8).toNat : Nat) : Int) = 34 from rfl] at u34
      rw [if_pos (by omega), List.drop_eq_getElem_cons c, cutG]
      simp only [S_l4Cut_b1, S_l4Cut_b2, idx_nat c, Option.bind_some, S_l4Cut_c16, S_l4Cut_c26, S_l4Cut_c33, u92, u34, ub]
      have plain := fun q' => ih (i + 1) f q' r (by omega) hf2 (by omega) (by omega) (by omega)
      cases q with
      | true =>
        cases h1 : (x[i] == 92) with
        | true =>
          simp only [cond_true, Option.bind_some, Bool.true_and]
          rw [wrap_succ (by omega), wrap_succ (by omega), cutG_skip hf c]
          exact ih (i + 2) f true r (by omega) hf2 (by omega) (by omega) (by omega)
        | false =>
          simp only [cond_true, cond_false, Option.bind_some, Bool.true_and]
          rw [← sub_succ hf c]
          cases h2 : (x[i] == 34) with
          | true => simp only [cond_true, Option.bind_some]; rw [wrap_succ (by omega)]; exact plain false
          | false => simp only [cond_false, Bool.not_true, Option.bind_some, Bool.false_and]; rw [wrap_succ (by omega)]; exact plain true
      | false =>
        simp only [cond_false, Option.bind_some, Bool.false_and]
        cases h2 : (x[i] == 34) with
        | true => simp only [cond_true, Option.bind_some]; rw [wrap_succ (by omega), ← sub_succ hf c]; exact plain true
        | false =>
          simp only [cond_false, Bool.not_false, cond_true, Bool.true_and]
          cases h3 : (x[i] == b) with
          | true =>
            simp only [cond_true]
            rw [ssub_sub hf (by omega), Option.bind_some, appn_ok (by simp; omega)]
            simp only [Option.bind_some]
            rw [wrap_succ (by omega)]
            obtain ⟨f', r', e1, e2, e3, e4⟩ := ih (i + 1) (i + 1) false (r ++ [sub x f i]) (by omega) (by omega) (by omega) (by omega) (by simp; omega)
            rw [sub_self] at e4
            exact ⟨f', r', e1, e2, e3, by rw [e4]; simp⟩
          | false => simp only [cond_false, Option.bind_some]; rw [wrap_succ (by omega), ← sub_succ hf c]; exact plain false
    · rw [if_neg (by omega), List.drop_of_length_le (by omega), cutG, sub_end (by omega)]
      exact ⟨f, r, rfl, hf2, by omega, rfl⟩
theorem S_l4Cut_eq {k : Nat} (hk : 1073741824 ≤ k) (x : List UInt8) (b : UInt8) (h : x.length < 1073741000) : S_l4Cut k x (b.toNat : Int) = some (cutG b x false false []) := by
  obtain ⟨f', r', e1, e2, e3, e4⟩ := S_l4Cut_loop (k := k) (b := b) (show x.length < 1073741824 by omega) k 0 0 false [] (by omega) (by omega) (by omega) (by omega) (by simp)
  rw [show ((0 : Nat) : Int) = 0 from rfl] at e1
  rw [S_l4Cut, e1, Option.bind_some]
  simp only
  rw [ssub_drop e2, Option.bind_some, appn_ok (by simp; omega), e4]
  simp [sub]
def keepF (p : List UInt8) : List (List UInt8) := bif !(trimT p == []) then [trimT p] else []
def splitL (x : List UInt8) : List (List UInt8) := (cutG 44 x false false []).flatMap keepF
theorem keepF_len (p : List UInt8) : (keepF p).length ≤ 1 := by unfold keepF; cases (trimT p == []) <;> simp
theorem keep_len : ∀ l : List (List UInt8), (l.flatMap keepF).length ≤ l.length
  | [] => by simp
  | p :: l => by
    have := keep_len l
    have := keepF_len p
    rw [List.flatMap_cons, List.length_append, List.length_cons]; omega
theorem splitL_len (x : List UInt8) : (splitL x).length ≤ x.length + 1 := by
  have := keep_len (cutG 44 x false false [])
  have := cutG_len 44 x false false []
  unfold splitL; omega
theorem S_SplitList_eq {k : Nat} (hk : 1073741824 ≤ k) (x : List UInt8) (h : x.length < 1073741000) : S_SplitList k x = some (splitL x) := by
  have hc := S_l4Cut_eq hk x 44 h
  rw [show (((44 : UInt8).toNat : Nat) : Int) = 44 from rfl] at hc
  have hm := fun p => cutG_mem 44 x false false [] p
  have hl := cutG_len 44 x false false []
  rw [S_SplitList, hc, Option.bind_some]
  generalize hw : cutG 44 x false false [] = w at hm hl
  have := fold_all (len := w.length) (g := fun j s => s ++ (w[j]?).elim [] keepF) (Inv := fun i s => s.length ≤ i) (F := fun m i s => S_SplitList_b0 k m i w s) (out := id) (fun m i s hi hI => by
    have hp := hm w[i] (List.getElem_mem hi)
    simp only [S_SplitList_b0, bif_dec, lt_cast, hi, if_true, S_SplitList_b1, idx_nat hi, Option.bind_some, S_SplitList_c22, wrap_succ (by omega : i < 9223372036854775807), List.getElem?_eq_getElem hi, Option.elim_some, keepF, S_TrimText_eq hk w[i] (by simp at hp; omega)]
    cases (trimT w[i] == []) with
    | false => simp only [Bool.not_false, cond_true]; rw [appn_ok (by simp; omega)]; exact ⟨rfl, by simp; omega⟩
    | true => simp only [Bool.not_true, cond_false, List.append_nil]; exact ⟨rfl, by omega⟩) (fun m i s hi => by
    simp only [S_SplitList_b0, bif_dec, lt_cast]
    rw [if_neg (by omega)]; rfl) (k := k) (by omega) (s := []) (by simp)
  have h1 : S_SplitList_b0 k k 0 w [] = some (foldI (fun j s => s ++ (w[j]?).elim [] keepF) w.length 0 []) := this.1
  rw [h1, foldI_append (f := keepF) w.length 0 [] (by omega), List.drop_zero, Option.bind_some, splitL, hw]; rfl
theorem keepF_nil : keepF [] = [] := rfl
def tailK (x : List UInt8) (f : Nat) (r : List (List UInt8)) : List (List UInt8) := bif decide (f < x.length) then r ++ keepF (x.drop f) else r
theorem tailK_eq (x : List UInt8) (f : Nat) (r : List (List UInt8)) : tailK x f r = r ++ keepF (x.drop f) := by
  unfold tailK
  by_cases h : f < x.length
  · rw [decide_eq_true h]; rfl
  · rw [decide_eq_false h, List.drop_of_length_le (by omega), keepF_nil, List.append_nil]; rfl
theorem I_SplitList_loop {k : Nat} {x : List UInt8} (hx : x.length < 1073741000) : ∀ (n i f : Nat) (q : Bool) (r : List (List UInt8)), f ≤ i → x.length + 2 ≤ i + n → i ≤ x.length + 1 → r.length ≤ i →
    ∃ (f' : Nat) (r' : List (List UInt8)), I_SplitList_b0 k n x (f : Int) q (i : Int) r = some ((f' : Int), r') ∧ r'.length ≤ x.length + 1 ∧ f' ≤ x.length + 1 ∧ r' ++ keepF (x.drop f') = r ++ (cutG 44 (x.drop i) q false (sub x f i)).flatMap keepF := by
  intro n
  induction n with
  | zero => intro i f q r _ h h2; omega
  | succ n ih =>
    intro i f q r hf hn hi hr
    rw [I_SplitList_b0, bif_dec]
    have add : ∀ p : List UInt8, p.length < 1073741824 → ∀ (x5 : Bool) (x6 : Int), ((I_TrimText k p).bind fun w => (I_SplitList_c53 k x x5 x6 w (!(w == [])) r).bind fun o => some (((IntKind.wrap .i64 (x6 + 1)), x5, x6, o))) = some ((IntKind.wrap .i64 (x6 + 1)), x5, x6, r ++ keepF p) := fun p hp x5 x6 => by
      rw [I_TrimText_eq p hp, Option.bind_some, I_SplitList_c53]
      unfold keepF
      cases (trimT p == []) with
      | false => simp only [Bool.not_false, cond_true]; rw [appn_ok (by simp; omega)]; rfl
      | true => simp only [Bool.not_true, cond_false, List.append_nil]; rfl
    by_cases c0 : i ≤ x.length
    · rw [if_pos (by omega)]
      have hmin : (if x.length < i then ((x.length : Nat) : Int) else (i : Int)) = (i : Int) := by rw [if_neg (by omega)]
      by_cases c : i < x.length
      · have u92 := u8_eq x[i] 92
        have u34 := u8_eq x[i] 34
        have u44 := u8_eq x[i] 44
        rw [show (((92 : UInt8).toNat : Nat) : Int) = 92 from rfl] at u92
        rw [show (((34 : UInt8).toNat : Nat) : Int) = 34 from rfl] at u34
        rw [show (((44 : UInt8).toNat : Nat) : Int) = 44 from rfl] at u44
        rw [List.drop_eq_getElem_cons c, cutG]
        have plain := fun q' => ih (i + 1) f q' r (by omega) (by omega) (by omega) (by omega)
        have une : ((UInt8.toNat x[i] : Int) != 44) = !(x[i] == 44) := by rw [← u44]; rfl
        simp only [I_SplitList_b1, bif_dec, lt_cast, c, if_true, idx_nat c, Option.bind_some, I_SplitList_c32, I_SplitList_c41, u92, u34, une, hmin]
        cases q with
        | true =>
          simp only [cond_true, Bool.true_and]
          cases h2 : (x[i] == 34) with
          | true =>
            have h1 : (x[i] == 92) = false := by
              have e : x[i] = 34 := by simpa using h2
              rw [e]; rfl
            simp only [h1, cond_true, cond_false, Option.bind_some, Bool.not_true]
            rw [wrap_succ (by omega), ← sub_succ hf c]; exact plain false
          | false =>
            simp only [cond_false, Option.bind_some, cond_true, Bool.not_true, Bool.false_and]
            cases h1 : (x[i] == 92) with
            | true =>
              simp only [cond_true, Option.bind_some]
              rw [wrap_succ (by omega), wrap_succ (by omega), cutG_skip hf c]
              exact ih (i + 2) f true r (by omega) (by omega) (by omega) (by omega)
            | false => simp only [cond_false, Option.bind_some]; rw [wrap_succ (by omega), ← sub_succ hf c]; exact plain true
        | false =>
          simp only [cond_false, Bool.false_and, Bool.not_false, Bool.true_and]
          cases h3 : (x[i] == 44) with
          | true =>
            have h2 : (x[i] == 34) = false := by
              have e : x[i] = 44 := by simpa using h3
              rw [e]; rfl
            simp only [h2, Bool.not_true, cond_false, cond_true]
            rw [ssub_sub hf (by omega), Option.bind_some, add (sub x f i) (by unfold sub; simp; omega), Option.bind_some]
            simp only
            rw [wrap_succ (by omega)]
            have hk1 := keepF_len (sub x f i)
            obtain ⟨f', r', e1, e2, e3, e4⟩ := ih (i + 1) (i + 1) false (r ++ keepF (sub x f i)) (by omega) (by omega) (by omega) (by simp; omega)
            rw [sub_self] at e4
            exact ⟨f', r', e1, e2, e3, by rw [e4, List.flatMap_cons, List.append_assoc]⟩
          | false =>
            simp only [Bool.not_false, cond_true, cond_false]
            cases h2 : (x[i] == 34) with
            | true =>
              have h1 : (x[i] == 92) = false := by
                have e : x[i] = 34 := by simpa using h2
                rw [e]; rfl
              simp only [h1, cond_true, cond_false, Option.bind_some]
              rw [wrap_succ (by omega), ← sub_succ hf c]; exact plain true
            | false => simp only [cond_false, Option.bind_some]; rw [wrap_succ (by omega), ← sub_succ hf c]; exact plain false
      · have hil : i = x.length := by omega
        simp only [I_SplitList_b1, bif_dec, lt_cast, c, if_false, hmin]
        rw [ssub_sub hf (by omega), Option.bind_some, add (sub x f i) (by unfold sub; simp; omega), Option.bind_some]
        simp only
        rw [wrap_succ (by omega)]
        have hk1 := keepF_len (sub x f i)
        obtain ⟨f', r', e1, e2, e3, e4⟩ := ih (i + 1) (i + 1) q (r ++ keepF (sub x f i)) (by omega) (by omega) (by omega) (by simp; omega)
        refine ⟨f', r', e1, e2, e3, ?_⟩
        rw [e4, List.drop_of_length_le (by omega), List.drop_of_length_le (by omega), sub_self, cutG, cutG]
        simp [keepF_nil]
    · rw [if_neg (by omega), List.drop_of_length_le (by omega), cutG, sub_end (by omega)]
      exact ⟨f, r, rfl, by omega, by omega, by simp⟩
theorem I_SplitList_eq {k : Nat} (hk : 1073741824 ≤ k) (x : List UInt8) (h : x.length < 1073741000) : I_SplitList k x = some (splitL x) := by
  obtain ⟨f', r', e1, e2, e3, e4⟩ := I_SplitList_loop (k := k) h k 0 0 false [] (by omega) (by omega) (by omega) (by simp)
  rw [show ((0 : Nat) : Int) = 0 from rfl] at e1
  have e5 : sub x 0 0 = [] := sub_self x 0
  rw [List.drop_zero, e5, List.nil_append] at e4
  rw [I_SplitList, e1, Option.bind_some, I_SplitList_c63, splitL, ← e4]
  simp only [bif_dec]
  by_cases c : f' < x.length
  · rw [if_pos (by omega), ssub_drop (by omega), Option.bind_some, I_TrimText_eq _ (by simp; omega), Option.bind_some, I_SplitList_c69]
    unfold keepF
    cases (trimT (x.drop f') == []) with
    | false => simp only [Bool.not_false, cond_true]; rw [appn_ok (by simp; omega)]; rfl
    | true => simp only [Bool.not_true, cond_false, List.append_nil]; rfl
  · rw [if_neg (by omega), List.drop_of_length_le (by omega), keepF_nil, List.append_nil]; rfl
theorem lens_cons (p : List UInt8) (l : List (List UInt8)) : Lib.lens (p :: l) = p.length + Lib.lens l := rfl
theorem cutG_sum (b : UInt8) : ∀ (l : List UInt8) (q sk : Bool) (cur : List UInt8), Lib.lens (cutG b l q sk cur) ≤ cur.length + l.length
  | [], q, sk, cur => by rw [cutG, lens_cons]; simp [Lib.lens]
  | c :: r, q, true, cur => by have := cutG_sum b r q false (cur ++ [c]); rw [cutG]; simp at this ⊢; omega
  | c :: r, q, false, cur => by
    rw [cutG]
    have s1 := fun q' sk' => cutG_sum b r q' sk' (cur ++ [c])
    simp only [List.length_append, List.length_cons, List.length_nil] at s1
    rw [List.length_cons]
    cases (q && c == 92) with
    | true => rw [cond_true]; have := s1 q true; omega
    | false =>
      cases (c == 34) with
      | true => rw [cond_false, cond_true]; have := s1 (!q) false; omega
      | false =>
        cases (!q && c == b) with
        | true => rw [cond_false, cond_false, cond_true, lens_cons]; have := cutG_sum b r q false []; simp at this; omega
        | false => rw [cond_false, cond_false, cond_false]; have := s1 q false; omega
theorem keep_sum : ∀ l : List (List UInt8), Lib.lens (l.flatMap keepF) ≤ Lib.lens l
  | [] => by simp
  | p :: l => by
    have h1 := keep_sum l
    have h2 := trimT_len p
    rw [List.flatMap_cons, lens_cons]
    unfold keepF at h1 ⊢
    cases (trimT p == []) with
    | true => simpa using (by omega : Lib.lens (l.flatMap fun p => bif !(trimT p == []) then [trimT p] else []) ≤ p.length + Lib.lens l)
    | false => simp only [Bool.not_false, cond_true, List.cons_append, List.nil_append, lens_cons]; omega
theorem splitL_sum (x : List UInt8) : Lib.lens (splitL x) ≤ x.length := by
  have h1 := keep_sum (cutG 44 x false false [])
  have h2 := cutG_sum 44 x false false []
  unfold splitL; simp at h2; omega
/-! Lists joined. -/
def joinT (l : List (List UInt8)) : List UInt8 := Lib.join l [44, 32]
theorem joinT_len (l : List (List UInt8)) : (joinT l).length ≤ 2 * l.length + Lib.lens l := by
  cases l with
  | nil => simp [joinT, Lib.join_nil]
  | cons x r => unfold joinT; rw [Lib.join_length]; simp; omega
theorem I_JoinList_eq {k : Nat} (l : List (List UInt8)) (h : 2 * l.length + Lib.lens l < 1073741824) : I_JoinList k l = some (joinT l) := by
  have hl := joinT_len l
  have hd : (decide (l.length ≤ 140737488355328) && decide ((Lib.join l [44, 32]).length ≤ 140737488355328)) = true := by
    rw [Bool.and_eq_true]; exact ⟨decide_eq_true (by omega), decide_eq_true (by unfold joinT at hl; omega)⟩
  rw [I_JoinList, strings_Join, joinO, hd]; rfl
theorem S_JoinList_loop {k : Nat} {x : List UInt8} {r : List (List UInt8)} (h : 2 * r.length + Lib.lens (x :: r) < 1073741824) : ∀ (n j : Nat), j ≤ r.length → r.length - j < n →
    S_JoinList_b0 k n (x :: r) (x ++ Lib.joinTail [44, 32] (r.take j)) ((j + 1 : Nat) : Int) = some (x ++ Lib.joinTail [44, 32] r) := by
  have hx : Lib.lens (x :: r) = x.length + Lib.lens r := rfl
  intro n
  induction n with
  | zero => intro j _ h; omega
  | succ n ih =>
    intro j hj hn
    rw [S_JoinList_b0, bif_dec]
    by_cases c : j < r.length
    · have hlen : ((j + 1 : Nat) : Int) < ((x :: r).length : Int) := by simp; omega
      have e1 : decide (((j + 1 : Nat) : Int) > 0) = true := decide_eq_true (by omega)
      have e2 : idx (x :: r) ((j + 1 : Nat) : Int) = some r[j] := by
        rw [idx_nat (by simp; omega)]; simp
      have b1 := Lib.joinTail_take_le [44, 32] r j
      have b2 := Lib.joinTail_length [44, 32] r
      have b3 := Lib.joinTail_take_le [44, 32] r (j + 1)
      have b4 := Lib.joinTail_take_succ [44, 32] r j r[j] (List.getElem?_eq_getElem c)
      have b5 := congrArg List.length b4
      simp only [List.length_append, List.length_cons, List.length_nil] at b2 b5
      rw [if_pos hlen, S_JoinList_b1, S_JoinList_c12, e1, cond_true, cat_ok (by simp; omega), Option.bind_some, Option.bind_some, e2, Option.bind_some, cat_ok (by simp; omega), Option.bind_some, Option.bind_some, wrap_succ (by omega)]
      have := ih (j + 1) (by omega) (by omega)
      rw [b4] at this
      rw [← this]
      congr 1
      simp
    · have hlen : ¬ ((j + 1 : Nat) : Int) < ((x :: r).length : Int) := by simp; omega
      rw [if_neg hlen, List.take_of_length_le (by omega)]
theorem S_JoinList_eq {k : Nat} (hk : 1073741824 ≤ k) (l : List (List UInt8)) (h : 2 * l.length + Lib.lens l < 1073741824) : S_JoinList k l = some (joinT l) := by
  obtain ⟨n, rfl⟩ : ∃ n, k = n + 1 := ⟨k - 1, by omega⟩
  rw [S_JoinList, S_JoinList_b0, bif_dec]
  cases l with
  | nil => rfl
  | cons x r =>
    have hx : Lib.lens (x :: r) = x.length + Lib.lens r := rfl
    simp only [List.length_cons] at h
    have hlen : (0 : Int) < ((x :: r).length : Int) := by rw [List.length_cons]; omega
    have e2 : idx (x :: r) (0 : Int) = some x := rfl
    have := S_JoinList_loop (k := n + 1) (x := x) (r := r) (by omega) n 0 (by omega) (by omega)
    rw [List.take_zero] at this
    rw [if_pos hlen, S_JoinList_b1, S_JoinList_c12, e2]
    rw [show (decide ((0 : Int) > 0)) = false from rfl, cond_false, Option.bind_some, Option.bind_some, cat_ok (by simp; omega), Option.bind_some, Option.bind_some]
    rw [show IntKind.wrap .i64 ((0 : Int) + 1) = ((0 + 1 : Nat) : Int) from by rw [wrap_id (by omega) (by omega)]; rfl]
    have e3 : Lib.joinTail [44, 32] ([] : List (List UInt8)) = [] := rfl
    rw [e3, List.append_nil] at this
    rw [List.nil_append, this, Option.bind_some, joinT, Lib.join_cons]
/-! A field's values. -/
def valOfF (n : List UInt8) (e : IField) : List (List UInt8) := bif e.Name == n then [e.Value] else []
def valsF (l : List IField) (n : List UInt8) : List (List UInt8) := l.flatMap (valOfF n)
def fsz (l : List IField) : Nat := l.length + (l.map fun e => e.Value.length).sum
theorem valsF_len (n : List UInt8) : ∀ l : List IField, (valsF l n).length ≤ l.length
  | [] => by simp [valsF]
  | e :: l => by
    have := valsF_len n l
    unfold valsF at this ⊢
    rw [List.flatMap_cons, List.length_append]
    have h2 : (valOfF n e).length ≤ 1 := by unfold valOfF; cases (e.Name == n) <;> simp
    rw [List.length_cons]; omega
theorem valsF_lens (n : List UInt8) : ∀ l : List IField, Lib.lens (valsF l n) ≤ (l.map fun e => e.Value.length).sum
  | [] => by simp [valsF, Lib.lens]
  | e :: l => by
    have := valsF_lens n l
    unfold valsF at this ⊢
    rw [List.flatMap_cons]
    unfold valOfF at this ⊢
    cases (e.Name == n) with
    | true => simp only [cond_true, List.cons_append, List.nil_append, List.map_cons, List.sum_cons]; show e.Value.length + Lib.lens _ ≤ _; omega
    | false => simp only [cond_false, List.nil_append, List.map_cons, List.sum_cons]; omega
def getF (l : List IField) (n : List UInt8) : List UInt8 × Bool := (joinT (valsF l n), decide (((valsF l n).length : Int) > 0))
theorem getF_len (l : List IField) (n : List UInt8) : (getF l n).1.length ≤ 2 * fsz l := by
  have h1 := joinT_len (valsF l n)
  have h2 := valsF_len n l
  have h3 := valsF_lens n l
  unfold getF fsz; simp only; omega
theorem S_GetField_eq {k : Nat} (hk : 1073741824 ≤ k) (l : List IField) (n : List UInt8) (h : fsz l < 268435456) : S_GetField k l n = some (getF l n) := by
  have hl : l.length < 268435456 := by unfold fsz at h; omega
  have := fold_all (len := l.length) (g := fun j s => s ++ (l[j]?).elim [] (valOfF n)) (Inv := fun i s => s.length ≤ i) (F := fun m i s => S_GetField_b0 k m l n i s) (out := id) (fun m i s hi hI => by
    simp only [S_GetField_b0, bif_dec, lt_cast, hi, if_true, S_GetField_b1, idx_nat hi, Option.bind_some, S_GetField_c21, wrap_succ (by omega : i < 9223372036854775807), List.getElem?_eq_getElem hi, Option.elim_some, valOfF]
    cases (l[i].Name == n) with
    | true => rw [cond_true, cond_true, appn_ok (by simp; omega)]; exact ⟨rfl, by simp; omega⟩
    | false => rw [cond_false, cond_false, List.append_nil]; exact ⟨rfl, by omega⟩) (fun m i s hi => by
    simp only [S_GetField_b0, bif_dec, lt_cast]
    rw [if_neg (by omega)]; rfl) (k := k) (by omega) (s := []) (by simp)
  have h1 : S_GetField_b0 k k l n 0 [] = some (foldI (fun j s => s ++ (l[j]?).elim [] (valOfF n)) l.length 0 []) := this.1
  have h2 := valsF_len n l
  have h3 := valsF_lens n l
  have hv : foldI (fun j s => s ++ (l[j]?).elim [] (valOfF n)) l.length 0 [] = valsF l n := by
    rw [foldI_append (f := valOfF n) l.length 0 [] (by omega), List.drop_zero]; rfl
  rw [S_GetField, h1, hv, Option.bind_some, S_JoinList_eq hk _ (by unfold fsz at h; omega)]; rfl
theorem I_GetField_eq {k : Nat} (hk : 1073741824 ≤ k) (l : List IField) (n : List UInt8) (h : fsz l < 268435456) : I_GetField k l n = some (getF l n) := by
  have hl : l.length < 268435456 := by unfold fsz at h; omega
  have := fold_all (len := l.length) (g := fun j s => s ++ (l[j]?).elim [] (valOfF n)) (Inv := fun i s => s.length ≤ i) (F := fun m i s => I_GetField_b0 k m n l (l.length : Int) i s) (out := id) (fun m i s hi hI => by
    simp only [I_GetField_b0, bif_dec, lt_cast, hi, if_true, I_GetField_b1, idx_nat hi, Option.bind_some, I_GetField_c19, wrap_succ (by omega : i < 9223372036854775807), List.getElem?_eq_getElem hi, Option.elim_some, valOfF]
    cases (l[i].Name == n) with
    | true => rw [cond_true, cond_true, appn_ok (by simp; omega)]; exact ⟨rfl, by simp; omega⟩
    | false => rw [cond_false, cond_false, List.append_nil]; exact ⟨rfl, by omega⟩) (fun m i s hi => by
    simp only [I_GetField_b0, bif_dec, lt_cast]
    rw [if_neg (by omega)]; rfl) (k := k) (by omega) (s := []) (by simp)
  have h1 : I_GetField_b0 k k n l (l.length : Int) 0 [] = some (foldI (fun j s => s ++ (l[j]?).elim [] (valOfF n)) l.length 0 []) := this.1
  have h2 := valsF_len n l
  have h3 := valsF_lens n l
  have hv : foldI (fun j s => s ++ (l[j]?).elim [] (valOfF n)) l.length 0 [] = valsF l n := by
    rw [foldI_append (f := valOfF n) l.length 0 [] (by omega), List.drop_zero]; rfl
  rw [I_GetField, h1, hv, Option.bind_some, I_JoinList_eq _ (by unfold fsz at h; omega)]; rfl
/-! Selecting fields. -/
def selV (fs : List IField) (n : List UInt8) : List UInt8 := joinT (splitL (getF fs n).1)
theorem selV_len (fs : List IField) (n : List UInt8) : (selV fs n).length ≤ 6 * fsz fs + 2 := by
  have h1 := getF_len fs n
  have h2 := splitL_len (getF fs n).1
  have h3 := splitL_sum (getF fs n).1
  have h4 := joinT_len (splitL (getF fs n).1)
  unfold selV; omega
theorem selV_ok {fs : List IField} (n : List UInt8) (h : fsz fs < 67108864) : (getF fs n).1.length < 1073741000 ∧ 2 * (splitL (getF fs n).1).length + Lib.lens (splitL (getF fs n).1) < 1073741824 := by
  have h1 := getF_len fs n
  have h2 := splitL_len (getF fs n).1
  have h3 := splitL_sum (getF fs n).1
  omega
def selOf (fs : List IField) (ns : List (List UInt8)) : List IField := ns.map fun n => ⟨n, selV fs n⟩
theorem selFold (fs : List IField) (ns : List (List UInt8)) : foldI (fun j s => s ++ (ns[j]?).elim [] fun n => [(⟨n, selV fs n⟩ : IField)]) ns.length 0 [] = selOf fs ns := by
  rw [foldI_append (f := fun n => [(⟨n, selV fs n⟩ : IField)]) ns.length 0 [] (by omega), List.drop_zero, List.nil_append]
  unfold selOf
  induction ns with
  | nil => rfl
  | cons a l ih => rw [List.flatMap_cons, ih]; rfl
theorem I_SelectingOf_eq {k : Nat} (hk : 1073741824 ≤ k) (r : IRequest) (ns : List (List UInt8)) (h : fsz r.Fields < 67108864) (hn : ns.length < 1073741824) : I_SelectingOf k r ns = some (selOf r.Fields ns) := by
  have := fold_all (len := ns.length) (g := fun j s => s ++ (ns[j]?).elim [] fun n => [(⟨n, selV r.Fields n⟩ : IField)]) (Inv := fun i s => s.length ≤ i) (F := fun m i s => I_SelectingOf_b0 k m ns (ns.length : Int) i r.Method r.Host r.Target r.Fields s) (out := id) (fun m i s hi hI => by
    obtain ⟨s1, s2⟩ := selV_ok ns[i] h
    simp only [I_SelectingOf_b0, bif_dec, lt_cast, hi, if_true, idx_nat hi, Option.bind_some, wrap_succ (by omega : i < 9223372036854775807), List.getElem?_eq_getElem hi, Option.elim_some]
    rw [I_GetField_eq hk _ _ (by omega), Option.bind_some, I_SplitList_eq hk _ s1, Option.bind_some, I_JoinList_eq _ s2, Option.bind_some, appn_ok (by simp; omega)]
    exact ⟨rfl, by simp; omega⟩) (fun m i s hi => by
    simp only [I_SelectingOf_b0, bif_dec, lt_cast]
    rw [if_neg (by omega)]; rfl) (k := k) (by omega) (s := []) (by simp)
  have h1 : I_SelectingOf_b0 k k ns (ns.length : Int) 0 r.Method r.Host r.Target r.Fields [] = some (foldI (fun j s => s ++ (ns[j]?).elim [] fun n => [(⟨n, selV r.Fields n⟩ : IField)]) ns.length 0 []) := this.1
  rw [I_SelectingOf, h1, selFold]; rfl
/-! Tokens. -/
def mk15 : List UInt8 := [33, 35, 36, 37, 38, 39, 42, 43, 45, 46, 94, 95, 124, 126, 96]
def mk14 : List UInt8 := [33, 35, 36, 37, 38, 39, 42, 43, 45, 46, 94, 95, 124, 126]
def letB (c : UInt8) : Bool := (decide (97 ≤ c.toNat) && decide (c.toNat ≤ 122)) || (decide (65 ≤ c.toNat) && decide (c.toNat ≤ 90)) || (decide (48 ≤ c.toNat) && decide (c.toNat ≤ 57))
def mkP (c : UInt8) (i : Nat) : Bool := match mk15[i]? with | some m => c == m | none => false
def tokB (c : UInt8) : Bool := (firstI (mkP c) 15 0).isSome || letB c
theorem S_l4Letter_eq {k : Nat} (c : UInt8) : S_l4Letter k (c.toNat : Int) = some (letB c) := by
  have hb := UInt8.toNat_lt c
  rw [S_l4Letter, wrap_id (by omega) (by omega)]
  simp only [S_l1In, bif_dec, letB]
  by_cases a1 : 97 ≤ c.toNat <;> by_cases a2 : c.toNat ≤ 122 <;> by_cases a3 : 65 ≤ c.toNat <;> by_cases a4 : c.toNat ≤ 90 <;> by_cases a5 : 48 ≤ c.toNat <;> by_cases a6 : c.toNat ≤ 57 <;>
    simp [a1, a2, a3, a4, a5, a6, show ((c.toNat : Int) ≥ 97) = (97 ≤ c.toNat) from by simp; omega, show ((c.toNat : Int) ≤ 122) = (c.toNat ≤ 122) from by simp; omega, show ((c.toNat : Int) ≥ 65) = (65 ≤ c.toNat) from by simp; omega, show ((c.toNat : Int) ≤ 90) = (c.toNat ≤ 90) from by simp; omega, show ((c.toNat : Int) ≥ 48) = (48 ≤ c.toNat) from by simp; omega, show ((c.toNat : Int) ≤ 57) = (c.toNat ≤ 57) from by simp; omega]
theorem S_l4Token_eq {k : Nat} (hk : 1073741824 ≤ k) (c : UInt8) : S_l4Token k (c.toNat : Int) = some (tokB c) := by
  have := find_all (len := 15) (c := fun i => bif mkP c i then some true else none) (F := fun n i => S_l4Token_b0 k n (c.toNat : Int) i) (fun n i hi => by
    have hl : i < mk15.length := hi
    have e : idx ([33, 35, 36, 37, 38, 39, 42, 43, 45, 46, 94, 95, 124, 126, 96] : List UInt8) (i : Int) = some mk15[i] := idx_nat hl
    have e2 : decide ((i : Int) < 15) = true := decide_eq_true (by omega)
    simp only [S_l4Token_b0, e2, cond_true, e, Option.bind_some, u8_eq, wrap_succ (by omega : i < 9223372036854775807), mkP, List.getElem?_eq_getElem hl]
    cases (c == mk15[i]) <;> rfl) (fun n i hi => by
    have e2 : decide ((i : Int) < 15) = false := decide_eq_false (by omega)
    simp only [S_l4Token_b0, e2, cond_false]) (k := k) (by omega)
  rw [S_l4Token, this, findI_first]
  unfold tokB
  cases firstI (mkP c) 15 0 with
  | none => simp [ocOf, oc, S_l4Letter_eq]
  | some j => simp [ocOf, oc]
theorem tok_tab : ∀ j : Fin 256, tokB (UInt8.ofNat j.val) = (letB (UInt8.ofNat j.val) || decide (Lib.indexByte mk14 (UInt8.ofNat j.val) ≥ 0) || (UInt8.ofNat j.val == 96)) := by decide +kernel
theorem tok_eq (c : UInt8) : tokB c = (letB c || decide (Lib.indexByte mk14 c ≥ 0) || (c == 96)) := by
  have := tok_tab ⟨c.toNat, UInt8.toNat_lt c⟩
  simpa using this
theorem I_isTokenByte_eq {k : Nat} (c : UInt8) : I_isTokenByte k (c.toNat : Int) = some (tokB c) := by
  have hb := UInt8.toNat_lt c
  have hi : strings_IndexByte k [33, 35, 36, 37, 38, 39, 42, 43, 45, 46, 94, 95, 124, 126] (c.toNat : Int) = some (Lib.indexByte mk14 c) := by
    rw [strings_IndexByte, indexByteO, Int.toNat_natCast]; simp [mk14]
  have h96 : ((c.toNat : Int) == 96) = (c == 96) := u8_eq c 96
  rw [I_isTokenByte, hi, h96, tok_eq]
  simp only [Option.bind_some, bif_dec, letB]
  by_cases a1 : 97 ≤ c.toNat <;> by_cases a2 : c.toNat ≤ 122 <;> by_cases a3 : 65 ≤ c.toNat <;> by_cases a4 : c.toNat ≤ 90 <;> by_cases a5 : 48 ≤ c.toNat <;> by_cases a6 : c.toNat ≤ 57 <;> by_cases a7 : Lib.indexByte mk14 c ≥ 0 <;>
    simp [a1, a2, a3, a4, a5, a6, a7, show ((c.toNat : Int) ≥ 97) = (97 ≤ c.toNat) from by simp; omega, show ((c.toNat : Int) ≤ 122) = (c.toNat ≤ 122) from by simp; omega, show ((c.toNat : Int) ≥ 65) = (65 ≤ c.toNat) from by simp; omega, show ((c.toNat : Int) ≤ 90) = (c.toNat ≤ 90) from by simp; omega, show ((c.toNat : Int) ≥ 48) = (48 ≤ c.toNat) from by simp; omega, show ((c.toNat : Int) ≤ 57) = (c.toNat ≤ 57) from by simp; omega]
def ntP (x : List UInt8) (i : Nat) : Bool := match x[i]? with | some c => !tokB c | none => false
def inR (n a b : Int) : Bool := decide (a ≤ n) && decide (n ≤ b)
theorem S_l1In_eq {k : Nat} (n a b : Int) : S_l1In k n a b = some (inR n a b) := by
  rw [S_l1In, bif_dec, inR]
  by_cases h : a ≤ n <;> simp [h]
theorem I_inRange_eq {k : Nat} (n a b : Int) : I_inRange k n a b = some (inR n a b) := by
  rw [I_inRange, bif_dec, inR]
  by_cases h : a ≤ n <;> simp [h]
def isTok (x : List UInt8) : Bool := (firstI (ntP x) x.length 0).isNone && inR (x.length : Int) 1 40
theorem S_IsToken_eq {k : Nat} (hk : 1073741824 ≤ k) (x : List UInt8) (h : x.length < 1073741824) : S_IsToken k x = some (isTok x) := by
  have := find_all (len := x.length) (c := fun i => bif ntP x i then some false else none) (F := fun n i => S_IsToken_b0 k n x i) (fun n i hi => by
    simp only [S_IsToken_b0, idx_nat hi, Option.bind_some, wrap_succ (by omega : i < 9223372036854775807), bif_dec, lt_cast, hi, if_true, ntP, List.getElem?_eq_getElem hi, S_l4Token_eq hk]
    cases tokB x[i] <;> rfl) (fun n i hi => by
    simp only [S_IsToken_b0, bif_dec, lt_cast]
    rw [if_neg (by omega)]) (k := k) (by omega)
  rw [S_IsToken, this, findI_first]
  unfold isTok
  cases firstI (ntP x) x.length 0 <;> simp [ocOf, oc, S_l1In_eq]
theorem I_IsToken_eq {k : Nat} (hk : 1073741824 ≤ k) (x : List UInt8) (h : x.length < 1073741824) : I_IsToken k x = some (isTok x) := by
  have := find_all (len := x.length) (c := fun i => bif ntP x i then some false else none) (F := fun n i => I_IsToken_b0 k n x (x.length : Int) i) (fun n i hi => by
    simp only [I_IsToken_b0, idx_nat hi, Option.bind_some, wrap_succ (by omega : i < 9223372036854775807), bif_dec, lt_cast, hi, if_true, ntP, List.getElem?_eq_getElem hi, I_isTokenByte_eq]
    cases tokB x[i] <;> rfl) (fun n i hi => by
    simp only [I_IsToken_b0, bif_dec, lt_cast]
    rw [if_neg (by omega)]) (k := k) (by omega)
  rw [I_IsToken, this, findI_first]
  unfold isTok
  cases firstI (ntP x) x.length 0 <;> simp [ocOf, oc, I_inRange_eq]
def auth : List UInt8 := [97, 117, 116, 104, 111, 114, 105, 122, 97, 116, 105, 111, 110]
def visitor (fs : List IField) : List UInt8 := bif !isTok (selV fs auth) then [] else bif decide (((selV fs auth).length : Int) > 20) then [] else selV fs auth
theorem S_VisitorOf_eq {k : Nat} (hk : 1073741824 ≤ k) (r : IRequest) (h : fsz r.Fields < 67108864) : S_VisitorOf k r = some (visitor r.Fields) := by
  obtain ⟨s1, s2⟩ := selV_ok auth h
  have hl := selV_len r.Fields auth
  rw [S_VisitorOf, S_l5Get, S_GetField_eq hk _ _ (by omega), Option.bind_some, Option.bind_some]
  show ((S_SplitList k (getF r.Fields auth).1).bind _) = _
  rw [S_SplitList_eq hk _ s1, Option.bind_some, S_JoinList_eq hk _ s2, Option.bind_some]
  show ((S_IsToken k (selV r.Fields auth)).bind fun w4 => bif !w4 then some [] else bif decide (((selV r.Fields auth).length : Int) > 20) then some [] else some (selV r.Fields auth)) = _
  rw [S_IsToken_eq hk _ (by omega), Option.bind_some]
  unfold visitor
  cases isTok (selV r.Fields auth) <;> cases decide (((selV r.Fields auth).length : Int) > 20) <;> rfl
theorem I_VisitorOf_eq {k : Nat} (hk : 1073741824 ≤ k) (r : IRequest) (h : fsz r.Fields < 67108864) : I_VisitorOf k r = some (visitor r.Fields) := by
  have hl := selV_len r.Fields auth
  have e : idx (selOf r.Fields [auth]) (0 : Int) = some ⟨auth, selV r.Fields auth⟩ := rfl
  rw [I_VisitorOf]
  show ((I_SelectingOf k r [auth]).bind _) = _
  rw [I_SelectingOf_eq hk r [auth] h (by simp)]
  simp only [Option.bind_some, e]
  rw [I_IsToken_eq hk _ (by omega), Option.bind_some]
  unfold visitor
  cases isTok (selV r.Fields auth) <;> cases decide (((selV r.Fields auth).length : Int) > 20) <;> rfl
/-! Text split at a byte. -/
def cutP (b : UInt8) : List UInt8 → List UInt8 → List (List UInt8)
  | [], cur => [cur]
  | c :: r, cur => bif c == b then cur :: cutP b r [] else cutP b r (cur ++ [c])
theorem cutP_mem (b : UInt8) : ∀ (l cur p : List UInt8), p ∈ cutP b l cur → p.length ≤ cur.length + l.length
  | [], cur, p, h => by
    have : p = cur := by simpa [cutP] using h
    rw [this]; omega
  | c :: r, cur, p, h => by
    rw [cutP] at h
    cases h3 : (c == b) with
    | true =>
      rw [h3, cond_true] at h
      rcases List.mem_cons.1 h with rfl | h
      · omega
      · have := cutP_mem b r [] p h
        simp at this ⊢; omega
    | false =>
      rw [h3, cond_false] at h
      have := cutP_mem b r (cur ++ [c]) p h
      simp at this ⊢; omega
theorem cutP_len (b : UInt8) : ∀ (l cur : List UInt8), (cutP b l cur).length ≤ l.length + 1
  | [], cur => by simp [cutP]
  | c :: r, cur => by
    rw [cutP]
    have h1 := cutP_len b r []
    have h2 := cutP_len b r (cur ++ [c])
    cases (c == b) with
    | true => rw [cond_true]; simp; omega
    | false => rw [cond_false]; simp; omega
theorem cutP_pos (b : UInt8) : ∀ (l cur : List UInt8), 0 < (cutP b l cur).length
  | [], cur => by simp [cutP]
  | c :: r, cur => by
    rw [cutP]
    have h2 := cutP_pos b r (cur ++ [c])
    cases (c == b) with
    | true => rw [cond_true]; simp
    | false => rw [cond_false]; exact h2
theorem S_l12Split_loop {k : Nat} {x : List UInt8} {b : UInt8} (hx : x.length < 1073741824) : ∀ (n i f : Nat) (r : List (List UInt8)), f ≤ i → i ≤ x.length → x.length < i + n → r.length ≤ i →
    ∃ (f' : Nat) (r' : List (List UInt8)), S_l12Split_b0 k n x (b.toNat : Int) (f : Int) (i : Int) r = some ((f' : Int), r') ∧ f' ≤ x.length ∧ r'.length ≤ x.length ∧ r' ++ [x.drop f'] = r ++ cutP b (x.drop i) (sub x f i) := by
  intro n
  induction n with
  | zero => intro i f r _ h h2; omega
  | succ n ih =>
    intro i f r hf hi hn hr
    rw [S_l12Split_b0, bif_dec]
    by_cases c : i < x.length
    · have ub := u8_eq x[i] b
      rw [if_pos (by omega), List.drop_eq_getElem_cons c, cutP]
      simp only [S_l12Split_b1, idx_nat c, Option.bind_some, S_l12Split_c19, ub]
      cases h3 : (x[i] == b) with
      | true =>
        simp only [cond_true]
        rw [ssub_sub hf (by omega), Option.bind_some, appn_ok (by simp; omega)]
        simp only [Option.bind_some]
        rw [wrap_succ (by omega)]
        obtain ⟨f', r', e1, e2, e3, e4⟩ := ih (i + 1) (i + 1) (r ++ [sub x f i]) (by omega) (by omega) (by omega) (by simp; omega)
        rw [sub_self] at e4
        exact ⟨f', r', e1, e2, e3, by rw [e4]; simp⟩
      | false =>
        simp only [cond_false, Option.bind_some]
        rw [wrap_succ (by omega), ← sub_succ hf c]
        exact ih (i + 1) f r (by omega) (by omega) (by omega) (by omega)
    · rw [if_neg (by omega), List.drop_of_length_le (by omega), cutP, sub_end (by omega)]
      exact ⟨f, r, rfl, by omega, by omega, rfl⟩
theorem S_l12Split_eq {k : Nat} (hk : 1073741824 ≤ k) (x : List UInt8) (b : UInt8) (h : x.length < 1073741000) : S_l12Split k x (b.toNat : Int) = some (cutP b x []) := by
  obtain ⟨f', r', e1, e2, e3, e4⟩ := S_l12Split_loop (k := k) (b := b) (show x.length < 1073741824 by omega) k 0 0 [] (by omega) (by omega) (by omega) (by simp)
  rw [show ((0 : Nat) : Int) = 0 from rfl] at e1
  rw [S_l12Split, e1, Option.bind_some]
  simp only
  rw [ssub_drop e2, Option.bind_some, appn_ok (by simp; omega), e4]
  simp [sub]
theorem index_cons (b c : UInt8) (r : List UInt8) : Lib.index (c :: r) [b] = if c == b then 0 else if Lib.index r [b] == -1 then -1 else Lib.index r [b] + 1 := by
  rw [Lib.index_one, Lib.index_one, Lib.indexByte]
theorem count_first (b c : UInt8) (r : List UInt8) (h : (c == b) = true) : Lib.count (c :: r) [b] = 1 + Lib.count r [b] := by
  have := Lib.count_hit (s := c :: r) (sub := [b]) (i := 0) (by simp) (by rw [index_cons, if_pos h]; rfl)
  simpa using this
theorem split_cons (b c : UInt8) (r : List UInt8) : Lib.split (c :: r) [b] = bif c == b then [] :: Lib.split r [b] else match Lib.split r [b] with | [] => [[c]] | p :: ps => (c :: p) :: ps := by
  cases h : (c == b) with
  | true =>
    unfold Lib.split
    rw [count_first b c r h, Nat.add_comm, Lib.splitK, index_cons, if_pos h]
    simp
  | false =>
    rw [cond_false]
    have hn : ¬ (c == b) = true := by rw [h]; exact Bool.false_ne_true
    have hi := index_cons b c r
    rw [if_neg hn] at hi
    rcases Lib.index_spec r [b] with ⟨h1, _⟩ | ⟨i, h1, _, _, _⟩
    · rw [h1] at hi
      unfold Lib.split
      rw [Lib.count_miss h1, Lib.count_miss (s := c :: r) (by rw [hi]; rfl), Lib.splitK, Lib.splitK]
    · have hm : ¬ ((i : Int) == -1) = true := fun e => by have := beq_iff_eq.1 e; omega
      rw [h1, if_neg hm] at hi
      have c1 := Lib.count_hit (s := r) (sub := [b]) (i := i) (by simp) h1
      have c2 := Lib.count_hit (s := c :: r) (sub := [b]) (i := i + 1) (by simp) (by rw [hi]; rfl)
      have hm2 : ¬ ((i : Int) + 1 == -1) = true := fun e => by have := beq_iff_eq.1 e; omega
      unfold Lib.split
      rw [c1, c2, Nat.add_comm 1, Nat.add_comm 1, Lib.splitK, Lib.splitK, h1, hi, if_neg hm, if_neg hm2]
      rw [show ((i : Int) + 1).toNat = i + 1 by omega, show ((i : Int)).toNat = i by omega]
      simp [List.take_succ_cons, Nat.add_right_comm]
theorem split_ne (b : UInt8) (s : List UInt8) : Lib.split s [b] ≠ [] := by
  unfold Lib.split
  cases Lib.count s [b] with
  | zero => simp [Lib.splitK]
  | succ n => rw [Lib.splitK]; split <;> simp
theorem cutP_split (b : UInt8) : ∀ (s cur : List UInt8), cutP b s cur = match Lib.split s [b] with | [] => [] | p :: ps => (cur ++ p) :: ps
  | [], cur => by
    have : Lib.split [] [b] = [[]] := by
      unfold Lib.split
      rw [Lib.count_miss (by rw [Lib.index_one]; rfl)]; rfl
    rw [this]; simp [cutP]
  | c :: r, cur => by
    have h1 := cutP_split b r []
    have h2 := cutP_split b r (cur ++ [c])
    have hne := split_ne b r
    rw [cutP, split_cons, h1, h2]
    cases hs : Lib.split r [b] with
    | nil => exact absurd hs hne
    | cons p ps =>
      cases (c == b) with
      | true => simp
      | false => simp
theorem split_cutP (b : UInt8) (s : List UInt8) : Lib.split s [b] = cutP b s [] := by
  rw [cutP_split]
  cases hs : Lib.split s [b] with
  | nil => exact absurd hs (split_ne b s)
  | cons p ps => simp
theorem strings_Split_eq {k : Nat} (x : List UInt8) (b : UInt8) (h : x.length < 1073741824) : strings_Split k x [b] = some (cutP b x []) := by
  have hd : (decide (x.length < 4294967281) && decide (1 ≤ [b].length)) = true := by rw [Bool.and_eq_true]; exact ⟨decide_eq_true (by omega), by simp⟩
  rw [strings_Split, splitO, hd, cond_true, ← split_cutP]; rfl
/-! A pair at a sign of equality. -/
def pairT (s : List UInt8) : List UInt8 × List UInt8 × Bool := match firstI (byteP s 61) s.length 0 with | some i => (trimT (s.take i), trimT (s.drop (i + 1)), true) | none => (trimT s, [], false)
theorem S_SplitPair_eq {k : Nat} (hk : 1073741824 ≤ k) (s : List UInt8) (h : s.length < 1073741824) : S_SplitPair k s = some (pairT s) := by
  have := find_all (len := s.length) (c := fun i => bif byteP s 61 i then some (trimT (s.take i), trimT (s.drop (i + 1)), true) else none) (F := fun n i => S_SplitPair_b0 k n s i) (fun n i hi => by
    have e : ((UInt8.toNat s[i] : Int) == 61) = (s[i] == 61) := u8_eq s[i] 61
    simp only [S_SplitPair_b0, idx_nat hi, Option.bind_some, wrap_succ (by omega : i < 9223372036854775807), bif_dec, lt_cast, hi, if_true, byteP_at hi, e]
    cases (s[i] == 61) with
    | true => rw [cond_true, cond_true, ssub_take (by omega), Option.bind_some, S_TrimText_eq hk _ (by simp; omega), Option.bind_some, ssub_drop (by omega), Option.bind_some, S_TrimText_eq hk _ (by simp; omega)]; rfl
    | false => rfl) (fun n i hi => by
    simp only [S_SplitPair_b0, bif_dec, lt_cast]
    rw [if_neg (by omega)]) (k := k) (by omega)
  rw [S_SplitPair, this, findI_first, S_TrimText_eq hk s h]
  unfold pairT
  cases firstI (byteP s 61) s.length 0 <;> rfl
theorem I_SplitPair_eq {k : Nat} (s : List UInt8) (h : s.length < 1073741824) : I_SplitPair k s = some (pairT s) := by
  have hd : decide (s.length < 4294967281) = true := by simp; omega
  rw [I_SplitPair, strings_Cut, cutO, hd, cond_true, Option.bind_some, cut_byte]
  unfold pairT
  cases firstI (byteP s 61) s.length 0 with
  | none => simp only; rw [I_TrimText_eq s h, Option.bind_some, I_TrimText_eq [] (by simp)]; rfl
  | some i => simp only; rw [I_TrimText_eq _ (by simp; omega), Option.bind_some, I_TrimText_eq _ (by simp; omega)]; rfl
theorem pairT_len (s : List UInt8) : (pairT s).1.length ≤ s.length ∧ (pairT s).2.1.length ≤ s.length := by
  unfold pairT
  cases firstI (byteP s 61) s.length 0 with
  | none => have := trimT_len s; simp only [List.length_nil]; omega
  | some i =>
    have h1 := trimT_len (s.take i)
    have h2 := trimT_len (s.drop (i + 1))
    simp at h1 h2 ⊢; omega
/-! Text in small letters. -/
def lowB (c : UInt8) : UInt8 := bif decide (65 ≤ c.toNat) && decide (c.toNat ≤ 90) then c + 32 else c
def lowT (s : List UInt8) : List UInt8 := s.map lowB
theorem lowB_add : ∀ j : Fin 256, (65 ≤ j.val ∧ j.val ≤ 90) → IntKind.wrap .u8 ((j.val : Int) + 32) = (((UInt8.ofNat j.val) + 32).toNat : Int) := by decide +kernel
theorem low_wrap (c : UInt8) (h : 65 ≤ c.toNat ∧ c.toNat ≤ 90) : IntKind.wrap .u8 ((c.toNat : Int) + 32) = ((c + 32).toNat : Int) := by
  have := lowB_add ⟨c.toNat, UInt8.toNat_lt c⟩ h
  simpa using this
theorem bytes_ints (s : List UInt8) : bytesOf (intsOf s) = s := by
  unfold bytesOf intsOf
  rw [List.map_map]
  conv => rhs; rw [← List.map_id s]
  refine List.map_congr_left fun c _ => ?_
  simp
theorem ints_len (s : List UInt8) : (intsOf s).length = s.length := by unfold intsOf; simp
theorem ints_idx {s : List UInt8} {i : Nat} (h : i < s.length) : idx (intsOf s) (i : Int) = some (s[i].toNat : Int) := by
  rw [idx_nat (by rw [ints_len]; exact h)]; simp [intsOf]
theorem ints_set (s : List UInt8) (i : Nat) (c : UInt8) : (intsOf s).set i (c.toNat : Int) = intsOf (s.set i c) := by
  unfold intsOf; rw [List.map_set]
theorem low_loop {L : Nat} {F : Nat → Int → List Int → Option (List Int)} (T : ∀ n (i : Nat) (s : List UInt8) (h : i < s.length), s.length = L → F (n + 1) (i : Int) (intsOf s) = F n ((i + 1 : Nat) : Int) (intsOf (s.set i (lowB s[i]))))
    (E : ∀ n (i : Nat) (s : List UInt8), s.length ≤ i → s.length = L → F (n + 1) (i : Int) (intsOf s) = some (intsOf s)) : ∀ (n i : Nat) (s : List UInt8), i ≤ s.length → s.length - i < n → s.length = L → F n (i : Int) (intsOf s) = some (intsOf (s.take i ++ (s.drop i).map lowB)) := by
  intro n
  induction n with
  | zero => intro i s _ h; omega
  | succ n ih =>
    intro i s hi hn hs
    by_cases h : i < s.length
    · rw [T n i s h hs, ih (i + 1) _ (by simp; omega) (by simp; omega) (by simpa using hs)]
      congr 2
      rw [List.drop_eq_getElem_cons h, List.map_cons]
      have e1 : (s.set i (lowB s[i])).take (i + 1) = s.take i ++ [lowB s[i]] := by
        apply List.ext_getElem?
        intro j
        by_cases hj : j < i
        · rw [List.getElem?_take, if_pos (by omega), List.getElem?_set_ne (by omega), List.getElem?_append_left (by simp; omega), List.getElem?_take, if_pos hj]
        · by_cases hj2 : j = i
          · subst hj2
            rw [List.getElem?_take, if_pos (by omega), List.getElem?_set_self h, List.getElem?_append_right (by simp; omega)]
            simp [Nat.min_eq_left (Nat.le_of_lt h)]
          · rw [List.getElem?_take, if_neg (by omega), List.getElem?_eq_none (by simp; omega)]
      have e2 : (s.set i (lowB s[i])).drop (i + 1) = s.drop (i + 1) := by
        apply List.ext_getElem?
        intro j
        rw [List.getElem?_drop, List.getElem?_drop, List.getElem?_set_ne (by omega)]
      rw [e1, e2, List.append_assoc]; rfl
    · rw [E n i s (by omega) hs, List.drop_of_length_le (by omega), List.take_of_length_le (by omega)]; simp
theorem S_LowerText_eq {k : Nat} (hk : 1073741824 ≤ k) (s : List UInt8) (h : s.length < 1073741824) : S_LowerText k s = some (lowT s) := by
  have := low_loop (L := s.length) (F := fun n i r => S_LowerText_b0 k n i r) (fun n i s hi hs => by
    have hb := UInt8.toNat_lt s[i]
    have hlen : ((i : Int) < ((intsOf s).length : Int)) := by rw [ints_len]; omega
    simp only [S_LowerText_b0, bif_dec, hlen, if_true, S_LowerText_b1, ints_idx hi, Option.bind_some, wrap_succ (by omega : i < 9223372036854775807)]
    rw [wrap_id (by omega) (by omega), S_l1In]
    by_cases c1 : 65 ≤ s[i].toNat
    · by_cases c2 : s[i].toNat ≤ 90
      · have e1 : decide ((s[i].toNat : Int) ≥ 65) = true := decide_eq_true (by omega)
        have e2 : decide ((s[i].toNat : Int) ≤ 90) = true := decide_eq_true (by omega)
        have e3 : lowB s[i] = s[i] + 32 := by unfold lowB; rw [decide_eq_true c1, decide_eq_true c2]; rfl
        simp only [e1, e2, S_LowerText_c18, cond_true, Option.bind_some, ints_idx hi, low_wrap _ ⟨c1, c2⟩, Int.toNat_natCast, ints_set, e3]
      · have e1 : decide ((s[i].toNat : Int) ≥ 65) = true := decide_eq_true (by omega)
        have e2 : decide ((s[i].toNat : Int) ≤ 90) = false := decide_eq_false (by omega)
        have e3 : lowB s[i] = s[i] := by unfold lowB; rw [decide_eq_false c2]; simp
        simp only [e1, e2, cond_true, cond_false, Option.bind_some, S_LowerText_c18, e3, List.set_getElem_self]
    · have e1 : decide ((s[i].toNat : Int) ≥ 65) = false := decide_eq_false (by omega)
      have e3 : lowB s[i] = s[i] := by unfold lowB; rw [decide_eq_false c1]; simp
      simp only [e1, cond_false, Option.bind_some, S_LowerText_c18, e3, List.set_getElem_self]) (fun n i s hi _ => by
    have hlen : ¬ ((i : Int) < ((intsOf s).length : Int)) := by rw [ints_len]; omega
    simp only [S_LowerText_b0, bif_dec, hlen, if_false]) k 0 s (by omega) (by omega) rfl
  have h1 : S_LowerText_b0 k k 0 (intsOf s) = some (intsOf (s.take 0 ++ (s.drop 0).map lowB)) := this
  rw [S_LowerText, h1, Option.bind_some, bytes_ints]; simp [lowT]
theorem I_LowerText_eq {k : Nat} (hk : 1073741824 ≤ k) (s : List UInt8) (h : s.length < 1073741824) : I_LowerText k s = some (lowT s) := by
  have := low_loop (L := s.length) (F := fun n i r => I_LowerText_b0 k n (s.length : Int) i r) (fun n i t hi hs => by
    have hb := UInt8.toNat_lt t[i]
    have hlen : ((i : Int) < (s.length : Int)) := by omega
    simp only [I_LowerText_b0, bif_dec, hlen, if_true, I_LowerText_b1, ints_idx hi, Option.bind_some, wrap_succ (by omega : i < 9223372036854775807)]
    by_cases c1 : 65 ≤ t[i].toNat
    · by_cases c2 : t[i].toNat ≤ 90
      · have e1 : ((t[i].toNat : Int) ≥ 65) := by omega
        have e2 : decide ((t[i].toNat : Int) ≤ 90) = true := decide_eq_true (by omega)
        have e3 : lowB t[i] = t[i] + 32 := by unfold lowB; rw [decide_eq_true c1, decide_eq_true c2]; rfl
        simp only [e1, e2, if_true, I_LowerText_c20, cond_true, Option.bind_some, ints_idx hi, low_wrap _ ⟨c1, c2⟩, Int.toNat_natCast, ints_set, e3]
      · have e1 : ((t[i].toNat : Int) ≥ 65) := by omega
        have e2 : decide ((t[i].toNat : Int) ≤ 90) = false := decide_eq_false (by omega)
        have e3 : lowB t[i] = t[i] := by unfold lowB; rw [decide_eq_false c2]; simp
        simp only [e1, e2, if_true, I_LowerText_c20, cond_false, Option.bind_some, e3, List.set_getElem_self]
    · have e1 : ¬ ((t[i].toNat : Int) ≥ 65) := by omega
      have e3 : lowB t[i] = t[i] := by unfold lowB; rw [decide_eq_false c1]; simp
      simp only [e1, if_false, I_LowerText_c20, cond_false, Option.bind_some, e3, List.set_getElem_self]) (fun n i t hi ht => by
    have hlen : ¬ ((i : Int) < (s.length : Int)) := by omega
    simp only [I_LowerText_b0, bif_dec, hlen, if_false]) k 0 s (by omega) (by omega) rfl
  have h1 : I_LowerText_b0 k k (s.length : Int) 0 (intsOf s) = some (intsOf (s.take 0 ++ (s.drop 0).map lowB)) := this
  rw [I_LowerText, ints_len, h1, Option.bind_some, bytes_ints]; simp [lowT]
theorem lowT_len (s : List UInt8) : (lowT s).length = s.length := by unfold lowT; simp
theorem lowB_star : ∀ j : Fin 256, (lowB (UInt8.ofNat j.val) = 42) → UInt8.ofNat j.val = 42 := by decide +kernel
theorem lowT_star (s : List UInt8) : (lowT s == [42]) = (s == [42]) := by
  by_cases h : s = [42]
  · subst h; rfl
  · have h2 : ¬ lowT s = [42] := fun e => by
      cases s with
      | nil => cases e
      | cons c l =>
        cases l with
        | cons d l => simp [lowT] at e
        | nil =>
          simp [lowT] at e
          have := lowB_star ⟨c.toNat, UInt8.toNat_lt c⟩ (by simpa using e)
          simp at this
          exact h (by rw [this])
    rw [beq_eq_false_iff_ne.2 h2, beq_eq_false_iff_ne.2 h]
/-! Weights. -/
def dig : List UInt8 → Int → Int → Option Int
  | [], q, _ => some q
  | d :: r, q, sc => bif inR (d.toNat : Int) 48 57 then dig r (q + sc * ((d.toNat : Int) - 48)) (sc.tdiv 10) else none
def fin1 (o : Option Int) : Option Int := o.bind fun q => bif decide (q > 1000) then none else some q
def wtT : List UInt8 → Option Int
  | [] => none
  | c :: r => bif c == 48 || c == 49 then (match r with
    | [] => fin1 (some (1000 * ((c.toNat : Int) - 48)))
    | p :: ds => bif p == 46 && decide (ds.length ≤ 3) then fin1 (dig ds (1000 * ((c.toNat : Int) - 48)) 100) else none) else none
theorem wrap_dig8 : ∀ j : Fin 256, (48 ≤ j.val ∧ j.val ≤ 57) → IntKind.wrap .u8 ((j.val : Int) - 48) = (j.val : Int) - 48 := by decide +kernel
theorem wrap_dig (c : UInt8) (h : 48 ≤ c.toNat ∧ c.toNat ≤ 57) : IntKind.wrap .u8 ((c.toNat : Int) - 48) = (c.toNat : Int) - 48 := wrap_dig8 ⟨c.toNat, UInt8.toNat_lt c⟩ h
theorem inR_iff {n a b : Int} : inR n a b = true ↔ a ≤ n ∧ n ≤ b := by unfold inR; simp
theorem prod_in {sc d : Int} (h1 : 0 ≤ sc) (h2 : sc ≤ 100) (h3 : 0 ≤ d) (h4 : d ≤ 9) : 0 ≤ sc * d ∧ sc * d ≤ 900 :=
  ⟨Int.mul_nonneg h1 h3, by have := Int.mul_le_mul h2 h4 h3 (by omega : (0 : Int) ≤ 100); omega⟩
theorem tdiv_in {sc : Int} (h1 : 0 ≤ sc) (h2 : sc ≤ 100) : 0 ≤ sc.tdiv 10 ∧ sc.tdiv 10 ≤ 100 := by
  rw [Int.tdiv_eq_ediv_of_nonneg h1]; omega
theorem dig_nonneg : ∀ (l : List UInt8) (q sc r : Int), 0 ≤ q → 0 ≤ sc → sc ≤ 100 → dig l q sc = some r → 0 ≤ r
  | [], q, sc, r, hq, _, _, h => by
    have : q = r := by simpa [dig] using h
    omega
  | d :: l, q, sc, r, hq, h1, h2, h => by
    rw [dig] at h
    cases hi : inR (d.toNat : Int) 48 57 with
    | false => rw [hi] at h; cases h
    | true =>
      rw [hi, cond_true] at h
      obtain ⟨i1, i2⟩ := inR_iff.1 hi
      have p := prod_in h1 h2 (show 0 ≤ (d.toNat : Int) - 48 by omega) (by omega)
      have t := tdiv_in h1 h2
      exact dig_nonneg l _ _ r (by omega) t.1 t.2 h
theorem S_w_loop {k : Nat} {x : List UInt8} (hx : x.length ≤ 1000) : ∀ (n i : Nat) (q sc : Int), x.length - i < n → i ≤ 5000 → 0 ≤ q → q + 900 * ((x.length - i : Nat) : Int) ≤ 10000000 → 0 ≤ sc → sc ≤ 100 →
    S_l13Weight_b0 k n x q sc (i : Int) = some (match dig (x.drop i) q sc with | some r => .nrm r | none => .oth (-1)) := by
  intro n
  induction n with
  | zero => intro i q sc h; omega
  | succ n ih =>
    intro i q sc hn hi hq hb h1 h2
    rw [S_l13Weight_b0, bif_dec]
    by_cases c : i < x.length
    · have hb := UInt8.toNat_lt x[i]
      rw [if_pos (by omega), idx_nat c, Option.bind_some, wrap_id (by omega) (by omega), S_l1In_eq, Option.bind_some, List.drop_eq_getElem_cons c, dig]
      cases hr : inR (x[i].toNat : Int) 48 57 with
      | false => rfl
      | true =>
        obtain ⟨i1, i2⟩ := inR_iff.1 hr
        have p := prod_in h1 h2 (show 0 ≤ (x[i].toNat : Int) - 48 by omega) (by omega)
        have t := tdiv_in h1 h2
        have ed : dv sc 10 = some (sc.tdiv 10) := by simp [dv]
        rw [Bool.not_true, cond_false, cond_true, Option.bind_some, ed, Option.bind_some, wrap_dig _ (by omega), wrap_id (n := (x[i].toNat : Int) - 48) (by omega) (by omega)]
        generalize sc * ((x[i].toNat : Int) - 48) = pr at p
        rw [wrap_id (n := pr) (by omega) (by omega), wrap_id (n := q + pr) (by omega) (by omega), wrap_id (n := sc.tdiv 10) (by omega) (by omega), wrap_succ (by omega)]
        exact ih (i + 1) (q + pr) (sc.tdiv 10) (by omega) (by omega) (by omega) (by omega) t.1 t.2
    · rw [if_neg (by omega), List.drop_of_length_le (by omega), dig]
theorem I_w_loop {k : Nat} {x : List UInt8} (hx : x.length ≤ 1000) : ∀ (n i : Nat) (q sc : Int), x.length - i < n → i ≤ 5000 → 0 ≤ q → q + 900 * ((x.length - i : Nat) : Int) ≤ 10000000 → 0 ≤ sc → sc ≤ 100 →
    I_weightIn_b0 k n q sc (x.length : Int) (i : Int) (intsOf x) = some (match dig (x.drop i) q sc with | some r => .nrm r | none => .oth (0, false)) := by
  intro n
  induction n with
  | zero => intro i q sc h; omega
  | succ n ih =>
    intro i q sc hn hi hq hb h1 h2
    rw [I_weightIn_b0, bif_dec]
    by_cases c : i < x.length
    · have hb := UInt8.toNat_lt x[i]
      rw [if_pos (by omega), ints_idx c, Option.bind_some, Option.bind_some, List.drop_eq_getElem_cons c, dig, bif_dec, bif_dec]
      cases hr : inR (x[i].toNat : Int) 48 57 with
      | false =>
        have hno : ¬ (48 ≤ (x[i].toNat : Int) ∧ (x[i].toNat : Int) ≤ 57) := fun e => by rw [inR_iff.2 e] at hr; cases hr
        by_cases c1 : (x[i].toNat : Int) < 48
        · rw [if_pos c1]; rfl
        · rw [if_neg c1, if_pos (by omega)]; rfl
      | true =>
        obtain ⟨i1, i2⟩ := inR_iff.1 hr
        have p := prod_in h1 h2 (show 0 ≤ (x[i].toNat : Int) - 48 by omega) (by omega)
        have t := tdiv_in h1 h2
        have ed : dv sc 10 = some (sc.tdiv 10) := by simp [dv]
        rw [if_neg (by omega), if_neg (by omega), cond_true, ed, Option.bind_some, wrap_dig _ (by omega), wrap_id (n := (x[i].toNat : Int) - 48) (by omega) (by omega)]
        generalize sc * ((x[i].toNat : Int) - 48) = pr at p
        rw [wrap_id (n := pr) (by omega) (by omega), wrap_id (n := q + pr) (by omega) (by omega), wrap_id (n := sc.tdiv 10) (by omega) (by omega), wrap_succ (by omega)]
        exact ih (i + 1) (q + pr) (sc.tdiv 10) (by omega) (by omega) (by omega) (by omega) t.1 t.2
    · rw [if_neg (by omega), List.drop_of_length_le (by omega), dig]
theorem wtT_nonneg {v : List UInt8} {q : Int} (h : wtT v = some q) : 0 ≤ q := by
  have fin0 : ∀ {o : Option Int} {q : Int}, fin1 o = some q → o = some q := fun {o q} h => by
    unfold fin1 at h
    cases o with
    | none => cases h
    | some r =>
      rw [Option.bind_some] at h
      cases hd : decide (r > 1000) with
      | true => rw [hd] at h; cases h
      | false => rw [hd] at h; exact h
  cases v with
  | nil => cases h
  | cons c r =>
    unfold wtT at h
    simp only at h
    cases hc : (c == 48 || c == 49) with
    | false => rw [hc] at h; cases h
    | true =>
      have hc2 : 48 ≤ c.toNat := by
        rcases Bool.or_eq_true _ _ ▸ hc with e | e
        · have : c = 48 := by simpa using e
          subst this; decide
        · have : c = 49 := by simpa using e
          subst this; decide
      rw [hc, cond_true] at h
      cases r with
      | nil =>
        have := fin0 h
        have : 1000 * ((c.toNat : Int) - 48) = q := by simpa using this
        omega
      | cons p ds =>
        cases hp : (p == 46 && decide (ds.length ≤ 3)) with
        | false => simp only [hp, cond_false] at h; cases h
        | true =>
          simp only [hp, cond_true] at h
          exact dig_nonneg _ _ _ _ (by omega) (by omega) (by omega) (fin0 h)
theorem ocS {o : Option Int} : oc (match o with | some r => (Oc.nrm r : Oc Int Int) | none => .oth (-1)) (fun q => bif decide (q > 1000) then some (-1 : Int) else some q) (fun r => some r) = some ((fin1 o).getD (-1)) := by
  cases o with
  | none => rfl
  | some q =>
    show (bif decide (q > 1000) then some (-1 : Int) else some q) = some (((some q).bind fun q => bif decide (q > 1000) then none else some q).getD (-1))
    rw [Option.bind_some]
    cases decide (q > 1000) <;> rfl
theorem S_l13Weight_eq {k : Nat} (hk : 1073741824 ≤ k) (v : List UInt8) : S_l13Weight k v = some ((wtT v).getD (-1)) := by
  cases v with
  | nil => rfl
  | cons c r =>
    have e0 : (((c :: r).length : Int) == 0) = false := by rw [beq_eq_false_iff_ne]; simp; omega
    rw [S_l13Weight, e0, cond_false, bif_dec]
    by_cases h5 : ((c :: r).length : Int) > 5
    · rw [if_pos h5]
      have : wtT (c :: r) = none := by
        unfold wtT
        simp only
        cases r with
        | nil => simp at h5
        | cons p ds =>
          have : decide (ds.length ≤ 3) = false := by simp at h5 ⊢; omega
          simp only [this, Bool.and_false, cond_false]
          cases (c == 48 || c == 49) <;> rfl
      rw [this]; rfl
    · rw [if_neg h5]
      have i0 : idx (c :: r) (0 : Int) = some c := rfl
      have u48 : ((UInt8.toNat c : Int) != 48) = !(c == 48) := by unfold bne; rw [← u8_eq c 48]; rfl
      have u49 : ((UInt8.toNat c : Int) != 49) = !(c == 49) := by unfold bne; rw [← u8_eq c 49]; rfl
      simp only [i0, Option.bind_some, u48, u49, bif_dec]
      cases hc : (c == 48 || c == 49) with
      | false =>
        have h1 : (c == 48) = false := by cases h : (c == 48) <;> simp_all
        have h2 : (c == 49) = false := by cases h : (c == 49) <;> simp_all
        have hw : wtT (c :: r) = none := by unfold wtT; simp only [hc, cond_false]
        rw [hw, h1, h2]; rfl
      | true =>
        have hc2 : 48 ≤ c.toNat ∧ c.toNat ≤ 49 := by
          rcases Bool.or_eq_true _ _ ▸ hc with e | e
          · have : c = 48 := by simpa using e
            subst this; decide
          · have : c = 49 := by simpa using e
            subst this; decide
        have hq : IntKind.wrap .i64 (1000 * IntKind.wrap .i64 (IntKind.wrap .u8 ((c.toNat : Int) - 48))) = 1000 * ((c.toNat : Int) - 48) := by
          rw [wrap_dig c (by omega), wrap_id (n := (c.toNat : Int) - 48) (by omega) (by omega), wrap_id (by omega) (by omega)]
        have key : ∀ (A : Option Int), (if ((c :: r).length : Int) > 1 then ((idx (c :: r) (1 : Int)).bind fun c3 => (bif ((UInt8.toNat c3 : Int) != (46 : Int)) then some (-1 : Int) else
            ((S_l13Weight_b0 k k (c :: r) (IntKind.wrap .i64 (1000 * IntKind.wrap .i64 (IntKind.wrap .u8 ((c.toNat : Int) - 48)))) 100 2).bind fun o9 => oc o9 (fun o10 => if o10 > 1000 then some (-1 : Int) else some o10) (fun o11 => some o11)))) else
            ((S_l13Weight_b0 k k (c :: r) (IntKind.wrap .i64 (1000 * IntKind.wrap .i64 (IntKind.wrap .u8 ((c.toNat : Int) - 48)))) 100 2).bind fun o9 => oc o9 (fun o10 => if o10 > 1000 then some (-1 : Int) else some o10) (fun o11 => some o11))) = some ((wtT (c :: r)).getD (-1)) := by
          intro _
          have hl := S_w_loop (k := k) (x := c :: r) (by simp at h5 ⊢; omega) k 2 (1000 * ((c.toNat : Int) - 48)) 100 (by simp at h5 ⊢; omega) (by omega) (by omega) (by simp at h5 ⊢; omega) (by omega) (by omega)
          rw [show (((2 : Nat)) : Int) = 2 from rfl] at hl
          rw [hq, hl]
          simp only [Option.bind_some, ← bif_dec]
          rw [ocS]
          unfold wtT
          simp only [hc, cond_true]
          cases r with
          | nil => rfl
          | cons p ds =>
            have h3 : decide (ds.length ≤ 3) = true := by simp at h5 ⊢; omega
            have h1 : decide (((c :: p :: ds).length : Int) > 1) = true := by simp; omega
            have i1 : idx (c :: p :: ds) (1 : Int) = some p := rfl
            have u46 : ((UInt8.toNat p : Int) != 46) = !(p == 46) := by unfold bne; rw [← u8_eq p 46]; rfl
            rw [h1, cond_true, i1, Option.bind_some, u46]
            show _ = some ((bif p == 46 && decide (ds.length ≤ 3) then fin1 (dig ds (1000 * ((c.toNat : Int) - 48)) 100) else none).getD (-1))
            rw [h3, Bool.and_true]
            cases (p == 46) <;> rfl
        have := key none
        cases h1 : (c == 48) with
        | true => simpa using this
        | false =>
          have h2 : (c == 49) = true := by rw [h1] at hc; exact hc
          rw [h2]; simpa using this
theorem take_ne {c a : UInt8} {r : List UInt8} {i : Nat} (h : i ≠ 1) (hl : i < (c :: r).length) : ((c :: r).take i == [a]) = false := by
  rw [beq_eq_false_iff_ne]
  intro e
  have := congrArg List.length e
  simp at this hl
  omega
theorem I_weightIn_eq {k : Nat} (hk : 1073741824 ≤ k) (v : List UInt8) (hv : v.length < 1073741824) : ∃ r, I_weightIn k v = some r ∧ r.2 = (wtT v).isSome ∧ ∀ q, wtT v = some q → r.1 = q := by
  have hd : decide (v.length < 4294967281) = true := by simp; omega
  have run : ∀ (c : UInt8) (ds : List UInt8), 48 ≤ c.toNat ∧ c.toNat ≤ 49 → ds.length ≤ 3 →
      ((I_weightIn_b0 k k (IntKind.wrap .i64 (1000 * IntKind.wrap .i64 (IntKind.wrap .u8 ((c.toNat : Int) - 48)))) 100 ((intsOf ds).length : Int) 0 (intsOf ds)).bind fun o => oc o (fun o6 => some (o6, decide (o6 ≤ (1000 : Int)))) (fun o7 => some o7)) =
      some (match dig ds (1000 * ((c.toNat : Int) - 48)) 100 with | some r => (r, decide (r ≤ 1000)) | none => (0, false)) := by
    intro c ds hc hl
    have := I_w_loop (k := k) (x := ds) (by omega) k 0 (1000 * ((c.toNat : Int) - 48)) 100 (by omega) (by omega) (by omega) (by omega) (by omega) (by omega)
    rw [show (((0 : Nat)) : Int) = 0 from rfl] at this
    rw [wrap_dig c (by omega), wrap_id (n := (c.toNat : Int) - 48) (by omega) (by omega), wrap_id (by omega) (by omega), ints_len, this, List.drop_zero, Option.bind_some]
    cases dig ds (1000 * ((c.toNat : Int) - 48)) 100 <;> rfl
  have fin : ∀ (o : Option Int), (match o with | some r => (r, decide (r ≤ 1000)) | none => ((0 : Int), false)).2 = (fin1 o).isSome ∧ ∀ q, fin1 o = some q → (match o with | some r => (r, decide (r ≤ 1000)) | none => ((0 : Int), false)).1 = q := by
    intro o
    cases o with
    | none => exact ⟨rfl, fun q h => by cases h⟩
    | some r =>
      unfold fin1
      rw [Option.bind_some]
      by_cases h : r > 1000
      · rw [decide_eq_true h]; exact ⟨decide_eq_false (by omega), fun q h => by cases h⟩
      · rw [decide_eq_false h]; exact ⟨decide_eq_true (by omega), fun q h => by cases h; rfl⟩
  rw [I_weightIn, strings_Cut, cutO, hd, cond_true, Option.bind_some, cut_byte]
  have lone : ∀ c : UInt8, (c == 48) = true ∨ (c == 49) = true → 48 ≤ c.toNat ∧ c.toNat ≤ 49 := fun c h => by
    rcases h with e | e
    · have : c = 48 := by simpa using e
      subst this; decide
    · have : c = 49 := by simpa using e
      subst this; decide
  cases hf : firstI (byteP v 46) v.length 0 with
  | none =>
    have hno := firstI_none _ _ hf
    cases v with
    | nil => exact ⟨(0, false), rfl, rfl, fun q h => by cases h⟩
    | cons c r =>
      cases r with
      | nil =>
        cases hc : (c == 48 || c == 49) with
        | false =>
          have h1 : (c == 48) = false := by cases h : (c == 48) <;> simp_all
          have h2 : (c == 49) = false := by cases h : (c == 49) <;> simp_all
          have e1 : (([c] : List UInt8) == [48]) = false := by simpa using h1
          have e2 : (([c] : List UInt8) == [49]) = false := by simpa using h2
          have hw : wtT [c] = none := by unfold wtT; simp only [hc, cond_false]
          refine ⟨(0, false), ?_, by rw [hw]; rfl, fun q h => by rw [hw] at h; cases h⟩
          simp only [e1, e2]; rfl
        | true =>
          have h48 := lone c (by simpa using hc)
          have hw : wtT [c] = fin1 (some (1000 * ((c.toNat : Int) - 48))) := by unfold wtT; simp only [hc, cond_true]
          have hr := run c [] h48 (by simp)
          refine ⟨_, ?_, (fin (dig [] (1000 * ((c.toNat : Int) - 48)) 100)).1.trans (by rw [hw]; rfl), fun q h => (fin (dig [] (1000 * ((c.toNat : Int) - 48)) 100)).2 q (by rw [hw] at h; exact h)⟩
          rw [← hr]
          cases h1 : (c == 48) with
          | true =>
            have e1 : (([c] : List UInt8) == [48]) = true := by simpa using h1
            simp only [e1]; rfl
          | false =>
            have h2 : (c == 49) = true := by rw [h1] at hc; exact hc
            have e1 : (([c] : List UInt8) == [48]) = false := by simpa using h1
            have e2 : (([c] : List UInt8) == [49]) = true := by simpa using h2
            simp only [e1, e2]; rfl
      | cons p ds =>
        have e1 : ((c :: p :: ds : List UInt8) == [48]) = false := by rw [beq_eq_false_iff_ne]; simp
        have e2 : ((c :: p :: ds : List UInt8) == [49]) = false := by rw [beq_eq_false_iff_ne]; simp
        have hp : (p == 46) = false := by
          have := hno 1 (by omega) (by simp)
          rw [byteP_at (by simp)] at this; simpa using this
        have hw : wtT (c :: p :: ds) = none := by
          unfold wtT
          simp only [hp, Bool.false_and, cond_false]
          cases (c == 48 || c == 49) <;> rfl
        refine ⟨(0, false), ?_, by rw [hw]; rfl, fun q h => by rw [hw] at h; cases h⟩
        simp only [e1, e2]; rfl
  | some i =>
    obtain ⟨_, g2, g3, g4⟩ := firstI_some _ _ _ hf
    cases v with
    | nil => simp at g2
    | cons c r =>
      by_cases h1 : i = 1
      · subst h1
        cases r with
        | nil => simp at g2
        | cons p ds =>
          have hp : (p == 46) = true := by rw [byteP_at (by simp)] at g3; simpa using g3
          have et : (c :: p :: ds).take 1 = [c] := rfl
          have ed : (c :: p :: ds).drop (1 + 1) = ds := rfl
          cases hc : (c == 48 || c == 49) with
          | false =>
            have h1 : (c == 48) = false := by cases h : (c == 48) <;> simp_all
            have h2 : (c == 49) = false := by cases h : (c == 49) <;> simp_all
            have e1 : (([c] : List UInt8) == [48]) = false := by simpa using h1
            have e2 : (([c] : List UInt8) == [49]) = false := by simpa using h2
            have hw : wtT (c :: p :: ds) = none := by unfold wtT; simp only [hc, cond_false]
            refine ⟨(0, false), ?_, by rw [hw]; rfl, fun q h => by rw [hw] at h; cases h⟩
            simp only [et, e1, e2]; rfl
          | true =>
            have h48 := lone c (by simpa using hc)
            by_cases hl : ds.length ≤ 3
            · have hw : wtT (c :: p :: ds) = fin1 (dig ds (1000 * ((c.toNat : Int) - 48)) 100) := by unfold wtT; simp only [hc, hp, cond_true, decide_eq_true hl, Bool.and_self]
              have hr := run c ds h48 hl
              have el : decide ((ds.length : Int) > 3) = false := decide_eq_false (by omega)
              refine ⟨_, ?_, (fin (dig ds (1000 * ((c.toNat : Int) - 48)) 100)).1.trans (by rw [hw]), fun q h => (fin (dig ds (1000 * ((c.toNat : Int) - 48)) 100)).2 q (by rw [hw] at h; exact h)⟩
              rw [← hr]
              cases h1 : (c == 48) with
              | true =>
                have e1 : (([c] : List UInt8) == [48]) = true := by simpa using h1
                simp only [et, ed, e1, el]; rfl
              | false =>
                have h2 : (c == 49) = true := by rw [h1] at hc; exact hc
                have e1 : (([c] : List UInt8) == [48]) = false := by simpa using h1
                have e2 : (([c] : List UInt8) == [49]) = true := by simpa using h2
                simp only [et, ed, e1, e2, el]; rfl
            · have hw : wtT (c :: p :: ds) = none := by unfold wtT; simp only [hc, cond_true, decide_eq_false hl, Bool.and_false, cond_false]
              have el : decide ((ds.length : Int) > 3) = true := decide_eq_true (by omega)
              refine ⟨(0, false), ?_, by rw [hw]; rfl, fun q h => by rw [hw] at h; cases h⟩
              cases h1 : (c == 48) with
              | true =>
                have e1 : (([c] : List UInt8) == [48]) = true := by simpa using h1
                simp only [et, ed, e1, el]; rfl
              | false =>
                have h2 : (c == 49) = true := by rw [h1] at hc; exact hc
                have e1 : (([c] : List UInt8) == [48]) = false := by simpa using h1
                have e2 : (([c] : List UInt8) == [49]) = true := by simpa using h2
                simp only [et, ed, e1, e2, el]; rfl
      · have e1 : ((c :: r).take i == [48]) = false := take_ne h1 (by simpa using g2)
        have e2 : ((c :: r).take i == [49]) = false := take_ne h1 (by simpa using g2)
        have hw : wtT (c :: r) = none := by
          unfold wtT
          simp only
          rcases Nat.eq_zero_or_pos i with h0 | h0
          · subst h0
            rw [byteP_at (by simp)] at g3
            have : c = 46 := by simpa using g3
            subst this; rfl
          · cases r with
            | nil => simp at g2; omega
            | cons p ds =>
              have hp : (p == 46) = false := by
                have := g4 1 (by omega) (by omega)
                rw [byteP_at (by simp)] at this; simpa using this
              simp only [hp, Bool.false_and, cond_false]
              cases (c == 48 || c == 49) <;> rfl
        refine ⟨(0, false), ?_, by rw [hw]; rfl, fun q h => by rw [hw] at h; cases h⟩
        simp only [e1, e2]; rfl
/-! Qualities that are read. -/
theorem lowB_q : ∀ j : Fin 256, (lowB (UInt8.ofNat j.val) == 113) = (UInt8.ofNat j.val == 113 || UInt8.ofNat j.val == 81) := by decide +kernel
theorem lowT_q (s : List UInt8) : (lowT s == [113]) = (s == [113] || s == [81]) := by
  cases s with
  | nil => rfl
  | cons c l =>
    cases l with
    | cons d l => rw [beq_eq_false_iff_ne.2 (by simp [lowT]), beq_eq_false_iff_ne.2 (by simp), beq_eq_false_iff_ne.2 (by simp)]; rfl
    | nil =>
      have := lowB_q ⟨c.toNat, UInt8.toNat_lt c⟩
      simp only [UInt8.ofNat_toNat] at this
      simpa [lowT] using this
def qPart : List (List UInt8) → Option Int
  | [] => none
  | [_] => some 1000
  | [_, p] => bif (pairT p).2.2 && (lowT (pairT p).1 == [113]) then wtT (pairT p).2.1 else none
  | _ :: _ :: _ :: _ => none
def partP (ps : List (List UInt8)) : List IQuality := match ps with
  | [] => []
  | n :: _ => bif isTok (lowT (trimT n)) then (match qPart ps with | some q => [(⟨lowT (trimT n), q⟩ : IQuality)] | none => []) else []
def partF (e : List UInt8) : List IQuality := partP (cutP 59 e [])
def parseQ (x : List UInt8) : List IQuality := (splitL x).flatMap partF
theorem qPart_nonneg {ps : List (List UInt8)} {q : Int} (h : qPart ps = some q) : 0 ≤ q := by
  match ps, h with
  | [_], h => have : (1000 : Int) = q := by simpa [qPart] using h
              omega
  | [_, p], h =>
    have h : (bif (pairT p).2.2 && (lowT (pairT p).1 == [113]) then wtT (pairT p).2.1 else none) = some q := h
    cases hc : ((pairT p).2.2 && (lowT (pairT p).1 == [113])) with
    | true => rw [hc] at h; exact wtT_nonneg h
    | false => rw [hc] at h; cases h
theorem partF_len (e : List UInt8) : (partF e).length ≤ 1 := by
  unfold partF partP
  cases cutP 59 e [] with
  | nil => simp
  | cons n r =>
    show (bif isTok (lowT (trimT n)) then (match qPart (n :: r) with | some q => [(⟨lowT (trimT n), q⟩ : IQuality)] | none => []) else []).length ≤ 1
    cases isTok (lowT (trimT n)) <;> cases qPart (n :: r) <;> simp
theorem S_q {k : Nat} (hk : 1073741824 ≤ k) {x5 : Int} {r3 : List (List UInt8)} {r4 : List IQuality} {nm : List UInt8} {n : List UInt8} {rest : List (List UInt8)} (hb : ∀ p ∈ n :: rest, p.length < 1073741824) :
    S_ParseQualities_c33 k x5 (decide (((n :: rest).length : Int) > 1)) r3 r4 (n :: rest) nm 1000 = some ((qPart (n :: rest)).getD (-1)) := by
  cases rest with
  | nil => rfl
  | cons p rest2 =>
    have h1 : decide (((n :: p :: rest2).length : Int) > 1) = true := by simp; omega
    have i1 : idx (n :: p :: rest2) (1 : Int) = some p := rfl
    have hp := hb p (by simp)
    have hl := pairT_len p
    rw [h1, S_ParseQualities_c33, cond_true, i1, Option.bind_some, Option.bind_some, S_SplitPair_eq hk p hp, Option.bind_some, S_l13Weight_eq hk, Option.bind_some, S_LowerText_eq hk _ (by omega), Option.bind_some]
    unfold qPart
    cases rest2 with
    | cons p3 r =>
      have h2 : decide (((n :: p :: p3 :: r).length : Int) > 2) = true := by simp; omega
      simp only [h2, S_ParseQualities_c56, cond_true, Option.bind_some]
      cases (pairT p).2.2 <;> cases (lowT (pairT p).1 == [113]) <;> rfl
    | nil =>
      simp only [S_ParseQualities_c56, cond_true, Option.bind_some]
      cases (pairT p).2.2 <;> cases (lowT (pairT p).1 == [113]) <;> rfl
theorem S_part {k : Nat} (hk : 1073741824 ≤ k) {x5 : Int} {r3 : List (List UInt8)} {r4 : List IQuality} {e : List UInt8} (hi : idx r3 x5 = some e) (he : e.length < 1073741000) (hr : r4.length ≤ 1073741824) : S_ParseQualities_b1 k x5 r3 r4 = some (r4 ++ partF e) := by
  have hc := S_l12Split_eq hk e 59 he
  rw [show (((59 : UInt8).toNat : Nat) : Int) = 59 from rfl] at hc
  have hm := fun p => cutP_mem 59 e [] p
  have hpos := cutP_pos 59 e []
  rw [S_ParseQualities_b1, hi, Option.bind_some, Option.bind_some, hc, Option.bind_some]
  unfold partF
  cases hps : cutP 59 e [] with
  | nil => rw [hps] at hpos; simp at hpos
  | cons n rest =>
    rw [hps] at hm
    have hb : ∀ p ∈ n :: rest, p.length < 1073741824 := fun p hp => by have := hm p hp; simp at this; omega
    have hn := hb n (by simp)
    have ht := trimT_len n
    have hlw := lowT_len (trimT n)
    rw [show idx (n :: rest) (0 : Int) = some n from rfl, Option.bind_some, Option.bind_some, S_TrimText_eq hk n hn, Option.bind_some, S_LowerText_eq hk _ (by omega), Option.bind_some, S_q hk hb, Option.bind_some, S_IsToken_eq hk _ (by omega), Option.bind_some]
    have hpp : partP (n :: rest) = bif isTok (lowT (trimT n)) then (match qPart (n :: rest) with | some q => [(⟨lowT (trimT n), q⟩ : IQuality)] | none => []) else [] := rfl
    rw [hpp]
    cases isTok (lowT (trimT n)) with
    | false => simp only [cond_false, S_ParseQualities_c65, Option.bind_some, List.append_nil]
    | true =>
      cases hq : qPart (n :: rest) with
      | none => simp only [cond_true, Option.getD_none, S_ParseQualities_c65]; simp
      | some q =>
        have := qPart_nonneg hq
        have hd : decide (q ≥ 0) = true := decide_eq_true this
        simp only [cond_true, Option.getD_some, S_ParseQualities_c65, hd]
        rw [appn_ok (by simp; omega)]; rfl
theorem I_part {k : Nat} (hk : 1073741824 ≤ k) {x17 x18 : Int} {r16 : List (List UInt8)} {r3 : List IQuality} {e : List UInt8} (hi : idx r16 x18 = some e) (he : e.length < 1073741000) (hr : r3.length ≤ 1073741824) : I_ParseQualities_b1 k x17 x18 r3 r16 = some (r3 ++ partF e) := by
  have hm := fun p => cutP_mem 59 e [] p
  have hpos := cutP_pos 59 e []
  rw [I_ParseQualities_b1, hi, Option.bind_some, Option.bind_some, strings_Split_eq e 59 (by omega), Option.bind_some]
  unfold partF
  cases hps : cutP 59 e [] with
  | nil => rw [hps] at hpos; simp at hpos
  | cons n rest =>
    rw [hps] at hm
    have hb : ∀ p ∈ n :: rest, p.length < 1073741824 := fun p hp => by have := hm p hp; simp at this; omega
    have hn := hb n (by simp)
    have ht := trimT_len n
    have hlw := lowT_len (trimT n)
    rw [show idx (n :: rest) (0 : Int) = some n from rfl, Option.bind_some, Option.bind_some, I_TrimText_eq n hn, Option.bind_some, I_LowerText_eq (by omega) _ (by omega), Option.bind_some, I_IsToken_eq hk _ (by omega), Option.bind_some]
    unfold partP
    match rest, hb with
    | [], hb =>
      have e1 : (((([n] : List (List UInt8)).length : Nat) : Int) == 2) = false := rfl
      have e2 : decide (((([n] : List (List UInt8)).length : Nat) : Int) ≤ 2) = true := rfl
      rw [e1, e2]
      simp only [I_ParseQualities_c40, cond_false, Option.bind_some, I_ParseQualities_c71, qPart]
      cases isTok (lowT (trimT n)) with
      | false => simp
      | true => rw [cond_true, cond_true, cond_true, appn_ok (by simp; omega)]; rfl
    | [p], hb =>
      have hp := hb p (by simp)
      have hl := pairT_len p
      have e1 : (((([n, p] : List (List UInt8)).length : Nat) : Int) == 2) = true := rfl
      have e2 : decide (((([n, p] : List (List UInt8)).length : Nat) : Int) ≤ 2) = true := rfl
      have i1 : idx ([n, p] : List (List UInt8)) (1 : Int) = some p := rfl
      obtain ⟨w, w1, w2, w3⟩ := I_weightIn_eq hk (pairT p).2.1 (by omega)
      rw [e1, e2]
      simp only [I_ParseQualities_c40, cond_true, cond_false, i1, Option.bind_some, I_SplitPair_eq p hp, w1, w2, I_ParseQualities_c71, qPart, lowT_q]
      cases isTok (lowT (trimT n)) with
      | false => simp
      | true =>
        cases hw : wtT (pairT p).2.1 with
        | none =>
          cases (pairT p).2.2 <;> cases ((pairT p).1 == [113]) <;> cases ((pairT p).1 == [81]) <;> simp
        | some q =>
          have hq := w3 q hw
          have ha : app 24 r3 ([(⟨lowT (trimT n), q⟩ : IQuality)]) = some (r3 ++ [(⟨lowT (trimT n), q⟩ : IQuality)]) := appn_ok (by simp; omega)
          cases (pairT p).2.2 <;> cases ((pairT p).1 == [113]) <;> cases ((pairT p).1 == [81]) <;> simp [hq, ha]
    | p :: p2 :: r, hb =>
      have e1 : ((((n :: p :: p2 :: r).length : Nat) : Int) == 2) = false := by rw [beq_eq_false_iff_ne]; simp; omega
      have e2 : decide ((((n :: p :: p2 :: r).length : Nat) : Int) ≤ 2) = false := decide_eq_false (by simp; omega)
      rw [e1, e2]
      simp only [I_ParseQualities_c40, cond_false, Option.bind_some, I_ParseQualities_c71, qPart]
      cases isTok (lowT (trimT n)) <;> simp
theorem splitL_mem {x p : List UInt8} (h : p ∈ splitL x) : p.length ≤ x.length := by
  unfold splitL at h
  obtain ⟨y, hy, hp⟩ := List.mem_flatMap.1 h
  have h1 := cutG_mem 44 x false false [] y hy
  have h2 := trimT_len y
  unfold keepF at hp
  cases hc : (trimT y == []) with
  | true => rw [hc] at hp; simp at hp
  | false =>
    rw [hc] at hp
    have : p = trimT y := by simpa using hp
    subst this
    simp at h1; omega
theorem S_ParseQualities_eq {k : Nat} (hk : 1073741824 ≤ k) (x : List UInt8) (h : x.length < 1073741000) : S_ParseQualities k x = some (parseQ x) := by
  have hl := splitL_len x
  have hm := fun p => splitL_mem (x := x) (p := p)
  rw [S_ParseQualities, S_SplitList_eq hk x h, Option.bind_some]
  unfold parseQ
  generalize splitL x = w at hl hm
  have := fold_all (len := w.length) (g := fun j s => s ++ (w[j]?).elim [] partF) (Inv := fun i s => s.length ≤ i) (F := fun m i s => S_ParseQualities_b0 k m i w s) (out := id) (fun m i s hi hI => by
    have hp := hm w[i] (List.getElem_mem hi)
    have hI : s.length ≤ i := hI
    have e1 : (w[i]?).elim [] partF = partF w[i] := by rw [List.getElem?_eq_getElem hi, Option.elim_some]
    have hl1 := partF_len w[i]
    constructor
    · show S_ParseQualities_b0 k (m + 1) (i : Int) w s = S_ParseQualities_b0 k m _ w (s ++ (w[i]?).elim [] partF)
      rw [e1, S_ParseQualities_b0, bif_dec, if_pos (by omega), S_part hk (idx_nat hi) (by omega) (by omega), Option.bind_some, wrap_succ (by omega)]
    · show (s ++ (w[i]?).elim [] partF).length ≤ _
      rw [e1, List.length_append]; omega) (fun m i s hi => by
    simp only [S_ParseQualities_b0, bif_dec, lt_cast]
    rw [if_neg (by omega)]; rfl) (k := k) (by omega) (s := []) (by simp)
  have h1 : S_ParseQualities_b0 k k 0 w [] = some (foldI (fun j s => s ++ (w[j]?).elim [] partF) w.length 0 []) := this.1
  rw [h1, foldI_append (f := partF) w.length 0 [] (by omega), List.drop_zero]; rfl
theorem I_ParseQualities_eq {k : Nat} (hk : 1073741824 ≤ k) (x : List UInt8) (h : x.length < 1073741000) : I_ParseQualities k x = some (parseQ x) := by
  have hl := splitL_len x
  have hm := fun p => splitL_mem (x := x) (p := p)
  rw [I_ParseQualities, I_SplitList_eq hk x h, Option.bind_some]
  unfold parseQ
  generalize splitL x = w at hl hm
  have := fold_all (len := w.length) (g := fun j s => s ++ (w[j]?).elim [] partF) (Inv := fun i s => s.length ≤ i) (F := fun m i s => I_ParseQualities_b0 k m (w.length : Int) i s w) (out := id) (fun m i s hi hI => by
    have hp := hm w[i] (List.getElem_mem hi)
    have hI : s.length ≤ i := hI
    have e1 : (w[i]?).elim [] partF = partF w[i] := by rw [List.getElem?_eq_getElem hi, Option.elim_some]
    have hl1 := partF_len w[i]
    constructor
    · show I_ParseQualities_b0 k (m + 1) (w.length : Int) (i : Int) s w = I_ParseQualities_b0 k m (w.length : Int) _ (s ++ (w[i]?).elim [] partF) w
      rw [e1, I_ParseQualities_b0, bif_dec, if_pos (by omega), I_part hk (idx_nat hi) (by omega) (by omega), Option.bind_some, wrap_succ (by omega)]
    · show (s ++ (w[i]?).elim [] partF).length ≤ _
      rw [e1, List.length_append]; omega) (fun m i s hi => by
    simp only [I_ParseQualities_b0, bif_dec, lt_cast]
    rw [if_neg (by omega)]; rfl) (k := k) (by omega) (s := []) (by simp)
  have h1 : I_ParseQualities_b0 k k (w.length : Int) 0 [] w = some (foldI (fun j s => s ++ (w[j]?).elim [] partF) w.length 0 []) := this.1
  rw [h1, foldI_append (f := partF) w.length 0 [] (by omega), List.drop_zero]; rfl
/-! Qualities. -/
def nameP (x : List IQuality) (s : List UInt8) (i : Nat) : Bool := match x[i]? with | some e => e.Name == s | none => false
def qAt (x : List IQuality) (i : Nat) : Int := match x[i]? with | some e => e.Q | none => 0
def qOf (x : List IQuality) (s : List UInt8) : Int :=
  match firstI (nameP x s) x.length 0 with
  | some i => qAt x i
  | none => match firstI (nameP x [42]) x.length 0 with
    | some i => qAt x i
    | none => 0

theorem S_star {k : Nat} {x : List IQuality} {s : List UInt8} (hx : x.length < 1073741824) : ∀ (n j : Nat) (acc : Int), j ≤ x.length → j < n →
    S_QualityOf_b0 k n x s acc ((j : Int) - 1) = some (match firstI (nameP x [42]) j 0 with | some i => qAt x i | none => acc) := by
  intro n
  induction n with
  | zero => intro j acc _ h; omega
  | succ n ih =>
    intro j acc hj hn
    rw [S_QualityOf_b0, bif_dec]
    cases j with
    | zero => rw [if_neg (by omega)]; rfl
    | succ j =>
      have hi : j < x.length := by omega
      rw [if_pos (by omega), show ((j + 1 : Nat) : Int) - 1 = (j : Int) by omega, S_QualityOf_b1, idx_nat hi, Option.bind_some, S_QualityOf_c20, idx_nat hi, wrap_id (by omega) (by omega)]
      have step : firstI (nameP x [42]) (j + 1) 0 = match firstI (nameP x [42]) j 0 with | some i => some i | none => bif nameP x [42] j then some j else none := by
        cases h1 : firstI (nameP x [42]) j 0 with
        | some i =>
          obtain ⟨_, h3, h4, h5⟩ := firstI_some _ _ _ h1
          cases h2 : firstI (nameP x [42]) (j + 1) 0 with
          | none => have := firstI_none _ _ h2 i (by omega) (by omega); rw [this] at h4; cases h4
          | some i' =>
            obtain ⟨_, g3, g4, g5⟩ := firstI_some _ _ _ h2
            rcases Nat.lt_trichotomy i i' with h | h | h
            · have := g5 i (by omega) h; rw [this] at h4; cases h4
            · simp [h]
            · have := h5 i' (by omega) h; rw [this] at g4; cases g4
        | none =>
          have h2 := firstI_none _ _ h1
          cases hp : nameP x [42] j with
          | true =>
            cases h3 : firstI (nameP x [42]) (j + 1) 0 with
            | none => have := firstI_none _ _ h3 j (by omega) (by omega); rw [this] at hp; cases hp
            | some i' =>
              obtain ⟨_, g3, g4, g5⟩ := firstI_some _ _ _ h3
              by_cases e : i' = j
              · simp [e]
              · have := h2 i' (by omega) (by omega); rw [this] at g4; cases g4
          | false =>
            cases h3 : firstI (nameP x [42]) (j + 1) 0 with
            | none => rfl
            | some i' =>
              obtain ⟨_, g3, g4, g5⟩ := firstI_some _ _ _ h3
              by_cases e : i' = j
              · rw [e, hp] at g4; cases g4
              · have := h2 i' (by omega) (by omega); rw [this] at g4; cases g4
      have hp : nameP x [42] j = (x[j].Name == [42]) := by simp [nameP, List.getElem?_eq_getElem hi]
      have hq : qAt x j = x[j].Q := by simp [qAt, List.getElem?_eq_getElem hi]
      rw [step]
      cases hb : (x[j].Name == ([42] : List UInt8)) with
      | true =>
        rw [cond_true, Option.bind_some, Option.bind_some, Option.bind_some, ih j _ (by omega) (by omega), hp, hb, ← hq]
        cases firstI (nameP x [42]) j 0 <;> rfl
      | false =>
        rw [cond_false, Option.bind_some, Option.bind_some, ih j _ (by omega) (by omega), hp, hb]
        cases firstI (nameP x [42]) j 0 <;> rfl

theorem S_QualityOf_eq {k : Nat} (hk : 1073741824 ≤ k) (x : List IQuality) (s : List UInt8) (h : x.length < 1073741824) : S_QualityOf k x s = some (qOf x s) := by
  rw [S_QualityOf, wrap_id (by omega) (by omega), S_star h k x.length 0 (by omega) (by omega), Option.bind_some]
  generalize hst : (match firstI (nameP x [42]) x.length 0 with | some i => qAt x i | none => (0 : Int)) = st
  have := find_all (len := x.length) (c := fun i => bif nameP x s i then some (qAt x i) else none) (F := fun n i => S_QualityOf_b2 k n x s st i) (fun n i hi => by
    simp only [S_QualityOf_b2, idx_nat hi, Option.bind_some, wrap_succ (by omega : i < 9223372036854775807), bif_dec, lt_cast, hi, if_true, nameP, qAt, List.getElem?_eq_getElem hi]
    cases (x[i].Name == s) <;> rfl) (fun n i hi => by
    simp only [S_QualityOf_b2, bif_dec, lt_cast]
    rw [if_neg (by omega)]) (k := k) (by omega)
  rw [this, findI_first]
  unfold qOf
  cases firstI (nameP x s) x.length 0 with
  | none => simp only [Option.map_none, ocOf, Option.bind_some, oc]; rw [← hst]
  | some j => simp [ocOf, oc]

theorem I_QualityOf_eq {k : Nat} (hk : 1073741824 ≤ k) (x : List IQuality) (s : List UInt8) (h : x.length < 1073741824) : I_QualityOf k x s = some (qOf x s) := by
  have inner : ∀ (s : List UInt8) (a b : Int) (r : List (List UInt8)), I_QualityOf_b2 k k x s a b x (x.length : Int) 0 r = some (ocOf ((firstI (nameP x s) x.length 0).map (qAt x))) := by
    intro s a b r
    have := find_all (len := x.length) (c := fun i => bif nameP x s i then some (qAt x i) else none) (F := fun n i => I_QualityOf_b2 k n x s a b x (x.length : Int) i r) (fun n i hi => by
      simp only [I_QualityOf_b2, idx_nat hi, Option.bind_some, wrap_succ (by omega : i < 9223372036854775807), bif_dec, lt_cast, hi, if_true, nameP, qAt, List.getElem?_eq_getElem hi]
      cases (x[i].Name == s) <;> rfl) (fun n i hi => by
      simp only [I_QualityOf_b2, bif_dec, lt_cast]
      rw [if_neg (by omega)]) (k := k) (by omega)
    rw [this, findI_first]
  obtain ⟨k', rfl⟩ : ∃ k', k = k' + 3 := ⟨k - 3, by omega⟩
  rw [I_QualityOf, show k' + 3 = (k' + 2) + 1 from rfl, I_QualityOf_b0]
  simp only [List.length_cons, List.length_nil, bif_dec]
  rw [if_pos (by omega), show idx ([s, [42]] : List (List UInt8)) 0 = some s from rfl, Option.bind_some, Option.bind_some, inner, Option.bind_some]
  unfold qOf
  cases firstI (nameP x s) x.length 0 with
  | some j => simp [ocOf, oc]
  | none =>
    simp only [Option.map_none, ocOf, oc]
    rw [show IntKind.wrap .i64 (0 + 1) = 1 from by decide, I_QualityOf_b0]
    simp only [bif_dec]
    rw [if_pos (by omega), show idx ([s, [42]] : List (List UInt8)) 1 = some [42] from rfl, Option.bind_some, Option.bind_some, inner, Option.bind_some]
    cases firstI (nameP x [42]) x.length 0 with
    | some j => simp [ocOf, oc]
    | none =>
      simp only [Option.map_none, ocOf, oc]
      rw [show IntKind.wrap .i64 (1 + 1) = 2 from by decide, I_QualityOf_b0]
      simp [bif_dec]
theorem partFs_len : ∀ l : List (List UInt8), (l.flatMap partF).length ≤ l.length
  | [] => by simp
  | p :: l => by
    have := partFs_len l
    have := partF_len p
    rw [List.flatMap_cons, List.length_append, List.length_cons]; omega
theorem parseQ_len (x : List UInt8) : (parseQ x).length ≤ x.length + 1 := by
  have h1 := partFs_len (splitL x)
  have h2 := splitL_len x
  unfold parseQ; omega
/-! The name that is chosen: the place of the best so far. -/
def bestS (q : List IQuality) (x : List (List UInt8)) (j b : Nat) : Nat := match x[j]?, x[b]? with
  | some n, some m => bif decide (qOf q n > qOf q m) then j else b
  | _, _ => b
def bestI (q : List IQuality) (x : List (List UInt8)) (j : Nat) (m : List UInt8) : List UInt8 := match x[j]? with
  | some n => bif j == 0 || decide (qOf q n > qOf q m) then n else m
  | none => m
theorem best_rel {q : List IQuality} {x : List (List UInt8)} (i b : Nat) (m : List UInt8) (hi : i < x.length) (h : b ≤ i ∧ (i = 0 → b = 0) ∧ (0 < i → b < x.length ∧ x[b]? = some m)) :
    bestS q x i b ≤ i + 1 ∧ (i + 1 = 0 → bestS q x i b = 0) ∧ (0 < i + 1 → bestS q x i b < x.length ∧ x[bestS q x i b]? = some (bestI q x i m)) := by
  obtain ⟨h1, h2, h3⟩ := h
  have hb : b < x.length := by omega
  have e1 : x[i]? = some x[i] := List.getElem?_eq_getElem hi
  have e2 : x[b]? = some x[b] := List.getElem?_eq_getElem hb
  have key : bestS q x i b = (bif decide (qOf q x[i] > qOf q x[b]) then i else b) := by unfold bestS; rw [e1, e2]
  have key2 : bestI q x i m = (bif i == 0 || decide (qOf q x[i] > qOf q m) then x[i] else m) := by unfold bestI; rw [e1]
  rw [key, key2]
  rcases Nat.eq_zero_or_pos i with h0 | h0
  · have hb0 := h2 h0
    subst h0
    subst hb0
    have : (bif decide (qOf q x[0] > qOf q x[0]) then 0 else 0) = 0 := by cases decide (qOf q x[0] > qOf q x[0]) <;> rfl
    rw [this]
    exact ⟨by omega, fun _ => rfl, fun _ => ⟨hi, by rw [e1]; rfl⟩⟩
  · obtain ⟨h4, h5⟩ := h3 h0
    have hm : x[b] = m := by rw [e2] at h5; exact Option.some.inj h5
    have hz : (i == 0) = false := beq_eq_false_iff_ne.2 (by omega)
    rw [hz, Bool.false_or, hm]
    cases decide (qOf q x[i] > qOf q m) with
    | true => exact ⟨by show i ≤ i + 1; omega, fun e => by omega, fun _ => ⟨hi, e1⟩⟩
    | false => exact ⟨by show b ≤ i + 1; omega, fun e => by omega, fun _ => ⟨hb, by show x[b]? = some m; exact h5⟩⟩
theorem S_Choose_loop {k : Nat} (hk : 1073741824 ≤ k) {q : List IQuality} {x : List (List UInt8)} (hq : q.length < 1073741824) (hx : x.length < 1073741824) : S_ChooseName_b0 k k x 0 0 q = some ((foldI (bestS q x) x.length 0 0 : Nat) : Int) := by
  have := fold_all (len := x.length) (g := bestS q x) (Inv := fun i b => b ≤ i) (F := fun m i (b : Nat) => S_ChooseName_b0 k m x (b : Int) i q) (out := fun b => (b : Int)) (fun m i b hi hI => by
    have hI : b ≤ i := hI
    have hb : b < x.length := by omega
    have e1 : x[i]? = some x[i] := List.getElem?_eq_getElem hi
    have e2 : x[b]? = some x[b] := List.getElem?_eq_getElem hb
    have key : bestS q x i b = (bif decide (qOf q x[i] > qOf q x[b]) then i else b) := by unfold bestS; rw [e1, e2]
    constructor
    · show S_ChooseName_b0 k (m + 1) x (b : Int) (i : Int) q = S_ChooseName_b0 k m x ((bestS q x i b : Nat) : Int) _ q
      rw [key, S_ChooseName_b0, bif_dec, if_pos (by omega), S_ChooseName_b1, idx_nat hi, Option.bind_some, S_QualityOf_eq hk _ _ hq, Option.bind_some, idx_nat hb, Option.bind_some, S_QualityOf_eq hk _ _ hq, Option.bind_some, S_ChooseName_c28, wrap_succ (by omega)]
      cases decide (qOf q x[i] > qOf q x[b]) <;> rfl
    · show bestS q x i b ≤ i + 1
      rw [key]
      cases decide (qOf q x[i] > qOf q x[b])
      · show b ≤ i + 1; omega
      · show i ≤ i + 1; omega) (fun m i b hi => by
    simp only [S_ChooseName_b0, bif_dec, lt_cast]
    rw [if_neg (by omega)]) (k := k) (by omega) (s := 0) (by omega)
  exact this.1
theorem I_Choose_loop {k : Nat} (hk : 1073741824 ≤ k) {q : List IQuality} {x : List (List UInt8)} (hq : q.length < 1073741824) (hx : x.length < 1073741824) : I_ChooseName_b0 k k [] x (x.length : Int) 0 q = some (foldI (bestI q x) x.length 0 []) := by
  have := fold_all (len := x.length) (g := bestI q x) (Inv := fun _ _ => True) (F := fun m i m' => I_ChooseName_b0 k m m' x (x.length : Int) i q) (out := id) (fun m i m' hi hI => by
    have e1 : x[i]? = some x[i] := List.getElem?_eq_getElem hi
    have key : bestI q x i m' = (bif i == 0 || decide (qOf q x[i] > qOf q m') then x[i] else m') := by unfold bestI; rw [e1]
    have hz : (((i : Int)) == 0) = (i == 0) := by
      rcases Nat.eq_zero_or_pos i with h | h
      · subst h; rfl
      · rw [beq_eq_false_iff_ne.2 (by omega : ((i : Int)) ≠ 0), beq_eq_false_iff_ne.2 (by omega : i ≠ 0)]
    refine ⟨?_, trivial⟩
    show I_ChooseName_b0 k (m + 1) m' x (x.length : Int) (i : Int) q = I_ChooseName_b0 k m (bestI q x i m') x (x.length : Int) _ q
    rw [key, I_ChooseName_b0, bif_dec, if_pos (by omega), I_ChooseName_b1, idx_nat hi, Option.bind_some, hz, wrap_succ (by omega)]
    cases hi0 : (i == 0) with
    | true => rw [cond_true, Bool.true_or, cond_true]; simp only [I_ChooseName_c28, cond_true, Option.bind_some]
    | false =>
      rw [cond_false, Bool.false_or, I_QualityOf_eq hk _ _ hq, Option.bind_some, I_QualityOf_eq hk _ _ hq, Option.bind_some]
      cases decide (qOf q x[i] > qOf q m') <;> rfl) (fun m i b hi => by
    simp only [I_ChooseName_b0, bif_dec, lt_cast]
    rw [if_neg (by omega)]; rfl) (k := k) (by omega) (s := []) trivial
  exact this.1
def chooseT (x : List (List UInt8)) (a : List UInt8) : List UInt8 := foldI (bestI (parseQ a) x) x.length 0 []
theorem I_ChooseName_eq {k : Nat} (hk : 1073741824 ≤ k) (x : List (List UInt8)) (a : List UInt8) (hx : x.length < 1073741824) (ha : a.length < 1073741000) : I_ChooseName k x a = some (chooseT x a) := by
  have hp := parseQ_len a
  rw [I_ChooseName, I_ParseQualities_eq hk a ha, Option.bind_some, I_Choose_loop hk (by omega) hx]; rfl
theorem S_ChooseName_eq {k : Nat} (hk : 1073741824 ≤ k) (x : List (List UInt8)) (a : List UInt8) (hx : x.length < 1073741824) (ha : a.length < 1073741000) : S_ChooseName k x a = some (chooseT x a) := by
  have hp := parseQ_len a
  have rel := foldI_rel (g := bestS (parseQ a) x) (g' := bestI (parseQ a) x) (R := fun i b m => b ≤ i ∧ (i = 0 → b = 0) ∧ (0 < i → b < x.length ∧ x[b]? = some m)) (len := x.length) (fun i s t hi h => best_rel i s t hi h) x.length 0 0 [] (by omega) ⟨by omega, fun _ => rfl, fun h => by omega⟩
  rw [S_ChooseName, S_ParseQualities_eq hk a ha, Option.bind_some, S_Choose_loop hk (by omega) hx, Option.bind_some]
  unfold chooseT
  generalize foldI (bestS (parseQ a) x) x.length 0 0 = b at rel
  generalize hm : foldI (bestI (parseQ a) x) x.length 0 [] = m at rel
  obtain ⟨r1, r2, r3⟩ := rel
  rw [S_l1Word, bif_dec, bif_dec, if_neg (by omega)]
  rcases Nat.eq_zero_or_pos x.length with h0 | h0
  · rw [if_pos (by omega), ← hm, h0]; rfl
  · obtain ⟨r4, r5⟩ := r3 h0
    rw [if_neg (by omega), idx_nat r4, Option.bind_some, Option.bind_some]
    rw [List.getElem?_eq_getElem r4] at r5
    exact r5
def variantT (r : IResource) (fs : List IField) : List UInt8 × List UInt8 := (chooseT r.Langs (getF fs [97, 99, 99, 101, 112, 116, 45, 108, 97, 110, 103, 117, 97, 103, 101]).1, bif r.Private then visitor fs else [])
theorem S_VariantOf_eq {k : Nat} (hk : 1073741824 ≤ k) (o : IResource) (r : IRequest) (hl : o.Langs.length < 1073741824) (h : fsz r.Fields < 67108864) : S_VariantOf k o r = some (variantT o r.Fields) := by
  have hg := getF_len r.Fields [97, 99, 99, 101, 112, 116, 45, 108, 97, 110, 103, 117, 97, 103, 101]
  have hc : S_VariantOf_c10 k ([] : List UInt8) (decide ((o.Langs.length : Int) > (0 : Int))) o.Target o.Control o.Keys o.Private o.Langs o.Versions r.Method r.Host r.Target r.Fields = some (chooseT o.Langs (getF r.Fields [97, 99, 99, 101, 112, 116, 45, 108, 97, 110, 103, 117, 97, 103, 101]).1) := by
    unfold S_VariantOf_c10
    rw [S_l5Get, S_GetField_eq hk _ _ (by omega), Option.bind_some, Option.bind_some, S_ChooseName_eq hk _ _ hl (by omega), Option.bind_some, bif_dec]
    by_cases c : (o.Langs.length : Int) > 0
    · rw [if_pos c]
    · rw [if_neg c]
      have : o.Langs = [] := List.length_eq_zero_iff.1 (by omega)
      rw [this]; rfl
  rw [S_VariantOf, hc, Option.bind_some, S_VisitorOf_eq hk r h, Option.bind_some]
  unfold variantT
  cases o.Private <;> rfl
theorem I_VariantOf_eq {k : Nat} (hk : 1073741824 ≤ k) (o : IResource) (r : IRequest) (hl : o.Langs.length < 1073741824) (h : fsz r.Fields < 67108864) : I_VariantOf k o r = some (variantT o r.Fields) := by
  have hg := getF_len r.Fields [97, 99, 99, 101, 112, 116, 45, 108, 97, 110, 103, 117, 97, 103, 101]
  have hv := I_VisitorOf_eq hk ⟨r.Method, r.Host, r.Target, r.Fields⟩ h
  rw [I_VariantOf, I_GetField_eq hk _ _ (by omega), Option.bind_some, I_ChooseName_eq hk _ _ hl (by omega), Option.bind_some, I_VariantOf_c21, hv]
  unfold variantT
  cases o.Private <;> rfl
theorem fsz_in : ∀ (x : List LField), fsz (x.map to_LField) ≤ szL sz_LField x
  | [] => by simp [fsz, szL]
  | e :: l => by
    have := fsz_in l
    unfold fsz szL at this ⊢
    simp only [List.map_cons, List.sum_cons, List.length_cons, List.length_map] at this ⊢
    have h1 : (to_LField e).Value.length ≤ sz_LField e := by unfold sz_LField; simp only [to_LField]; omega
    omega
theorem req_in {a : LRequest} (h : sz_LRequest a ≤ 1048576) : fsz (to_LRequest a).Fields ≤ 1048576 ∧ (to_LRequest a).Fields.length < 1073741824 := by
  have h1 := fsz_in a.Fields
  unfold sz_LRequest at h
  have h2 : (to_LRequest a).Fields = a.Fields.map to_LField := rfl
  have h3 : (a.Fields.map to_LField).length ≤ fsz (a.Fields.map to_LField) := by unfold fsz; omega
  rw [h2]; omega
theorem FnExactVariantOf_pure {k : Nat} (hk : 1073741824 ≤ k) (a0 : LResource) (a1 : LRequest) (h0 : V_LResource a0) (h1 : V_LRequest a1) : L_FnExactVariantOf k a0 a1 = some true := by
  unfold L_FnExactVariantOf
  rw [L_szResource_eq hk h0 _ (by omega) (by omega), Option.bind_some, bif_dec]
  by_cases c3 : (sz_LResource a0 : Int) ≤ 1048576
  case neg => rw [if_neg c3, if_pos (by omega)]
  have c4 : sz_LResource a0 ≤ 1048576 := by omega
  rw [if_pos c3, if_neg (by omega), L_szRequest_eq hk h1 _ (by omega) (by omega), Option.bind_some, bif_dec]
  by_cases c5 : (sz_LRequest a1 : Int) ≤ 1048576 - sz_LResource a0
  case neg => rw [if_neg c5, if_pos (by omega)]
  have c6 : sz_LRequest a1 ≤ 1048576 := by omega
  obtain ⟨r1, r2⟩ := req_in c6
  have hl : (to_LResource a0).Langs.length < 1073741824 := by unfold sz_LResource at c4; simp only [to_LResource]; unfold szL at c4; omega
  have hv : (to_LResource a0).Versions.length < 1073741824 := by unfold sz_LResource at c4; simp only [to_LResource, List.length_map]; unfold szL at c4; omega
  have hfs : fsz (to_LRequest a1).Fields < 67108864 := by omega
  rw [if_pos c5, if_neg (by omega)]
  simp only [L_toResource_eq hk a0 c4, L_toRequest_eq hk a1 c6, Option.bind_some, S_VariantOf_eq hk _ _ hl hfs, I_VariantOf_eq hk _ _ hl hfs, L_eqResource_eq hk _ _ hl hv, L_eqRequest_eq hk _ _ r2, decide_true, Bool.not_true, cond_false, BEq.rfl]

end Go.YtbfkbplolhniiaaGreatDoor
