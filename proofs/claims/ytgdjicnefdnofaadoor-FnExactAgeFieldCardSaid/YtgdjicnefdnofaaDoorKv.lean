/- What the functions come to. Nothing is claimed here. -/
import Derived.Test.YtgdjicnefdnofaaDoorKu
import Derived.Lib.AtoiTie
set_option linter.unusedVariables false
set_option linter.unusedSimpArgs false
set_option maxRecDepth 100000
namespace Go.YtgdjicnefdnofaaDoor
open Go Go.RowKit Go.Pv Go.Pu

/-! Decimal numerals. -/
def dd (m : Nat) : List UInt8 := if m = 0 then [] else Lib.decDigits m
theorem dd_step {m : Nat} (h : m ≠ 0) : dd m = dd (m / 10) ++ [UInt8.ofNat (48 + m % 10)] := by
  unfold dd
  rw [if_neg h]
  by_cases c : m < 10
  · rw [Lib.decDigits, dif_pos c, if_pos (by omega), Nat.mod_eq_of_lt c]; rfl
  · rw [Lib.decDigits, dif_neg c, if_neg (by omega)]
theorem dd_len (d : Nat) : ∀ m : Nat, m < 10 ^ d → (dd m).length ≤ d := by
  induction d with
  | zero => intro m h; have : m = 0 := by simpa using h
            subst this; simp [dd]
  | succ d ih =>
    intro m h
    by_cases h0 : m = 0
    · subst h0; simp [dd]
    · rw [dd_step h0, List.length_append]
      have := ih (m / 10) (by rw [Nat.pow_succ] at h; omega)
      simp; omega
theorem wrap_digit : ∀ j : Fin 10, bytesOf [IntKind.wrap .u8 (IntKind.wrap .i64 (48 + ((j.val : Nat) : Int)))] = [UInt8.ofNat (48 + j.val)] := by decide +kernel
theorem digit_of (m : Nat) : bytesOf [IntKind.wrap .u8 (IntKind.wrap .i64 (48 + ((m % 10 : Nat) : Int)))] = [UInt8.ofNat (48 + m % 10)] := wrap_digit ⟨m % 10, by omega⟩
theorem S_FormatInt_loop {k : Nat} {a0 : Int} : ∀ (n d : Nat) (x : Int) (s : List UInt8), d < n → x.natAbs < 10 ^ d → -9223372036854775808 ≤ x → x ≤ 9223372036854775807 → s.length + d ≤ 100 →
    S_FormatInt_b0 k n a0 s x = some (dd x.natAbs ++ s) := by
  intro n
  induction n with
  | zero => intro d x s h; omega
  | succ n ih =>
    intro d x s hd hx h1 h2 hs
    rw [S_FormatInt_b0]
    by_cases h0 : x = 0
    · subst h0; simp [dd]
    · have hm : x.natAbs ≠ 0 := by omega
      have hne : (x != 0) = true := by simpa using h0
      obtain ⟨d, rfl⟩ : ∃ d', d = d' + 1 := by
        cases d with
        | zero => simp at hx; omega
        | succ d => exact ⟨d, rfl⟩
      have e1 : md x 10 = some (x.tmod 10) := by simp [md]
      have e2 : dv x 10 = some (x.tdiv 10) := by simp [dv]
      have e3 : S_FormatInt_c16 k a0 s x (x.tmod 10) (decide (x.tmod 10 < 0)) = some ((x.natAbs % 10 : Nat) : Int) := by
        rw [S_FormatInt_c16, bif_dec]
        have ht : x.tmod 10 = if 0 ≤ x then ((x.natAbs % 10 : Nat) : Int) else -((x.natAbs % 10 : Nat) : Int) := by
          split
          · rw [Int.tmod_eq_emod_of_nonneg (by omega)]; omega
          · have : x = -(x.natAbs : Int) := by omega
            rw [this, Int.neg_tmod, Int.tmod_eq_emod_of_nonneg (by omega)]
            simp
        rw [ht]
        split
        · rw [if_neg (by omega)]
        · by_cases hz : x.natAbs % 10 = 0
          · rw [hz]; simp
          · rw [if_pos (by omega), wrap_id (by omega) (by omega)]; simp
      have e4 : (x.tdiv 10).natAbs = x.natAbs / 10 := by rw [Int.natAbs_tdiv]; rfl
      have hb : -9223372036854775808 ≤ x.tdiv 10 ∧ x.tdiv 10 ≤ 9223372036854775807 := by omega
      rw [hne, cond_true, S_FormatInt_b1, e1, Option.bind_some, e3, Option.bind_some, digit_of, cat_ok (by simp; omega), Option.bind_some, Option.bind_some, e2, Option.bind_some, wrap_id (by omega) (by omega),
        ih d _ _ (by omega) (by rw [e4]; rw [Nat.pow_succ] at hx; omega) hb.1 hb.2 (by simp; omega), e4, dd_step hm]
      simp
theorem itoa_dd (n : Int) : Lib.itoa n = if n = 0 then [48] else if n < 0 then 45 :: dd n.natAbs else dd n.natAbs := by
  unfold Lib.itoa
  by_cases h0 : n = 0
  · subst h0; rw [if_neg (by omega), if_pos rfl, Lib.decDigits]; rfl
  · rw [if_neg h0]
    have hm : ¬ n.natAbs = 0 := by omega
    unfold dd
    rw [if_neg hm]
    by_cases h : n < 0
    · rw [if_pos h, if_pos h]
    · rw [if_neg h, if_neg h, show n.toNat = n.natAbs by omega]
theorem pow19 : (10 : Nat) ^ 19 = 10000000000000000000 := by decide
theorem S_FormatInt_eq {k : Nat} (hk : 1073741824 ≤ k) (n : Int) (h1 : -9223372036854775808 ≤ n) (h2 : n ≤ 9223372036854775807) : S_FormatInt k n = some (Lib.itoa n) := by
  have hp := pow19
  have hl := dd_len 19 n.natAbs (by omega)
  rw [S_FormatInt, itoa_dd]
  by_cases h0 : n = 0
  · subst h0; rfl
  · have hne : (n == 0) = false := by simpa using h0
    rw [hne, cond_false, S_FormatInt_loop k 19 n [] (by omega) (by omega) h1 h2 (by simp), Option.bind_some, List.append_nil, if_neg h0, bif_dec]
    by_cases h : n < 0
    · rw [if_pos h, if_pos h, cat_ok (by simp; omega)]; rfl
    · rw [if_neg h, if_neg h]
theorem I_FormatInt_eq {k : Nat} (n : Int) (h1 : -9223372036854775808 ≤ n) (h2 : n ≤ 9223372036854775807) : I_FormatInt k n = some (Lib.itoa n) := by
  have hd : (decide (-9223372036854775808 ≤ n) && decide (n ≤ 9223372036854775807)) = true := by rw [Bool.and_eq_true]; exact ⟨decide_eq_true h1, decide_eq_true h2⟩
  rw [I_FormatInt, strconv_Itoa, itoaO, hd]; rfl
theorem itoa_len {n : Int} (h1 : -9223372036854775808 ≤ n) (h2 : n ≤ 9223372036854775807) : (Lib.itoa n).length ≤ 20 := by
  have hp := pow19
  have hl := dd_len 19 n.natAbs (by omega)
  rw [itoa_dd]
  split
  · simp
  · split
    · simp; omega
    · omega
/-! Tokens. -/
def mk15 : List UInt8 := [33, 35, 36, 37, 38, 39, 42, 43, 45, 46, 94, 95, 124, 126, 96]
def mk14 : List UInt8 := [33, 35, 36, 37, 38, 39, 42, 43, 45, 46, 94, 95, 124, 126]
def letB (c : UInt8) : Bool := (decide (97 ≤ c.toNat) && decide (c.toNat ≤ 122)) || (decide (65 ≤ c.toNat) && decide (c.toNat ≤ 90)) || (decide (48 ≤ c.toNat) && decide (c.toNat ≤ 57))
def mkP (c : UInt8) (i : Nat) : Bool := match mk15[i]? with | some m => c == m | none => false
def tokB (c : UInt8) : Bool := (firstI (mkP c) 15 0).isSome || letB c
theorem tok_tab : ∀ j : Fin 256, tokB (UInt8.ofNat j.val) = (letB (UInt8.ofNat j.val) || decide (Lib.indexByte mk14 (UInt8.ofNat j.val) ≥ 0) || (UInt8.ofNat j.val == 96)) := by decide +kernel
theorem tok_eq (c : UInt8) : tokB c = (letB c || decide (Lib.indexByte mk14 c ≥ 0) || (c == 96)) := by
  have := tok_tab ⟨c.toNat, UInt8.toNat_lt c⟩
  simpa using this
def ntP (x : List UInt8) (i : Nat) : Bool := match x[i]? with | some c => !tokB c | none => false
def inR (n a b : Int) : Bool := decide (a ≤ n) && decide (n ≤ b)
theorem S_l1In_eq {k : Nat} (n a b : Int) : S_l1In k n a b = some (inR n a b) := by
  rw [S_l1In, bif_dec, inR]
  by_cases h : a ≤ n <;> simp [h]
theorem I_inRange_eq {k : Nat} (n a b : Int) : I_inRange k n a b = some (inR n a b) := by
  rw [I_inRange, bif_dec, inR]
  by_cases h : a ≤ n <;> simp [h]
def isTok (x : List UInt8) : Bool := (firstI (ntP x) x.length 0).isNone && inR (x.length : Int) 1 40
/-! Decimal numerals that are read. -/
def pInt (s : List UInt8) : Int × Bool :=
  match (if s.length ≤ 13 then Lib.decNat s else none) with
  | some m => bif decide ((m : Int) ≤ 1000000000000) && (Lib.itoa (m : Int) == s) then ((m : Int), true) else (0, false)
  | none => (0, false)
theorem decFrom_lt : ∀ (l : List UInt8) (acc n : Nat), Lib.decFrom acc l = some n → n < (acc + 1) * 10 ^ l.length
  | [], acc, n, h => by
    simp only [Lib.decFrom, Option.some.injEq] at h
    subst h; simp
  | b :: r, acc, n, h => by
    simp only [Lib.decFrom] at h
    split at h
    · rename_i d hd
      have hd9 : d ≤ 9 := by
        unfold Lib.digitVal at hd
        split at hd
        · cases hd; omega
        · cases hd
      have := decFrom_lt r _ _ h
      rw [List.length_cons, Nat.pow_succ]
      calc n < (acc * 10 + d + 1) * 10 ^ r.length := this
        _ ≤ ((acc + 1) * 10) * 10 ^ r.length := Nat.mul_le_mul_right _ (by omega)
        _ = (acc + 1) * (10 ^ r.length * 10) := by rw [Nat.mul_assoc, Nat.mul_comm 10]
    · cases h
theorem decNat_lt {s : List UInt8} {n : Nat} (h : Lib.decNat s = some n) : n < 10 ^ s.length := by
  unfold Lib.decNat at h
  split at h
  · cases h
  · have := decFrom_lt s 0 n h
    simpa using this
theorem itoa_head (m : Nat) : ∃ c r, Lib.itoa (m : Int) = c :: r ∧ 48 ≤ c.toNat ∧ c.toNat ≤ 57 := by
  rw [itoa_dd]
  have hd : ∀ (f m : Nat), m ≤ f → m ≠ 0 → ∃ c r, dd m = c :: r ∧ 48 ≤ c.toNat ∧ c.toNat ≤ 57 := by
    intro f
    induction f with
    | zero => intro m h1 h2; omega
    | succ f ih =>
      intro m h1 h2
      rw [dd_step h2]
      by_cases h0 : m / 10 = 0
      · rw [h0]
        refine ⟨UInt8.ofNat (48 + m % 10), [], by simp [dd], ?_⟩
        have : (UInt8.ofNat (48 + m % 10)).toNat = 48 + m % 10 := by simp [UInt8.toNat_ofNat]; omega
        rw [this]; omega
      · obtain ⟨c, r, e, b1, b2⟩ := ih (m / 10) (by omega) h0
        exact ⟨c, r ++ [UInt8.ofNat (48 + m % 10)], by rw [e]; rfl, b1, b2⟩
  split
  · exact ⟨48, [], rfl, by decide, by decide⟩
  · rename_i h0
    rw [if_neg (by omega)]
    exact hd m m (Nat.le_refl _) (by omega)
theorem itoa_ne_sign (m : Nat) {c : UInt8} (r : List UInt8) (h : c.toNat < 48) : Lib.itoa (m : Int) ≠ c :: r := by
  obtain ⟨c', r', e, h1, _⟩ := itoa_head m
  rw [e]
  intro he
  simp only [List.cons.injEq] at he
  rw [he.1] at h1; omega
theorem decNat_sign {c : UInt8} (r : List UInt8) (h : c.toNat < 48) : Lib.decNat (c :: r) = none := by
  simp [Lib.decNat, Lib.decFrom, Lib.digitVal, show ¬ 48 ≤ c.toNat by omega]
theorem I_ParseInt_eq {k : Nat} (s : List UInt8) : I_ParseInt k s = some (pInt s) := by
  rw [I_ParseInt, bif_dec]
  unfold pInt
  by_cases h13 : s.length ≤ 13
  case neg => rw [if_pos (by omega), if_neg h13]
  rw [if_neg (by omega), if_pos h13]
  have ha : Lib.atoiAll s = Lib.NumEnd.ofOption (Lib.atoi s) := Lib.atoiAll_short s (by omega)
  rw [strconv_Atoi, atoiO, decide_eq_true (by omega), cond_true, ha]
  have good : ∀ m : Nat, m < 10 ^ 13 → (((bif (false : Bool) then some ((0 : Int), false) else ((I_inRange k (m : Int) (0 : Int) (1000000000000 : Int)).bind fun w2 =>
    (bif (!w2) then some ((0 : Int), false) else ((I_FormatInt k (m : Int)).bind fun w3 =>
    (bif (!(w3 == s)) then some ((0 : Int), false) else some ((m : Int), true))))))) : Option (Int × Bool)) = some (bif decide ((m : Int) ≤ 1000000000000) && (Lib.itoa (m : Int) == s) then ((m : Int), true) else (0, false)) := by
    intro m hm
    have h10 : (10 : Nat) ^ 13 = 10000000000000 := by decide
    rw [h10] at hm
    rw [cond_false, I_inRange_eq, Option.bind_some, I_FormatInt_eq _ (by omega) (by omega), Option.bind_some]
    have : inR (m : Int) 0 1000000000000 = decide ((m : Int) ≤ 1000000000000) := by unfold inR; rw [decide_eq_true (by omega), Bool.true_and]
    rw [this]
    cases decide ((m : Int) ≤ 1000000000000) <;> cases (Lib.itoa (m : Int) == s) <;> rfl
  have p13 : ∀ {l : List UInt8} {m : Nat}, Lib.decNat l = some m → l.length ≤ 13 → m < 10 ^ 13 := fun h hl => Nat.lt_of_lt_of_le (decNat_lt h) (Nat.pow_le_pow_right (by decide) hl)
  cases s with
  | nil => rfl
  | cons b r =>
    simp only [Lib.atoi]
    by_cases h45 : (b == 45) = true
    · rw [if_pos h45]
      have hb : b = 45 := by simpa using h45
      subst hb
      rw [decNat_sign r (by decide)]
      cases hd : Lib.decNat r with
      | none => rfl
      | some m =>
        have hm := p13 hd (by simp at h13; omega)
        have h10 : (10 : Nat) ^ 13 = 10000000000000 := by decide
        rw [h10] at hm
        simp only [Option.map_some, Lib.NumEnd.ofOption, Option.bind_some, cond_false]
        rw [I_inRange_eq, Option.bind_some]
        by_cases h0 : m = 0
        · subst h0
          have : inR (-(0 : Nat) : Int) 0 1000000000000 = true := by decide
          rw [this, Bool.not_true, cond_false, I_FormatInt_eq _ (by omega) (by omega), Option.bind_some]
          have : (Lib.itoa (-((0 : Nat) : Int)) == (45 :: r)) = false := beq_ne (itoa_ne_sign 0 r (by decide))
          rw [this]; rfl
        · have : inR (-(m : Int)) 0 1000000000000 = false := by unfold inR; rw [decide_eq_false (by omega)]; rfl
          rw [this]; rfl
    · rw [if_neg h45]
      by_cases h43 : (b == 43) = true
      · rw [if_pos h43]
        have hb : b = 43 := by simpa using h43
        subst hb
        rw [decNat_sign r (by decide)]
        cases hd : Lib.decNat r with
        | none => rfl
        | some m =>
          have hm := p13 hd (by simp at h13; omega)
          have := good m hm
          simp only [Option.map_some, Lib.NumEnd.ofOption, Option.bind_some]
          rw [this]
          have : (Lib.itoa (m : Int) == (43 :: r)) = false := beq_ne (itoa_ne_sign m r (by decide))
          rw [this, Bool.and_false]; rfl
      · rw [if_neg h43]
        cases hd : Lib.decNat (b :: r) with
        | none => rfl
        | some m =>
          have := good m (p13 hd h13)
          simp only [Option.map_some, Lib.NumEnd.ofOption, Option.bind_some]
          exact this
def notDig (s : List UInt8) (i : Nat) : Bool := match s[i]? with | some c => !inR (c.toNat : Int) 48 57 | none => false
theorem S_ParseInt_loop {k : Nat} (s : List UInt8) (h : s.length ≤ 13) : ∀ (n i acc : Nat), s.length - i < n → i ≤ s.length → acc < 10 ^ i → S_ParseInt_b0 k n s (acc : Int) (i : Int) = some (match Lib.decFrom acc (s.drop i) with | some m => .nrm (m : Int) | none => .oth (0, false)) := by
  intro n
  induction n with
  | zero => intro i acc h1; omega
  | succ n ih =>
    intro i acc h1 h2 h3
    rw [S_ParseInt_b0, bif_dec]
    by_cases hi : i < s.length
    · rw [if_pos (by omega), idx_nat hi, Option.bind_some]
      have hb := UInt8.toNat_lt s[i]
      rw [wrap_id (by omega) (by omega), S_l1In_eq, Option.bind_some, Option.bind_some, List.drop_eq_getElem_cons hi, Lib.decFrom]
      by_cases hd : 48 ≤ s[i].toNat ∧ s[i].toNat ≤ 57
      · have e1 : inR (s[i].toNat : Int) 48 57 = true := by unfold inR; rw [decide_eq_true (by omega), decide_eq_true (by omega)]; rfl
        have e2 : Lib.digitVal s[i] = some (s[i].toNat - 48) := by unfold Lib.digitVal; rw [if_pos hd]
        have hp : (10 : Nat) ^ i ≤ 10 ^ 12 := Nat.pow_le_pow_right (by decide) (by omega)
        have h10 : (10 : Nat) ^ 12 = 1000000000000 := by decide
        have e3 : IntKind.wrap .u8 ((s[i].toNat : Int) - 48) = ((s[i].toNat - 48 : Nat) : Int) := by
          have := IntWalk.u8_in ((s[i].toNat : Int) - 48) ⟨by omega, by omega⟩
          rw [this]; omega
        have e4 : IntKind.wrap .i64 ((IntKind.wrap .i64 ((10 : Int) * (acc : Int))) + (IntKind.wrap .i64 (IntKind.wrap .u8 ((s[i].toNat : Int) - 48)))) = ((acc * 10 + (s[i].toNat - 48) : Nat) : Int) := by
          rw [e3, wrap_id (n := (10 : Int) * (acc : Int)) (by omega) (by omega), wrap_id (n := ((s[i].toNat - 48 : Nat) : Int)) (by omega) (by omega), wrap_id (by omega) (by omega)]; omega
        rw [e1, Bool.not_true, cond_false, e2, e4, wrap_succ (by omega), ih (i + 1) _ (by omega) (by omega) (by rw [Nat.pow_succ]; omega)]
      · have e1 : inR (s[i].toNat : Int) 48 57 = false := by
          unfold inR
          by_cases h48 : 48 ≤ s[i].toNat
          · rw [decide_eq_false (p := (s[i].toNat : Int) ≤ 57) (by omega), Bool.and_false]
          · rw [decide_eq_false (p := 48 ≤ (s[i].toNat : Int)) (by omega), Bool.false_and]
        have e2 : Lib.digitVal s[i] = none := by unfold Lib.digitVal; rw [if_neg hd]
        rw [e1, e2]; rfl
    · rw [if_neg (by omega), List.drop_eq_nil_of_le (by omega)]; rfl
theorem S_ParseInt_eq {k : Nat} (hk : 1073741824 ≤ k) (s : List UInt8) : S_ParseInt k s = some (pInt s) := by
  rw [S_ParseInt, S_l1In_eq, Option.bind_some]
  unfold pInt
  by_cases h13 : s.length ≤ 13
  case neg =>
    have : inR (s.length : Int) 1 13 = false := by unfold inR; rw [decide_eq_false (p := (s.length : Int) ≤ 13) (by omega), Bool.and_false]
    rw [this, if_neg h13]; rfl
  rw [if_pos h13]
  cases s with
  | nil => rfl
  | cons b r =>
    have : inR ((b :: r).length : Int) 1 13 = true := by unfold inR; rw [decide_eq_true (by simp; omega), decide_eq_true (by omega)]; rfl
    have hl := S_ParseInt_loop (k := k) (b :: r) h13 k 0 0 (by simp; simp at h13; omega) (by simp) (by simp)
    have hl' : S_ParseInt_b0 k k (b :: r) 0 0 = some (match Lib.decFrom 0 (b :: r) with | some m => .nrm (m : Int) | none => .oth (0, false)) := hl
    have hn : Lib.decNat (b :: r) = Lib.decFrom 0 (b :: r) := rfl
    rw [this, Bool.not_true, cond_false, hl', Option.bind_some, hn]
    cases hd : Lib.decFrom 0 (b :: r) with
    | none => rfl
    | some m =>
      have hm : m < 10 ^ 13 := Nat.lt_of_lt_of_le (decNat_lt (hn.trans hd)) (Nat.pow_le_pow_right (by decide) h13)
      have h10 : (10 : Nat) ^ 13 = 10000000000000 := by decide
      rw [h10] at hm
      simp only [oc, bif_dec]
      by_cases hg : (m : Int) ≤ 1000000000000
      · rw [if_neg (by omega), S_FormatInt_eq hk _ (by omega) (by omega), Option.bind_some, decide_eq_true hg, Bool.true_and]
        cases (Lib.itoa (m : Int) == (b :: r)) <;> rfl
      · rw [if_pos (by omega), decide_eq_false hg, Bool.false_and]; rfl
/-! Text without blanks around it. -/
def blank (c : UInt8) : Bool := c == 32 || c == 9
def rtrim (x : List UInt8) : List UInt8 := (x.reverse.dropWhile blank).reverse
def trimT (x : List UInt8) : List UInt8 := rtrim (x.dropWhile blank)
theorem rtrim_cons (e : UInt8) (l : List UInt8) : rtrim (e :: l) = if rtrim l = [] then (if blank e then [] else [e]) else e :: rtrim l := by
  unfold rtrim
  rw [List.reverse_cons, List.dropWhile_append]
  cases h : l.reverse.dropWhile blank with
  | nil => cases hb : blank e <;> simp [List.dropWhile_cons, hb]
  | cons a m => simp
theorem rtrim_snoc (l : List UInt8) (c : UInt8) : rtrim (l ++ [c]) = if blank c then rtrim l else l ++ [c] := by
  unfold rtrim
  rw [List.reverse_append]
  cases hb : blank c <;> simp [List.dropWhile_cons, hb]
theorem trim_comm : ∀ x : List UInt8, rtrim (x.dropWhile blank) = (rtrim x).dropWhile blank
  | [] => rfl
  | e :: l => by
    have ih := trim_comm l
    rw [rtrim_cons, List.dropWhile_cons]
    cases hb : blank e with
    | true =>
      by_cases h : rtrim l = []
      · rw [h] at ih; simp [h, ih]
      · simp [h, List.dropWhile_cons, hb, ih]
    | false =>
      rw [if_neg (by simp), rtrim_cons]
      by_cases h : rtrim l = []
      · simp [h, List.dropWhile_cons, hb]
      · simp [h, List.dropWhile_cons, hb]
theorem trimS_eq (x : List UInt8) : Lib.trimS x [32, 9] = trimT x := by
  have hc : (fun b : UInt8 => ([32, 9] : List UInt8).contains b) = blank := by
    funext b; unfold blank
    simp only [List.contains, List.elem]
    cases h1 : (b == 32) <;> cases h2 : (b == 9) <;> rfl
  unfold Lib.trimS Lib.trimLeftS Lib.trimRightS trimT
  rw [hc, trim_comm]; rfl
theorem rtrim_len (x : List UInt8) : (rtrim x).length ≤ x.length := by
  unfold rtrim
  have := (List.dropWhile_sublist blank (l := x.reverse)).length_le
  simpa using this
theorem trimT_len (x : List UInt8) : (trimT x).length ≤ x.length := by
  have h1 := (List.dropWhile_sublist blank (l := x)).length_le
  have h2 := rtrim_len (x.dropWhile blank)
  unfold trimT; omega
/-! Text in small letters. -/
def lowB (c : UInt8) : UInt8 := bif decide (65 ≤ c.toNat) && decide (c.toNat ≤ 90) then c + 32 else c
def lowT (s : List UInt8) : List UInt8 := s.map lowB
theorem lowB_add : ∀ j : Fin 256, (65 ≤ j.val ∧ j.val ≤ 90) → IntKind.wrap .u8 ((j.val : Int) + 32) = (((UInt8.ofNat j.val) + 32).toNat : Int) := by decide +kernel
theorem low_wrap (c : UInt8) (h : 65 ≤ c.toNat ∧ c.toNat ≤ 90) : IntKind.wrap .u8 ((c.toNat : Int) + 32) = ((c + 32).toNat : Int) := by
  have := lowB_add ⟨c.toNat, UInt8.toNat_lt c⟩ h
  simpa using this
theorem bytes_ints (s : List UInt8) : bytesOf (intsOf s) = s := by
  unfold bytesOf intsOf
  rw [List.map_map]
  conv => rhs; rw [← List.map_id s]
  refine List.map_congr_left fun c _ => ?_
  simp
theorem ints_len (s : List UInt8) : (intsOf s).length = s.length := by unfold intsOf; simp
theorem ints_idx {s : List UInt8} {i : Nat} (h : i < s.length) : idx (intsOf s) (i : Int) = some (s[i].toNat : Int) := by
  rw [idx_nat (by rw [ints_len]; exact h)]; simp [intsOf]
theorem ints_set (s : List UInt8) (i : Nat) (c : UInt8) : (intsOf s).set i (c.toNat : Int) = intsOf (s.set i c) := by
  unfold intsOf; rw [List.map_set]
theorem low_loop {L : Nat} {F : Nat → Int → List Int → Option (List Int)} (T : ∀ n (i : Nat) (s : List UInt8) (h : i < s.length), s.length = L → F (n + 1) (i : Int) (intsOf s) = F n ((i + 1 : Nat) : Int) (intsOf (s.set i (lowB s[i]))))
    (E : ∀ n (i : Nat) (s : List UInt8), s.length ≤ i → s.length = L → F (n + 1) (i : Int) (intsOf s) = some (intsOf s)) : ∀ (n i : Nat) (s : List UInt8), i ≤ s.length → s.length - i < n → s.length = L → F n (i : Int) (intsOf s) = some (intsOf (s.take i ++ (s.drop i).map lowB)) := by
  intro n
  induction n with
  | zero => intro i s _ h; omega
  | succ n ih =>
    intro i s hi hn hs
    by_cases h : i < s.length
    · rw [T n i s h hs, ih (i + 1) _ (by simp; omega) (by simp; omega) (by simpa using hs)]
      congr 2
      rw [List.drop_eq_getElem_cons h, List.map_cons]
      have e1 : (s.set i (lowB s[i])).take (i + 1) = s.take i ++ [lowB s[i]] := by
        apply List.ext_getElem?
        intro j
        by_cases hj : j < i
        · rw [List.getElem?_take, if_pos (by omega), List.getElem?_set_ne (by omega), List.getElem?_append_left (by simp; omega), List.getElem?_take, if_pos hj]
        · by_cases hj2 : j = i
          · subst hj2
            rw [List.getElem?_take, if_pos (by omega), List.getElem?_set_self h, List.getElem?_append_right (by simp; omega)]
            simp [Nat.min_eq_left (Nat.le_of_lt h)]
          · rw [List.getElem?_take, if_neg (by omega), List.getElem?_eq_none (by simp; omega)]
      have e2 : (s.set i (lowB s[i])).drop (i + 1) = s.drop (i + 1) := by
        apply List.ext_getElem?
        intro j
        rw [List.getElem?_drop, List.getElem?_drop, List.getElem?_set_ne (by omega)]
      rw [e1, e2, List.append_assoc]; rfl
    · rw [E n i s (by omega) hs, List.drop_of_length_le (by omega), List.take_of_length_le (by omega)]; simp
theorem lowT_len (s : List UInt8) : (lowT s).length = s.length := by unfold lowT; simp
theorem lowB_star : ∀ j : Fin 256, (lowB (UInt8.ofNat j.val) = 42) → UInt8.ofNat j.val = 42 := by decide +kernel
theorem lowT_star (s : List UInt8) : (lowT s == [42]) = (s == [42]) := by
  by_cases h : s = [42]
  · subst h; rfl
  · have h2 : ¬ lowT s = [42] := fun e => by
      cases s with
      | nil => cases e
      | cons c l =>
        cases l with
        | cons d l => simp [lowT] at e
        | nil =>
          simp [lowT] at e
          have := lowB_star ⟨c.toNat, UInt8.toNat_lt c⟩ (by simpa using e)
          simp at this
          exact h (by rw [this])
    rw [beq_eq_false_iff_ne.2 h2, beq_eq_false_iff_ne.2 h]
/-! Fields that are right. -/
def badV (c : UInt8) : Bool := !inR (c.toNat : Int) 32 126 && c != 9
def bvP (x : List UInt8) (i : Nat) : Bool := match x[i]? with | some c => badV c | none => false
def valOK (x : List UInt8) : Bool := (firstI (bvP x) x.length 0).isNone && decide ((x.length : Int) ≤ 200) && (trimT x == x)
def nameOK (x : List UInt8) : Bool := isTok x && (lowT x == x)
def bfP (l : List IField) (i : Nat) : Bool := match l[i]? with | some e => !nameOK e.Name || !valOK e.Value | none => false
def areF (l : List IField) : Bool := (firstI (bfP l) l.length 0).isNone && decide ((l.length : Int) ≤ 24)
theorem u8_ne9 (c : UInt8) : ((UInt8.toNat c : Int) != (9 : Int)) = (c != 9) := by
  have := u8_eq c 9
  unfold bne
  rw [← this]; rfl
def shortF (l : List IField) : Prop := ∀ e ∈ l, e.Name.length < 1073741824 ∧ e.Value.length < 1073741824
/-! Lists joined. -/
def joinT (l : List (List UInt8)) : List UInt8 := Lib.join l [44, 32]
theorem joinT_len (l : List (List UInt8)) : (joinT l).length ≤ 2 * l.length + Lib.lens l := by
  cases l with
  | nil => simp [joinT, Lib.join_nil]
  | cons x r => unfold joinT; rw [Lib.join_length]; simp; omega
theorem I_JoinList_eq {k : Nat} (l : List (List UInt8)) (h : 2 * l.length + Lib.lens l < 1073741824) : I_JoinList k l = some (joinT l) := by
  have hl := joinT_len l
  have hd : (decide (l.length ≤ 140737488355328) && decide ((Lib.join l [44, 32]).length ≤ 140737488355328)) = true := by
    rw [Bool.and_eq_true]; exact ⟨decide_eq_true (by omega), decide_eq_true (by unfold joinT at hl; omega)⟩
  rw [I_JoinList, strings_Join, joinO, hd]; rfl
theorem S_JoinList_loop {k : Nat} {x : List UInt8} {r : List (List UInt8)} (h : 2 * r.length + Lib.lens (x :: r) < 1073741824) : ∀ (n j : Nat), j ≤ r.length → r.length - j < n →
    S_JoinList_b0 k n (x :: r) (x ++ Lib.joinTail [44, 32] (r.take j)) ((j + 1 : Nat) : Int) = some (x ++ Lib.joinTail [44, 32] r) := by
  have hx : Lib.lens (x :: r) = x.length + Lib.lens r := rfl
  intro n
  induction n with
  | zero => intro j _ h; omega
  | succ n ih =>
    intro j hj hn
    rw [S_JoinList_b0, bif_dec]
    by_cases c : j < r.length
    · have hlen : ((j + 1 : Nat) : Int) < ((x :: r).length : Int) := by simp; omega
      have e1 : decide (((j + 1 : Nat) : Int) > 0) = true := decide_eq_true (by omega)
      have e2 : idx (x :: r) ((j + 1 : Nat) : Int) = some r[j] := by
        rw [idx_nat (by simp; omega)]; simp
      have b1 := Lib.joinTail_take_le [44, 32] r j
      have b2 := Lib.joinTail_length [44, 32] r
      have b3 := Lib.joinTail_take_le [44, 32] r (j + 1)
      have b4 := Lib.joinTail_take_succ [44, 32] r j r[j] (List.getElem?_eq_getElem c)
      have b5 := congrArg List.length b4
      simp only [List.length_append, List.length_cons, List.length_nil] at b2 b5
      rw [if_pos hlen, S_JoinList_b1, S_JoinList_c12, e1, cond_true, cat_ok (by simp; omega), Option.bind_some, Option.bind_some, e2, Option.bind_some, cat_ok (by simp; omega), Option.bind_some, Option.bind_some, wrap_succ (by omega)]
      have := ih (j + 1) (by omega) (by omega)
      rw [b4] at this
      rw [← this]
      congr 1
      simp
    · have hlen : ¬ ((j + 1 : Nat) : Int) < ((x :: r).length : Int) := by simp; omega
      rw [if_neg hlen, List.take_of_length_le (by omega)]
theorem S_JoinList_eq {k : Nat} (hk : 1073741824 ≤ k) (l : List (List UInt8)) (h : 2 * l.length + Lib.lens l < 1073741824) : S_JoinList k l = some (joinT l) := by
  obtain ⟨n, rfl⟩ : ∃ n, k = n + 1 := ⟨k - 1, by omega⟩
  rw [S_JoinList, S_JoinList_b0, bif_dec]
  cases l with
  | nil => rfl
  | cons x r =>
    have hx : Lib.lens (x :: r) = x.length + Lib.lens r := rfl
    simp only [List.length_cons] at h
    have hlen : (0 : Int) < ((x :: r).length : Int) := by rw [List.length_cons]; omega
    have e2 : idx (x :: r) (0 : Int) = some x := rfl
    have := S_JoinList_loop (k := n + 1) (x := x) (r := r) (by omega) n 0 (by omega) (by omega)
    rw [List.take_zero] at this
    rw [if_pos hlen, S_JoinList_b1, S_JoinList_c12, e2]
    rw [show (decide ((0 : Int) > 0)) = false from rfl, cond_false, Option.bind_some, Option.bind_some, cat_ok (by simp; omega), Option.bind_some, Option.bind_some]
    rw [show IntKind.wrap .i64 ((0 : Int) + 1) = ((0 + 1 : Nat) : Int) from by rw [wrap_id (by omega) (by omega)]; rfl]
    have e3 : Lib.joinTail [44, 32] ([] : List (List UInt8)) = [] := rfl
    rw [e3, List.append_nil] at this
    rw [List.nil_append, this, Option.bind_some, joinT, Lib.join_cons]
/-! A field's values. -/
def valOfF (n : List UInt8) (e : IField) : List (List UInt8) := bif e.Name == n then [e.Value] else []
def valsF (l : List IField) (n : List UInt8) : List (List UInt8) := l.flatMap (valOfF n)
def fsz (l : List IField) : Nat := l.length + (l.map fun e => e.Value.length).sum
theorem valsF_len (n : List UInt8) : ∀ l : List IField, (valsF l n).length ≤ l.length
  | [] => by simp [valsF]
  | e :: l => by
    have := valsF_len n l
    unfold valsF at this ⊢
    rw [List.flatMap_cons, List.length_append]
    have h2 : (valOfF n e).length ≤ 1 := by unfold valOfF; cases (e.Name == n) <;> simp
    rw [List.length_cons]; omega
theorem valsF_lens (n : List UInt8) : ∀ l : List IField, Lib.lens (valsF l n) ≤ (l.map fun e => e.Value.length).sum
  | [] => by simp [valsF, Lib.lens]
  | e :: l => by
    have := valsF_lens n l
    unfold valsF at this ⊢
    rw [List.flatMap_cons]
    unfold valOfF at this ⊢
    cases (e.Name == n) with
    | true => simp only [cond_true, List.cons_append, List.nil_append, List.map_cons, List.sum_cons]; show e.Value.length + Lib.lens _ ≤ _; omega
    | false => simp only [cond_false, List.nil_append, List.map_cons, List.sum_cons]; omega
def getF (l : List IField) (n : List UInt8) : List UInt8 × Bool := (joinT (valsF l n), decide (((valsF l n).length : Int) > 0))
theorem getF_len (l : List IField) (n : List UInt8) : (getF l n).1.length ≤ 2 * fsz l := by
  have h1 := joinT_len (valsF l n)
  have h2 := valsF_len n l
  have h3 := valsF_lens n l
  unfold getF fsz; simp only; omega
theorem S_GetField_eq {k : Nat} (hk : 1073741824 ≤ k) (l : List IField) (n : List UInt8) (h : fsz l < 268435456) : S_GetField k l n = some (getF l n) := by
  have hl : l.length < 268435456 := by unfold fsz at h; omega
  have := fold_all (len := l.length) (g := fun j s => s ++ (l[j]?).elim [] (valOfF n)) (Inv := fun i s => s.length ≤ i) (F := fun m i s => S_GetField_b0 k m l n i s) (out := id) (fun m i s hi hI => by
    simp only [S_GetField_b0, bif_dec, lt_cast, hi, if_true, S_GetField_b1, idx_nat hi, Option.bind_some, S_GetField_c21, wrap_succ (by omega : i < 9223372036854775807), List.getElem?_eq_getElem hi, Option.elim_some, valOfF]
    cases (l[i].Name == n) with
    | true => rw [cond_true, cond_true, appn_ok (by simp; omega)]; exact ⟨rfl, by simp; omega⟩
    | false => rw [cond_false, cond_false, List.append_nil]; exact ⟨rfl, by omega⟩) (fun m i s hi => by
    simp only [S_GetField_b0, bif_dec, lt_cast]
    rw [if_neg (by omega)]; rfl) (k := k) (by omega) (s := []) (by simp)
  have h1 : S_GetField_b0 k k l n 0 [] = some (foldI (fun j s => s ++ (l[j]?).elim [] (valOfF n)) l.length 0 []) := this.1
  have h2 := valsF_len n l
  have h3 := valsF_lens n l
  have hv : foldI (fun j s => s ++ (l[j]?).elim [] (valOfF n)) l.length 0 [] = valsF l n := by
    rw [foldI_append (f := valOfF n) l.length 0 [] (by omega), List.drop_zero]; rfl
  rw [S_GetField, h1, hv, Option.bind_some, S_JoinList_eq hk _ (by unfold fsz at h; omega)]; rfl
theorem I_GetField_eq {k : Nat} (hk : 1073741824 ≤ k) (l : List IField) (n : List UInt8) (h : fsz l < 268435456) : I_GetField k l n = some (getF l n) := by
  have hl : l.length < 268435456 := by unfold fsz at h; omega
  have := fold_all (len := l.length) (g := fun j s => s ++ (l[j]?).elim [] (valOfF n)) (Inv := fun i s => s.length ≤ i) (F := fun m i s => I_GetField_b0 k m n l (l.length : Int) i s) (out := id) (fun m i s hi hI => by
    simp only [I_GetField_b0, bif_dec, lt_cast, hi, if_true, I_GetField_b1, idx_nat hi, Option.bind_some, I_GetField_c19, wrap_succ (by omega : i < 9223372036854775807), List.getElem?_eq_getElem hi, Option.elim_some, valOfF]
    cases (l[i].Name == n) with
    | true => rw [cond_true, cond_true, appn_ok (by simp; omega)]; exact ⟨rfl, by simp; omega⟩
    | false => rw [cond_false, cond_false, List.append_nil]; exact ⟨rfl, by omega⟩) (fun m i s hi => by
    simp only [I_GetField_b0, bif_dec, lt_cast]
    rw [if_neg (by omega)]; rfl) (k := k) (by omega) (s := []) (by simp)
  have h1 : I_GetField_b0 k k n l (l.length : Int) 0 [] = some (foldI (fun j s => s ++ (l[j]?).elim [] (valOfF n)) l.length 0 []) := this.1
  have h2 := valsF_len n l
  have h3 := valsF_lens n l
  have hv : foldI (fun j s => s ++ (l[j]?).elim [] (valOfF n)) l.length 0 [] = valsF l n := by
    rw [foldI_append (f := valOfF n) l.length 0 [] (by omega), List.drop_zero]; rfl
  rw [I_GetField, h1, hv, Option.bind_some, I_JoinList_eq _ (by unfold fsz at h; omega)]; rfl
def nmP (l : List IField) (n : List UInt8) (i : Nat) : Bool := match l[i]? with | some e => e.Name == n | none => false
def hasF (l : List IField) (n : List UInt8) : Bool := l.any fun e => e.Name == n
theorem firstI_any (l : List IField) (n : List UInt8) : (firstI (nmP l n) l.length 0).isSome = hasF l n := by
  unfold hasF
  cases hf : firstI (nmP l n) l.length 0 with
  | some j =>
    obtain ⟨_, h1, h2, _⟩ := firstI_some _ _ _ hf
    have hj : j < l.length := by omega
    simp only [nmP, List.getElem?_eq_getElem hj] at h2
    exact (List.any_eq_true.2 ⟨l[j], List.getElem_mem hj, h2⟩).symm
  | none =>
    have hn := firstI_none _ _ hf
    refine Eq.symm (List.any_eq_false.2 fun e he => ?_)
    obtain ⟨j, hj, rfl⟩ := List.mem_iff_getElem.1 he
    have := hn j (by omega) (by omega)
    simp only [nmP, List.getElem?_eq_getElem hj] at this
    rw [this]; simp
theorem getF_has (n : List UInt8) : ∀ l : List IField, decide (((valsF l n).length : Int) > 0) = hasF l n
  | [] => rfl
  | e :: l => by
    have ih := getF_has n l
    unfold valsF hasF at ih ⊢
    rw [List.flatMap_cons, List.any_cons, List.length_append]
    unfold valOfF at ih ⊢
    cases (e.Name == n) with
    | true => simp only [cond_true, Bool.true_or, List.length_cons, List.length_nil]; exact decide_eq_true (by omega)
    | false => simp only [cond_false, Bool.false_or, List.length_nil, Nat.zero_add]; exact ih
theorem fsz_in : ∀ (x : List LField), fsz (x.map to_LField) ≤ szL sz_LField x
  | [] => by simp [fsz, szL]
  | e :: l => by
    have := fsz_in l
    unfold fsz szL at this ⊢
    simp only [List.map_cons, List.sum_cons, List.length_cons, List.length_map] at this ⊢
    have h1 : (to_LField e).Value.length ≤ sz_LField e := by unfold sz_LField; simp only [to_LField]; omega
    omega
/-! Answers that are right. -/
def clen : List UInt8 := [99, 111, 110, 116, 101, 110, 116, 45, 108, 101, 110, 103, 116, 104]
def isResp (x : IResponse) : Bool := inR x.Code 200 599 && areF x.Fields && decide ((x.Fields.length : Int) < 24) && !hasF x.Fields clen && decide ((x.Body.length : Int) ≤ 600)
theorem short_in {x : List LField} (h : szL sz_LField x ≤ 1048576) : shortF (x.map to_LField) := by
  intro e he
  obtain ⟨y, hy, rfl⟩ := List.mem_map.1 he
  have := sz_mem (g := sz_LField) hy
  have h2 : sz_LField y ≤ 1048576 := by omega
  unfold sz_LField at h2
  simp only [to_LField]; omega
theorem resp_in {a : LResponse} (h : sz_LResponse a ≤ 1048576) : fsz (to_LResponse a).Fields ≤ 1048576 ∧ (to_LResponse a).Fields.length < 1073741824 ∧ shortF (to_LResponse a).Fields ∧ (to_LResponse a).Body.length ≤ 1048576 := by
  have h1 := fsz_in a.Fields
  unfold sz_LResponse at h
  have h2 : (to_LResponse a).Fields = a.Fields.map to_LField := rfl
  have h3 : (a.Fields.map to_LField).length ≤ fsz (a.Fields.map to_LField) := by unfold fsz; omega
  have h4 : (to_LResponse a).Body = a.Body := rfl
  rw [h2, h4]
  exact ⟨by omega, by omega, short_in (by omega), by omega⟩
def ageF (l : List IField) : Int := if 2147483648 < (pInt (getF l [97, 103, 101]).1).1 then 2147483648 else (pInt (getF l [97, 103, 101]).1).1
theorem S_AgeField_eq {k : Nat} (hk : 1073741824 ≤ k) (x : IResponse) (h : fsz x.Fields < 268435456) : S_AgeField k x = some (ageF x.Fields) := by
  rw [S_AgeField, S_l5Get, S_GetField_eq hk _ _ h, Option.bind_some, Option.bind_some, S_ParseInt_eq hk, Option.bind_some, S_Min, bif_dec]
  unfold ageF
  split <;> rfl
theorem I_AgeField_eq {k : Nat} (hk : 1073741824 ≤ k) (x : IResponse) (h : fsz x.Fields < 268435456) : I_AgeField k x = some (ageF x.Fields) := by
  rw [I_AgeField, I_GetField_eq hk _ _ h, Option.bind_some, I_ParseInt_eq, Option.bind_some]; rfl
theorem FnExactAgeField_pure {k : Nat} (hk : 1073741824 ≤ k) (a0 : LResponse) (h0 : V_LResponse a0) : L_FnExactAgeField k a0 = some true := by
  unfold L_FnExactAgeField
  rw [L_szResponse_eq hk h0 _ (by omega) (by omega), Option.bind_some, bif_dec]
  by_cases c3 : (sz_LResponse a0 : Int) ≤ 1048576
  case neg => rw [if_neg c3, if_pos (by omega)]
  have c4 : sz_LResponse a0 ≤ 1048576 := by omega
  obtain ⟨r1, r2, r3, r4⟩ := resp_in c4
  have hfs : fsz (to_LResponse a0).Fields < 268435456 := by omega
  rw [if_pos c3, if_neg (by omega)]
  simp only [L_toResponse_eq hk a0 c4, Option.bind_some, S_AgeField_eq hk _ hfs, I_AgeField_eq hk _ hfs, L_eqResponse_eq hk _ _ r2, decide_true, Bool.not_true, cond_false, bne_self_eq_false]

end Go.YtgdjicnefdnofaaDoor
