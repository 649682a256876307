/- Plain lemmas and definitions. Nothing is claimed here. -/
import Derived.Test.YtjpfnppiocloeaaGreatDoorKu
import Derived.Lib.AtoiAll
import Derived.Lib.Index
import Derived.Lib.IndexMore
import Derived.Lib.TrimByte
set_option linter.unusedVariables false
set_option linter.unusedSimpArgs false
set_option maxRecDepth 100000
namespace Go.YtjpfnppiocloeaaGreatDoor
open Go Go.RowKit Go.Pv Go.Pu
noncomputable section
def dd (m : Nat) : List UInt8 := if m = 0 then [] else Lib.decDigits m
theorem dd_step {m : Nat} (h : m ≠ 0) : dd m = dd (m / 10) ++ [UInt8.ofNat (48 + m % 10)] := by
  unfold dd
  rw [if_neg h]
  by_cases c : m < 10
  · rw [Lib.decDigits, dif_pos c, if_pos (by omega), Nat.mod_eq_of_lt c]; rfl
  · rw [Lib.decDigits, dif_neg c, if_neg (by omega)]
theorem dd_len (d : Nat) : ∀ m : Nat, m < 10 ^ d → (dd m).length ≤ d := by
  induction d with
  | zero => intro m h; have : m = 0 := by simpa using h
            subst this; simp [dd]
  | succ d ih =>
    intro m h
    by_cases h0 : m = 0
    · subst h0; simp [dd]
    · rw [dd_step h0, List.length_append]
      have := ih (m / 10) (by rw [Nat.pow_succ] at h; omega)
      simp; omega
theorem wrap_digit : ∀ j : Fin 10, bytesOf [IntKind.wrap .u8 (IntKind.wrap .i64 (48 + ((j.val : Nat) : Int)))] = [UInt8.ofNat (48 + j.val)] := by decide +kernel
theorem digit_of (m : Nat) : bytesOf [IntKind.wrap .u8 (IntKind.wrap .i64 (48 + ((m % 10 : Nat) : Int)))] = [UInt8.ofNat (48 + m % 10)] := wrap_digit ⟨m % 10, by omega⟩
theorem S_FormatInt_loop {k : Nat} {a0 : Int} : ∀ (n d : Nat) (x : Int) (s : List UInt8), d < n → x.natAbs < 10 ^ d → -9223372036854775808 ≤ x → x ≤ 9223372036854775807 → s.length + d ≤ 100 →
    S_FormatInt_b0 k n a0 s x = some (dd x.natAbs ++ s) := by
  intro n
  induction n with
  | zero => intro d x s h; omega
  | succ n ih =>
    intro d x s hd hx h1 h2 hs
    rw [S_FormatInt_b0]
    by_cases h0 : x = 0
    · subst h0; simp [dd]
    · have hm : x.natAbs ≠ 0 := by omega
      have hne : (x != 0) = true := by simpa using h0
      obtain ⟨d, rfl⟩ : ∃ d', d = d' + 1 := by
        cases d with
        | zero => simp at hx; omega
        | succ d => exact ⟨d, rfl⟩
      have e1 : md x 10 = some (x.tmod 10) := by simp [md]
      have e2 : dv x 10 = some (x.tdiv 10) := by simp [dv]
      have e3 : S_FormatInt_c16 k a0 s x (x.tmod 10) (decide (x.tmod 10 < 0)) = some ((x.natAbs % 10 : Nat) : Int) := by
        rw [S_FormatInt_c16, bif_dec]
        have ht : x.tmod 10 = if 0 ≤ x then ((x.natAbs % 10 : Nat) : Int) else -((x.natAbs % 10 : Nat) : Int) := by
          split
          · rw [Int.tmod_eq_emod_of_nonneg (by omega)]; omega
          · have : x = -(x.natAbs : Int) := by omega
            rw [this, Int.neg_tmod, Int.tmod_eq_emod_of_nonneg (by omega)]
            simp
        rw [ht]
        split
        · rw [if_neg (by omega)]
        · by_cases hz : x.natAbs % 10 = 0
          · rw [hz]; simp
          · rw [if_pos (by omega), wrap_id (by omega) (by omega)]; simp
      have e4 : (x.tdiv 10).natAbs = x.natAbs / 10 := by rw [Int.natAbs_tdiv]; rfl
      have hb : -9223372036854775808 ≤ x.tdiv 10 ∧ x.tdiv 10 ≤ 9223372036854775807 := by omega
      rw [hne, cond_true, S_FormatInt_b1, e1, Option.bind_some, e3, Option.bind_some, digit_of, cat_ok (by simp; omega), Option.bind_some, Option.bind_some, e2, Option.bind_some, wrap_id (by omega) (by omega),
        ih d _ _ (by omega) (by rw [e4]; rw [Nat.pow_succ] at hx; omega) hb.1 hb.2 (by simp; omega), e4, dd_step hm]
      simp
theorem itoa_dd (n : Int) : Lib.itoa n = if n = 0 then [48] else if n < 0 then 45 :: dd n.natAbs else dd n.natAbs := by
  unfold Lib.itoa
  by_cases h0 : n = 0
  · subst h0; rw [if_neg (by omega), if_pos rfl, Lib.decDigits]; rfl
  · rw [if_neg h0]
    have hm : ¬ n.natAbs = 0 := by omega
    unfold dd
    rw [if_neg hm]
    by_cases h : n < 0
    · rw [if_pos h, if_pos h]
    · rw [if_neg h, if_neg h, show n.toNat = n.natAbs by omega]
theorem pow19 : (10 : Nat) ^ 19 = 10000000000000000000 := by decide
theorem S_FormatInt_eq {k : Nat} (hk : 1073741824 ≤ k) (n : Int) (h1 : -9223372036854775808 ≤ n) (h2 : n ≤ 9223372036854775807) : S_FormatInt k n = some (Lib.itoa n) := by
  have hp := pow19
  have hl := dd_len 19 n.natAbs (by omega)
  rw [S_FormatInt, itoa_dd]
  by_cases h0 : n = 0
  · subst h0; rfl
  · have hne : (n == 0) = false := by simpa using h0
    rw [hne, cond_false, S_FormatInt_loop k 19 n [] (by omega) (by omega) h1 h2 (by simp), Option.bind_some, List.append_nil, if_neg h0, bif_dec]
    by_cases h : n < 0
    · rw [if_pos h, if_pos h, cat_ok (by simp; omega)]; rfl
    · rw [if_neg h, if_neg h]
theorem I_FormatInt_eq {k : Nat} (n : Int) (h1 : -9223372036854775808 ≤ n) (h2 : n ≤ 9223372036854775807) : I_FormatInt k n = some (Lib.itoa n) := by
  have hd : (decide (-9223372036854775808 ≤ n) && decide (n ≤ 9223372036854775807)) = true := by rw [Bool.and_eq_true]; exact ⟨decide_eq_true h1, decide_eq_true h2⟩
  rw [I_FormatInt, strconv_Itoa, itoaO, hd]; rfl
def inR (n a b : Int) : Bool := decide (a ≤ n) && decide (n ≤ b)
theorem S_l1In_eq {k : Nat} (n a b : Int) : S_l1In k n a b = some (inR n a b) := by
  rw [S_l1In, bif_dec, inR]
  by_cases h : a ≤ n <;> simp [h]
theorem I_inRange_eq {k : Nat} (n a b : Int) : I_inRange k n a b = some (inR n a b) := by
  rw [I_inRange, bif_dec, inR]
  by_cases h : a ≤ n <;> simp [h]
def leapN (y : Nat) : Bool := y % 4 == 0 && (y % 100 != 0 || y % 400 == 0)
def mdN (y m : Nat) : Nat := if m = 2 then (if leapN y then 29 else 28) else if m = 4 ∨ m = 6 ∨ m = 9 ∨ m = 11 then 30 else 31
def ydN (y : Nat) : Nat := if leapN y then 366 else 365
def ysN : Nat → Nat
  | 0 => 0
  | n + 1 => ysN n + ydN (1970 + n)
def msN (y : Nat) : Nat → Nat
  | 0 => 0
  | n + 1 => msN y n + mdN y (n + 1)
theorem msN_12 (y : Nat) : msN y 12 = ydN y := by
  simp only [msN, mdN, ydN]
  cases leapN y <;> simp
theorem ysN_mono {a b : Nat} (h : a ≤ b) : ysN a ≤ ysN b := by
  induction h with
  | refl => exact Nat.le_refl _
  | step _ ih => rw [ysN]; omega
theorem msN_mono {y a b : Nat} (h : a ≤ b) : msN y a ≤ msN y b := by
  induction h with
  | refl => exact Nat.le_refl _
  | step _ ih => rw [msN]; omega
theorem ysN_130 : ysN 130 = 47482 := by decide +kernel
theorem mdN_pos (y m : Nat) : 28 ≤ mdN y m ∧ mdN y m ≤ 31 := by
  unfold mdN; split <;> split <;> omega
theorem ydN_bnd (y : Nat) : 365 ≤ ydN y ∧ ydN y ≤ 366 := by unfold ydN; split <;> omega
structure IsDay (day n p d : Nat) : Prop where
  hn : n < 130
  hp : p < 12
  hd : d < mdN (1970 + n) (p + 1)
  eq : day = ysN n + msN (1970 + n) p + d
theorem step_ex (f : Nat → Nat) (h0 : f 0 = 0) : ∀ (N x : Nat), x < f N → ∃ n, n < N ∧ f n ≤ x ∧ x < f (n + 1) := by
  intro N
  induction N with
  | zero => intro x h; omega
  | succ N ih =>
    intro x h
    by_cases c : x < f N
    · obtain ⟨n, h1, h2, h3⟩ := ih x c
      exact ⟨n, by omega, h2, h3⟩
    · exact ⟨N, by omega, by omega, h⟩
theorem isDay_ex {day : Nat} (h : day ≤ 47481) : ∃ n p d, IsDay day n p d := by
  obtain ⟨n, h1, h2, h3⟩ := step_ex ysN rfl 130 day (by rw [ysN_130]; omega)
  rw [ysN] at h3
  obtain ⟨p, g1, g2, g3⟩ := step_ex (msN (1970 + n)) rfl 12 (day - ysN n) (by rw [msN_12]; omega)
  rw [msN] at g3
  exact ⟨n, p, day - ysN n - msN (1970 + n) p, h1, g1, by omega, by omega⟩
theorem IsDay.ltY {day n p d : Nat} (h : IsDay day n p d) : msN (1970 + n) p + d < ydN (1970 + n) := by
  have h1 := h.hd
  have h2 : msN (1970 + n) (p + 1) ≤ msN (1970 + n) 12 := msN_mono (by have := h.hp; omega)
  rw [msN_12, msN] at h2
  omega
theorem IsDay.lt {day n p d : Nat} (h : IsDay day n p d) : day < ysN (n + 1) := by
  have := h.ltY
  rw [ysN, h.eq]; omega
theorem IsDay.le {day n p d : Nat} (h : IsDay day n p d) : day ≤ 47481 := by
  have h1 := h.lt
  have h2 : ysN (n + 1) ≤ ysN 130 := ysN_mono (by have := h.hn; omega)
  rw [ysN_130] at h2; omega
theorem IsDay.nu {day n p d n' p' d' : Nat} (h : IsDay day n p d) (h' : IsDay day n' p' d') : n = n' := by
  have h1 := h.lt
  have h2 := h'.lt
  have e1 := h.eq
  have e2 := h'.eq
  rcases Nat.lt_trichotomy n n' with c | c | c
  · have := ysN_mono (show n + 1 ≤ n' by omega); omega
  · exact c
  · have := ysN_mono (show n' + 1 ≤ n by omega); omega
theorem IsDay.pu {day n p d p' d' : Nat} (h : IsDay day n p d) (h' : IsDay day n p' d') : p = p' ∧ d = d' := by
  have e1 := h.eq
  have e2 := h'.eq
  have h1 := h.hd
  have h2 := h'.hd
  have m1 : msN (1970 + n) (p + 1) = msN (1970 + n) p + mdN (1970 + n) (p + 1) := rfl
  have m2 : msN (1970 + n) (p' + 1) = msN (1970 + n) p' + mdN (1970 + n) (p' + 1) := rfl
  rcases Nat.lt_trichotomy p p' with c | c | c
  · have := msN_mono (y := 1970 + n) (show p + 1 ≤ p' by omega); omega
  · subst c; exact ⟨rfl, by omega⟩
  · have := msN_mono (y := 1970 + n) (show p' + 1 ≤ p by omega); omega
def okDay (y m d : Int) : Bool := decide (1970 ≤ y) && decide (y ≤ 2099) && (decide (1 ≤ m) && decide (m ≤ 12)) && (decide (1 ≤ d) && decide (d ≤ mdN y.toNat m.toNat))
def daysI (y m d : Int) : Int := bif okDay y m d then ((ysN (y.toNat - 1970) + msN y.toNat (m.toNat - 1) + (d.toNat - 1) : Nat) : Int) else -1
theorem okDay_iff {y m d : Int} : okDay y m d = true ↔ 1970 ≤ y ∧ y ≤ 2099 ∧ 1 ≤ m ∧ m ≤ 12 ∧ 1 ≤ d ∧ d ≤ mdN y.toNat m.toNat := by
  unfold okDay; simp only [Bool.and_eq_true, decide_eq_true_eq]; omega
theorem daysI_ok {y m d : Int} (h : okDay y m d = true) : ∃ day, daysI y m d = (day : Nat) ∧ IsDay day (y.toNat - 1970) (m.toNat - 1) (d.toNat - 1) := by
  obtain ⟨h1, h2, h3, h4, h5, h6⟩ := okDay_iff.1 h
  refine ⟨ysN (y.toNat - 1970) + msN y.toNat (m.toNat - 1) + (d.toNat - 1), by rw [daysI, h, cond_true], by omega, by omega, ?_, ?_⟩
  · rw [show 1970 + (y.toNat - 1970) = y.toNat by omega, show m.toNat - 1 + 1 = m.toNat by omega]; omega
  · rw [show 1970 + (y.toNat - 1970) = y.toNat by omega]
theorem daysI_of {day n p d : Nat} (h : IsDay day n p d) : daysI ((1970 + n : Nat) : Int) ((p + 1 : Nat) : Int) ((d + 1 : Nat) : Int) = (day : Int) := by
  have h1 := h.hn; have h2 := h.hp; have h3 := h.hd
  have : okDay ((1970 + n : Nat) : Int) ((p + 1 : Nat) : Int) ((d + 1 : Nat) : Int) = true := okDay_iff.2 ⟨by omega, by omega, by omega, by omega, by omega, by simp only [Int.toNat_natCast]; omega⟩
  rw [daysI, this, cond_true, h.eq]
  rw [Int.toNat_natCast, Int.toNat_natCast, Int.toNat_natCast, Nat.add_sub_cancel_left, Nat.add_sub_cancel, Nat.add_sub_cancel]
theorem daysI_rng (y m d : Int) : -1 ≤ daysI y m d ∧ daysI y m d ≤ 47481 := by
  cases h : okDay y m d with
  | false => unfold daysI; rw [h, cond_false]; decide
  | true =>
    obtain ⟨day, e, h1⟩ := daysI_ok h
    have := h1.le
    rw [e]; omega
def wkN (day : Nat) : Nat := (day % 7 + 4) % 7
theorem wkN_lt (day : Nat) : wkN day < 7 := by unfold wkN; omega
theorem md_nat {a b : Nat} (h : b ≠ 0) : md (a : Int) (b : Int) = some ((a % b : Nat) : Int) := by
  unfold md
  rw [if_neg (by omega), Int.tmod_eq_emod_of_nonneg (by omega)]; rfl
theorem dv_nat {a b : Nat} (h : b ≠ 0) : dv (a : Int) (b : Int) = some ((a / b : Nat) : Int) := by
  unfold dv
  rw [if_neg (by omega), Int.tdiv_eq_ediv_of_nonneg (by omega)]; rfl
theorem inR_t {n a b : Int} (h1 : a ≤ n) (h2 : n ≤ b) : inR n a b = true := by unfold inR; rw [decide_eq_true h1, decide_eq_true h2]; rfl
theorem inR_and (n a b : Int) : inR n a b = (decide (a ≤ n) && decide (n ≤ b)) := rfl
theorem nat_beq0 (n : Nat) : (((n : Nat) : Int) == (0 : Int)) = (n == 0) := by
  by_cases h : n = 0
  · subst h; rfl
  · rw [beq_ne h, beq_ne (by omega)]
theorem nat_bne0 (n : Nat) : (((n : Nat) : Int) != (0 : Int)) = (n != 0) := by rw [bne, nat_beq0]; rfl
theorem leapN_def (y : Nat) : leapN y = (y % 4 == 0 && (y % 100 != 0 || y % 400 == 0)) := rfl
theorem wrap_nat {n : Nat} (h : n ≤ 9223372036854775807) : IntKind.wrap .i64 (n : Int) = (n : Int) := wrap_id (by omega) (by omega)
theorem S_Mod_nat {k : Nat} (a b : Nat) (h1 : 1 ≤ b) (h2 : b ≤ 1000000000) (h3 : a ≤ 1000000000000) : S_Mod k (a : Int) (b : Int) = some ((a % b : Nat) : Int) := by
  have hb : a % b < b := Nat.mod_lt _ (by omega)
  have e : (((a % b : Nat) : Int) + (b : Int)) = ((a % b + b : Nat) : Int) := by push_cast; rfl
  rw [S_Mod, S_l1In_eq, Option.bind_some, inR_t (by omega) (by omega), Bool.not_true, cond_false, md_nat (by omega), Option.bind_some, e, wrap_nat (by omega), md_nat (by omega), Option.bind_some, Nat.add_mod_right, Nat.mod_mod]
theorem S_IsLeap_nat {k : Nat} (y : Nat) (h : y ≤ 1000000) : S_IsLeap k (y : Int) = some (leapN y) := by
  have e4 : S_Mod k (y : Int) 4 = some ((y % 4 : Nat) : Int) := S_Mod_nat y 4 (by omega) (by omega) (by omega)
  have e100 : S_Mod k (y : Int) 100 = some ((y % 100 : Nat) : Int) := S_Mod_nat y 100 (by omega) (by omega) (by omega)
  have e400 : S_Mod k (y : Int) 400 = some ((y % 400 : Nat) : Int) := S_Mod_nat y 400 (by omega) (by omega) (by omega)
  rw [S_IsLeap, e4, Option.bind_some, e100, Option.bind_some, e400, Option.bind_some, nat_beq0, nat_bne0, nat_beq0, leapN_def]
  cases (y % 4 == 0) <;> cases (y % 100 != 0) <;> cases (y % 400 == 0) <;> rfl
theorem S_WeekdayOf_nat {k : Nat} (day : Nat) (h : day ≤ 1000000) : S_WeekdayOf k (day : Int) = some ((wkN day : Nat) : Int) := by
  have e1 : S_Mod k (day : Int) 7 = some ((day % 7 : Nat) : Int) := S_Mod_nat day 7 (by omega) (by omega) (by omega)
  have e2 : S_Mod k ((day % 7 + 4 : Nat) : Int) 7 = some (((day % 7 + 4) % 7 : Nat) : Int) := S_Mod_nat _ 7 (by omega) (by omega) (by omega)
  have e3 : (((day % 7 : Nat) : Int) + 4) = ((day % 7 + 4 : Nat) : Int) := by push_cast; rfl
  rw [S_WeekdayOf, e1, Option.bind_some, e3, wrap_nat (by omega), e2]; rfl
theorem I_Mod_nat {k : Nat} (a b : Nat) (h1 : 1 ≤ b) (h2 : b ≤ 1000000000) (h3 : a ≤ 1000000000000) : I_Mod k (a : Int) (b : Int) = some ((a % b : Nat) : Int) := by
  have hb : a % b < b := Nat.mod_lt _ (by omega)
  have e : (((a % b : Nat) : Int) + (b : Int)) = ((a % b + b : Nat) : Int) := by push_cast; rfl
  rw [I_Mod, I_inRange_eq, Option.bind_some, inR_t (by omega) (by omega), Bool.not_true, cond_false, md_nat (by omega), Option.bind_some, e, wrap_nat (by omega), md_nat (by omega), Option.bind_some, Nat.add_mod_right, Nat.mod_mod]
theorem I_IsLeap_nat {k : Nat} (y : Nat) (h : y ≤ 1000000) : I_IsLeap k (y : Int) = some (leapN y) := by
  have e4 : I_Mod k (y : Int) 4 = some ((y % 4 : Nat) : Int) := I_Mod_nat y 4 (by omega) (by omega) (by omega)
  have e100 : I_Mod k (y : Int) 100 = some ((y % 100 : Nat) : Int) := I_Mod_nat y 100 (by omega) (by omega) (by omega)
  have e400 : I_Mod k (y : Int) 400 = some ((y % 400 : Nat) : Int) := I_Mod_nat y 400 (by omega) (by omega) (by omega)
  rw [I_IsLeap, e4, Option.bind_some, e100, Option.bind_some, e400, Option.bind_some, nat_beq0, nat_bne0, nat_beq0, leapN_def]
  cases (y % 4 == 0) <;> cases (y % 100 != 0) <;> cases (y % 400 == 0) <;> rfl
theorem I_WeekdayOf_nat {k : Nat} (day : Nat) (h : day ≤ 1000000) : I_WeekdayOf k (day : Int) = some ((wkN day : Nat) : Int) := by
  have e1 : I_Mod k (day : Int) 7 = some ((day % 7 : Nat) : Int) := I_Mod_nat day 7 (by omega) (by omega) (by omega)
  have e2 : I_Mod k ((day % 7 + 4 : Nat) : Int) 7 = some (((day % 7 + 4) % 7 : Nat) : Int) := I_Mod_nat _ 7 (by omega) (by omega) (by omega)
  have e3 : (((day % 7 : Nat) : Int) + 4) = ((day % 7 + 4 : Nat) : Int) := by push_cast; rfl
  rw [I_WeekdayOf, e1, Option.bind_some, e3, wrap_nat (by omega), e2]; rfl
theorem mon_cases {m : Nat} (h1 : 1 ≤ m) (h2 : m ≤ 12) : m = 1 ∨ m = 2 ∨ m = 3 ∨ m = 4 ∨ m = 5 ∨ m = 6 ∨ m = 7 ∨ m = 8 ∨ m = 9 ∨ m = 10 ∨ m = 11 ∨ m = 12 := by omega
theorem I_monthDays_nat {k : Nat} (y m : Nat) (h : y ≤ 1000000) (h1 : 1 ≤ m) (h2 : m ≤ 12) : I_monthDays k (y : Int) (m : Int) = some ((mdN y m : Nat) : Int) := by
  rw [I_monthDays, I_monthDays_b0, I_monthDays_c6, I_IsLeap_nat y h]
  unfold mdN
  rcases mon_cases h1 h2 with rfl | rfl | rfl | rfl | rfl | rfl | rfl | rfl | rfl | rfl | rfl | rfl <;> cases leapN y <;> rfl
theorem S_l3Long_nat {k : Nat} (y m : Nat) (h : y ≤ 1000000) (h1 : 1 ≤ m) (h2 : m ≤ 12) : S_l3Long k (y : Int) (m : Int) = some ((mdN y m : Nat) : Int) := by
  rw [S_l3Long, S_IsLeap_nat y h]
  unfold mdN
  rcases mon_cases h1 h2 with rfl | rfl | rfl | rfl | rfl | rfl | rfl | rfl | rfl | rfl | rfl | rfl <;> cases leapN y <;> rfl
theorem I_yearDays_nat {k : Nat} (y : Nat) (h : y ≤ 1000000) : I_yearDays k (y : Int) = some ((ydN y : Nat) : Int) := by
  rw [I_yearDays, I_IsLeap_nat y h]
  unfold ydN
  cases leapN y <;> rfl
theorem cast_add (a b : Nat) : ((a : Int) + (b : Int)) = ((a + b : Nat) : Int) := by push_cast; rfl
theorem I_Days_y {k : Nat} {x1 : Int} {N a : Nat} (hN : N ≤ 129) (ha : a ≤ 1000) : ∀ (n i : Nat), i ≤ N → N - i < n → I_DaysOf_b0 k n ((1970 + N : Nat) : Int) x1 ((a + ysN i : Nat) : Int) ((1970 + i : Nat) : Int) = some ((a + ysN N : Nat) : Int) := by
  intro n
  induction n with
  | zero => intro i _ h; omega
  | succ n ih =>
    intro i hi hn
    have hm := ysN_mono (show N ≤ 130 by omega)
    rw [ysN_130] at hm
    rw [I_DaysOf_b0, bif_dec, I_yearDays_nat _ (by omega), Option.bind_some, cast_add, wrap_succ (by omega)]
    by_cases c : i < N
    · have h3 := ysN_mono (show i + 1 ≤ N by omega)
      rw [ysN] at h3
      rw [if_pos (by omega), wrap_nat (by omega)]
      have := ih (i + 1) (by omega) (by omega)
      rw [ysN, ← Nat.add_assoc a] at this
      exact this
    · rw [if_neg (by omega), show i = N by omega]
theorem S_Days_y {k : Nat} {x1 : Int} {N a : Nat} (hN : N ≤ 129) (ha : a ≤ 1000) : ∀ (n i : Nat), i ≤ N → N - i < n → S_DaysOf_b0 k n ((1970 + N : Nat) : Int) x1 ((a + ysN i : Nat) : Int) ((1970 + i : Nat) : Int) = some ((a + ysN N : Nat) : Int) := by
  intro n
  induction n with
  | zero => intro i _ h; omega
  | succ n ih =>
    intro i hi hn
    have hm := ysN_mono (show N ≤ 130 by omega)
    rw [ysN_130] at hm
    have h5 := ysN_mono (show i ≤ N by omega)
    have e1 : (((a + ysN i : Nat) : Int) + 365) = ((a + ysN i + 365 : Nat) : Int) := by push_cast; rfl
    have e2 : (((a + ysN i + 365 : Nat) : Int) + 1) = ((a + ysN i + 365 + 1 : Nat) : Int) := by push_cast; rfl
    have e : S_DaysOf_b1 k ((1970 + N : Nat) : Int) x1 ((a + ysN i : Nat) : Int) ((1970 + i : Nat) : Int) = some ((a + ysN i + ydN (1970 + i) : Nat) : Int) := by
      rw [S_DaysOf_b1, S_IsLeap_nat _ (by omega), Option.bind_some, S_DaysOf_c36, e1, wrap_nat (by omega), e2, wrap_nat (by omega)]
      unfold ydN
      cases leapN (1970 + i) <;> rfl
    rw [S_DaysOf_b0, bif_dec, e, Option.bind_some, wrap_succ (by omega)]
    by_cases c : i < N
    · rw [if_pos (by omega)]
      have := ih (i + 1) (by omega) (by omega)
      rw [ysN, ← Nat.add_assoc a] at this
      exact this
    · rw [if_neg (by omega), show i = N by omega]
theorem S_Days_m {k : Nat} {y a : Nat} {p : Nat} (hy : y ≤ 1000000) (hp : p ≤ 11) (ha : a ≤ 1000000) : ∀ (n i : Nat), i ≤ p → p - i < n → S_DaysOf_b2 k n (y : Int) ((p + 1 : Nat) : Int) ((a + msN y i : Nat) : Int) ((i + 1 : Nat) : Int) = some ((a + msN y p : Nat) : Int) := by
  intro n
  induction n with
  | zero => intro i _ h; omega
  | succ n ih =>
    intro i hi hn
    have hm := msN_mono (y := y) (show p ≤ 12 by omega)
    have hb := ydN_bnd y
    rw [msN_12] at hm
    rw [S_DaysOf_b2, bif_dec, wrap_succ (by omega)]
    by_cases c : i < p
    · have h3 := msN_mono (y := y) (show i + 1 ≤ p by omega)
      rw [msN] at h3
      rw [if_pos (by omega), S_l3Long_nat _ _ (by omega) (by omega) (by omega), Option.bind_some, cast_add, wrap_nat (by omega)]
      have := ih (i + 1) (by omega) (by omega)
      rw [msN, ← Nat.add_assoc a] at this
      exact this
    · rw [if_neg (by omega), show i = p by omega]
theorem S_DaysOf_eq {k : Nat} (hk : 1073741824 ≤ k) (y m d : Int) : S_DaysOf k y m d = some (daysI y m d) := by
  rw [S_DaysOf, S_l1In_eq, Option.bind_some, S_l1In_eq, Option.bind_some]
  unfold daysI okDay
  rw [inR_and, inR_and]
  cases h1 : decide (1970 ≤ y) && decide (y ≤ 2099) with
  | false => rfl
  | true =>
    cases h2 : decide (1 ≤ m) && decide (m ≤ 12) with
    | false => rfl
    | true =>
      rw [Bool.and_eq_true, decide_eq_true_eq, decide_eq_true_eq] at h1 h2
      obtain ⟨N, rfl⟩ : ∃ N : Nat, y = ((1970 + N : Nat) : Int) := ⟨y.toNat - 1970, by omega⟩
      obtain ⟨p, rfl⟩ : ∃ p : Nat, m = ((p + 1 : Nat) : Int) := ⟨m.toNat - 1, by omega⟩
      rw [Bool.not_true, cond_false, cond_false, S_l3Long_nat _ _ (by omega) (by omega) (by omega), Option.bind_some, S_l1In_eq, Option.bind_some, inR_and, Int.toNat_natCast, Int.toNat_natCast]
      have hmd := mdN_pos (1970 + N) (p + 1)
      cases h3 : decide (1 ≤ d) && decide (d ≤ ((mdN (1970 + N) (p + 1) : Nat) : Int)) with
      | false => rfl
      | true =>
        rw [Bool.and_eq_true, decide_eq_true_eq, decide_eq_true_eq] at h3
        obtain ⟨a, rfl⟩ : ∃ a : Nat, d = ((a + 1 : Nat) : Int) := ⟨d.toNat - 1, by omega⟩
        have e0 : (((a + 1 : Nat) : Int) - 1) = ((a + ysN 0 : Nat) : Int) := by rw [ysN]; push_cast; omega
        have hb := ysN_mono (show N ≤ 130 by omega)
        rw [ysN_130] at hb
        have b1 := S_Days_y (k := k) (x1 := ((p + 1 : Nat) : Int)) (N := N) (a := a) (by omega) (by omega) k 0 (by omega) (by omega)
        have b2 := S_Days_m (k := k) (y := 1970 + N) (a := a + ysN N) (p := p) (by omega) (by omega) (by omega) k 0 (by omega) (by omega)
        rw [e0, wrap_nat (by rw [ysN]; omega)]
        have b1' : S_DaysOf_b0 k k ((1970 + N : Nat) : Int) ((p + 1 : Nat) : Int) ((a + ysN 0 : Nat) : Int) 1970 = some ((a + ysN N : Nat) : Int) := b1
        have b2' : S_DaysOf_b2 k k ((1970 + N : Nat) : Int) ((p + 1 : Nat) : Int) ((a + ysN N : Nat) : Int) 1 = some ((a + ysN N + msN (1970 + N) p : Nat) : Int) := b2
        rw [b1', Option.bind_some, b2', Option.bind_some, Bool.not_true, cond_false, Bool.and_true, Bool.and_true, cond_true, Nat.add_sub_cancel_left, Nat.add_sub_cancel, Int.toNat_natCast, Nat.add_sub_cancel, show a + ysN N + msN (1970 + N) p = ysN N + msN (1970 + N) p + a by omega]
theorem I_Days_m {k : Nat} {y a : Nat} {p : Nat} (hy : y ≤ 1000000) (hp : p ≤ 11) (ha : a ≤ 1000000) : ∀ (n i : Nat), i ≤ p → p - i < n → I_DaysOf_b2 k n (y : Int) ((p + 1 : Nat) : Int) ((a + msN y i : Nat) : Int) ((i + 1 : Nat) : Int) = some ((a + msN y p : Nat) : Int) := by
  intro n
  induction n with
  | zero => intro i _ h; omega
  | succ n ih =>
    intro i hi hn
    have hm := msN_mono (y := y) (show p ≤ 12 by omega)
    have hb := ydN_bnd y
    rw [msN_12] at hm
    rw [I_DaysOf_b2, bif_dec, wrap_succ (by omega)]
    by_cases c : i < p
    · have h3 := msN_mono (y := y) (show i + 1 ≤ p by omega)
      rw [msN] at h3
      rw [if_pos (by omega), I_monthDays_nat _ _ (by omega) (by omega) (by omega), Option.bind_some, cast_add, wrap_nat (by omega)]
      have := ih (i + 1) (by omega) (by omega)
      rw [msN, ← Nat.add_assoc a] at this
      exact this
    · rw [if_neg (by omega), show i = p by omega]
theorem I_DaysOf_eq {k : Nat} (hk : 1073741824 ≤ k) (y m d : Int) : I_DaysOf k y m d = some (daysI y m d) := by
  rw [I_DaysOf, I_inRange_eq, Option.bind_some, I_inRange_eq, Option.bind_some]
  unfold daysI okDay
  rw [inR_and, inR_and]
  cases h1 : decide (1970 ≤ y) && decide (y ≤ 2099) with
  | false => rfl
  | true =>
    cases h2 : decide (1 ≤ m) && decide (m ≤ 12) with
    | false => rfl
    | true =>
      rw [Bool.and_eq_true, decide_eq_true_eq, decide_eq_true_eq] at h1 h2
      obtain ⟨N, rfl⟩ : ∃ N : Nat, y = ((1970 + N : Nat) : Int) := ⟨y.toNat - 1970, by omega⟩
      obtain ⟨p, rfl⟩ : ∃ p : Nat, m = ((p + 1 : Nat) : Int) := ⟨m.toNat - 1, by omega⟩
      rw [Bool.not_true, cond_false, cond_false, I_monthDays_nat _ _ (by omega) (by omega) (by omega), Option.bind_some, I_inRange_eq, Option.bind_some, inR_and, Int.toNat_natCast, Int.toNat_natCast]
      have hmd := mdN_pos (1970 + N) (p + 1)
      cases h3 : decide (1 ≤ d) && decide (d ≤ ((mdN (1970 + N) (p + 1) : Nat) : Int)) with
      | false => rfl
      | true =>
        rw [Bool.and_eq_true, decide_eq_true_eq, decide_eq_true_eq] at h3
        obtain ⟨a, rfl⟩ : ∃ a : Nat, d = ((a + 1 : Nat) : Int) := ⟨d.toNat - 1, by omega⟩
        have e0 : (((a + 1 : Nat) : Int) - 1) = ((a + ysN 0 : Nat) : Int) := by rw [ysN]; push_cast; omega
        have hb := ysN_mono (show N ≤ 130 by omega)
        rw [ysN_130] at hb
        have b1 := I_Days_y (k := k) (x1 := ((p + 1 : Nat) : Int)) (N := N) (a := a) (by omega) (by omega) k 0 (by omega) (by omega)
        have b2 := I_Days_m (k := k) (y := 1970 + N) (a := a + ysN N) (p := p) (by omega) (by omega) (by omega) k 0 (by omega) (by omega)
        rw [e0, wrap_nat (by rw [ysN]; omega)]
        have b1' : I_DaysOf_b0 k k ((1970 + N : Nat) : Int) ((p + 1 : Nat) : Int) ((a + ysN 0 : Nat) : Int) 1970 = some ((a + ysN N : Nat) : Int) := b1
        have b2' : I_DaysOf_b2 k k ((1970 + N : Nat) : Int) ((p + 1 : Nat) : Int) ((a + ysN N : Nat) : Int) 1 = some ((a + ysN N + msN (1970 + N) p : Nat) : Int) := b2
        rw [b1', Option.bind_some, b2', Option.bind_some, Bool.not_true, cond_false, Bool.and_true, Bool.and_true, cond_true, Nat.add_sub_cancel_left, Nat.add_sub_cancel, Int.toNat_natCast, Nat.add_sub_cancel, show a + ysN N + msN (1970 + N) p = ysN N + msN (1970 + N) p + a by omega]
theorem I_Civ_y {k : Nat} {x6 : Int} {day N p d : Nat} (h : IsDay day N p d) : ∀ (n i : Nat), i ≤ N → N - i < n → I_CivilOf_b0 k n ((day - ysN i : Nat) : Int) ((1970 + i : Nat) : Int) x6 = some (((day - ysN N : Nat) : Int), ((1970 + N : Nat) : Int)) := by
  intro n
  induction n with
  | zero => intro i _ h; omega
  | succ n ih =>
    intro i hi hn
    have hN := h.hn
    have hl := h.le
    have he := h.eq
    have hlt := h.ltY
    rw [I_CivilOf_b0, I_yearDays_nat _ (by omega), Option.bind_some, Option.bind_some, bif_dec, wrap_succ (by omega)]
    have hb := ydN_bnd (1970 + i)
    by_cases c : i < N
    · have h3 := ysN_mono (show i + 1 ≤ N by omega)
      rw [ysN] at h3
      have e : (((day - ysN i : Nat) : Int) - ((ydN (1970 + i) : Nat) : Int)) = ((day - ysN (i + 1) : Nat) : Int) := by rw [ysN]; omega
      rw [if_pos (by omega), e, wrap_nat (by omega)]
      exact ih (i + 1) (by omega) (by omega)
    · rw [show i = N by omega, if_neg (by omega)]
theorem S_Civ_y {k : Nat} {day N p d : Nat} (h : IsDay day N p d) : ∀ (n i : Nat), i ≤ N → N - i < n → S_CivilOf_b0 k n ((day - ysN i : Nat) : Int) ((1970 + i : Nat) : Int) = some (((day - ysN N : Nat) : Int), ((1970 + N : Nat) : Int)) := by
  intro n
  induction n with
  | zero => intro i _ h; omega
  | succ n ih =>
    intro i hi hn
    have hN := h.hn
    have hl := h.le
    have he := h.eq
    have hlt := h.ltY
    have e0 : S_CivilOf_c12 k ((day - ysN i : Nat) : Int) ((1970 + i : Nat) : Int) 365 (leapN (1970 + i)) = some ((ydN (1970 + i) : Nat) : Int) := by
      rw [S_CivilOf_c12]
      unfold ydN
      cases leapN (1970 + i) <;> rfl
    rw [S_CivilOf_b0, S_CivilOf_b1, S_IsLeap_nat _ (by omega), Option.bind_some, e0, Option.bind_some, bif_dec, wrap_succ (by omega)]
    have hb := ydN_bnd (1970 + i)
    by_cases c : i < N
    · have h3 := ysN_mono (show i + 1 ≤ N by omega)
      rw [ysN] at h3
      have e : (((day - ysN i : Nat) : Int) - ((ydN (1970 + i) : Nat) : Int)) = ((day - ysN (i + 1) : Nat) : Int) := by rw [ysN]; omega
      rw [if_neg (by omega), e, wrap_nat (by omega)]
      exact ih (i + 1) (by omega) (by omega)
    · rw [show i = N by omega, if_pos (by omega)]; rfl
theorem S_Civ_m {k : Nat} {day N p d : Nat} (h : IsDay day N p d) : ∀ (n i : Nat), i ≤ p → p - i < n → S_CivilOf_b2 k n ((day - ysN N - msN (1970 + N) i : Nat) : Int) ((1970 + N : Nat) : Int) ((i + 1 : Nat) : Int) = some ((d : Int), ((p + 1 : Nat) : Int)) := by
  intro n
  induction n with
  | zero => intro i _ h; omega
  | succ n ih =>
    intro i hi hn
    have hN := h.hn
    have hp := h.hp
    have hl := h.le
    have he := h.eq
    have hlt := h.hd
    rw [S_CivilOf_b2, S_l3Long_nat _ _ (by omega) (by omega) (by omega), Option.bind_some, Option.bind_some, bif_dec, wrap_succ (by omega)]
    have hb := mdN_pos (1970 + N) (i + 1)
    by_cases c : i < p
    · have h3 := msN_mono (y := 1970 + N) (show i + 1 ≤ p by omega)
      rw [msN] at h3
      have e : (((day - ysN N - msN (1970 + N) i : Nat) : Int) - ((mdN (1970 + N) (i + 1) : Nat) : Int)) = ((day - ysN N - msN (1970 + N) (i + 1) : Nat) : Int) := by rw [msN]; omega
      rw [if_pos (by omega), e, wrap_nat (by omega)]
      exact ih (i + 1) (by omega) (by omega)
    · have e : day - ysN N - msN (1970 + N) p = d := by omega
      rw [show i = p by omega, e, if_neg (by omega)]
theorem S_CivilOf_eq {k : Nat} (hk : 1073741824 ≤ k) {day N p d : Nat} (h : IsDay day N p d) : S_CivilOf k (day : Int) = some (((1970 + N : Nat) : Int), ((p + 1 : Nat) : Int), ((d + 1 : Nat) : Int)) := by
  have hN := h.hn
  have hp := h.hp
  have hl := h.le
  have hd := h.hd
  have hb := mdN_pos (1970 + N) (p + 1)
  have b1 := S_Civ_y (k := k)  h k 0 (by omega) (by omega)
  have b2 := S_Civ_m (k := k) h k 0 (by omega) (by omega)
  have b1' : S_CivilOf_b0 k k (day : Int) 1970  = some (((day - ysN N : Nat) : Int), ((1970 + N : Nat) : Int)) := b1
  have b2' : S_CivilOf_b2 k k ((day - ysN N : Nat) : Int) ((1970 + N : Nat) : Int) 1 = some ((d : Int), ((p + 1 : Nat) : Int)) := b2
  rw [S_CivilOf, S_l1In_eq, Option.bind_some, inR_t (by omega) (by omega), Bool.not_true, cond_false, b1', Option.bind_some, b2', Option.bind_some, wrap_succ (by omega)]
theorem I_Civ_m {k : Nat} {day N p d : Nat} (h : IsDay day N p d) : ∀ (n i : Nat), i ≤ p → p - i < n → I_CivilOf_b2 k n ((day - ysN N - msN (1970 + N) i : Nat) : Int) ((1970 + N : Nat) : Int) ((i + 1 : Nat) : Int) = some ((d : Int), ((p + 1 : Nat) : Int)) := by
  intro n
  induction n with
  | zero => intro i _ h; omega
  | succ n ih =>
    intro i hi hn
    have hN := h.hn
    have hp := h.hp
    have hl := h.le
    have he := h.eq
    have hlt := h.hd
    rw [I_CivilOf_b2, I_monthDays_nat _ _ (by omega) (by omega) (by omega), Option.bind_some, Option.bind_some, bif_dec, wrap_succ (by omega)]
    have hb := mdN_pos (1970 + N) (i + 1)
    by_cases c : i < p
    · have h3 := msN_mono (y := 1970 + N) (show i + 1 ≤ p by omega)
      rw [msN] at h3
      have e : (((day - ysN N - msN (1970 + N) i : Nat) : Int) - ((mdN (1970 + N) (i + 1) : Nat) : Int)) = ((day - ysN N - msN (1970 + N) (i + 1) : Nat) : Int) := by rw [msN]; omega
      rw [if_pos (by omega), e, wrap_nat (by omega)]
      exact ih (i + 1) (by omega) (by omega)
    · have e : day - ysN N - msN (1970 + N) p = d := by omega
      rw [show i = p by omega, e, if_neg (by omega)]
theorem I_CivilOf_eq {k : Nat} (hk : 1073741824 ≤ k) {day N p d : Nat} (h : IsDay day N p d) : I_CivilOf k (day : Int) = some (((1970 + N : Nat) : Int), ((p + 1 : Nat) : Int), ((d + 1 : Nat) : Int)) := by
  have hN := h.hn
  have hp := h.hp
  have hl := h.le
  have hd := h.hd
  have hb := mdN_pos (1970 + N) (p + 1)
  have b1 := I_Civ_y (k := k) (x6 := 1) h k 0 (by omega) (by omega)
  have b2 := I_Civ_m (k := k) h k 0 (by omega) (by omega)
  have b1' : I_CivilOf_b0 k k (day : Int) 1970 1 = some (((day - ysN N : Nat) : Int), ((1970 + N : Nat) : Int)) := b1
  have b2' : I_CivilOf_b2 k k ((day - ysN N : Nat) : Int) ((1970 + N : Nat) : Int) 1 = some ((d : Int), ((p + 1 : Nat) : Int)) := b2
  rw [I_CivilOf, I_inRange_eq, Option.bind_some, inR_t (by omega) (by omega), Bool.not_true, cond_false, b1', Option.bind_some, b2', Option.bind_some, wrap_succ (by omega)]
def d2 (n : Nat) : List UInt8 := [UInt8.ofNat (48 + n / 10), UInt8.ofNat (48 + n % 10)]
def d4 (n : Nat) : List UInt8 := [UInt8.ofNat (48 + n / 1000), UInt8.ofNat (48 + n / 100 % 10), UInt8.ofNat (48 + n / 10 % 10), UInt8.ofNat (48 + n % 10)]
def dFull (w : Nat) : List UInt8 := [[83, 117, 110, 100, 97, 121], [77, 111, 110, 100, 97, 121], [84, 117, 101, 115, 100, 97, 121], [87, 101, 100, 110, 101, 115, 100, 97, 121], [84, 104, 117, 114, 115, 100, 97, 121], [70, 114, 105, 100, 97, 121], [83, 97, 116, 117, 114, 100, 97, 121]].getD w []
def mon3 (p : Nat) : List UInt8 := [[74, 97, 110], [70, 101, 98], [77, 97, 114], [65, 112, 114], [77, 97, 121], [74, 117, 110], [74, 117, 108], [65, 117, 103], [83, 101, 112], [79, 99, 116], [78, 111, 118], [68, 101, 99]].getD p []
def clkT (r : Nat) : List UInt8 := d2 (r / 3600) ++ [58] ++ d2 (r / 60 % 60) ++ [58] ++ d2 (r % 60)
def T1 (w n p d r : Nat) : List UInt8 := (dFull w).take 3 ++ [44, 32] ++ d2 (d + 1) ++ [32] ++ mon3 p ++ [32] ++ d4 (1970 + n) ++ [32] ++ clkT r ++ [32, 71, 77, 84]
def T2 (w n p d r : Nat) : List UInt8 := dFull w ++ [44, 32] ++ d2 (d + 1) ++ [45] ++ mon3 p ++ [45] ++ d2 ((1970 + n) % 100) ++ [32] ++ clkT r ++ [32, 71, 77, 84]
def T3 (w n p d r : Nat) : List UInt8 := (dFull w).take 3 ++ [32] ++ mon3 p ++ [32] ++ (if d + 1 < 10 then [32, UInt8.ofNat (48 + (d + 1))] else d2 (d + 1)) ++ [32] ++ clkT r ++ [32] ++ d4 (1970 + n)
theorem dF3 {w : Nat} (h : w < 7) : ∃ a b c r, dFull w = a :: b :: c :: r ∧ 3 ≤ r.length ∧ r.length ≤ 6 := by
  have : w = 0 ∨ w = 1 ∨ w = 2 ∨ w = 3 ∨ w = 4 ∨ w = 5 ∨ w = 6 := by omega
  rcases this with rfl | rfl | rfl | rfl | rfl | rfl | rfl <;> exact ⟨_, _, _, _, rfl, by decide, by decide⟩
theorem mon3e {p : Nat} (h : p < 12) : ∃ a b c, mon3 p = [a, b, c] := by
  have : p = 0 ∨ p = 1 ∨ p = 2 ∨ p = 3 ∨ p = 4 ∨ p = 5 ∨ p = 6 ∨ p = 7 ∨ p = 8 ∨ p = 9 ∨ p = 10 ∨ p = 11 := by omega
  rcases this with rfl | rfl | rfl | rfl | rfl | rfl | rfl | rfl | rfl | rfl | rfl | rfl <;> exact ⟨_, _, _, rfl⟩
theorem T1_len {w n p d r : Nat} (hw : w < 7) (hp : p < 12) : (T1 w n p d r).length = 29 := by
  obtain ⟨a, b, c, q, e, _⟩ := dF3 hw
  obtain ⟨x, y, z, e2⟩ := mon3e hp
  unfold T1; rw [e, e2]; rfl
theorem dayT_e (d : Nat) : ∃ a b, (if d + 1 < 10 then [32, UInt8.ofNat (48 + (d + 1))] else d2 (d + 1)) = [a, b] := by
  split
  · exact ⟨_, _, rfl⟩
  · exact ⟨_, _, rfl⟩
theorem T3_len {w n p d r : Nat} (hw : w < 7) (hp : p < 12) : (T3 w n p d r).length = 24 := by
  obtain ⟨a, b, c, q, e, _⟩ := dF3 hw
  obtain ⟨x, y, z, e2⟩ := mon3e hp
  obtain ⟨u, v, e3⟩ := dayT_e d
  unfold T3; rw [e, e2, e3]; rfl
theorem T2_len {w n p d r : Nat} (hw : w < 7) (hp : p < 12) : 30 ≤ (T2 w n p d r).length ∧ (T2 w n p d r).length ≤ 33 := by
  obtain ⟨a, b, c, q, e, h1, h2⟩ := dF3 hw
  obtain ⟨x, y, z, e2⟩ := mon3e hp
  unfold T2; rw [e, e2]; simp [d2, clkT]; omega
theorem itoa_small {n : Nat} (h : n < 100) : Lib.itoa (n : Int) = if n < 10 then [UInt8.ofNat (48 + n)] else d2 n := by
  rw [itoa_dd]
  by_cases h0 : n = 0
  · subst h0; rfl
  · rw [if_neg (by omega), if_neg (by omega), Int.natAbs_natCast, dd_step h0]
    by_cases c : n < 10
    · rw [if_pos c, show n / 10 = 0 by omega, Nat.mod_eq_of_lt c]; rfl
    · rw [if_neg c, dd_step (by omega), show n / 10 / 10 = 0 by omega, show n / 10 % 10 = n / 10 by omega]; rfl
theorem itoa_year {n : Nat} (h1 : 1000 ≤ n) (h2 : n < 10000) : Lib.itoa (n : Int) = d4 n := by
  rw [itoa_dd, if_neg (by omega), if_neg (by omega), Int.natAbs_natCast, dd_step (by omega), dd_step (by omega), dd_step (by omega), dd_step (by omega), show n / 10 / 10 / 10 / 10 = 0 by omega, show n / 10 / 10 / 10 % 10 = n / 1000 by omega, show n / 10 / 10 % 10 = n / 100 % 10 by omega]
  rfl
theorem ite_max0 {n : Nat} : (if (n : Int) > (0 : Int) then (n : Int) else (0 : Int)) = (n : Int) := by split <;> omega
theorem S_Max_0 {k n : Nat} : S_Max k 0 (n : Int) = some (n : Int) := by
  rw [S_Max, bif_dec]
  by_cases h : n = 0
  · subst h; rfl
  · rw [if_pos (by omega)]
theorem S_Dig_done {k n : Nat} {x1 : Int} {x5 : List UInt8} (h : x1 ≤ (x5.length : Int)) : S_Digits_b0 k (n + 1) x1 x5 = some x5 := by
  rw [S_Digits_b0, bif_dec, if_neg (by omega)]
theorem S_Dig_pad {k n : Nat} {c : UInt8} : S_Digits_b0 k (n + 2) 2 [c] = some [48, c] := by
  rw [S_Digits_b0, bif_dec, if_pos (by simp), bif_dec, if_pos (by simp), cat_ok (by simp), Option.bind_some]
  exact S_Dig_done (by simp)
theorem S_Digits2 {k : Nat} (hk : 1073741824 ≤ k) {n : Nat} (h : n < 100) : S_Digits k (n : Int) 2 = some (d2 n) := by
  obtain ⟨k', e⟩ : ∃ k', k = k' + 2 := ⟨k - 2, by omega⟩
  rw [S_Digits, S_Max_0, Option.bind_some, S_FormatInt_eq hk _ (by omega) (by omega), Option.bind_some, itoa_small h]
  by_cases c : n < 10
  · have : S_Digits_b0 k k 2 [UInt8.ofNat (48 + n)] = some [48, UInt8.ofNat (48 + n)] := by
      conv => lhs; arg 2; rw [e]
      exact S_Dig_pad
    rw [if_pos c, this, Option.bind_some]
    unfold d2
    rw [show n / 10 = 0 by omega, Nat.mod_eq_of_lt c]; rfl
  · have : S_Digits_b0 k k 2 (d2 n) = some (d2 n) := by
      conv => lhs; arg 2; rw [e]
      exact S_Dig_done (by simp [d2])
    rw [if_neg c, this]; rfl
theorem I_Dig_done {k n : Nat} {x1 : Int} {x5 : List UInt8} (h : x1 ≤ (x5.length : Int)) : I_Digits_b0 k (n + 1) x1 x5 = some x5 := by
  rw [I_Digits_b0, bif_dec, if_neg (by omega)]
theorem I_Dig_pad {k n : Nat} {c : UInt8} : I_Digits_b0 k (n + 2) 2 [c] = some [48, c] := by
  rw [I_Digits_b0, bif_dec, if_pos (by simp), bif_dec, if_pos (by simp), cat_ok (by simp), Option.bind_some]
  exact I_Dig_done (by simp)
theorem I_Digits2 {k : Nat} (hk : 1073741824 ≤ k) {n : Nat} (h : n < 100) : I_Digits k (n : Int) 2 = some (d2 n) := by
  obtain ⟨k', e⟩ : ∃ k', k = k' + 2 := ⟨k - 2, by omega⟩
  rw [I_Digits, ite_max0, I_FormatInt_eq  _ (by omega) (by omega), Option.bind_some, itoa_small h]
  by_cases c : n < 10
  · have : I_Digits_b0 k k 2 [UInt8.ofNat (48 + n)] = some [48, UInt8.ofNat (48 + n)] := by
      conv => lhs; arg 2; rw [e]
      exact I_Dig_pad
    rw [if_pos c, this, Option.bind_some]
    unfold d2
    rw [show n / 10 = 0 by omega, Nat.mod_eq_of_lt c]; rfl
  · have : I_Digits_b0 k k 2 (d2 n) = some (d2 n) := by
      conv => lhs; arg 2; rw [e]
      exact I_Dig_done (by simp [d2])
    rw [if_neg c, this]; rfl
theorem S_Digits4 {k : Nat} (hk : 1073741824 ≤ k) {n : Nat} (h1 : 1000 ≤ n) (h2 : n < 10000) : S_Digits k (n : Int) 4 = some (d4 n) := by
  obtain ⟨k', e⟩ : ∃ k', k = k' + 2 := ⟨k - 2, by omega⟩
  have : S_Digits_b0 k k 4 (d4 n) = some (d4 n) := by
    conv => lhs; arg 2; rw [e]
    exact S_Dig_done (by simp [d4])
  rw [S_Digits, S_Max_0, Option.bind_some, S_FormatInt_eq hk _ (by omega) (by omega), Option.bind_some, itoa_year h1 h2, this]; rfl
theorem S_l3Clock_eq {k : Nat} (hk : 1073741824 ≤ k) {t : Nat} (ht : t ≤ 4102444799) : S_l3Clock k (t : Int) = some (clkT (t % 86400)) := by
  have e1 : md (t : Int) 86400 = some ((t % 86400 : Nat) : Int) := md_nat (b := 86400) (by omega)
  have e2 : dv ((t % 86400 : Nat) : Int) 3600 = some ((t % 86400 / 3600 : Nat) : Int) := dv_nat (b := 3600) (by omega)
  have e3 : dv ((t % 86400 : Nat) : Int) 60 = some ((t % 86400 / 60 : Nat) : Int) := dv_nat (b := 60) (by omega)
  have e4 : md ((t % 86400 / 60 : Nat) : Int) 60 = some ((t % 86400 / 60 % 60 : Nat) : Int) := md_nat (b := 60) (by omega)
  have e5 : md ((t % 86400 : Nat) : Int) 60 = some ((t % 86400 % 60 : Nat) : Int) := md_nat (b := 60) (by omega)
  rw [S_l3Clock, e1, Option.bind_some, e2, Option.bind_some, wrap_nat (by omega), S_Digits2 hk (by omega), Option.bind_some, cat_ok (by simp [d2]), Option.bind_some, e3, Option.bind_some, wrap_nat (by omega), e4, Option.bind_some, S_Digits2 hk (by omega), Option.bind_some, cat_ok (by simp [d2]), Option.bind_some, cat_ok (by simp [d2]), Option.bind_some, e5, Option.bind_some, S_Digits2 hk (by omega), Option.bind_some, cat_ok (by simp [d2])]
  rfl
theorem day_tab : ∀ w : Fin 7, idx ([[83, 117, 110, 100, 97, 121], [77, 111, 110, 100, 97, 121], [84, 117, 101, 115, 100, 97, 121], [87, 101, 100, 110, 101, 115, 100, 97, 121], [84, 104, 117, 114, 115, 100, 97, 121], [70, 114, 105, 100, 97, 121], [83, 97, 116, 117, 114, 100, 97, 121]] : List (List UInt8)) ((w.val : Nat) : Int) = some (dFull w.val) ∧ ssub (dFull w.val) 0 3 = some ((dFull w.val).take 3) ∧ ssub ([83, 117, 110, 77, 111, 110, 84, 117, 101, 87, 101, 100, 84, 104, 117, 70, 114, 105, 83, 97, 116] : List UInt8) (IntKind.wrap .i64 ((3 : Int) * ((w.val : Nat) : Int))) (IntKind.wrap .i64 ((IntKind.wrap .i64 ((3 : Int) * ((w.val : Nat) : Int))) + (3 : Int))) = some ((dFull w.val).take 3) := by decide +kernel
theorem mon_tab : ∀ p : Fin 12, idx ([[74, 97, 110], [70, 101, 98], [77, 97, 114], [65, 112, 114], [77, 97, 121], [74, 117, 110], [74, 117, 108], [65, 117, 103], [83, 101, 112], [79, 99, 116], [78, 111, 118], [68, 101, 99]] : List (List UInt8)) (IntKind.wrap .i64 (((p.val + 1 : Nat) : Int) - (1 : Int))) = some (mon3 p.val) ∧ ssub ([74, 97, 110, 70, 101, 98, 77, 97, 114, 65, 112, 114, 77, 97, 121, 74, 117, 110, 74, 117, 108, 65, 117, 103, 83, 101, 112, 79, 99, 116, 78, 111, 118, 68, 101, 99] : List UInt8) (IntKind.wrap .i64 ((IntKind.wrap .i64 ((3 : Int) * ((p.val + 1 : Nat) : Int))) - (3 : Int))) (IntKind.wrap .i64 ((3 : Int) * ((p.val + 1 : Nat) : Int))) = some (mon3 p.val) := by decide +kernel
theorem dF3_len {w : Nat} (h : w < 7) : ((dFull w).take 3).length = 3 := by
  obtain ⟨a, b, c, q, e, _⟩ := dF3 h
  rw [e]; rfl
theorem dF_len {w : Nat} (h : w < 7) : (dFull w).length ≤ 9 := by
  obtain ⟨a, b, c, q, e, _⟩ := dF3 h
  rw [e]; simp; omega
theorem mon3_len {p : Nat} (h : p < 12) : (mon3 p).length = 3 := by
  obtain ⟨a, b, c, e⟩ := mon3e h
  rw [e]; rfl
theorem clkT_len (r : Nat) : (clkT r).length = 8 := rfl
theorem S_l3Forms_eq {k : Nat} (hk : 1073741824 ≤ k) {t n p d : Nat} (ht : t ≤ 4102444799) (h : IsDay (t / 86400) n p d) : S_l3Forms k (t : Int) = some [T1 (wkN (t / 86400)) n p d (t % 86400), T2 (wkN (t / 86400)) n p d (t % 86400), T3 (wkN (t / 86400)) n p d (t % 86400)] := by
  have hn := h.hn
  have hp := h.hp
  have hd := h.hd
  have hm := mdN_pos (1970 + n) (p + 1)
  have hw := wkN_lt (t / 86400)
  have e1 : dv (t : Int) 86400 = some ((t / 86400 : Nat) : Int) := dv_nat (b := 86400) (by omega)
  have e2 : md ((1970 + n : Nat) : Int) 100 = some (((1970 + n) % 100 : Nat) : Int) := md_nat (b := 100) (by omega)
  obtain ⟨f1, f2, _⟩ := day_tab ⟨wkN (t / 86400), hw⟩
  obtain ⟨g1, _⟩ := mon_tab ⟨p, hp⟩
  simp only at f1 f2 g1
  have c1 := S_Digits2 hk (n := d + 1) (by omega)
  have c2 := S_Digits2 hk (n := (1970 + n) % 100) (by omega)
  have c3 := S_Digits4 hk (n := 1970 + n) (by omega) (by omega)
  have c4 := S_l3Clock_eq hk ht
  have c5 := S_FormatInt_eq hk ((d + 1 : Nat) : Int) (by omega) (by omega)
  have c6 : decide (((d + 1 : Nat) : Int) < 10) = decide (d + 1 < 10) := by by_cases c : d + 1 < 10 <;> simp [c] <;> omega
  have l1 := dF3_len hw
  have l2 := mon3_len hp
  have l3 := dF_len hw
  have l4 := clkT_len (t % 86400)
  rw [S_l3Forms, e1, Option.bind_some, wrap_nat (show t / 86400 ≤ 9223372036854775807 by omega), S_CivilOf_eq hk h, Option.bind_some, S_l3Days, Option.bind_some, Option.bind_some, wrap_nat (show t / 86400 ≤ 9223372036854775807 by omega), S_WeekdayOf_nat (k := k) (t / 86400) (by omega), Option.bind_some, f1, Option.bind_some, Option.bind_some, S_l3Months, Option.bind_some]
  simp only
  rw [g1, Option.bind_some, Option.bind_some, f2, Option.bind_some, cat_ok (by simp only [List.length_append, List.length_cons, List.length_nil, l1, l2, l4, d2, d4]; omega), Option.bind_some, c1, Option.bind_some, cat_ok (by simp only [List.length_append, List.length_cons, List.length_nil, l1, l2, l4, d2, d4]; omega), Option.bind_some, cat_ok (by simp only [List.length_append, List.length_cons, List.length_nil, l1, l2, l4, d2, d4]; omega), Option.bind_some, cat_ok (by simp only [List.length_append, List.length_cons, List.length_nil, l1, l2, l4, d2, d4]; omega), Option.bind_some, cat_ok (by simp only [List.length_append, List.length_cons, List.length_nil, l1, l2, l4, d2, d4]; omega), Option.bind_some, c3, Option.bind_some, cat_ok (by simp only [List.length_append, List.length_cons, List.length_nil, l1, l2, l4, d2, d4]; omega), Option.bind_some, cat_ok (by simp only [List.length_append, List.length_cons, List.length_nil, l1, l2, l4, d2, d4]; omega), Option.bind_some, c4, Option.bind_some, cat_ok (by simp only [List.length_append, List.length_cons, List.length_nil, l1, l2, l4, d2, d4]; omega), Option.bind_some, cat_ok (by simp only [List.length_append, List.length_cons, List.length_nil, l1, l2, l4, d2, d4]; omega), Option.bind_some]
  rw [cat_ok (by simp only [List.length_append, List.length_cons, List.length_nil, l1, l2, l4, d2, d4]; omega), Option.bind_some, Option.bind_some, cat_ok (by simp only [List.length_append, List.length_cons, List.length_nil, l1, l2, l4, d2, d4]; omega), Option.bind_some, cat_ok (by simp only [List.length_append, List.length_cons, List.length_nil, l1, l2, l4, d2, d4]; omega), Option.bind_some, cat_ok (by simp only [List.length_append, List.length_cons, List.length_nil, l1, l2, l4, d2, d4]; omega), Option.bind_some, cat_ok (by simp only [List.length_append, List.length_cons, List.length_nil, l1, l2, l4, d2, d4]; omega), Option.bind_some, e2, Option.bind_some, c2, Option.bind_some, cat_ok (by simp only [List.length_append, List.length_cons, List.length_nil, l1, l2, l4, d2, d4]; omega), Option.bind_some, cat_ok (by simp only [List.length_append, List.length_cons, List.length_nil, l1, l2, l4, d2, d4]; omega), Option.bind_some, Option.bind_some, cat_ok (by simp only [List.length_append, List.length_cons, List.length_nil, l1, l2, l4, d2, d4]; omega), Option.bind_some, cat_ok (by simp only [List.length_append, List.length_cons, List.length_nil, l1, l2, l4, d2, d4]; omega), Option.bind_some, Option.bind_some, c6, S_l3Forms_c69, c5, Option.bind_some, itoa_small (show d + 1 < 100 by omega)]
  by_cases c : d + 1 < 10
  · rw [decide_eq_true c, cond_true, if_pos c, cat_ok (by simp only [List.length_append, List.length_cons, List.length_nil, l1, l2, l4, d2, d4]; omega), Option.bind_some, Option.bind_some]
    rw [Option.bind_some, cat_ok (by simp only [List.length_append, List.length_cons, List.length_nil, l1, l2, l4, d2, d4]; omega), Option.bind_some, cat_ok (by simp only [List.length_append, List.length_cons, List.length_nil, l1, l2, l4, d2, d4]; omega), Option.bind_some, cat_ok (by simp only [List.length_append, List.length_cons, List.length_nil, l1, l2, l4, d2, d4]; omega), Option.bind_some, cat_ok (by simp only [List.length_append, List.length_cons, List.length_nil, l1, l2, l4, d2, d4]; omega), Option.bind_some, cat_ok (by simp only [List.length_append, List.length_cons, List.length_nil, l1, l2, l4, d2, d4]; omega), Option.bind_some, Option.bind_some, cat_ok (by simp only [List.length_append, List.length_cons, List.length_nil, l1, l2, l4, d2, d4]; omega), Option.bind_some, cat_ok (by simp only [List.length_append, List.length_cons, List.length_nil, l1, l2, l4, d2, d4]; omega), Option.bind_some, Option.bind_some, cat_ok (by simp only [List.length_append, List.length_cons, List.length_nil, l1, l2, l4, d2, d4]; omega), Option.bind_some]
    unfold T1 T2 T3
    rw [if_pos c]; rfl
  · rw [decide_eq_false c, cond_false, Option.bind_some]
    rw [Option.bind_some, cat_ok (by simp only [List.length_append, List.length_cons, List.length_nil, l1, l2, l4, d2, d4]; omega), Option.bind_some, cat_ok (by simp only [List.length_append, List.length_cons, List.length_nil, l1, l2, l4, d2, d4]; omega), Option.bind_some, cat_ok (by simp only [List.length_append, List.length_cons, List.length_nil, l1, l2, l4, d2, d4]; omega), Option.bind_some, cat_ok (by simp only [List.length_append, List.length_cons, List.length_nil, l1, l2, l4, d2, d4]; omega), Option.bind_some, cat_ok (by simp only [List.length_append, List.length_cons, List.length_nil, l1, l2, l4, d2, d4]; omega), Option.bind_some, Option.bind_some, cat_ok (by simp only [List.length_append, List.length_cons, List.length_nil, l1, l2, l4, d2, d4]; omega), Option.bind_some, cat_ok (by simp only [List.length_append, List.length_cons, List.length_nil, l1, l2, l4, d2, d4]; omega), Option.bind_some, Option.bind_some, cat_ok (by simp only [List.length_append, List.length_cons, List.length_nil, l1, l2, l4, d2, d4]; omega), Option.bind_some]
    unfold T1 T2 T3
    rw [if_neg c]
def digI (s : List UInt8) : Int := match Lib.atoiAll (Lib.trimLeftB s 32) with | .ok v => v | _ => -1
theorem digI_t2 : ∀ n : Fin 100, digI (d2 n.val) = n.val := by decide +kernel
theorem digI_t4 : ∀ n : Fin 130, digI (d4 (1970 + n.val)) = (1970 + n.val : Nat) := by decide +kernel
theorem digI_t3 : ∀ d : Fin 31, digI (if d.val + 1 < 10 then [32, UInt8.ofNat (48 + (d.val + 1))] else d2 (d.val + 1)) = (d.val + 1 : Nat) := by decide +kernel
def monAll : List UInt8 := [74, 97, 110, 70, 101, 98, 77, 97, 114, 65, 112, 114, 77, 97, 121, 74, 117, 110, 74, 117, 108, 65, 117, 103, 83, 101, 112, 79, 99, 116, 78, 111, 118, 68, 101, 99]
def two (a b : UInt8) : Int := bif decide (48 ≤ a.toNat) && decide (a.toNat ≤ 57) && (decide (48 ≤ b.toNat) && decide (b.toNat ≤ 57)) then 10 * ((a.toNat : Int) - 48) + ((b.toNat : Int) - 48) else -1
theorem two_t : ∀ n : Fin 100, two (UInt8.ofNat (48 + n.val / 10)) (UInt8.ofNat (48 + n.val % 10)) = n.val := by decide +kernel
theorem two_y : ∀ n : Fin 130, 100 * two (UInt8.ofNat (48 + (1970 + n.val) / 1000)) (UInt8.ofNat (48 + (1970 + n.val) / 100 % 10)) + two (UInt8.ofNat (48 + (1970 + n.val) / 10 % 10)) (UInt8.ofNat (48 + (1970 + n.val) % 10)) = (1970 + n.val : Nat) := by decide +kernel
def isD (s : List UInt8) (t : Nat) : Prop := t ≤ 4102444799 ∧ ∃ n p d, IsDay (t / 86400) n p d ∧ (s = T1 (wkN (t / 86400)) n p d (t % 86400) ∨ (n < 100 ∧ s = T2 (wkN (t / 86400)) n p d (t % 86400)) ∨ s = T3 (wkN (t / 86400)) n p d (t % 86400))
open Classical in
noncomputable def pDate (s : List UInt8) : Int × Bool := if h : ∃ t, isD s t then ((Classical.choose h : Nat), true) else (0, false)
theorem pDate_no {s : List UInt8} (h : ¬ ∃ t, isD s t) : pDate s = (0, false) := by unfold pDate; rw [dif_neg h]
theorem I_fullDay_eq {k w : Nat} (hw : w < 7) : I_fullDay k (w : Int) = some (dFull w) := by
  obtain ⟨f1, _, _⟩ := day_tab ⟨w, hw⟩
  simp only at f1
  rw [I_fullDay, f1, Option.bind_some, Option.bind_some]
theorem I_dateText_1 {k : Nat} (hk : 1073741824 ≤ k) {t n p d : Nat} (ht : t ≤ 4102444799) (h : IsDay (t / 86400) n p d) : I_dateText k (t : Int) 1 = some (T1 (wkN (t / 86400)) n p d (t % 86400)) := by
  have hn := h.hn
  have hp := h.hp
  have hd := h.hd
  have hm := mdN_pos (1970 + n) (p + 1)
  have hw := wkN_lt (t / 86400)
  have l1 := dF3_len hw
  have l2 := mon3_len hp
  have l3 := dF_len hw
  have e1 : dv (t : Int) 86400 = some ((t / 86400 : Nat) : Int) := dv_nat (b := 86400) (by omega)
  have e2 : dv (t : Int) 3600 = some ((t / 3600 : Nat) : Int) := dv_nat (b := 3600) (by omega)
  have e3 : md ((t / 3600 : Nat) : Int) 24 = some ((t % 86400 / 3600 : Nat) : Int) := by
    rw [show t % 86400 / 3600 = t / 3600 % 24 by omega]; exact md_nat (b := 24) (by omega)
  have e4 : dv (t : Int) 60 = some ((t / 60 : Nat) : Int) := dv_nat (b := 60) (by omega)
  have e5 : md ((t / 60 : Nat) : Int) 60 = some ((t % 86400 / 60 % 60 : Nat) : Int) := by
    rw [show t % 86400 / 60 % 60 = t / 60 % 60 by omega]; exact md_nat (b := 60) (by omega)
  have e6 : md (t : Int) 60 = some ((t % 86400 % 60 : Nat) : Int) := by
    rw [show t % 86400 % 60 = t % 60 by omega]; exact md_nat (b := 60) (by omega)
  have e7 : md ((1970 + n : Nat) : Int) 100 = some (((1970 + n) % 100 : Nat) : Int) := md_nat (b := 100) (by omega)
  obtain ⟨f1, _, f3⟩ := day_tab ⟨wkN (t / 86400), hw⟩
  obtain ⟨_, g2⟩ := mon_tab ⟨p, hp⟩
  simp only at f1 f3 g2
  have c1 := I_Digits2 hk (n := d + 1) (by omega)
  have c2 := I_Digits2 hk (n := (1970 + n) % 100) (by omega)
  have c3 := I_Digits2 hk (n := t % 86400 / 3600) (by omega)
  have c4 := I_Digits2 hk (n := t % 86400 / 60 % 60) (by omega)
  have c5 := I_Digits2 hk (n := t % 86400 % 60) (by omega)
  have c6 := I_FormatInt_eq (k := k) ((1970 + n : Nat) : Int) (by omega) (by omega)
  have c7 := I_FormatInt_eq (k := k) ((d + 1 : Nat) : Int) (by omega) (by omega)
  rw [itoa_year (by omega) (by omega)] at c6
  rw [itoa_small (by omega)] at c7
  have c8 : decide (((d + 1 : Nat) : Int) < 10) = decide (d + 1 < 10) := by by_cases c : d + 1 < 10 <;> simp [c] <;> omega
  rw [I_dateText, I_inRange_eq, Option.bind_some, inR_t (by omega) (by omega), Bool.not_true, cond_false, e1, Option.bind_some, wrap_nat (show t / 86400 ≤ 9223372036854775807 by omega), I_CivilOf_eq hk h, Option.bind_some, Option.bind_some, wrap_nat (show t / 86400 ≤ 9223372036854775807 by omega), I_WeekdayOf_nat (k := k) (t / 86400) (by omega), Option.bind_some, e2, Option.bind_some, wrap_nat (show t / 3600 ≤ 9223372036854775807 by omega), e3, Option.bind_some, c3, Option.bind_some, cat_ok (by simp only [List.length_append, List.length_cons, List.length_nil, l1, l2, d2, d4]; omega), Option.bind_some, e4, Option.bind_some, wrap_nat (show t / 60 ≤ 9223372036854775807 by omega), e5, Option.bind_some, c4, Option.bind_some, cat_ok (by simp only [List.length_append, List.length_cons, List.length_nil, l1, l2, d2, d4]; omega), Option.bind_some, cat_ok (by simp only [List.length_append, List.length_cons, List.length_nil, l1, l2, d2, d4]; omega), Option.bind_some, e6, Option.bind_some, c5, Option.bind_some, cat_ok (by simp only [List.length_append, List.length_cons, List.length_nil, l1, l2, d2, d4]; omega), Option.bind_some, f3, Option.bind_some]
  simp only
  rw [g2, Option.bind_some]
  rw [show ((1 : Int) == 1) = true from rfl, cond_true, cat_ok (by simp only [List.length_append, List.length_cons, List.length_nil, l1, l2, d2, d4]; omega), Option.bind_some, c1, Option.bind_some, cat_ok (by simp only [List.length_append, List.length_cons, List.length_nil, l1, l2, d2, d4]; omega), Option.bind_some, cat_ok (by simp only [List.length_append, List.length_cons, List.length_nil, l1, l2, d2, d4]; omega), Option.bind_some, cat_ok (by simp only [List.length_append, List.length_cons, List.length_nil, l1, l2, d2, d4]; omega), Option.bind_some, cat_ok (by simp only [List.length_append, List.length_cons, List.length_nil, l1, l2, d2, d4]; omega), Option.bind_some, c6, Option.bind_some, cat_ok (by simp only [List.length_append, List.length_cons, List.length_nil, l1, l2, d2, d4]; omega), Option.bind_some, cat_ok (by simp only [List.length_append, List.length_cons, List.length_nil, l1, l2, d2, d4]; omega), Option.bind_some, cat_ok (by simp only [List.length_append, List.length_cons, List.length_nil, l1, l2, d2, d4]; omega), Option.bind_some, cat_ok (by simp only [List.length_append, List.length_cons, List.length_nil, l1, l2, d2, d4]; omega), Option.bind_some]
  rfl
theorem I_dateText_2 {k : Nat} (hk : 1073741824 ≤ k) {t n p d : Nat} (ht : t ≤ 4102444799) (h : IsDay (t / 86400) n p d) : I_dateText k (t : Int) 2 = some (if n < 100 then T2 (wkN (t / 86400)) n p d (t % 86400) else []) := by
  have hn := h.hn
  have hp := h.hp
  have hd := h.hd
  have hm := mdN_pos (1970 + n) (p + 1)
  have hw := wkN_lt (t / 86400)
  have l1 := dF3_len hw
  have l2 := mon3_len hp
  have l3 := dF_len hw
  have e1 : dv (t : Int) 86400 = some ((t / 86400 : Nat) : Int) := dv_nat (b := 86400) (by omega)
  have e2 : dv (t : Int) 3600 = some ((t / 3600 : Nat) : Int) := dv_nat (b := 3600) (by omega)
  have e3 : md ((t / 3600 : Nat) : Int) 24 = some ((t % 86400 / 3600 : Nat) : Int) := by
    rw [show t % 86400 / 3600 = t / 3600 % 24 by omega]; exact md_nat (b := 24) (by omega)
  have e4 : dv (t : Int) 60 = some ((t / 60 : Nat) : Int) := dv_nat (b := 60) (by omega)
  have e5 : md ((t / 60 : Nat) : Int) 60 = some ((t % 86400 / 60 % 60 : Nat) : Int) := by
    rw [show t % 86400 / 60 % 60 = t / 60 % 60 by omega]; exact md_nat (b := 60) (by omega)
  have e6 : md (t : Int) 60 = some ((t % 86400 % 60 : Nat) : Int) := by
    rw [show t % 86400 % 60 = t % 60 by omega]; exact md_nat (b := 60) (by omega)
  have e7 : md ((1970 + n : Nat) : Int) 100 = some (((1970 + n) % 100 : Nat) : Int) := md_nat (b := 100) (by omega)
  obtain ⟨f1, _, f3⟩ := day_tab ⟨wkN (t / 86400), hw⟩
  obtain ⟨_, g2⟩ := mon_tab ⟨p, hp⟩
  simp only at f1 f3 g2
  have c1 := I_Digits2 hk (n := d + 1) (by omega)
  have c2 := I_Digits2 hk (n := (1970 + n) % 100) (by omega)
  have c3 := I_Digits2 hk (n := t % 86400 / 3600) (by omega)
  have c4 := I_Digits2 hk (n := t % 86400 / 60 % 60) (by omega)
  have c5 := I_Digits2 hk (n := t % 86400 % 60) (by omega)
  have c6 := I_FormatInt_eq (k := k) ((1970 + n : Nat) : Int) (by omega) (by omega)
  have c7 := I_FormatInt_eq (k := k) ((d + 1 : Nat) : Int) (by omega) (by omega)
  rw [itoa_year (by omega) (by omega)] at c6
  rw [itoa_small (by omega)] at c7
  have c8 : decide (((d + 1 : Nat) : Int) < 10) = decide (d + 1 < 10) := by by_cases c : d + 1 < 10 <;> simp [c] <;> omega
  rw [I_dateText, I_inRange_eq, Option.bind_some, inR_t (by omega) (by omega), Bool.not_true, cond_false, e1, Option.bind_some, wrap_nat (show t / 86400 ≤ 9223372036854775807 by omega), I_CivilOf_eq hk h, Option.bind_some, Option.bind_some, wrap_nat (show t / 86400 ≤ 9223372036854775807 by omega), I_WeekdayOf_nat (k := k) (t / 86400) (by omega), Option.bind_some, e2, Option.bind_some, wrap_nat (show t / 3600 ≤ 9223372036854775807 by omega), e3, Option.bind_some, c3, Option.bind_some, cat_ok (by simp only [List.length_append, List.length_cons, List.length_nil, l1, l2, d2, d4]; omega), Option.bind_some, e4, Option.bind_some, wrap_nat (show t / 60 ≤ 9223372036854775807 by omega), e5, Option.bind_some, c4, Option.bind_some, cat_ok (by simp only [List.length_append, List.length_cons, List.length_nil, l1, l2, d2, d4]; omega), Option.bind_some, cat_ok (by simp only [List.length_append, List.length_cons, List.length_nil, l1, l2, d2, d4]; omega), Option.bind_some, e6, Option.bind_some, c5, Option.bind_some, cat_ok (by simp only [List.length_append, List.length_cons, List.length_nil, l1, l2, d2, d4]; omega), Option.bind_some, f3, Option.bind_some]
  simp only
  rw [g2, Option.bind_some]
  rw [show ((2 : Int) == 1) = false from rfl, show ((2 : Int) == 2) = true from rfl, cond_true, cond_false, bif_dec]
  by_cases c : n < 100
  · rw [if_neg (by omega), if_pos c, I_fullDay_eq hw, Option.bind_some, cat_ok (by simp only [List.length_append, List.length_cons, List.length_nil, l1, l2, d2, d4]; omega), Option.bind_some, c1, Option.bind_some, cat_ok (by simp only [List.length_append, List.length_cons, List.length_nil, l1, l2, d2, d4]; omega), Option.bind_some, cat_ok (by simp only [List.length_append, List.length_cons, List.length_nil, l1, l2, d2, d4]; omega), Option.bind_some, cat_ok (by simp only [List.length_append, List.length_cons, List.length_nil, l1, l2, d2, d4]; omega), Option.bind_some, cat_ok (by simp only [List.length_append, List.length_cons, List.length_nil, l1, l2, d2, d4]; omega), Option.bind_some, e7, Option.bind_some, c2, Option.bind_some, cat_ok (by simp only [List.length_append, List.length_cons, List.length_nil, l1, l2, d2, d4]; omega), Option.bind_some, cat_ok (by simp only [List.length_append, List.length_cons, List.length_nil, l1, l2, d2, d4]; omega), Option.bind_some, cat_ok (by simp only [List.length_append, List.length_cons, List.length_nil, l1, l2, d2, d4]; omega), Option.bind_some, cat_ok (by simp only [List.length_append, List.length_cons, List.length_nil, l1, l2, d2, d4]; omega), Option.bind_some]
    rfl
  · rw [if_pos (by omega), if_neg c]
theorem I_dateText_3 {k : Nat} (hk : 1073741824 ≤ k) {t n p d : Nat} (ht : t ≤ 4102444799) (h : IsDay (t / 86400) n p d) : I_dateText k (t : Int) 3 = some (T3 (wkN (t / 86400)) n p d (t % 86400)) := by
  have hn := h.hn
  have hp := h.hp
  have hd := h.hd
  have hm := mdN_pos (1970 + n) (p + 1)
  have hw := wkN_lt (t / 86400)
  have l1 := dF3_len hw
  have l2 := mon3_len hp
  have l3 := dF_len hw
  have e1 : dv (t : Int) 86400 = some ((t / 86400 : Nat) : Int) := dv_nat (b := 86400) (by omega)
  have e2 : dv (t : Int) 3600 = some ((t / 3600 : Nat) : Int) := dv_nat (b := 3600) (by omega)
  have e3 : md ((t / 3600 : Nat) : Int) 24 = some ((t % 86400 / 3600 : Nat) : Int) := by
    rw [show t % 86400 / 3600 = t / 3600 % 24 by omega]; exact md_nat (b := 24) (by omega)
  have e4 : dv (t : Int) 60 = some ((t / 60 : Nat) : Int) := dv_nat (b := 60) (by omega)
  have e5 : md ((t / 60 : Nat) : Int) 60 = some ((t % 86400 / 60 % 60 : Nat) : Int) := by
    rw [show t % 86400 / 60 % 60 = t / 60 % 60 by omega]; exact md_nat (b := 60) (by omega)
  have e6 : md (t : Int) 60 = some ((t % 86400 % 60 : Nat) : Int) := by
    rw [show t % 86400 % 60 = t % 60 by omega]; exact md_nat (b := 60) (by omega)
  have e7 : md ((1970 + n : Nat) : Int) 100 = some (((1970 + n) % 100 : Nat) : Int) := md_nat (b := 100) (by omega)
  obtain ⟨f1, _, f3⟩ := day_tab ⟨wkN (t / 86400), hw⟩
  obtain ⟨_, g2⟩ := mon_tab ⟨p, hp⟩
  simp only at f1 f3 g2
  have c1 := I_Digits2 hk (n := d + 1) (by omega)
  have c2 := I_Digits2 hk (n := (1970 + n) % 100) (by omega)
  have c3 := I_Digits2 hk (n := t % 86400 / 3600) (by omega)
  have c4 := I_Digits2 hk (n := t % 86400 / 60 % 60) (by omega)
  have c5 := I_Digits2 hk (n := t % 86400 % 60) (by omega)
  have c6 := I_FormatInt_eq (k := k) ((1970 + n : Nat) : Int) (by omega) (by omega)
  have c7 := I_FormatInt_eq (k := k) ((d + 1 : Nat) : Int) (by omega) (by omega)
  rw [itoa_year (by omega) (by omega)] at c6
  rw [itoa_small (by omega)] at c7
  have c8 : decide (((d + 1 : Nat) : Int) < 10) = decide (d + 1 < 10) := by by_cases c : d + 1 < 10 <;> simp [c] <;> omega
  rw [I_dateText, I_inRange_eq, Option.bind_some, inR_t (by omega) (by omega), Bool.not_true, cond_false, e1, Option.bind_some, wrap_nat (show t / 86400 ≤ 9223372036854775807 by omega), I_CivilOf_eq hk h, Option.bind_some, Option.bind_some, wrap_nat (show t / 86400 ≤ 9223372036854775807 by omega), I_WeekdayOf_nat (k := k) (t / 86400) (by omega), Option.bind_some, e2, Option.bind_some, wrap_nat (show t / 3600 ≤ 9223372036854775807 by omega), e3, Option.bind_some, c3, Option.bind_some, cat_ok (by simp only [List.length_append, List.length_cons, List.length_nil, l1, l2, d2, d4]; omega), Option.bind_some, e4, Option.bind_some, wrap_nat (show t / 60 ≤ 9223372036854775807 by omega), e5, Option.bind_some, c4, Option.bind_some, cat_ok (by simp only [List.length_append, List.length_cons, List.length_nil, l1, l2, d2, d4]; omega), Option.bind_some, cat_ok (by simp only [List.length_append, List.length_cons, List.length_nil, l1, l2, d2, d4]; omega), Option.bind_some, e6, Option.bind_some, c5, Option.bind_some, cat_ok (by simp only [List.length_append, List.length_cons, List.length_nil, l1, l2, d2, d4]; omega), Option.bind_some, f3, Option.bind_some]
  simp only
  rw [g2, Option.bind_some]
  rw [show ((3 : Int) == 1) = false from rfl, show ((3 : Int) == 2) = false from rfl, cond_false, cond_false, c7, Option.bind_some, I_dateText_c97, c8]
  unfold T3
  by_cases c : d + 1 < 10
  · rw [decide_eq_true c, cond_true, if_pos c, if_pos c, cat_ok (by simp only [List.length_append, List.length_cons, List.length_nil, l1, l2, d2, d4]; omega), Option.bind_some, Option.bind_some, cat_ok (by simp only [List.length_append, List.length_cons, List.length_nil, l1, l2, d2, d4]; omega), Option.bind_some, cat_ok (by simp only [List.length_append, List.length_cons, List.length_nil, l1, l2, d2, d4]; omega), Option.bind_some, cat_ok (by simp only [List.length_append, List.length_cons, List.length_nil, l1, l2, d2, d4]; omega), Option.bind_some, cat_ok (by simp only [List.length_append, List.length_cons, List.length_nil, l1, l2, d2, d4]; omega), Option.bind_some, cat_ok (by simp only [List.length_append, List.length_cons, List.length_nil, l1, l2, d2, d4]; omega), Option.bind_some, cat_ok (by simp only [List.length_append, List.length_cons, List.length_nil, l1, l2, d2, d4]; omega), Option.bind_some, cat_ok (by simp only [List.length_append, List.length_cons, List.length_nil, l1, l2, d2, d4]; omega), Option.bind_some, c6, Option.bind_some, cat_ok (by simp only [List.length_append, List.length_cons, List.length_nil, l1, l2, d2, d4]; omega), Option.bind_some]
    rfl
  · rw [decide_eq_false c, cond_false, if_neg c, if_neg c, Option.bind_some, cat_ok (by simp only [List.length_append, List.length_cons, List.length_nil, l1, l2, d2, d4]; omega), Option.bind_some, cat_ok (by simp only [List.length_append, List.length_cons, List.length_nil, l1, l2, d2, d4]; omega), Option.bind_some, cat_ok (by simp only [List.length_append, List.length_cons, List.length_nil, l1, l2, d2, d4]; omega), Option.bind_some, cat_ok (by simp only [List.length_append, List.length_cons, List.length_nil, l1, l2, d2, d4]; omega), Option.bind_some, cat_ok (by simp only [List.length_append, List.length_cons, List.length_nil, l1, l2, d2, d4]; omega), Option.bind_some, cat_ok (by simp only [List.length_append, List.length_cons, List.length_nil, l1, l2, d2, d4]; omega), Option.bind_some, cat_ok (by simp only [List.length_append, List.length_cons, List.length_nil, l1, l2, d2, d4]; omega), Option.bind_some, c6, Option.bind_some, cat_ok (by simp only [List.length_append, List.length_cons, List.length_nil, l1, l2, d2, d4]; omega), Option.bind_some]
    rfl
theorem I_dateText_out {k : Nat} {t f : Int} (h : ¬ (0 ≤ t ∧ t ≤ 4102444799)) : I_dateText k t f = some [] := by
  have : inR t 0 4102444799 = false := by
    unfold inR
    by_cases c : 0 ≤ t
    · rw [decide_eq_false (p := t ≤ 4102444799) (by omega), Bool.and_false]
    · rw [decide_eq_false c, Bool.false_and]
  rw [I_dateText, I_inRange_eq, Option.bind_some, this]; rfl
def isF (f : Nat) (s : List UInt8) (t : Nat) : Prop := t ≤ 4102444799 ∧ ∃ n p d, IsDay (t / 86400) n p d ∧ ((f = 1 ∧ s = T1 (wkN (t / 86400)) n p d (t % 86400)) ∨ (f = 2 ∧ n < 100 ∧ s = T2 (wkN (t / 86400)) n p d (t % 86400)) ∨ (f = 3 ∧ s = T3 (wkN (t / 86400)) n p d (t % 86400)))
theorem isF_isD {f : Nat} {s : List UInt8} {t : Nat} (h : isF f s t) : isD s t := by
  obtain ⟨h1, n, p, d, h2, h3⟩ := h
  refine ⟨h1, n, p, d, h2, ?_⟩
  rcases h3 with ⟨_, h3⟩ | ⟨_, h4, h3⟩ | ⟨_, h3⟩
  · exact .inl h3
  · exact .inr (.inl ⟨h4, h3⟩)
  · exact .inr (.inr h3)
theorem isD_isF {s : List UInt8} {t : Nat} (h : isD s t) : isF 1 s t ∨ isF 2 s t ∨ isF 3 s t := by
  obtain ⟨h1, n, p, d, h2, h3⟩ := h
  rcases h3 with h3 | ⟨h4, h3⟩ | h3
  · exact .inl ⟨h1, n, p, d, h2, .inl ⟨rfl, h3⟩⟩
  · exact .inr (.inl ⟨h1, n, p, d, h2, .inr (.inl ⟨rfl, h4, h3⟩)⟩)
  · exact .inr (.inr ⟨h1, n, p, d, h2, .inr (.inr ⟨rfl, h3⟩)⟩)
theorem I_dateText_eq {k : Nat} (hk : 1073741824 ≤ k) (t : Int) {f : Nat} (hf : f = 1 ∨ f = 2 ∨ f = 3) : ∃ x, I_dateText k t (f : Int) = some x ∧ (x ≠ [] → 0 ≤ t ∧ isF f x t.toNat) ∧ ∀ s u, isF f s u → t = (u : Int) → x = s := by
  by_cases c : 0 ≤ t ∧ t ≤ 4102444799
  · obtain ⟨u, rfl⟩ : ∃ u : Nat, t = (u : Int) := ⟨t.toNat, by omega⟩
    obtain ⟨n, p, d, hd⟩ := isDay_ex (day := u / 86400) (by omega)
    have uniq : ∀ {v n' p' d' : Nat}, (u : Int) = (v : Int) → IsDay (v / 86400) n' p' d' → u = v ∧ n = n' ∧ p = p' ∧ d = d' := by
      intro v n' p' d' hv h'
      have hv : u = v := by omega
      subst hv
      have := hd.nu h'
      subst this
      have := hd.pu h'
      exact ⟨rfl, rfl, this.1, this.2⟩
    rcases hf with rfl | rfl | rfl
    · refine ⟨_, I_dateText_1 hk (by omega) hd, fun _ => ⟨by omega, by omega, n, p, d, hd, .inl ⟨rfl, rfl⟩⟩, fun s v ⟨_, n', p', d', h1, h2⟩ hv => ?_⟩
      obtain ⟨rfl, rfl, rfl, rfl⟩ := uniq hv h1
      rcases h2 with ⟨_, h2⟩ | ⟨h3, _⟩ | ⟨h3, _⟩
      · exact h2.symm
      · cases h3
      · cases h3
    · refine ⟨_, I_dateText_2 hk (by omega) hd, fun hx => ?_, fun s v ⟨_, n', p', d', h1, h2⟩ hv => ?_⟩
      · by_cases c2 : n < 100
        · rw [if_pos c2]
          exact ⟨by omega, by omega, n, p, d, hd, .inr (.inl ⟨rfl, c2, rfl⟩)⟩
        · rw [if_neg c2] at hx; exact absurd rfl hx
      · obtain ⟨rfl, rfl, rfl, rfl⟩ := uniq hv h1
        rcases h2 with ⟨h3, _⟩ | ⟨_, h4, h2⟩ | ⟨h3, _⟩
        · cases h3
        · rw [if_pos h4]; exact h2.symm
        · cases h3
    · refine ⟨_, I_dateText_3 hk (by omega) hd, fun _ => ⟨by omega, by omega, n, p, d, hd, .inr (.inr ⟨rfl, rfl⟩)⟩, fun s v ⟨_, n', p', d', h1, h2⟩ hv => ?_⟩
      obtain ⟨rfl, rfl, rfl, rfl⟩ := uniq hv h1
      rcases h2 with ⟨h3, _⟩ | ⟨h3, _⟩ | ⟨_, h2⟩
      · cases h3
      · cases h3
      · exact h2.symm
  · refine ⟨[], I_dateText_out c, fun hx => absurd rfl hx, fun s u hu ht => ?_⟩
    have := hu.1
    omega
theorem I_digitsIn_eq {k : Nat} (q : List UInt8) (h : q.length ≤ 1000) : I_digitsIn k q = some (digI q) := by
  have hl : (Lib.trimLeftB q 32).length ≤ q.length := by unfold Lib.trimLeftB; exact (List.dropWhile_suffix _).length_le
  have e : strings_TrimLeft k q [32] = some (Lib.trimLeftB q 32) := rfl
  rw [I_digitsIn, e, Option.bind_some, strconv_Atoi, atoiO, decide_eq_true (by omega), cond_true]
  unfold digI
  cases Lib.atoiAll (Lib.trimLeftB q 32) <;> rfl
def mI (q : List UInt8) : Int := IntKind.wrap .i64 (IntKind.wrap .i64 ((Lib.index monAll q).tdiv 3) + 1)
theorem mI_t : ∀ p : Fin 12, mI (mon3 p.val) = (p.val + 1 : Nat) := by decide +kernel
def secI (c : List UInt8) (day : Int) : Int := IntKind.wrap .i64 ((IntKind.wrap .i64 ((IntKind.wrap .i64 ((IntKind.wrap .i64 (day * (86400 : Int))) + (IntKind.wrap .i64 (digI (c.take 2) * (3600 : Int))))) + (IntKind.wrap .i64 (digI ((c.take 5).drop 3) * (60 : Int))))) + digI ((c.take 8).drop 6))
def timeI (y : Int) (q : List UInt8) (d : Int) (c : List UInt8) : Int × Bool := bif decide (daysI y (mI q) d < 0) then (0, false) else (secI c (daysI y (mI q) d), true)
theorem I_timeOf_eq {k : Nat} (hk : 1073741824 ≤ k) (y d : Int) (q c : List UInt8) (h : c.length = 8) : I_timeOf k y q d c = some (timeI y q d c) := by
  have e : strings_Index k ([74, 97, 110, 70, 101, 98, 77, 97, 114, 65, 112, 114, 77, 97, 121, 74, 117, 110, 74, 117, 108, 65, 117, 103, 83, 101, 112, 79, 99, 116, 78, 111, 118, 68, 101, 99] : List UInt8) q = some (Lib.index monAll q) := rfl
  have e2 : dv (Lib.index monAll q) 3 = some ((Lib.index monAll q).tdiv 3) := rfl
  have s1 : ssub c 0 2 = some (c.take 2) := by rw [ssub_ok (by omega) (by omega) (by omega)]; rfl
  have s2 : ssub c 3 5 = some ((c.take 5).drop 3) := by rw [ssub_ok (by omega) (by omega) (by omega)]; rfl
  have s3 : ssub c 6 8 = some ((c.take 8).drop 6) := by rw [ssub_ok (by omega) (by omega) (by omega)]; rfl
  have em : IntKind.wrap .i64 ((IntKind.wrap .i64 ((Lib.index monAll q).tdiv 3)) + 1) = mI q := rfl
  rw [I_timeOf, e, Option.bind_some, e2, Option.bind_some, em, I_DaysOf_eq hk, Option.bind_some]
  unfold timeI
  cases hd : decide (daysI y (mI q) d < 0) with
  | true => rfl
  | false => rw [cond_false, s1, Option.bind_some, I_digitsIn_eq _ (by simp; omega), Option.bind_some, s2, Option.bind_some, I_digitsIn_eq _ (by simp; omega), Option.bind_some, s3, Option.bind_some, I_digitsIn_eq _ (by simp; omega), Option.bind_some]; rfl
theorem secI_of {c : List UInt8} {r day : Nat} (hr : r < 86400) (hd : day ≤ 47481) (hc : c = clkT r) : secI c (day : Int) = ((86400 * day + r : Nat) : Int) := by
  have z1 := digI_t2 ⟨r / 3600, by omega⟩
  have z2 := digI_t2 ⟨r / 60 % 60, by omega⟩
  have z3 := digI_t2 ⟨r % 60, by omega⟩
  simp only at z1 z2 z3
  have q1 : c.take 2 = d2 (r / 3600) := by rw [hc]; rfl
  have q2 : (c.take 5).drop 3 = d2 (r / 60 % 60) := by rw [hc]; rfl
  have q3 : (c.take 8).drop 6 = d2 (r % 60) := by rw [hc]; rfl
  unfold secI
  rw [q1, q2, q3, z1, z2, z3, wrap_id (n := (day : Int) * 86400) (by omega) (by omega), wrap_id (n := ((r / 3600 : Nat) : Int) * 3600) (by omega) (by omega), wrap_id (n := ((r / 60 % 60 : Nat) : Int) * 60) (by omega) (by omega), wrap_id (n := (day : Int) * 86400 + ((r / 3600 : Nat) : Int) * 3600) (by omega) (by omega), wrap_id (n := (day : Int) * 86400 + ((r / 3600 : Nat) : Int) * 3600 + ((r / 60 % 60 : Nat) : Int) * 60) (by omega) (by omega), wrap_id (by omega) (by omega)]
  omega
theorem timeI_of {q c : List UInt8} {y d : Int} {r day n p e : Nat} (h : IsDay day n p e) (hr : r < 86400) (hy : y = (1970 + n : Nat)) (hd : d = (e + 1 : Nat)) (hq : q = mon3 p) (hc : c = clkT r) : timeI y q d c = (((86400 * day + r : Nat) : Int), true) := by
  have hm := mI_t ⟨p, h.hp⟩
  simp only at hm
  have hl := h.le
  unfold timeI
  rw [hq, hm, hy, hd, daysI_of h, decide_eq_false (by omega), cond_false, secI_of hr hl hc]
def in1 (s : List UInt8) : Int × Bool := if s.length = 29 then timeI (digI ((s.take 16).drop 12)) ((s.take 11).drop 8) (digI ((s.take 7).drop 5)) ((s.take 25).drop 17) else (0, false)
def in3 (s : List UInt8) : Int × Bool := if s.length = 24 then timeI (digI ((s.take 24).drop 20)) ((s.take 7).drop 4) (digI ((s.take 10).drop 8)) ((s.take 19).drop 11) else (0, false)
def y2I (n : Int) : Int := if n < 70 then IntKind.wrap .i64 (n + 100) else n
def in2 (s : List UInt8) : Int × Bool := bif !(Lib.cut s [44]).2.2 || ((Lib.cut s [44]).2.1.length : Int) != 23 || decide (((Lib.cut s [44]).1.length : Int) < 6) then (0, false) else
  timeI (IntKind.wrap .i64 (1900 + y2I (digI (((Lib.cut s [44]).2.1.take 10).drop 8)))) (((Lib.cut s [44]).2.1.take 7).drop 4) (digI (((Lib.cut s [44]).2.1.take 3).drop 1)) (((Lib.cut s [44]).2.1.take 19).drop 11)
theorem ssub_n {s : List UInt8} (a b : Nat) (h1 : a ≤ b) (h2 : b ≤ s.length) : ssub s (a : Int) (b : Int) = some ((s.take b).drop a) := by rw [ssub_ok (by omega) (by omega) (by omega)]; rfl
theorem I_dateIn_1 {k : Nat} (hk : 1073741824 ≤ k) (s : List UInt8) : I_dateIn k s 1 = some (in1 s) := by
  rw [I_dateIn, show ((1 : Int) == 2) = false from rfl, show ((1 : Int) == 1) = true from rfl, show ((1 : Int) == 3) = false from rfl, cond_false, cond_true]
  unfold in1
  by_cases h : s.length = 29
  · have s1 : ssub s 12 16 = some ((s.take 16).drop 12) := ssub_n 12 16 (by omega) (by omega)
    have s2 : ssub s 8 11 = some ((s.take 11).drop 8) := ssub_n 8 11 (by omega) (by omega)
    have s3 : ssub s 5 7 = some ((s.take 7).drop 5) := ssub_n 5 7 (by omega) (by omega)
    have s4 : ssub s 17 25 = some ((s.take 25).drop 17) := ssub_n 17 25 (by omega) (by omega)
    rw [beq_iff_eq.2 (by omega : (s.length : Int) = 29), cond_true, if_pos h, s1, Option.bind_some, I_digitsIn_eq _ (by simp; omega), Option.bind_some, s2, Option.bind_some, s3, Option.bind_some, I_digitsIn_eq _ (by simp; omega), Option.bind_some, s4, Option.bind_some, I_timeOf_eq hk _ _ _ _ (by simp; omega), Option.bind_some]
  · rw [beq_ne (by omega : ¬ (s.length : Int) = 29), cond_false, if_neg h]; rfl
theorem I_dateIn_3 {k : Nat} (hk : 1073741824 ≤ k) (s : List UInt8) : I_dateIn k s 3 = some (in3 s) := by
  rw [I_dateIn, show ((3 : Int) == 2) = false from rfl, show ((3 : Int) == 1) = false from rfl, show ((3 : Int) == 3) = true from rfl, cond_false, cond_false, cond_true]
  unfold in3
  by_cases h : s.length = 24
  · have s1 : ssub s 20 24 = some ((s.take 24).drop 20) := ssub_n 20 24 (by omega) (by omega)
    have s2 : ssub s 4 7 = some ((s.take 7).drop 4) := ssub_n 4 7 (by omega) (by omega)
    have s3 : ssub s 8 10 = some ((s.take 10).drop 8) := ssub_n 8 10 (by omega) (by omega)
    have s4 : ssub s 11 19 = some ((s.take 19).drop 11) := ssub_n 11 19 (by omega) (by omega)
    rw [beq_iff_eq.2 (by omega : (s.length : Int) = 24), cond_true, if_pos h, s1, Option.bind_some, I_digitsIn_eq _ (by simp; omega), Option.bind_some, s2, Option.bind_some, s3, Option.bind_some, I_digitsIn_eq _ (by simp; omega), Option.bind_some, s4, Option.bind_some, I_timeOf_eq hk _ _ _ _ (by simp; omega), Option.bind_some]
  · rw [beq_ne (by omega : ¬ (s.length : Int) = 24), cond_false, if_neg h]
theorem I_dateIn_2 {k : Nat} (hk : 1073741824 ≤ k) (s : List UInt8) (hs : s.length < 1073741824) : I_dateIn k s 2 = some (in2 s) := by
  have e : strings_Cut k s [44] = some (Lib.cut s [44]) := by
    show (bif decide (s.length < 4294967281) then some (Lib.cut s [44]) else none) = _
    rw [decide_eq_true (by omega)]; rfl
  rw [I_dateIn, show ((2 : Int) == 2) = true from rfl, cond_true, e, Option.bind_some]
  unfold in2
  generalize Lib.cut s [44] = w
  obtain ⟨day, rest, found⟩ := w
  simp only
  cases found with
  | false => rfl
  | true =>
    rw [Bool.not_true, cond_false, Bool.false_or]
    by_cases h : rest.length = 23
    · have hb : ((rest.length : Int) != 23) = false := by rw [show (rest.length : Int) = 23 by omega]; rfl
      rw [hb, cond_false, Bool.false_or]
      cases decide ((day.length : Int) < 6) with
      | true => rfl
      | false =>
        have s1 : ssub rest 8 10 = some ((rest.take 10).drop 8) := ssub_n 8 10 (by omega) (by omega)
        have s2 : ssub rest 4 7 = some ((rest.take 7).drop 4) := ssub_n 4 7 (by omega) (by omega)
        have s3 : ssub rest 1 3 = some ((rest.take 3).drop 1) := ssub_n 1 3 (by omega) (by omega)
        have s4 : ssub rest 11 19 = some ((rest.take 19).drop 11) := ssub_n 11 19 (by omega) (by omega)
        have e3 : I_dateIn_c34 k rest (digI ((rest.take 10).drop 8)) (decide (digI ((rest.take 10).drop 8) < 70)) = some (y2I (digI ((rest.take 10).drop 8))) := by
          rw [I_dateIn_c34, bif_dec]; unfold y2I; split <;> rfl
        rw [cond_false, cond_false, s1, Option.bind_some, I_digitsIn_eq _ (by simp; omega), Option.bind_some, e3, Option.bind_some, s2, Option.bind_some, s3, Option.bind_some, I_digitsIn_eq _ (by simp; omega), Option.bind_some, s4, Option.bind_some, I_timeOf_eq hk _ _ _ _ (by simp; omega), Option.bind_some]
    · have hb : ((rest.length : Int) != 23) = true := bne_ne (by omega)
      rw [hb, cond_true, Bool.true_or, cond_true]
theorem in1_of {w n p d r day : Nat} (hw : w < 7) (h : IsDay day n p d) (hr : r < 86400) : in1 (T1 w n p d r) = (((86400 * day + r : Nat) : Int), true) := by
  have hd := h.hd
  have hm := mdN_pos (1970 + n) (p + 1)
  have t4 := digI_t4 ⟨n, h.hn⟩
  have t2 := digI_t2 ⟨d + 1, by omega⟩
  simp only at t4 t2
  obtain ⟨a, b, c, q, e, _⟩ := dF3 hw
  obtain ⟨x, y, z, e2⟩ := mon3e h.hp
  have hl : (T1 w n p d r).length = 29 := T1_len hw h.hp
  have q1 : ((T1 w n p d r).take 16).drop 12 = d4 (1970 + n) := by unfold T1; rw [e, e2]; rfl
  have q2 : ((T1 w n p d r).take 11).drop 8 = mon3 p := by unfold T1; rw [e, e2]; rfl
  have q3 : ((T1 w n p d r).take 7).drop 5 = d2 (d + 1) := by unfold T1; rw [e, e2]; rfl
  have q4 : ((T1 w n p d r).take 25).drop 17 = clkT r := by unfold T1; rw [e, e2]; rfl
  unfold in1
  rw [if_pos hl, q1, q2, q3, q4]
  exact timeI_of h hr t4 t2 rfl rfl
theorem in3_of {w n p d r day : Nat} (hw : w < 7) (h : IsDay day n p d) (hr : r < 86400) : in3 (T3 w n p d r) = (((86400 * day + r : Nat) : Int), true) := by
  have hd := h.hd
  have hm := mdN_pos (1970 + n) (p + 1)
  have t4 := digI_t4 ⟨n, h.hn⟩
  have t3 := digI_t3 ⟨d, by omega⟩
  simp only at t4 t3
  obtain ⟨a, b, c, q, e, _⟩ := dF3 hw
  obtain ⟨x, y, z, e2⟩ := mon3e h.hp
  obtain ⟨u, v, e3⟩ := dayT_e d
  rw [e3] at t3
  have hl : (T3 w n p d r).length = 24 := T3_len hw h.hp
  have q1 : ((T3 w n p d r).take 24).drop 20 = d4 (1970 + n) := by unfold T3; rw [e, e2, e3]; rfl
  have q2 : ((T3 w n p d r).take 7).drop 4 = mon3 p := by unfold T3; rw [e, e2, e3]; rfl
  have q3 : ((T3 w n p d r).take 10).drop 8 = [u, v] := by unfold T3; rw [e, e2, e3]; rfl
  have q4 : ((T3 w n p d r).take 19).drop 11 = clkT r := by unfold T3; rw [e, e2, e3]; rfl
  unfold in3
  rw [if_pos hl, q1, q2, q3, q4]
  exact timeI_of h hr t4 t3 rfl rfl
def R2 (n p d r : Nat) : List UInt8 := [32] ++ d2 (d + 1) ++ [45] ++ mon3 p ++ [45] ++ d2 ((1970 + n) % 100) ++ [32] ++ clkT r ++ [32, 71, 77, 84]
theorem T2_R2 (w n p d r : Nat) : T2 w n p d r = dFull w ++ 44 :: R2 n p d r := by unfold T2 R2; simp
theorem cut_skip {a c : UInt8} (l : List UInt8) (h : (c == a) = false) : Lib.cut (a :: l) [c] = (bif (Lib.cut l [c]).2.2 then (a :: (Lib.cut l [c]).1, (Lib.cut l [c]).2.1, true) else (a :: l, [], false)) := by
  have hi : Lib.index (a :: l) [c] = if Lib.index l [c] == -1 then -1 else Lib.index l [c] + 1 := by
    rw [Lib.index]
    have : List.isPrefixOf [c] (a :: l) = false := by simp [List.isPrefixOf, h]
    rw [this]; rfl
  have hg := Lib.index_ge l [c]
  unfold Lib.cut
  rw [hi]
  by_cases hm : Lib.index l [c] = -1
  · rw [hm]; rfl
  · rw [beq_ne hm]
    simp only [Bool.false_eq_true, if_false]
    rw [if_pos (by omega), if_pos (by omega), show (Lib.index l [c] + 1).toNat = (Lib.index l [c]).toNat + 1 by omega]
    simp only [cond_true, List.take_succ_cons]
    rw [show (Lib.index l [c]).toNat + 1 + [c].length = ((Lib.index l [c]).toNat + [c].length) + 1 by omega, List.drop_succ_cons]
theorem cut_here {c : UInt8} (l : List UInt8) : Lib.cut (c :: l) [c] = ([], l, true) := by
  have hi : Lib.index (c :: l) [c] = 0 := by rw [Lib.index]; simp [List.isPrefixOf]
  unfold Lib.cut
  rw [hi]; rfl
theorem cut_first {c : UInt8} : ∀ (x y : List UInt8), x.all (fun a => !(c == a)) = true → Lib.cut (x ++ c :: y) [c] = (x, y, true)
  | [], y, _ => cut_here y
  | a :: x, y, h => by
    rw [List.all_cons, Bool.and_eq_true, Bool.not_eq_true'] at h
    rw [List.cons_append, cut_skip _ h.1, cut_first x y h.2]; rfl
theorem dF_nc : ∀ w : Fin 7, (dFull w.val).all (fun a => !((44 : UInt8) == a)) = true := by decide +kernel
theorem in2_of {w n p d r day : Nat} (hw : w < 7) (h : IsDay day n p d) (hr : r < 86400) (h100 : n < 100) : in2 (T2 w n p d r) = (((86400 * day + r : Nat) : Int), true) := by
  have hd := h.hd
  have hm := mdN_pos (1970 + n) (p + 1)
  have t4 := digI_t2 ⟨(1970 + n) % 100, by omega⟩
  have t2 := digI_t2 ⟨d + 1, by omega⟩
  simp only at t4 t2
  obtain ⟨a, b, c, q, e, hq, _⟩ := dF3 hw
  obtain ⟨x, y, z, e2⟩ := mon3e h.hp
  have hc : Lib.cut (T2 w n p d r) [44] = (dFull w, R2 n p d r, true) := by rw [T2_R2]; exact cut_first _ _ (dF_nc ⟨w, hw⟩)
  have hl : (R2 n p d r).length = 23 := by unfold R2; rw [e2]; rfl
  have hf : 6 ≤ (dFull w).length := by rw [e]; simp; omega
  have q1 : ((R2 n p d r).take 10).drop 8 = d2 ((1970 + n) % 100) := by unfold R2; rw [e2]; rfl
  have q2 : ((R2 n p d r).take 7).drop 4 = mon3 p := by unfold R2; rw [e2]; rfl
  have q3 : ((R2 n p d r).take 3).drop 1 = d2 (d + 1) := by unfold R2; rw [e2]; rfl
  have q4 : ((R2 n p d r).take 19).drop 11 = clkT r := by unfold R2; rw [e2]; rfl
  have hb : (((R2 n p d r).length : Int) != 23) = false := by rw [hl]; rfl
  unfold in2
  rw [hc]
  simp only
  rw [hb, decide_eq_false (by omega), Bool.not_true, Bool.false_or, Bool.false_or, cond_false, q1, q2, q3, q4, t4]
  refine timeI_of h hr ?_ t2 rfl rfl
  unfold y2I
  split
  · rw [wrap_id (n := (((1970 + n) % 100 : Nat) : Int) + 100) (by omega) (by omega), wrap_id (by omega) (by omega)]; omega
  · rw [wrap_id (by omega) (by omega)]; omega
theorem in_ne {s : List UInt8} : (in1 s).2 = true ∨ (in2 s).2 = true ∨ (in3 s).2 = true → s ≠ [] := by
  intro h hs
  subst hs
  rcases h with h | h | h
  · cases h
  · cases h
  · cases h
theorem pDate_cast {s : List UInt8} (hc : ∀ t u, isD s t → isD s u → t = u) {t : Nat} (h : isD s t) : pDate s = ((t : Int), true) := by
  have hx : ∃ t, isD s t := ⟨t, h⟩
  unfold pDate
  rw [dif_pos hx, hc _ _ (Classical.choose_spec hx) h]
def inF (f : Nat) (s : List UInt8) : Int × Bool := if f = 1 then in1 s else if f = 2 then in2 s else in3 s
theorem inF_of {f : Nat} {s : List UInt8} {t : Nat} (h : isF f s t) : inF f s = ((t : Int), true) := by
  obtain ⟨h1, n, p, d, h2, h3⟩ := h
  have hw := wkN_lt (t / 86400)
  have hr : t % 86400 < 86400 := Nat.mod_lt _ (by omega)
  have e : 86400 * (t / 86400) + t % 86400 = t := Nat.div_add_mod t 86400
  rcases h3 with ⟨rfl, rfl⟩ | ⟨rfl, h4, rfl⟩ | ⟨rfl, rfl⟩
  · unfold inF
    rw [if_pos rfl, in1_of hw h2 hr, e]
  · unfold inF
    rw [if_neg (by omega), if_pos rfl, in2_of hw h2 hr h4, e]
  · unfold inF
    rw [if_neg (by omega), if_neg (by omega), in3_of hw h2 hr, e]
theorem isF_len {f : Nat} {s : List UInt8} {t : Nat} (h : isF f s t) : (f = 1 ∧ s.length = 29) ∨ (f = 2 ∧ 30 ≤ s.length ∧ s.length ≤ 33) ∨ (f = 3 ∧ s.length = 24) := by
  obtain ⟨h1, n, p, d, h2, h3⟩ := h
  have hw := wkN_lt (t / 86400)
  rcases h3 with ⟨rfl, rfl⟩ | ⟨rfl, h4, rfl⟩ | ⟨rfl, rfl⟩
  · exact .inl ⟨rfl, T1_len hw h2.hp⟩
  · exact .inr (.inl ⟨rfl, T2_len hw h2.hp⟩)
  · exact .inr (.inr ⟨rfl, T3_len hw h2.hp⟩)
theorem isD_form {s : List UInt8} {t : Nat} (h : isD s t) : ∃ f, isF f s t := by
  rcases isD_isF h with h | h | h <;> exact ⟨_, h⟩
theorem isD_uniq {s : List UInt8} (t u : Nat) (ht : isD s t) (hu : isD s u) : t = u := by
  obtain ⟨f, hf⟩ := isD_form ht
  obtain ⟨g, hg⟩ := isD_form hu
  have l1 := isF_len hf
  have l2 := isF_len hg
  have : f = g := by omega
  subst this
  have e1 := inF_of hf
  rw [inF_of hg] at e1
  have := congrArg Prod.fst e1
  simp only at this
  omega
theorem pDate_yes {s : List UInt8} {t : Nat} (h : isD s t) : pDate s = ((t : Int), true) := pDate_cast isD_uniq h
theorem I_dateIn_all {k : Nat} (hk : 1073741824 ≤ k) (s : List UInt8) (hs : s.length < 1073741824) {f : Nat} (hf : f = 1 ∨ f = 2 ∨ f = 3) : I_dateIn k s (f : Int) = some (inF f s) := by
  rcases hf with rfl | rfl | rfl
  · exact I_dateIn_1 hk s
  · exact I_dateIn_2 hk s hs
  · exact I_dateIn_3 hk s
theorem inF_ne {f : Nat} {s : List UInt8} (hf : f = 1 ∨ f = 2 ∨ f = 3) (h : (inF f s).2 = true) : s ≠ [] := by
  rcases hf with rfl | rfl | rfl
  · exact in_ne (.inl h)
  · exact in_ne (.inr (.inl h))
  · exact in_ne (.inr (.inr h))
theorem I_round {k : Nat} (hk : 1073741824 ≤ k) (s : List UInt8) (hs : s.length < 1073741824) {f : Nat} (hf : f = 1 ∨ f = 2 ∨ f = 3) (n : Nat) :
    (∃ t, isF f s t ∧ I_ParseDate_b0 k (n + 1) s (f : Int) = some (.oth ((t : Int), true))) ∨ ((¬ ∃ t, isF f s t) ∧ I_ParseDate_b0 k (n + 1) s (f : Int) = I_ParseDate_b0 k n s ((f + 1 : Nat) : Int)) := by
  rw [I_ParseDate_b0, bif_dec, if_pos (by omega), I_dateIn_all hk s hs hf, Option.bind_some, wrap_succ (by omega)]
  cases h : (inF f s).2 with
  | false =>
    refine .inr ⟨fun ⟨t, ht⟩ => ?_, rfl⟩
    rw [inF_of ht] at h; cases h
  | true =>
    obtain ⟨x, hx, h1, h2⟩ := I_dateText_eq hk (inF f s).1 hf
    rw [cond_true, hx, Option.bind_some]
    cases he : (x == s) with
    | true =>
      have he : x = s := by simpa using he
      obtain ⟨g1, g2⟩ := h1 (by rw [he]; exact inF_ne hf h)
      refine .inl ⟨_, he ▸ g2, ?_⟩
      rw [cond_true, Int.toNat_of_nonneg g1]
    | false =>
      refine .inr ⟨fun ⟨t, ht⟩ => ?_, rfl⟩
      have := h2 s t ht (by rw [inF_of ht])
      rw [this] at he
      simp at he
theorem I_ParseDate_eq {k : Nat} (hk : 1073741824 ≤ k) (s : List UInt8) (hs : s.length < 1073741824) : I_ParseDate k s = some (pDate s) := by
  obtain ⟨k', e⟩ : ∃ k', k = k' + 1 + 1 + 1 + 1 := ⟨k - 4, by omega⟩
  have main : (I_ParseDate_b0 k (k' + 1 + 1 + 1 + 1) s ((1 : Nat) : Int)).bind (fun o3 => oc o3 (fun o4 => some ((0 : Int), false)) (fun o5 => some o5)) = some (pDate s) := by
    rcases I_round hk s hs (f := 1) (by omega) (k' + 1 + 1 + 1) with ⟨t, h1, h2⟩ | ⟨n1, h2⟩
    · rw [h2, pDate_yes (isF_isD h1)]; rfl
    · rw [h2]
      rcases I_round hk s hs (f := 1 + 1) (by omega) (k' + 1 + 1) with ⟨t, h1, h2⟩ | ⟨n2, h2⟩
      · rw [h2, pDate_yes (isF_isD h1)]; rfl
      · rw [h2]
        rcases I_round hk s hs (f := 1 + 1 + 1) (by omega) (k' + 1) with ⟨t, h1, h2⟩ | ⟨n3, h2⟩
        · rw [h2, pDate_yes (isF_isD h1)]; rfl
        · rw [h2, I_ParseDate_b0, bif_dec, if_neg (by omega), pDate_no]
          · rfl
          · rintro ⟨t, ht⟩
            rcases isD_isF ht with h | h | h
            · exact n1 ⟨t, h⟩
            · exact n2 ⟨t, h⟩
            · exact n3 ⟨t, h⟩
  rw [I_ParseDate]
  rw [← e] at main
  exact main
def twoA (s : List UInt8) (a : Nat) : Int := match s[a]?, s[a + 1]? with
  | some x, some y => two x y
  | _, _ => -1
theorem two_rng (a b : UInt8) : -1 ≤ two a b ∧ two a b ≤ 99 := by
  unfold two
  cases h : decide (48 ≤ a.toNat) && decide (a.toNat ≤ 57) && (decide (48 ≤ b.toNat) && decide (b.toNat ≤ 57)) with
  | false => rw [cond_false]; omega
  | true =>
    simp only [Bool.and_eq_true, decide_eq_true_eq] at h
    rw [cond_true]; omega
theorem twoA_rng (s : List UInt8) (a : Nat) : -1 ≤ twoA s a ∧ twoA s a ≤ 99 := by
  unfold twoA
  split
  · exact two_rng _ _
  · omega
theorem dig8_tab : ∀ j : Fin 256, (48 ≤ j.val ∧ j.val ≤ 57) → IntKind.wrap .u8 ((j.val : Int) - 48) = (j.val : Int) - 48 := by decide +kernel
theorem dig8 (c : UInt8) (h : 48 ≤ c.toNat ∧ c.toNat ≤ 57) : IntKind.wrap .u8 ((c.toNat : Int) - 48) = (c.toNat : Int) - 48 := dig8_tab ⟨c.toNat, UInt8.toNat_lt c⟩ h
theorem u8_48 (c : UInt8) : (inR (c.toNat : Int) 48 57) = (decide (48 ≤ c.toNat) && decide (c.toNat ≤ 57)) := by
  unfold inR
  by_cases h1 : 48 ≤ c.toNat <;> by_cases h2 : c.toNat ≤ 57 <;> simp [h1, h2] <;> omega
theorem S_l3Two_eq {k : Nat} (s : List UInt8) (a : Nat) (ha : a ≤ 1000) : S_l3Two k s (a : Int) = some (twoA s a) := by
  have e2 : ((a : Int) + 2) = ((a + 2 : Nat) : Int) := by push_cast; rfl
  have e1 : ((a : Int) + 1) = ((a + 1 : Nat) : Int) := by push_cast; rfl
  rw [S_l3Two, bif_dec, if_neg (by omega), e2, wrap_nat (by omega), e1, wrap_nat (by omega), bif_dec]
  by_cases h : a + 2 ≤ s.length
  · have hx := UInt8.toNat_lt (s[a]'(by omega))
    have hy := UInt8.toNat_lt (s[a + 1]'(by omega))
    have et : twoA s a = two (s[a]'(by omega)) (s[a + 1]'(by omega)) := by
      unfold twoA
      rw [List.getElem?_eq_getElem (by omega : a < s.length), List.getElem?_eq_getElem (by omega : a + 1 < s.length)]
    rw [if_neg (by omega), idx_nat (by omega : a < s.length), Option.bind_some, wrap_nat (by omega), S_l1In_eq, Option.bind_some, u8_48, et, idx_nat (by omega : a + 1 < s.length), Option.bind_some, wrap_nat (by omega), S_l1In_eq, Option.bind_some, u8_48, Option.bind_some, Option.bind_some]
    unfold two
    cases g1 : decide (48 ≤ (s[a]'(by omega)).toNat) && decide ((s[a]'(by omega)).toNat ≤ 57) with
    | false => rfl
    | true =>
      cases g2 : decide (48 ≤ (s[a + 1]'(by omega)).toNat) && decide ((s[a + 1]'(by omega)).toNat ≤ 57) with
      | false => rfl
      | true =>
        rw [Bool.and_eq_true, decide_eq_true_eq, decide_eq_true_eq] at g1 g2
        rw [Bool.not_true, cond_false, cond_false, dig8 _ g1, dig8 _ g2, wrap_id (n := ((s[a]'(by omega)).toNat : Int) - 48) (by omega) (by omega), wrap_id (n := ((s[a + 1]'(by omega)).toNat : Int) - 48) (by omega) (by omega), wrap_id (n := (10 : Int) * (((s[a]'(by omega)).toNat : Int) - 48)) (by omega) (by omega), wrap_id (by omega) (by omega)]
        rfl
  · rw [if_pos (by omega)]
    unfold twoA
    rw [List.getElem?_eq_none (by omega : s.length ≤ a + 1)]
    cases s[a]? <;> rfl
def monV (q : List UInt8) : Int := match firstI (fun i => q == mon3 i) 12 0 with | some i => ((i + 1 : Nat) : Int) | none => 0
theorem monV_t : ∀ p : Fin 12, monV (mon3 p.val) = (p.val + 1 : Nat) := by decide +kernel
def sub3 (s : List UInt8) (a : Nat) : List UInt8 := (s.take (a + 3)).drop a
theorem mons_idx : ∀ i : Fin 12, idx ([[74, 97, 110], [70, 101, 98], [77, 97, 114], [65, 112, 114], [77, 97, 121], [74, 117, 110], [74, 117, 108], [65, 117, 103], [83, 101, 112], [79, 99, 116], [78, 111, 118], [68, 101, 99]] : List (List UInt8)) ((i.val : Nat) : Int) = some (mon3 i.val) := by decide +kernel
theorem S_l3Month_eq {k : Nat} (hk : 1073741824 ≤ k) (s : List UInt8) (a : Nat) (ha : a ≤ 1000) (h : a + 3 ≤ s.length) : S_l3Month k s (a : Int) = some (monV (sub3 s a)) := by
  have e3 : ((a : Int) + 3) = ((a + 3 : Nat) : Int) := by push_cast; rfl
  have hs : ssub s (a : Int) ((a + 3 : Nat) : Int) = some (sub3 s a) := ssub_n a (a + 3) (by omega) h
  rw [S_l3Month, S_l3Months, Option.bind_some]
  have := find_all (R := Int) (len := 12) (c := fun i => bif sub3 s a == mon3 i then some ((i + 1 : Nat) : Int) else none) (F := fun m i => S_l3Month_b0 k m s (a : Int) i [[74, 97, 110], [70, 101, 98], [77, 97, 114], [65, 112, 114], [77, 97, 121], [74, 117, 110], [74, 117, 108], [65, 117, 103], [83, 101, 112], [79, 99, 116], [78, 111, 118], [68, 101, 99]]) (fun m i hi => by
    have hx := mons_idx ⟨i, hi⟩
    simp only at hx
    rw [S_l3Month_b0, bif_dec, if_pos (by omega), bif_dec, if_pos (by omega), e3, wrap_nat (by omega), bif_dec, if_pos (by omega), hs, Option.bind_some, hx, Option.bind_some, Option.bind_some, wrap_succ (by omega)]
    cases (sub3 s a == mon3 i) <;> rfl) (fun m i hi => by
    rw [S_l3Month_b0, bif_dec, if_neg (by omega)]) (k := k) (by omega)
  rw [this, Option.bind_some, findI_first]
  unfold monV
  cases firstI (fun i => sub3 s a == mon3 i) 12 0 <;> rfl
def dA (s : List UInt8) : Int := if s[8]? = some 32 then (((s[9]?.getD 0).toNat : Nat) : Int) - 48 else twoA s 8
def y2S (n : Int) : Int := if n < 1970 then n + 100 else n
def cS (s : List UInt8) : Int × Int × Int × Nat :=
  if s.length = 29 then (100 * twoA s 12 + twoA s 14, monV (sub3 s 8), twoA s 5, 17)
  else if s.length = 24 then (100 * twoA s 20 + twoA s 22, monV (sub3 s 4), dA s, 11)
  else if 30 ≤ s.length ∧ s.length ≤ 33 then (y2S (1900 + twoA s (s.length - 15)), monV (sub3 s (s.length - 19)), twoA s (s.length - 22), s.length - 12)
  else (0, 0, 0, 0)
theorem cS_at (s : List UInt8) : (cS s).2.2.2 ≤ 100 := by
  unfold cS
  split
  · simp
  · split
    · simp
    · split
      · simp only; omega
      · simp
theorem S_cand {k : Nat} (hk : 1073741824 ≤ k) (s : List UInt8) : S_ParseDate_b0 k s (s.length : Int) 0 0 0 0 = some ((cS s).1, (cS s).2.1, (cS s).2.2.1, ((cS s).2.2.2 : Int)) := by
  rw [S_ParseDate_b0, S_ParseDate_c15]
  unfold cS
  by_cases h29 : s.length = 29
  · have r1 := twoA_rng s 12
    have r2 := twoA_rng s 14
    have a1 : S_l3Two k s 12 = some (twoA s 12) := S_l3Two_eq s 12 (by omega)
    have a2 : S_l3Two k s 14 = some (twoA s 14) := S_l3Two_eq s 14 (by omega)
    have a3 : S_l3Month k s 8 = some (monV (sub3 s 8)) := S_l3Month_eq hk s 8 (by omega) (by omega)
    have a4 : S_l3Two k s 5 = some (twoA s 5) := S_l3Two_eq s 5 (by omega)
    rw [beq_iff_eq.2 (by omega : (s.length : Int) = 29), cond_true, if_pos h29, a1, Option.bind_some, a2, Option.bind_some, a3, Option.bind_some, a4, Option.bind_some, Option.bind_some, wrap_id (n := (100 : Int) * twoA s 12) (by omega) (by omega), wrap_id (by omega) (by omega)]
    rfl
  rw [beq_ne (by omega : ¬ (s.length : Int) = 29), cond_false, if_neg h29, S_ParseDate_c28]
  by_cases h24 : s.length = 24
  · have r1 := twoA_rng s 20
    have r2 := twoA_rng s 22
    have a1 : S_l3Two k s 20 = some (twoA s 20) := S_l3Two_eq s 20 (by omega)
    have a2 : S_l3Two k s 22 = some (twoA s 22) := S_l3Two_eq s 22 (by omega)
    have a3 : S_l3Month k s 4 = some (monV (sub3 s 4)) := S_l3Month_eq hk s 4 (by omega) (by omega)
    have a4 : S_l3Two k s 8 = some (twoA s 8) := S_l3Two_eq s 8 (by omega)
    have i8 : idx s 8 = some (s[8]'(by omega)) := idx_nat (i := 8) (by omega)
    have i9 : idx s 9 = some (s[9]'(by omega)) := idx_nat (i := 9) (by omega)
    have hb := UInt8.toNat_lt (s[9]'(by omega))
    have a5 : ∀ y m, S_ParseDate_c43 k s y m (twoA s 8) (((s[8]'(by omega)).toNat : Int) == 32) = some (dA s) := by
      intro y m
      rw [S_ParseDate_c43, i9]
      unfold dA
      rw [List.getElem?_eq_getElem (by omega : 8 < s.length), List.getElem?_eq_getElem (by omega : 9 < s.length)]
      by_cases h32 : (s[8]'(by omega)) = 32
      · have : (((s[8]'(by omega)).toNat : Int) == 32) = true := by rw [h32]; rfl
        rw [this, cond_true, Option.bind_some, if_pos (by rw [h32]), wrap_nat (by omega), wrap_id (by omega) (by omega)]; rfl
      · have : (((s[8]'(by omega)).toNat : Int) == 32) = false := beq_ne fun h => h32 (UInt8.toNat_inj.1 (by have : (32 : UInt8).toNat = 32 := rfl; omega))
        rw [this, cond_false, if_neg (by simpa using h32)]
    rw [beq_iff_eq.2 (by omega : (s.length : Int) = 24), cond_true, if_pos h24, a1, Option.bind_some, a2, Option.bind_some, a3, Option.bind_some, a4, Option.bind_some, i8, Option.bind_some, a5, Option.bind_some, Option.bind_some, Option.bind_some, wrap_id (n := (100 : Int) * twoA s 20) (by omega) (by omega), wrap_id (by omega) (by omega)]
    rfl
  rw [beq_ne (by omega : ¬ (s.length : Int) = 24), cond_false, if_neg h24, S_l1In_eq, Option.bind_some, S_ParseDate_c48, inR_and]
  by_cases h30 : 30 ≤ s.length ∧ s.length ≤ 33
  · have r1 := twoA_rng s (s.length - 15)
    have w1 : IntKind.wrap .i64 ((s.length : Int) - 15) = ((s.length - 15 : Nat) : Int) := by rw [wrap_id (by omega) (by omega)]; omega
    have w2 : IntKind.wrap .i64 ((s.length : Int) - 19) = ((s.length - 19 : Nat) : Int) := by rw [wrap_id (by omega) (by omega)]; omega
    have w3 : IntKind.wrap .i64 ((s.length : Int) - 22) = ((s.length - 22 : Nat) : Int) := by rw [wrap_id (by omega) (by omega)]; omega
    have w4 : IntKind.wrap .i64 ((s.length : Int) - 12) = ((s.length - 12 : Nat) : Int) := by rw [wrap_id (by omega) (by omega)]; omega
    have a1 := S_l3Two_eq (k := k) s (s.length - 15) (by omega)
    have a3 := S_l3Month_eq hk s (s.length - 19) (by omega) (by omega)
    have a4 := S_l3Two_eq (k := k) s (s.length - 22) (by omega)
    have a5 : ∀ x, S_ParseDate_c57 k s x (1900 + twoA s (s.length - 15)) (decide (1900 + twoA s (s.length - 15) < 1970)) = some (y2S (1900 + twoA s (s.length - 15))) := by
      intro x
      rw [S_ParseDate_c57, bif_dec]
      unfold y2S
      split
      · rw [wrap_id (by omega) (by omega)]
      · rfl
    rw [decide_eq_true (by omega : (30 : Int) ≤ s.length), decide_eq_true (by omega : (s.length : Int) ≤ 33), Bool.true_and, cond_true, if_pos h30, w1, a1, Option.bind_some, wrap_id (n := (1900 : Int) + twoA s (s.length - 15)) (by omega) (by omega), a5, Option.bind_some, w2, a3, Option.bind_some, w3, a4, Option.bind_some, w4, Option.bind_some, Option.bind_some, Option.bind_some]
  · have : (decide ((30 : Int) ≤ s.length) && decide ((s.length : Int) ≤ 33)) = false := by
      rw [Bool.and_eq_false_iff, decide_eq_false_iff_not, decide_eq_false_iff_not]; omega
    rw [this, cond_false, if_neg h30]
    rfl
theorem twoA_app (x y : List UInt8) (j : Nat) : twoA (x ++ y) (x.length + j) = twoA y j := by
  unfold twoA
  rw [List.getElem?_append_right (by omega), List.getElem?_append_right (by omega), show x.length + j - x.length = j by omega, show x.length + j + 1 - x.length = j + 1 by omega]
theorem sub3_app (x y : List UInt8) (j : Nat) : sub3 (x ++ y) (x.length + j) = sub3 y j := by
  unfold sub3
  rw [List.take_append, List.drop_append, List.take_of_length_le (by omega), List.drop_of_length_le (by omega), List.nil_append, show x.length + j - x.length = j by omega, show x.length + j + 3 - x.length = j + 3 by omega]
theorem clk_sum {r : Nat} (h : r < 86400) : (3600 : Int) * two (UInt8.ofNat (48 + r / 3600 / 10)) (UInt8.ofNat (48 + r / 3600 % 10)) + 60 * two (UInt8.ofNat (48 + r / 60 % 60 / 10)) (UInt8.ofNat (48 + r / 60 % 60 % 10)) + two (UInt8.ofNat (48 + r % 60 / 10)) (UInt8.ofNat (48 + r % 60 % 10)) = (r : Int) := by
  have z1 := two_t ⟨r / 3600, by omega⟩
  have z2 := two_t ⟨r / 60 % 60, by omega⟩
  have z3 := two_t ⟨r % 60, by omega⟩
  simp only at z1 z2 z3
  rw [z1, z2, z3]; omega
def clkS (s : List UInt8) (a : Nat) : Int := 3600 * twoA s a + 60 * twoA s (a + 3) + twoA s (a + 6)
theorem cS_T1 {w n p d r : Nat} (hw : w < 7) (hn : n < 130) (hp : p < 12) (hd : d < 31) (hr : r < 86400) : cS (T1 w n p d r) = (((1970 + n : Nat) : Int), ((p + 1 : Nat) : Int), ((d + 1 : Nat) : Int), 17) ∧ clkS (T1 w n p d r) 17 = (r : Int) := by
  have t4 := two_y ⟨n, hn⟩
  have t2 := two_t ⟨d + 1, by omega⟩
  have tm := monV_t ⟨p, hp⟩
  simp only at t4 t2 tm
  have tc := clk_sum hr
  obtain ⟨a, b, c, q, e, _⟩ := dF3 hw
  obtain ⟨x, y, z, e2⟩ := mon3e hp
  have hl : (T1 w n p d r).length = 29 := T1_len hw hp
  have q1 : 100 * twoA (T1 w n p d r) 12 + twoA (T1 w n p d r) 14 = 100 * two (UInt8.ofNat (48 + (1970 + n) / 1000)) (UInt8.ofNat (48 + (1970 + n) / 100 % 10)) + two (UInt8.ofNat (48 + (1970 + n) / 10 % 10)) (UInt8.ofNat (48 + (1970 + n) % 10)) := by unfold T1; rw [e, e2]; rfl
  have q2 : sub3 (T1 w n p d r) 8 = mon3 p := by unfold T1; rw [e, e2]; rfl
  have q3 : twoA (T1 w n p d r) 5 = two (UInt8.ofNat (48 + (d + 1) / 10)) (UInt8.ofNat (48 + (d + 1) % 10)) := by unfold T1; rw [e, e2]; rfl
  have q4 : clkS (T1 w n p d r) 17 = (3600 : Int) * two (UInt8.ofNat (48 + r / 3600 / 10)) (UInt8.ofNat (48 + r / 3600 % 10)) + 60 * two (UInt8.ofNat (48 + r / 60 % 60 / 10)) (UInt8.ofNat (48 + r / 60 % 60 % 10)) + two (UInt8.ofNat (48 + r % 60 / 10)) (UInt8.ofNat (48 + r % 60 % 10)) := by unfold T1; rw [e, e2]; rfl
  unfold cS
  rw [if_pos hl, q1, q2, q3, q4, t4, t2, tm, tc]
  exact ⟨rfl, rfl⟩
theorem dA_t : ∀ d : Fin 31, d.val + 1 < 10 → (((UInt8.ofNat (48 + (d.val + 1))).toNat : Nat) : Int) - 48 = (d.val + 1 : Nat) := by decide +kernel
theorem cS_T3 {w n p d r : Nat} (hw : w < 7) (hn : n < 130) (hp : p < 12) (hd : d < 31) (hr : r < 86400) : cS (T3 w n p d r) = (((1970 + n : Nat) : Int), ((p + 1 : Nat) : Int), ((d + 1 : Nat) : Int), 11) ∧ clkS (T3 w n p d r) 11 = (r : Int) := by
  have t4 := two_y ⟨n, hn⟩
  have t2 := two_t ⟨d + 1, by omega⟩
  have t3 := dA_t ⟨d, hd⟩
  have tm := monV_t ⟨p, hp⟩
  simp only at t4 t2 tm t3
  have tc := clk_sum hr
  obtain ⟨a, b, c, q, e, _⟩ := dF3 hw
  obtain ⟨x, y, z, e2⟩ := mon3e hp
  obtain ⟨u, v, e3⟩ := dayT_e d
  have hl : (T3 w n p d r).length = 24 := T3_len hw hp
  have q1 : 100 * twoA (T3 w n p d r) 20 + twoA (T3 w n p d r) 22 = 100 * two (UInt8.ofNat (48 + (1970 + n) / 1000)) (UInt8.ofNat (48 + (1970 + n) / 100 % 10)) + two (UInt8.ofNat (48 + (1970 + n) / 10 % 10)) (UInt8.ofNat (48 + (1970 + n) % 10)) := by unfold T3; rw [e, e2, e3]; rfl
  have q2 : sub3 (T3 w n p d r) 4 = mon3 p := by unfold T3; rw [e, e2, e3]; rfl
  have q4 : clkS (T3 w n p d r) 11 = (3600 : Int) * two (UInt8.ofNat (48 + r / 3600 / 10)) (UInt8.ofNat (48 + r / 3600 % 10)) + 60 * two (UInt8.ofNat (48 + r / 60 % 60 / 10)) (UInt8.ofNat (48 + r / 60 % 60 % 10)) + two (UInt8.ofNat (48 + r % 60 / 10)) (UInt8.ofNat (48 + r % 60 % 10)) := by unfold T3; rw [e, e2, e3]; rfl
  have q5 : (T3 w n p d r)[8]? = some u ∧ (T3 w n p d r)[9]? = some v ∧ twoA (T3 w n p d r) 8 = two u v := by unfold T3; rw [e, e2, e3]; exact ⟨rfl, rfl, rfl⟩
  have q3 : dA (T3 w n p d r) = ((d + 1 : Nat) : Int) := by
    unfold dA
    rw [q5.1, q5.2.1, q5.2.2]
    by_cases c10 : d + 1 < 10
    · rw [if_pos c10] at e3
      simp only [List.cons.injEq, and_true] at e3
      rw [if_pos (by rw [← e3.1]), ← e3.2]
      exact t3 c10
    · rw [if_neg c10] at e3
      unfold d2 at e3
      simp only [List.cons.injEq, and_true] at e3
      have hu : u ≠ 32 := by
        rw [← e3.1]
        have : (d + 1) / 10 = 1 ∨ (d + 1) / 10 = 2 ∨ (d + 1) / 10 = 3 := by omega
        rcases this with h | h | h <;> rw [h] <;> decide
      rw [if_neg (by simpa using hu), ← e3.1, ← e3.2]
      exact t2
  unfold cS
  rw [if_neg (by omega), if_pos hl, q1, q2, q3, q4, t4, tm, tc]
  exact ⟨rfl, rfl⟩
theorem cS_T2 {w n p d r : Nat} (hw : w < 7) (hn : n < 130) (hp : p < 12) (hd : d < 31) (hr : r < 86400) : cS (T2 w n p d r) = ((if n < 100 then ((1970 + n : Nat) : Int) else ((1870 + n : Nat) : Int)), ((p + 1 : Nat) : Int), ((d + 1 : Nat) : Int), (T2 w n p d r).length - 12) ∧ clkS (T2 w n p d r) ((T2 w n p d r).length - 12) = (r : Int) := by
  have t4 := two_t ⟨(1970 + n) % 100, by omega⟩
  have t2 := two_t ⟨d + 1, by omega⟩
  have tm := monV_t ⟨p, hp⟩
  simp only at t4 t2 tm
  have tc := clk_sum hr
  obtain ⟨x, y, z, e2⟩ := mon3e hp
  have hl := T2_len (n := n) (d := d) (r := r) hw hp
  have hR : (44 :: R2 n p d r).length = 24 := by unfold R2; rw [e2]; rfl
  rw [T2_R2] at hl ⊢
  rw [List.length_append, hR] at hl ⊢
  have q1 : twoA (44 :: R2 n p d r) 9 = two (UInt8.ofNat (48 + (1970 + n) % 100 / 10)) (UInt8.ofNat (48 + (1970 + n) % 100 % 10)) := by unfold R2; rw [e2]; rfl
  have q2 : sub3 (44 :: R2 n p d r) 5 = mon3 p := by unfold R2; rw [e2]; rfl
  have q3 : twoA (44 :: R2 n p d r) 2 = two (UInt8.ofNat (48 + (d + 1) / 10)) (UInt8.ofNat (48 + (d + 1) % 10)) := by unfold R2; rw [e2]; rfl
  have q4 : clkS (44 :: R2 n p d r) 12 = (3600 : Int) * two (UInt8.ofNat (48 + r / 3600 / 10)) (UInt8.ofNat (48 + r / 3600 % 10)) + 60 * two (UInt8.ofNat (48 + r / 60 % 60 / 10)) (UInt8.ofNat (48 + r / 60 % 60 % 10)) + two (UInt8.ofNat (48 + r % 60 / 10)) (UInt8.ofNat (48 + r % 60 % 10)) := by unfold R2; rw [e2]; rfl
  have q5 : clkS (dFull w ++ 44 :: R2 n p d r) ((dFull w).length + 12) = clkS (44 :: R2 n p d r) 12 := by
    unfold clkS
    rw [Nat.add_assoc, Nat.add_assoc, twoA_app, twoA_app, twoA_app]
  unfold cS
  rw [List.length_append, hR, if_neg (by omega), if_neg (by omega), if_pos hl, show (dFull w).length + 24 - 15 = (dFull w).length + 9 by omega, show (dFull w).length + 24 - 19 = (dFull w).length + 5 by omega, show (dFull w).length + 24 - 22 = (dFull w).length + 2 by omega, show (dFull w).length + 24 - 12 = (dFull w).length + 12 by omega, twoA_app, twoA_app, sub3_app, q1, q2, q3, q5, q4, t4, t2, tm, tc]
  refine ⟨?_, rfl⟩
  have hy : y2S (1900 + (((1970 + n) % 100 : Nat) : Int)) = (if n < 100 then ((1970 + n : Nat) : Int) else ((1870 + n : Nat) : Int)) := by
    unfold y2S
    split <;> split <;> omega
  rw [hy]
theorem cS_isD {s : List UInt8} {t : Nat} (h : isD s t) : daysI (cS s).1 (cS s).2.1 (cS s).2.2.1 = ((t / 86400 : Nat) : Int) ∧ clkS s (cS s).2.2.2 = ((t % 86400 : Nat) : Int) := by
  obtain ⟨h1, n, p, d, h2, h3⟩ := h
  have hw := wkN_lt (t / 86400)
  have hr : t % 86400 < 86400 := Nat.mod_lt _ (by omega)
  have hd := h2.hd
  have hm := mdN_pos (1970 + n) (p + 1)
  rcases h3 with rfl | ⟨h4, rfl⟩ | rfl
  · obtain ⟨e1, e2⟩ := cS_T1 hw h2.hn h2.hp (by omega : d < 31) hr
    rw [e1]; exact ⟨daysI_of h2, e2⟩
  · obtain ⟨e1, e2⟩ := cS_T2 hw h2.hn h2.hp (by omega : d < 31) hr
    rw [e1, if_pos h4]; exact ⟨daysI_of h2, e2⟩
  · obtain ⟨e1, e2⟩ := cS_T3 hw h2.hn h2.hp (by omega : d < 31) hr
    rw [e1]; exact ⟨daysI_of h2, e2⟩
theorem S_b1 {k : Nat} {s x y z : List UInt8} {u : Int} (n : Nat) : S_ParseDate_b1 k (n + 4) s u 0 [x, y, z] = some (if x = s ∨ y = s ∨ z = s then .oth (u, true) else .nrm ()) := by
  have i0 : idx [x, y, z] 0 = some x := rfl
  have i1 : idx [x, y, z] 1 = some y := rfl
  have i2 : idx [x, y, z] 2 = some z := rfl
  have w0 : IntKind.wrap .i64 ((0 : Int) + 1) = 1 := by decide
  have w1 : IntKind.wrap .i64 ((1 : Int) + 1) = 2 := by decide
  have w2 : IntKind.wrap .i64 ((2 : Int) + 1) = 3 := by decide
  have l3 : (([x, y, z] : List (List UInt8)).length : Int) = 3 := rfl
  rw [S_ParseDate_b1, l3, show decide ((0 : Int) < 3) = true from rfl, cond_true, i0, Option.bind_some, Option.bind_some, w0]
  by_cases c1 : x = s
  · rw [beq_iff_eq.2 c1, cond_true, if_pos (.inl c1)]
  rw [beq_ne c1, cond_false, S_ParseDate_b1, l3, show decide ((1 : Int) < 3) = true from rfl, cond_true, i1, Option.bind_some, Option.bind_some, w1]
  by_cases c2 : y = s
  · rw [beq_iff_eq.2 c2, cond_true, if_pos (.inr (.inl c2))]
  rw [beq_ne c2, cond_false, S_ParseDate_b1, l3, show decide ((2 : Int) < 3) = true from rfl, cond_true, i2, Option.bind_some, Option.bind_some, w2]
  by_cases c3 : z = s
  · rw [beq_iff_eq.2 c3, cond_true, if_pos (.inr (.inr c3))]
  rw [beq_ne c3, cond_false, S_ParseDate_b1, l3, show decide ((3 : Int) < 3) = false from rfl, cond_false, if_neg]
  rintro (h | h | h)
  · exact c1 h
  · exact c2 h
  · exact c3 h
theorem S_ParseDate_eq {k : Nat} (hk : 1073741824 ≤ k) (s : List UInt8) : S_ParseDate k s = some (pDate s) := by
  have ha := cS_at s
  have hD := daysI_rng (cS s).1 (cS s).2.1 (cS s).2.2.1
  have hc := fun t => cS_isD (s := s) (t := t)
  have r1 := twoA_rng s (cS s).2.2.2
  have r2 := twoA_rng s ((cS s).2.2.2 + 3)
  have r3 := twoA_rng s ((cS s).2.2.2 + 6)
  have e3 : (((cS s).2.2.2 : Int) + 3) = (((cS s).2.2.2 + 3 : Nat) : Int) := by push_cast; rfl
  have e6 : (((cS s).2.2.2 : Int) + 6) = (((cS s).2.2.2 + 6 : Nat) : Int) := by push_cast; rfl
  rw [S_ParseDate, S_cand hk, Option.bind_some]
  simp only
  rw [S_DaysOf_eq hk, Option.bind_some, bif_dec]
  generalize hDD : daysI (cS s).1 (cS s).2.1 (cS s).2.2.1 = D at *
  by_cases c : D < 0
  · rw [if_pos c, pDate_no]
    rintro ⟨t, ht⟩
    have := (hc t ht).1
    omega
  rw [if_neg c, S_l3Two_eq _ _ (by omega), Option.bind_some, e3, wrap_nat (by omega), S_l3Two_eq _ _ (by omega), Option.bind_some, e6, wrap_nat (by omega), S_l3Two_eq _ _ (by omega), Option.bind_some,
    wrap_id (n := (86400 : Int) * D) (by omega) (by omega), wrap_id (n := (3600 : Int) * twoA s (cS s).2.2.2) (by omega) (by omega), wrap_id (n := (60 : Int) * twoA s ((cS s).2.2.2 + 3)) (by omega) (by omega), wrap_id (n := (86400 : Int) * D + (3600 : Int) * twoA s (cS s).2.2.2) (by omega) (by omega), wrap_id (n := (86400 : Int) * D + (3600 : Int) * twoA s (cS s).2.2.2 + (60 : Int) * twoA s ((cS s).2.2.2 + 3)) (by omega) (by omega), wrap_id (by omega) (by omega), S_l1In_eq, Option.bind_some, inR_and]
  have hT : ∀ t, isD s t → (86400 : Int) * D + (3600 : Int) * twoA s (cS s).2.2.2 + (60 : Int) * twoA s ((cS s).2.2.2 + 3) + twoA s ((cS s).2.2.2 + 6) = (t : Int) := by
    intro t ht
    obtain ⟨h1, h2⟩ := hc t ht
    unfold clkS at h2
    omega
  generalize hTT : (86400 : Int) * D + (3600 : Int) * twoA s (cS s).2.2.2 + (60 : Int) * twoA s ((cS s).2.2.2 + 3) + twoA s ((cS s).2.2.2 + 6) = T at *
  by_cases c2 : 0 ≤ T ∧ T ≤ 4102444799
  · obtain ⟨u, rfl⟩ : ∃ u : Nat, T = (u : Int) := ⟨T.toNat, by omega⟩
    obtain ⟨n, p, d, hd⟩ := isDay_ex (day := u / 86400) (by omega)
    obtain ⟨k', ek⟩ : ∃ k', k = k' + 4 := ⟨k - 4, by omega⟩
    have b1 := S_b1 (k := k) (s := s) (x := T1 (wkN (u / 86400)) n p d (u % 86400)) (y := T2 (wkN (u / 86400)) n p d (u % 86400)) (z := T3 (wkN (u / 86400)) n p d (u % 86400)) (u := (u : Int)) k'
    rw [← ek] at b1
    rw [decide_eq_true c2.1, decide_eq_true c2.2, Bool.true_and, Bool.not_true, cond_false, S_l3Forms_eq hk (by omega) hd, Option.bind_some, b1, Option.bind_some]
    have hno : T2 (wkN (u / 86400)) n p d (u % 86400) = s → n < 100 := by
      intro he
      have hw := wkN_lt (u / 86400)
      have hr : u % 86400 < 86400 := Nat.mod_lt _ (by omega)
      have hdd := hd.hd
      have hm := mdN_pos (1970 + n) (p + 1)
      obtain ⟨e1, e2⟩ := cS_T2 hw hd.hn hd.hp (by omega : d < 31) hr
      rw [he] at e1 e2
      have e4 : (cS s).2.2.2 = s.length - 12 := by rw [e1]
      rw [← e4] at e2
      unfold clkS at e2
      have hDu : D = ((u / 86400 : Nat) : Int) := by omega
      by_cases c100 : n < 100
      · exact c100
      · exfalso
        rw [e1, if_neg c100] at hDD
        simp only at hDD
        have hok : okDay ((1870 + n : Nat) : Int) ((p + 1 : Nat) : Int) ((d + 1 : Nat) : Int) = true := by
          cases h : okDay ((1870 + n : Nat) : Int) ((p + 1 : Nat) : Int) ((d + 1 : Nat) : Int) with
          | true => rfl
          | false => unfold daysI at hDD; rw [h, cond_false] at hDD; omega
        obtain ⟨day, g1, g2⟩ := daysI_ok hok
        have : day = u / 86400 := by omega
        subst this
        have := hd.nu g2
        simp only [Int.toNat_natCast] at this
        omega
    by_cases c3 : T1 (wkN (u / 86400)) n p d (u % 86400) = s ∨ T2 (wkN (u / 86400)) n p d (u % 86400) = s ∨ T3 (wkN (u / 86400)) n p d (u % 86400) = s
    · rw [if_pos c3]
      have : isD s u := by
        refine ⟨by omega, n, p, d, hd, ?_⟩
        rcases c3 with h | h | h
        · exact .inl h.symm
        · exact .inr (.inl ⟨hno h, h.symm⟩)
        · exact .inr (.inr h.symm)
      rw [pDate_yes this]; rfl
    · rw [if_neg c3, pDate_no]
      · rfl
      · rintro ⟨t, ht⟩
        have hu : u = t := by have := hT t ht; omega
        subst hu
        obtain ⟨_, n', p', d', h2, h3⟩ := ht
        have := hd.nu h2
        subst this
        obtain ⟨rfl, rfl⟩ := hd.pu h2
        rcases h3 with h | ⟨_, h⟩ | h
        · exact c3 (.inl h.symm)
        · exact c3 (.inr (.inl h.symm))
        · exact c3 (.inr (.inr h.symm))
  · have : (decide ((0 : Int) ≤ T) && decide (T ≤ 4102444799)) = false := by
      rw [Bool.and_eq_false_iff, decide_eq_false_iff_not, decide_eq_false_iff_not]; omega
    rw [this, Bool.not_false, cond_true, pDate_no]
    rintro ⟨t, ht⟩
    have := hT t ht
    have := ht.1
    omega
def joinT (l : List (List UInt8)) : List UInt8 := Lib.join l [44, 32]
theorem joinT_len (l : List (List UInt8)) : (joinT l).length ≤ 2 * l.length + Lib.lens l := by
  cases l with
  | nil => simp [joinT, Lib.join_nil]
  | cons x r => unfold joinT; rw [Lib.join_length]; simp; omega
theorem I_JoinList_eq {k : Nat} (l : List (List UInt8)) (h : 2 * l.length + Lib.lens l < 1073741824) : I_JoinList k l = some (joinT l) := by
  have hl := joinT_len l
  have hd : (decide (l.length ≤ 140737488355328) && decide ((Lib.join l [44, 32]).length ≤ 140737488355328)) = true := by
    rw [Bool.and_eq_true]; exact ⟨decide_eq_true (by omega), decide_eq_true (by unfold joinT at hl; omega)⟩
  rw [I_JoinList, strings_Join, joinO, hd]; rfl
theorem S_JoinList_loop {k : Nat} {x : List UInt8} {r : List (List UInt8)} (h : 2 * r.length + Lib.lens (x :: r) < 1073741824) : ∀ (n j : Nat), j ≤ r.length → r.length - j < n →
    S_JoinList_b0 k n (x :: r) (x ++ Lib.joinTail [44, 32] (r.take j)) ((j + 1 : Nat) : Int) = some (x ++ Lib.joinTail [44, 32] r) := by
  have hx : Lib.lens (x :: r) = x.length + Lib.lens r := rfl
  intro n
  induction n with
  | zero => intro j _ h; omega
  | succ n ih =>
    intro j hj hn
    rw [S_JoinList_b0, bif_dec]
    by_cases c : j < r.length
    · have hlen : ((j + 1 : Nat) : Int) < ((x :: r).length : Int) := by simp; omega
      have e1 : decide (((j + 1 : Nat) : Int) > 0) = true := decide_eq_true (by omega)
      have e2 : idx (x :: r) ((j + 1 : Nat) : Int) = some r[j] := by
        rw [idx_nat (by simp; omega)]; simp
      have b1 := Lib.joinTail_take_le [44, 32] r j
      have b2 := Lib.joinTail_length [44, 32] r
      have b3 := Lib.joinTail_take_le [44, 32] r (j + 1)
      have b4 := Lib.joinTail_take_succ [44, 32] r j r[j] (List.getElem?_eq_getElem c)
      have b5 := congrArg List.length b4
      simp only [List.length_append, List.length_cons, List.length_nil] at b2 b5
      rw [if_pos hlen, S_JoinList_b1, S_JoinList_c12, e1, cond_true, cat_ok (by simp; omega), Option.bind_some, Option.bind_some, e2, Option.bind_some, cat_ok (by simp; omega), Option.bind_some, Option.bind_some, wrap_succ (by omega)]
      have := ih (j + 1) (by omega) (by omega)
      rw [b4] at this
      rw [← this]
      congr 1
      simp
    · have hlen : ¬ ((j + 1 : Nat) : Int) < ((x :: r).length : Int) := by simp; omega
      rw [if_neg hlen, List.take_of_length_le (by omega)]
theorem S_JoinList_eq {k : Nat} (hk : 1073741824 ≤ k) (l : List (List UInt8)) (h : 2 * l.length + Lib.lens l < 1073741824) : S_JoinList k l = some (joinT l) := by
  obtain ⟨n, rfl⟩ : ∃ n, k = n + 1 := ⟨k - 1, by omega⟩
  rw [S_JoinList, S_JoinList_b0, bif_dec]
  cases l with
  | nil => rfl
  | cons x r =>
    have hx : Lib.lens (x :: r) = x.length + Lib.lens r := rfl
    simp only [List.length_cons] at h
    have hlen : (0 : Int) < ((x :: r).length : Int) := by rw [List.length_cons]; omega
    have e2 : idx (x :: r) (0 : Int) = some x := rfl
    have := S_JoinList_loop (k := n + 1) (x := x) (r := r) (by omega) n 0 (by omega) (by omega)
    rw [List.take_zero] at this
    rw [if_pos hlen, S_JoinList_b1, S_JoinList_c12, e2]
    rw [show (decide ((0 : Int) > 0)) = false from rfl, cond_false, Option.bind_some, Option.bind_some, cat_ok (by simp; omega), Option.bind_some, Option.bind_some]
    rw [show IntKind.wrap .i64 ((0 : Int) + 1) = ((0 + 1 : Nat) : Int) from by rw [wrap_id (by omega) (by omega)]; rfl]
    have e3 : Lib.joinTail [44, 32] ([] : List (List UInt8)) = [] := rfl
    rw [e3, List.append_nil] at this
    rw [List.nil_append, this, Option.bind_some, joinT, Lib.join_cons]
def valOfF (n : List UInt8) (e : IField) : List (List UInt8) := bif e.Name == n then [e.Value] else []
def valsF (l : List IField) (n : List UInt8) : List (List UInt8) := l.flatMap (valOfF n)
def fsz (l : List IField) : Nat := l.length + (l.map fun e => e.Value.length).sum
theorem valsF_len (n : List UInt8) : ∀ l : List IField, (valsF l n).length ≤ l.length
  | [] => by simp [valsF]
  | e :: l => by
    have := valsF_len n l
    unfold valsF at this ⊢
    rw [List.flatMap_cons, List.length_append]
    have h2 : (valOfF n e).length ≤ 1 := by unfold valOfF; cases (e.Name == n) <;> simp
    rw [List.length_cons]; omega
theorem valsF_lens (n : List UInt8) : ∀ l : List IField, Lib.lens (valsF l n) ≤ (l.map fun e => e.Value.length).sum
  | [] => by simp [valsF, Lib.lens]
  | e :: l => by
    have := valsF_lens n l
    unfold valsF at this ⊢
    rw [List.flatMap_cons]
    unfold valOfF at this ⊢
    cases (e.Name == n) with
    | true => simp only [cond_true, List.cons_append, List.nil_append, List.map_cons, List.sum_cons]; show e.Value.length + Lib.lens _ ≤ _; omega
    | false => simp only [cond_false, List.nil_append, List.map_cons, List.sum_cons]; omega
def getF (l : List IField) (n : List UInt8) : List UInt8 × Bool := (joinT (valsF l n), decide (((valsF l n).length : Int) > 0))
theorem getF_len (l : List IField) (n : List UInt8) : (getF l n).1.length ≤ 2 * fsz l := by
  have h1 := joinT_len (valsF l n)
  have h2 := valsF_len n l
  have h3 := valsF_lens n l
  unfold getF fsz; simp only; omega
theorem S_GetField_eq {k : Nat} (hk : 1073741824 ≤ k) (l : List IField) (n : List UInt8) (h : fsz l < 268435456) : S_GetField k l n = some (getF l n) := by
  have hl : l.length < 268435456 := by unfold fsz at h; omega
  have := fold_all (len := l.length) (g := fun j s => s ++ (l[j]?).elim [] (valOfF n)) (Inv := fun i s => s.length ≤ i) (F := fun m i s => S_GetField_b0 k m l n i s) (out := id) (fun m i s hi hI => by
    simp only [S_GetField_b0, bif_dec, lt_cast, hi, if_true, S_GetField_b1, idx_nat hi, Option.bind_some, S_GetField_c21, wrap_succ (by omega : i < 9223372036854775807), List.getElem?_eq_getElem hi, Option.elim_some, valOfF]
    cases (l[i].Name == n) with
    | true => rw [cond_true, cond_true, appn_ok (by simp; omega)]; exact ⟨rfl, by simp; omega⟩
    | false => rw [cond_false, cond_false, List.append_nil]; exact ⟨rfl, by omega⟩) (fun m i s hi => by
    simp only [S_GetField_b0, bif_dec, lt_cast]
    rw [if_neg (by omega)]; rfl) (k := k) (by omega) (s := []) (by simp)
  have h1 : S_GetField_b0 k k l n 0 [] = some (foldI (fun j s => s ++ (l[j]?).elim [] (valOfF n)) l.length 0 []) := this.1
  have h2 := valsF_len n l
  have h3 := valsF_lens n l
  have hv : foldI (fun j s => s ++ (l[j]?).elim [] (valOfF n)) l.length 0 [] = valsF l n := by
    rw [foldI_append (f := valOfF n) l.length 0 [] (by omega), List.drop_zero]; rfl
  rw [S_GetField, h1, hv, Option.bind_some, S_JoinList_eq hk _ (by unfold fsz at h; omega)]; rfl
theorem I_GetField_eq {k : Nat} (hk : 1073741824 ≤ k) (l : List IField) (n : List UInt8) (h : fsz l < 268435456) : I_GetField k l n = some (getF l n) := by
  have hl : l.length < 268435456 := by unfold fsz at h; omega
  have := fold_all (len := l.length) (g := fun j s => s ++ (l[j]?).elim [] (valOfF n)) (Inv := fun i s => s.length ≤ i) (F := fun m i s => I_GetField_b0 k m n l (l.length : Int) i s) (out := id) (fun m i s hi hI => by
    simp only [I_GetField_b0, bif_dec, lt_cast, hi, if_true, I_GetField_b1, idx_nat hi, Option.bind_some, I_GetField_c19, wrap_succ (by omega : i < 9223372036854775807), List.getElem?_eq_getElem hi, Option.elim_some, valOfF]
    cases (l[i].Name == n) with
    | true => rw [cond_true, cond_true, appn_ok (by simp; omega)]; exact ⟨rfl, by simp; omega⟩
    | false => rw [cond_false, cond_false, List.append_nil]; exact ⟨rfl, by omega⟩) (fun m i s hi => by
    simp only [I_GetField_b0, bif_dec, lt_cast]
    rw [if_neg (by omega)]; rfl) (k := k) (by omega) (s := []) (by simp)
  have h1 : I_GetField_b0 k k n l (l.length : Int) 0 [] = some (foldI (fun j s => s ++ (l[j]?).elim [] (valOfF n)) l.length 0 []) := this.1
  have h2 := valsF_len n l
  have h3 := valsF_lens n l
  have hv : foldI (fun j s => s ++ (l[j]?).elim [] (valOfF n)) l.length 0 [] = valsF l n := by
    rw [foldI_append (f := valOfF n) l.length 0 [] (by omega), List.drop_zero]; rfl
  rw [I_GetField, h1, hv, Option.bind_some, I_JoinList_eq _ (by unfold fsz at h; omega)]; rfl
def dateF (fs : List IField) (n : List UInt8) : Int × Bool := pDate (getF fs n).1
theorem getF_short {fs : List IField} (n : List UInt8) (h : fsz fs < 268435456) : (getF fs n).1.length < 1073741824 := by have := getF_len fs n; omega
theorem I_dateField_eq {k : Nat} (hk : 1073741824 ≤ k) (x : IResponse) (n : List UInt8) (h : fsz x.Fields < 268435456) : I_dateField k x n = some (dateF x.Fields n) := by
  rw [I_dateField, I_GetField_eq hk _ _ h, Option.bind_some, I_ParseDate_eq hk _ (getF_short n h), Option.bind_some]; rfl
def tagB (c : UInt8) : Bool := inR (c.toNat : Int) 33 126 && !(c == 34)
def isTagT (x : List UInt8) : Bool := x.all tagB && decide ((x.length : Int) ≤ 40)
theorem u8_34 (c : UInt8) : ((c.toNat : Int) == 34) = (c == 34) := u8_eq c 34
theorem S_IsTag_loop {k : Nat} {w : Bool} {x : List UInt8} (hx : x.length < 1073741824) : ∀ (n i : Nat), i ≤ x.length → x.length - i < n → S_IsTag_b0 k n (i : Int) w x = some (if (x.drop i).all tagB then .nrm () else .oth false) := by
  intro n
  induction n with
  | zero => intro i _ h; omega
  | succ n ih =>
    intro i hi hn
    rw [S_IsTag_b0, bif_dec]
    by_cases c : i < x.length
    · have hb := UInt8.toNat_lt x[i]
      rw [if_pos (by omega), idx_nat c, Option.bind_some, wrap_id (by omega) (by omega), S_l1In_eq, Option.bind_some, Option.bind_some, u8_34, wrap_succ (by omega), ih (i + 1) (by omega) (by omega), List.drop_eq_getElem_cons c, List.all_cons]
      unfold tagB
      cases inR (x[i].toNat : Int) 33 126 <;> cases (x[i] == 34) <;> rfl
    · rw [if_neg (by omega), List.drop_of_length_le (by omega)]; rfl
theorem I_IsTag_loop {k : Nat} {w : Bool} {x : List UInt8} (hx : x.length < 1073741824) : ∀ (n i : Nat), i ≤ x.length → x.length - i < n → I_IsTag_b0 k n (x.length : Int) (i : Int) w x = some (if (x.drop i).all tagB then .nrm () else .oth false) := by
  intro n
  induction n with
  | zero => intro i _ h; omega
  | succ n ih =>
    intro i hi hn
    rw [I_IsTag_b0, bif_dec]
    by_cases c : i < x.length
    · have hb := UInt8.toNat_lt x[i]
      rw [if_pos (by omega), idx_nat c, Option.bind_some, wrap_id (by omega) (by omega), I_inRange_eq, Option.bind_some, Option.bind_some, u8_34, wrap_succ (by omega), ih (i + 1) (by omega) (by omega), List.drop_eq_getElem_cons c, List.all_cons]
      unfold tagB
      cases inR (x[i].toNat : Int) 33 126 <;> cases (x[i] == 34) <;> rfl
    · rw [if_neg (by omega), List.drop_of_length_le (by omega)]; rfl
theorem S_IsTag_eq {k : Nat} (hk : 1073741824 ≤ k) (t : ITag) (hx : t.Text.length < 1073741824) : S_IsTag k t = some (isTagT t.Text) := by
  have : S_IsTag_b0 k k 0 t.Weak t.Text = some (if (t.Text.drop 0).all tagB then .nrm () else .oth false) := S_IsTag_loop hx k 0 (by omega) (by omega)
  rw [S_IsTag, this, Option.bind_some, List.drop_zero]
  unfold isTagT
  cases t.Text.all tagB <;> rfl
theorem I_IsTag_eq {k : Nat} (hk : 1073741824 ≤ k) (t : ITag) (hx : t.Text.length < 1073741824) : I_IsTag k t = some (isTagT t.Text) := by
  have : I_IsTag_b0 k k (t.Text.length : Int) 0 t.Weak t.Text = some (if (t.Text.drop 0).all tagB then .nrm () else .oth false) := I_IsTag_loop hx k 0 (by omega) (by omega)
  rw [I_IsTag, this, Option.bind_some, List.drop_zero]
  unfold isTagT
  cases t.Text.all tagB <;> rfl
def fmtTag (t : ITag) : List UInt8 := bif isTagT t.Text then (bif t.Weak then [87, 47, 34] ++ t.Text ++ [34] else [34] ++ t.Text ++ [34]) else []
theorem I_FormatTag_eq {k : Nat} (hk : 1073741824 ≤ k) (t : ITag) (hx : t.Text.length < 1073741824) : I_FormatTag k t = some (fmtTag t) := by
  rw [I_FormatTag, I_IsTag_eq hk t hx, Option.bind_some, cat_ok (by simp; omega), Option.bind_some, cat_ok (by simp; omega), Option.bind_some, cat_ok (by simp; omega), Option.bind_some, cat_ok (by simp; omega), Option.bind_some]
  unfold fmtTag
  cases isTagT t.Text <;> cases t.Weak <;> rfl
def midQ (r : List UInt8) : List UInt8 := (r.take (r.length - 1)).drop 1
def okQ (r : List UInt8) : Bool := decide (2 ≤ r.length) && (r[0]? == some 34) && (r[r.length - 1]? == some 34) && isTagT (midQ r)
def tagQ (w : Bool) (r : List UInt8) : ITag × Bool := bif okQ r then (⟨w, midQ r⟩, true) else (⟨false, []⟩, false)
def preW (s : List UInt8) : Bool := decide (2 ≤ s.length) && (s.take 2 == [87, 47])
def pTag (s : List UInt8) : ITag × Bool := bif preW s then tagQ true (s.drop 2) else tagQ false s
theorem S_tail {k : Nat} (hk : 1073741824 ≤ k) {r : List UInt8} {w : Bool} (h : r.length < 1073741824) :
    (bif (decide ((r.length : Int) < (2 : Int))) then some ((⟨false, ([] : List UInt8)⟩ : ITag), false) else ((idx r (0 : Int)).bind fun c9 =>
    (bif ((UInt8.toNat c9 : Int) != (34 : Int)) then some ((⟨false, ([] : List UInt8)⟩ : ITag), false) else ((idx r (IntKind.wrap .i64 ((r.length : Int) - (1 : Int)))).bind fun c10 =>
    (bif ((UInt8.toNat c10 : Int) != (34 : Int)) then some ((⟨false, ([] : List UInt8)⟩ : ITag), false)
    else ((ssub r (1 : Int) (IntKind.wrap .i64 ((r.length : Int) - (1 : Int)))).bind fun t11 =>
    ((S_IsTag k (⟨w, t11⟩ : ITag)).bind fun w12 =>
    (bif (!w12) then some ((⟨false, ([] : List UInt8)⟩ : ITag), false)
    else some ((⟨w, t11⟩ : ITag), true))))))))) = some (tagQ w r) := by
  rw [bif_dec]
  unfold tagQ okQ
  by_cases c : 2 ≤ r.length
  · have e1 : IntKind.wrap .i64 ((r.length : Int) - 1) = ((r.length - 1 : Nat) : Int) := by rw [wrap_id (by omega) (by omega)]; omega
    have e0 : idx r (0 : Int) = some (r[0]'(by omega)) := idx_nat (i := 0) (by omega)
    have e2 : ssub r (1 : Int) ((r.length - 1 : Nat) : Int) = some (midQ r) := by rw [ssub_ok (by omega) (by omega) (by omega)]; rfl
    have hm : (midQ r).length < 1073741824 := by unfold midQ; simp; omega
    rw [if_neg (by omega), e0, Option.bind_some, e1, idx_nat (by omega : r.length - 1 < r.length), Option.bind_some, e2, Option.bind_some, S_IsTag_eq hk _ hm, Option.bind_some, bne, u8_34, bne, u8_34, decide_eq_true c, Bool.true_and, List.getElem?_eq_getElem (by omega : 0 < r.length), List.getElem?_eq_getElem (by omega : r.length - 1 < r.length)]
    have o1 : ∀ x : UInt8, (some x == some 34) = (x == 34) := fun x => rfl
    rw [o1, o1]
    cases (r[0]'(by omega) == 34) <;> cases (r[r.length - 1]'(by omega) == 34) <;> cases isTagT (midQ r) <;> rfl
  · rw [if_pos (by omega), decide_eq_false c]; rfl
theorem S_ParseTag_eq {k : Nat} (hk : 1073741824 ≤ k) (s : List UInt8) (h : s.length < 1073741824) : S_ParseTag k s = some (pTag s) := by
  rw [S_ParseTag, bif_dec]
  unfold pTag preW
  by_cases c : 2 < s.length
  · have e1 : ssub s (0 : Int) (2 : Int) = some (s.take 2) := by rw [ssub_ok (by omega) (by omega) (by omega)]; rfl
    have e2 : ssub s (2 : Int) (s.length : Int) = some (s.drop 2) := ssub_drop (i := 2) (by omega)
    rw [if_pos (by omega), e1, Option.bind_some, S_ParseTag_c13, e2, Option.bind_some, decide_eq_true (by omega : 2 ≤ s.length), Bool.true_and]
    cases (s.take 2 == [87, 47]) with
    | true =>
      rw [cond_true, Option.bind_some, cond_true]
      exact S_tail hk (by simp; omega)
    | false =>
      rw [cond_false, Option.bind_some, cond_false]
      exact S_tail hk h
  · rw [if_neg (by omega), S_ParseTag_c13, cond_false, Option.bind_some]
    refine (S_tail hk h).trans ?_
    cases hp : (decide (2 ≤ s.length) && (s.take 2 == [87, 47])) with
    | false => rfl
    | true =>
      rw [Bool.and_eq_true, decide_eq_true_eq, beq_iff_eq, List.take_of_length_le (by omega)] at hp
      rw [hp.2]; rfl
theorem dropWhile_all_ne {m : List UInt8} {r : List UInt8} (h : m.all (fun c => !(c == 34)) = true) (hm : m ≠ []) : (m ++ r).dropWhile (fun b => ([34] : List UInt8).contains b) = m ++ r := by
  cases m with
  | nil => exact absurd rfl hm
  | cons a m =>
    rw [List.all_cons, Bool.and_eq_true, Bool.not_eq_true'] at h
    have : ([34] : List UInt8).contains a = false := by simp only [List.contains, List.elem]; rw [h.1]
    rw [List.cons_append, List.dropWhile_cons, this]; rfl
theorem trim_q {m : List UInt8} (h : m.all (fun c => !(c == 34)) = true) : Lib.trimS (34 :: (m ++ [34])) [34] = m := by
  have c34 : ([34] : List UInt8).contains (34 : UInt8) = true := rfl
  unfold Lib.trimS Lib.trimLeftS Lib.trimRightS
  have e : (34 :: (m ++ [34])).reverse = 34 :: (m.reverse ++ [34]) := by simp
  rw [e, List.dropWhile_cons, c34, if_pos rfl]
  by_cases hm : m = []
  · subst hm; rfl
  · have hr : m.reverse.all (fun c => !(c == 34)) = true := by rw [List.all_reverse]; exact h
    rw [dropWhile_all_ne hr (by simpa using hm)]
    have e2 : (m.reverse ++ [34]).reverse = 34 :: m := by simp
    rw [e2, List.dropWhile_cons, c34, if_pos rfl]
    have := dropWhile_all_ne (r := []) h hm
    rw [List.append_nil] at this
    exact this
theorem tagB_ne {m : List UInt8} (h : m.all tagB = true) : m.all (fun c => !(c == 34)) = true := by
  rw [List.all_eq_true] at h ⊢
  intro x hx
  have := h x hx
  unfold tagB at this
  rw [Bool.and_eq_true] at this
  exact this.2
theorem okQ_iff (r : List UInt8) : okQ r = true ↔ ∃ m, isTagT m = true ∧ r = 34 :: (m ++ [34]) := by
  constructor
  · intro h
    unfold okQ at h
    rw [Bool.and_eq_true, Bool.and_eq_true, Bool.and_eq_true, decide_eq_true_eq, beq_iff_eq, beq_iff_eq] at h
    obtain ⟨⟨⟨h1, h2⟩, h3⟩, h4⟩ := h
    refine ⟨midQ r, h4, ?_⟩
    unfold midQ
    cases r with
    | nil => simp at h1
    | cons a r =>
      simp only [List.getElem?_cons_zero, Option.some.injEq] at h2
      subst h2
      have hr : r ≠ [] := by intro e; subst e; simp at h1
      obtain ⟨l, b, rfl⟩ : ∃ l b, r = l ++ [b] := ⟨r.dropLast, r.getLast hr, (List.dropLast_concat_getLast hr).symm⟩
      have hb : b = 34 := by
        have e : (34 :: (l ++ [b])).length - 1 = l.length + 1 := by simp
        rw [e, List.getElem?_cons_succ, List.getElem?_append_right (by omega), Nat.sub_self] at h3
        simpa using h3
      subst hb
      have e : (34 :: (l ++ [34])).length - 1 = l.length + 1 := by simp
      rw [e, List.take_succ_cons, List.take_left']
      · rfl
      · rfl
  · rintro ⟨m, hm, rfl⟩
    have e : (34 :: (m ++ [34])).length - 1 = m.length + 1 := by simp
    have em : midQ (34 :: (m ++ [34])) = m := by
      unfold midQ
      rw [e, List.take_succ_cons, List.take_left' rfl]; rfl
    unfold okQ
    rw [em, hm, e, List.getElem?_cons_succ, List.getElem?_append_right (by omega), Nat.sub_self]
    simp
theorem midQ_of (m : List UInt8) : midQ (34 :: (m ++ [34])) = m := by
  have e : (34 :: (m ++ [34])).length - 1 = m.length + 1 := by simp
  unfold midQ
  rw [e, List.take_succ_cons, List.take_left' rfl]; rfl
theorem hasPre_W {k : Nat} (s : List UInt8) : internal_stringslite_HasPrefix k s [87, 47] = some (preW s) := by
  have l2 : (([87, 47] : List UInt8).length : Int) = 2 := rfl
  rw [internal_stringslite_HasPrefix, l2, bif_dec]
  unfold preW
  by_cases c : 2 ≤ s.length
  · have e1 : ssub s (0 : Int) (2 : Int) = some (s.take 2) := by rw [ssub_ok (by omega) (by omega) (by omega)]; rfl
    rw [if_pos (by omega), e1, Option.bind_some, decide_eq_true c, Bool.true_and]
  · rw [if_neg (by omega), decide_eq_false c, Bool.false_and]
theorem cutPre_W {k : Nat} (s : List UInt8) : strings_CutPrefix k s [87, 47] = some (bif preW s then (s.drop 2, true) else (s, false)) := by
  have l2 : (([87, 47] : List UInt8).length : Int) = 2 := rfl
  rw [strings_CutPrefix, internal_stringslite_CutPrefix, hasPre_W, Option.bind_some, l2]
  cases hp : preW s with
  | false => rfl
  | true =>
    have h2 : 2 ≤ s.length := by
      unfold preW at hp
      rw [Bool.and_eq_true, decide_eq_true_eq] at hp
      exact hp.1
    have e2 : ssub s (2 : Int) (s.length : Int) = some (s.drop 2) := ssub_drop (i := 2) (by omega)
    rw [Bool.not_true, cond_false, e2]; rfl
theorem trim_34 {k : Nat} (r : List UInt8) (h : r.length < 1073741824) : strings_Trim k r [34] = some (Lib.trimS r [34]) := by
  have hd : (decide (r.length ≤ 9223372036854775807) && decide (([34] : List UInt8).length < 4294967281) && ([34] : List UInt8).all (fun b => decide (b.toNat < 128))) = true := by
    rw [Bool.and_eq_true, Bool.and_eq_true]; exact ⟨⟨decide_eq_true (by omega), by decide⟩, by decide⟩
  rw [strings_Trim, trimO, hd, cond_true]
theorem trimS_len (r cs : List UInt8) : (Lib.trimS r cs).length ≤ r.length := by
  unfold Lib.trimS Lib.trimLeftS Lib.trimRightS
  have h1 := (List.dropWhile_sublist (fun b => cs.contains b) (l := (r.reverse.dropWhile (fun b => cs.contains b)).reverse)).length_le
  have h2 := (List.dropWhile_sublist (fun b => cs.contains b) (l := r.reverse)).length_le
  rw [List.length_reverse] at h1 h2
  omega
theorem fmt_iff (r : List UInt8) (p : List UInt8) (hp : p = [87, 47] ∨ p = []) : (bif isTagT (Lib.trimS r [34]) then p ++ ([34] ++ Lib.trimS r [34] ++ [34]) else []) = p ++ r ∧ p ++ r ≠ [] ↔ okQ r = true := by
  rw [okQ_iff]
  constructor
  · rintro ⟨h, hne⟩
    cases ht : isTagT (Lib.trimS r [34]) with
    | false => rw [ht, cond_false] at h; exact absurd h.symm hne
    | true =>
      rw [ht, cond_true] at h
      exact ⟨_, ht, (List.append_cancel_left h).symm⟩
  · rintro ⟨m, hm, rfl⟩
    have hm2 := hm
    unfold isTagT at hm2
    rw [Bool.and_eq_true] at hm2
    rw [trim_q (tagB_ne hm2.1), hm, cond_true]
    exact ⟨rfl, by simp⟩
theorem I_ParseTag_eq {k : Nat} (hk : 1073741824 ≤ k) (s : List UInt8) (h : s.length < 1073741824) : I_ParseTag k s = some (pTag s) := by
  rw [I_ParseTag, cutPre_W, Option.bind_some]
  unfold pTag tagQ
  cases hw : preW s with
  | true =>
    have hs : s = [87, 47] ++ s.drop 2 := by
      unfold preW at hw
      rw [Bool.and_eq_true, beq_iff_eq] at hw
      rw [← hw.2, List.take_append_drop]
    have hne : (s == []) = false := beq_ne (by rw [hs]; simp)
    have hl := trimS_len (s.drop 2) [34]
    have hl2 : (s.drop 2).length ≤ s.length := by simp
    have := fmt_iff (s.drop 2) [87, 47] (.inl rfl)
    simp only [cond_true]
    rw [trim_34 _ (by omega), Option.bind_some, hne, cond_false, I_FormatTag_eq hk _ (by simp only; omega), Option.bind_some]
    unfold fmtTag
    simp only [cond_true]
    rw [← hs] at this
    have e : ([87, 47] : List UInt8) ++ ([34] ++ Lib.trimS (s.drop 2) [34] ++ [34]) = [87, 47, 34] ++ Lib.trimS (s.drop 2) [34] ++ [34] := rfl
    rw [e] at this
    cases ho : okQ (s.drop 2) with
    | true =>
      obtain ⟨g1, _⟩ := this.2 ho
      obtain ⟨m, hm, hr⟩ := (okQ_iff _).1 ho
      unfold isTagT at hm
      rw [Bool.and_eq_true] at hm
      rw [beq_iff_eq.2 g1, Bool.not_true, cond_false, cond_true, hr, trim_q (tagB_ne hm.1), midQ_of]
    | false =>
      have : ((bif isTagT (Lib.trimS (s.drop 2) [34]) then [87, 47, 34] ++ Lib.trimS (s.drop 2) [34] ++ [34] else []) == s) = false := beq_ne fun e => by
        rw [this.1 ⟨e, fun h0 => by rw [h0] at hne; cases hne⟩] at ho; cases ho
      rw [this]; rfl
  | false =>
    simp only [cond_false]
    rw [trim_34 _ h, Option.bind_some]
    have hl := trimS_len s [34]
    by_cases hs : s = []
    · subst hs; rfl
    · have := fmt_iff s [] (.inr rfl)
      rw [List.nil_append] at this
      rw [beq_ne hs, cond_false, I_FormatTag_eq hk _ (by simp only; omega), Option.bind_some]
      unfold fmtTag
      simp only [cond_false]
      rw [List.nil_append] at this
      cases ho : okQ s with
      | true =>
        obtain ⟨g1, _⟩ := this.2 ho
        obtain ⟨m, hm, hr⟩ := (okQ_iff _).1 ho
        unfold isTagT at hm
        rw [Bool.and_eq_true] at hm
        rw [beq_iff_eq.2 g1, Bool.not_true, cond_false, cond_true]
        rw [hr, trim_q (tagB_ne hm.1), midQ_of]
      | false =>
        have : ((bif isTagT (Lib.trimS s [34]) then [34] ++ Lib.trimS s [34] ++ [34] else []) == s) = false := beq_ne fun e => by
          rw [this.1 ⟨e, hs⟩] at ho; cases ho
        rw [this]; rfl
theorem S_StrongSame_eq {k : Nat} (a b : ITag) : S_StrongSame k a b = some (!a.Weak && (!b.Weak && (a.Text == b.Text))) := by
  rw [S_StrongSame]
  cases a.Weak <;> cases b.Weak <;> rfl
theorem I_StrongSame_eq {k : Nat} (a b : ITag) : I_StrongSame k a b = some (!a.Weak && (!b.Weak && (a.Text == b.Text))) := by
  rw [I_StrongSame]
  cases a.Weak <;> cases b.Weak <;> rfl
def ansTag (fs : List IField) : ITag × Bool := pTag (getF fs [101, 116, 97, 103]).1
theorem I_answerTag_eq {k : Nat} (hk : 1073741824 ≤ k) (x : IResponse) (h : fsz x.Fields < 268435456) : I_answerTag k x = some (ansTag x.Fields) := by
  rw [I_answerTag, I_GetField_eq hk _ _ h, Option.bind_some, I_ParseTag_eq hk _ (getF_short _ h), Option.bind_some]; rfl
def sub (x : List UInt8) (f i : Nat) : List UInt8 := (x.take i).drop f
theorem sub_self (x : List UInt8) (i : Nat) : sub x i i = [] := by unfold sub; rw [List.drop_eq_nil_iff]; simp; omega
theorem S_l5Get_eq {k : Nat} (hk : 1073741824 ≤ k) (l : List IField) (n : List UInt8) (h : fsz l < 268435456) : S_l5Get k l n = some (getF l n).1 := by rw [S_l5Get, S_GetField_eq hk l n h]; rfl
def shortF (l : List IField) : Prop := ∀ e ∈ l, e.Name.length < 1073741824 ∧ e.Value.length < 1073741824
theorem fsz_in : ∀ (x : List LField), fsz (x.map to_LField) ≤ szL sz_LField x
  | [] => by simp [fsz, szL]
  | e :: l => by
    have := fsz_in l
    unfold fsz szL at this ⊢
    simp only [List.map_cons, List.sum_cons, List.length_cons, List.length_map] at this ⊢
    have h1 : (to_LField e).Value.length ≤ sz_LField e := by unfold sz_LField; simp only [to_LField]; omega
    omega
theorem short_in {x : List LField} (h : szL sz_LField x ≤ 1048576) : shortF (x.map to_LField) := by
  intro e he
  obtain ⟨y, hy, rfl⟩ := List.mem_map.1 he
  have := sz_mem (g := sz_LField) hy
  have h2 : sz_LField y ≤ 1048576 := by omega
  unfold sz_LField at h2
  simp only [to_LField]; omega
theorem resp_in {a : LResponse} (h : sz_LResponse a ≤ 1048576) : fsz (to_LResponse a).Fields ≤ 1048576 ∧ (to_LResponse a).Fields.length < 1073741824 ∧ shortF (to_LResponse a).Fields ∧ (to_LResponse a).Body.length ≤ 1048576 := by
  have h1 := fsz_in a.Fields
  unfold sz_LResponse at h
  have h2 : (to_LResponse a).Fields = a.Fields.map to_LField := rfl
  have h3 : (a.Fields.map to_LField).length ≤ fsz (a.Fields.map to_LField) := by unfold fsz; omega
  have h4 : (to_LResponse a).Body = a.Body := rfl
  rw [h2, h4]
  exact ⟨by omega, by omega, short_in (by omega), by omega⟩
theorem req_in {a : LRequest} (h : sz_LRequest a ≤ 1048576) : fsz (to_LRequest a).Fields ≤ 1048576 ∧ (to_LRequest a).Fields.length < 1073741824 := by
  have h1 := fsz_in a.Fields
  unfold sz_LRequest at h
  have h2 : (to_LRequest a).Fields = a.Fields.map to_LField := rfl
  have h3 : (a.Fields.map to_LField).length ≤ fsz (a.Fields.map to_LField) := by unfold fsz; omega
  rw [h2]; omega
def rangeT (q x : List IField) : Bool :=
  bif !(getF q [105, 102, 45, 114, 97, 110, 103, 101]).2 then true else
  bif (pTag (getF q [105, 102, 45, 114, 97, 110, 103, 101]).1).2 then (bif (ansTag x).2 then (!(pTag (getF q [105, 102, 45, 114, 97, 110, 103, 101]).1).1.Weak && (!(ansTag x).1.Weak && ((pTag (getF q [105, 102, 45, 114, 97, 110, 103, 101]).1).1.Text == (ansTag x).1.Text))) else false)
  else bif (pDate (getF q [105, 102, 45, 114, 97, 110, 103, 101]).1).2 then (bif (dateF x [108, 97, 115, 116, 45, 109, 111, 100, 105, 102, 105, 101, 100]).2 then (pDate (getF q [105, 102, 45, 114, 97, 110, 103, 101]).1).1 == (dateF x [108, 97, 115, 116, 45, 109, 111, 100, 105, 102, 105, 101, 100]).1 else false) else false
theorem S_RangeHolds_eq {k : Nat} (hk : 1073741824 ≤ k) (r : IRequest) (x : IResponse) (h1 : fsz r.Fields < 268435456) (h2 : fsz x.Fields < 268435456) : S_RangeHolds k r x = some (rangeT r.Fields x.Fields) := by
  rw [S_RangeHolds, S_GetField_eq hk _ _ h1, Option.bind_some, S_ParseTag_eq hk _ (getF_short _ h1), Option.bind_some, S_l5Get_eq hk _ _ h2, Option.bind_some, S_ParseTag_eq hk _ (getF_short _ h2), Option.bind_some, S_StrongSame_eq, Option.bind_some, S_ParseDate_eq hk, Option.bind_some, S_l5Get_eq hk _ _ h2, Option.bind_some, S_ParseDate_eq hk, Option.bind_some]
  unfold rangeT ansTag dateF
  cases (getF r.Fields [105, 102, 45, 114, 97, 110, 103, 101]).2 with
  | false => rfl
  | true =>
    rw [Bool.not_true, cond_false, cond_false]
    cases (pTag (getF r.Fields [105, 102, 45, 114, 97, 110, 103, 101]).1).2 with
    | true => cases (pTag (getF x.Fields [101, 116, 97, 103]).1).2 <;> rfl
    | false => cases (pDate (getF r.Fields [105, 102, 45, 114, 97, 110, 103, 101]).1).2 <;> cases (pDate (getF x.Fields [108, 97, 115, 116, 45, 109, 111, 100, 105, 102, 105, 101, 100]).1).2 <;> rfl
theorem I_RangeHolds_eq {k : Nat} (hk : 1073741824 ≤ k) (r : IRequest) (x : IResponse) (h1 : fsz r.Fields < 268435456) (h2 : fsz x.Fields < 268435456) : I_RangeHolds k r x = some (rangeT r.Fields x.Fields) := by
  rw [I_RangeHolds, I_GetField_eq hk _ _ h1, Option.bind_some, I_ParseTag_eq hk _ (getF_short _ h1), Option.bind_some, I_answerTag_eq hk x h2, Option.bind_some, I_StrongSame_eq, Option.bind_some, I_ParseDate_eq hk _ (getF_short _ h1), Option.bind_some, I_dateField_eq hk x _ h2, Option.bind_some]
  unfold rangeT
  cases (getF r.Fields [105, 102, 45, 114, 97, 110, 103, 101]).2 with
  | false => rfl
  | true =>
    rw [Bool.not_true, cond_false, cond_false]
    cases (pTag (getF r.Fields [105, 102, 45, 114, 97, 110, 103, 101]).1).2 with
    | true => cases (ansTag x.Fields).2 <;> rfl
    | false => cases (pDate (getF r.Fields [105, 102, 45, 114, 97, 110, 103, 101]).1).2 <;> cases (dateF x.Fields [108, 97, 115, 116, 45, 109, 111, 100, 105, 102, 105, 101, 100]).2 <;> rfl
theorem FnExactRangeHolds_pure {k : Nat} (hk : 1073741824 ≤ k) (a0 : LRequest) (a1 : LResponse) (h0 : V_LRequest a0) (h1 : V_LResponse a1) : L_FnExactRangeHolds k a0 a1 = some true := by
  unfold L_FnExactRangeHolds
  rw [L_szRequest_eq hk h0 _ (by omega) (by omega), Option.bind_some, bif_dec]
  by_cases c3 : (sz_LRequest a0 : Int) ≤ 1048576
  case neg => rw [if_neg c3, if_pos (by omega)]
  have c4 : sz_LRequest a0 ≤ 1048576 := by omega
  rw [if_pos c3, if_neg (by omega), L_szResponse_eq hk h1 _ (by omega) (by omega), Option.bind_some, bif_dec]
  by_cases c5 : (sz_LResponse a1 : Int) ≤ 1048576 - sz_LRequest a0
  case neg => rw [if_neg c5, if_pos (by omega)]
  have c6 : sz_LResponse a1 ≤ 1048576 := by omega
  obtain ⟨r1, r2⟩ := req_in c4
  obtain ⟨s1, s2, s3, s4⟩ := resp_in c6
  have f1 : fsz (to_LRequest a0).Fields < 268435456 := by omega
  have f2 : fsz (to_LResponse a1).Fields < 268435456 := by omega
  rw [if_pos c5, if_neg (by omega)]
  simp only [L_toRequest_eq hk a0 c4, L_toResponse_eq hk a1 c6, Option.bind_some, S_RangeHolds_eq hk _ _ f1 f2, I_RangeHolds_eq hk _ _ f1 f2, L_eqRequest_eq hk _ _ r2, L_eqResponse_eq hk _ _ s2, decide_true, Bool.not_true, cond_false, bne_self_eq_false, BEq.rfl]
end
end Go.YtjpfnppiocloeaaGreatDoor
