/- Plain lemmas and definitions. Nothing is claimed here. -/
import Derived.Test.YtnidlohhndpjdaaGreatDoorKw
import Derived.Lib.AtoiAll
import Derived.Lib.AtoiTie
import Derived.Lib.Index
import Derived.Lib.IndexMore
import Derived.Lib.TrimByte
import Derived.Sort.Walk0
set_option linter.unusedVariables false
set_option linter.unusedSimpArgs false
set_option maxRecDepth 100000
namespace Go.YtnidlohhndpjdaaGreatDoor
open Go Go.RowKit Go.Pv Go.Pu
noncomputable section

def chooseT (x : List (List UInt8)) (a : List UInt8) : List UInt8 := foldI (bestI (parseQ a) x) x.length 0 []
theorem S_ChooseName_eq {k : Nat} (hk : 1073741824 ≤ k) (x : List (List UInt8)) (a : List UInt8) (hx : x.length < 1073741824) (ha : a.length < 1073741000) : S_ChooseName k x a = some (chooseT x a) := by
 have hp := parseQ_len a
 have rel := foldI_rel (g := bestS (parseQ a) x) (g' := bestI (parseQ a) x) (R := fun i b m => b ≤ i ∧ (i = 0 → b = 0) ∧ (0 < i → b < x.length ∧ x[b]? = some m)) (len := x.length) (fun i s t hi h => best_rel i s t hi h) x.length 0 0 [] (by omega) ⟨by omega, fun _ => rfl, fun h => by omega⟩
 rw [S_ChooseName, S_ParseQualities_eq hk a ha, Option.bind_some, S_Choose_loop hk (by omega) hx, Option.bind_some]
 unfold chooseT
 generalize foldI (bestS (parseQ a) x) x.length 0 0 = b at rel
 generalize hm : foldI (bestI (parseQ a) x) x.length 0 [] = m at rel
 obtain ⟨r1, r2, r3⟩ := rel
 rw [S_l1Word, bif_dec, bif_dec, if_neg (by omega)]
 rcases Nat.eq_zero_or_pos x.length with h0 | h0
 ·rw [if_pos (by omega), ← hm, h0]; rfl
 ·obtain ⟨r4, r5⟩ := r3 h0
  rw [if_neg (by omega), idx_nat r4, Option.bind_some, Option.bind_some]
  rw [List.getElem?_eq_getElem r4] at r5
  exact r5
def variantT (r : IResource) (fs : List IField) : List UInt8 × List UInt8 := (chooseT r.Langs (getF fs [97, 99, 99, 101, 112, 116, 45, 108, 97, 110, 103, 117, 97, 103, 101]).1, bif r.Private then visitor fs else [])
theorem S_VariantOf_eq {k : Nat} (hk : 1073741824 ≤ k) (o : IResource) (r : IRequest) (hl : o.Langs.length < 1073741824) (h : fsz r.Fields < 67108864) : S_VariantOf k o r = some (variantT o r.Fields) := by
 have hg := getF_len r.Fields [97, 99, 99, 101, 112, 116, 45, 108, 97, 110, 103, 117, 97, 103, 101]
 have hc : S_VariantOf_c10 k ([] : List UInt8) (decide ((o.Langs.length : Int) > (0 : Int))) o.Target o.Control o.Keys o.Private o.Langs o.Versions r.Method r.Host r.Target r.Fields = some (chooseT o.Langs (getF r.Fields [97, 99, 99, 101, 112, 116, 45, 108, 97, 110, 103, 117, 97, 103, 101]).1) := by
  unfold S_VariantOf_c10
  rw [S_l5Get, S_GetField_eq hk _ _ (by omega), Option.bind_some, Option.bind_some, S_ChooseName_eq hk _ _ hl (by omega), Option.bind_some, bif_dec]
  by_cases c : (o.Langs.length : Int) > 0
  ·rw [if_pos c]
  ·rw [if_neg c]
   have : o.Langs = [] := List.length_eq_zero_iff.1 (by omega)
   rw [this]; rfl
 rw [S_VariantOf, hc, Option.bind_some, S_VisitorOf_eq hk r h, Option.bind_some]
 unfold variantT
 cases o.Private <;> rfl
def dd (m : Nat) : List UInt8 := if m = 0 then [] else Lib.decDigits m
theorem dd_step {m : Nat} (h : m ≠ 0) : dd m = dd (m / 10) ++ [UInt8.ofNat (48 + m % 10)] := by
 unfold dd
 rw [if_neg h]
 by_cases c : m < 10
 ·rw [Lib.decDigits, dif_pos c, if_pos (by omega), Nat.mod_eq_of_lt c]; rfl
 ·rw [Lib.decDigits, dif_neg c, if_neg (by omega)]
theorem dd_len (d : Nat) : ∀ m : Nat, m < 10 ^ d → (dd m).length ≤ d := by
 induction d with
 | zero => intro m h; have : m = 0 := by simpa using h
           subst this; simp [dd]
 | succ d ih =>
  intro m h
  by_cases h0 : m = 0
  ·subst h0; simp [dd]
  ·rw [dd_step h0, List.length_append]
   have := ih (m / 10) (by rw [Nat.pow_succ] at h; omega)
   simp; omega
theorem wrap_digit : ∀ j : Fin 10, bytesOf [IntKind.wrap .u8 (IntKind.wrap .i64 (48 + ((j.val : Nat) : Int)))] = [UInt8.ofNat (48 + j.val)] := by decide +kernel
theorem digit_of (m : Nat) : bytesOf [IntKind.wrap .u8 (IntKind.wrap .i64 (48 + ((m % 10 : Nat) : Int)))] = [UInt8.ofNat (48 + m % 10)] := wrap_digit ⟨m % 10, by omega⟩
theorem S_FormatInt_loop {k : Nat} {a0 : Int} : ∀ (n d : Nat) (x : Int) (s : List UInt8), d < n → x.natAbs < 10 ^ d → -9223372036854775808 ≤ x → x ≤ 9223372036854775807 → s.length + d ≤ 100 →
    S_FormatInt_b0 k n a0 s x = some (dd x.natAbs ++ s) := by
 intro n
 induction n with
 | zero => intro d x s h; omega
 | succ n ih =>
  intro d x s hd hx h1 h2 hs
  rw [S_FormatInt_b0]
  by_cases h0 : x = 0
  ·subst h0; simp [dd]
  ·have hm : x.natAbs ≠ 0 := by omega
   have hne : (x != 0) = true := by simpa using h0
   obtain ⟨d, rfl⟩ : ∃ d', d = d' + 1 := by
    cases d with
    | zero => simp at hx; omega
    | succ d => exact ⟨d, rfl⟩
   have e1 : md x 10 = some (x.tmod 10) := by simp [md]
   have e2 : dv x 10 = some (x.tdiv 10) := by simp [dv]
   have e3 : S_FormatInt_c16 k a0 s x (x.tmod 10) (decide (x.tmod 10 < 0)) = some ((x.natAbs % 10 : Nat) : Int) := by
    rw [S_FormatInt_c16, bif_dec]
    have ht : x.tmod 10 = if 0 ≤ x then ((x.natAbs % 10 : Nat) : Int) else -((x.natAbs % 10 : Nat) : Int) := by
     split
     ·rw [Int.tmod_eq_emod_of_nonneg (by omega)]; omega
     ·have : x = -(x.natAbs : Int) := by omega
      rw [this, Int.neg_tmod, Int.tmod_eq_emod_of_nonneg (by omega)]
      simp
    rw [ht]
    split
    ·rw [if_neg (by omega)]
    ·by_cases hz : x.natAbs % 10 = 0
     ·rw [hz]; simp
     ·rw [if_pos (by omega), wrap_id (by omega) (by omega)]; simp
   have e4 : (x.tdiv 10).natAbs = x.natAbs / 10 := by rw [Int.natAbs_tdiv]; rfl
   have hb : -9223372036854775808 ≤ x.tdiv 10 ∧ x.tdiv 10 ≤ 9223372036854775807 := by omega
   rw [hne, cond_true, S_FormatInt_b1, e1, Option.bind_some, e3, Option.bind_some, digit_of, cat_ok (by simp; omega), Option.bind_some, Option.bind_some, e2, Option.bind_some, wrap_id (by omega) (by omega),
    ih d _ _ (by omega) (by rw [e4]; rw [Nat.pow_succ] at hx; omega) hb.1 hb.2 (by simp; omega), e4, dd_step hm]
   simp
theorem itoa_dd (n : Int) : Lib.itoa n = if n = 0 then [48] else if n < 0 then 45 :: dd n.natAbs else dd n.natAbs := by
 unfold Lib.itoa
 by_cases h0 : n = 0
 ·subst h0; rw [if_neg (by omega), if_pos rfl, Lib.decDigits]; rfl
 ·rw [if_neg h0]
  have hm : ¬ n.natAbs = 0 := by omega
  unfold dd
  rw [if_neg hm]
  by_cases h : n < 0
  ·rw [if_pos h, if_pos h]
  ·rw [if_neg h, if_neg h, show n.toNat = n.natAbs by omega]
theorem pow19 : (10 : Nat) ^ 19 = 10000000000000000000 := by decide
theorem S_FormatInt_eq {k : Nat} (hk : 1073741824 ≤ k) (n : Int) (h1 : -9223372036854775808 ≤ n) (h2 : n ≤ 9223372036854775807) : S_FormatInt k n = some (Lib.itoa n) := by
 have hp := pow19
 have hl := dd_len 19 n.natAbs (by omega)
 rw [S_FormatInt, itoa_dd]
 by_cases h0 : n = 0
 ·subst h0; rfl
 ·have hne : (n == 0) = false := by simpa using h0
  rw [hne, cond_false, S_FormatInt_loop k 19 n [] (by omega) (by omega) h1 h2 (by simp), Option.bind_some, List.append_nil, if_neg h0, bif_dec]
  by_cases h : n < 0
  ·rw [if_pos h, if_pos h, cat_ok (by simp; omega)]; rfl
  ·rw [if_neg h, if_neg h]
theorem I_FormatInt_eq {k : Nat} (n : Int) (h1 : -9223372036854775808 ≤ n) (h2 : n ≤ 9223372036854775807) : I_FormatInt k n = some (Lib.itoa n) := by
 have hd : (decide (-9223372036854775808 ≤ n) && decide (n ≤ 9223372036854775807)) = true := by rw [Bool.and_eq_true]; exact ⟨decide_eq_true h1, decide_eq_true h2⟩
 rw [I_FormatInt, strconv_Itoa, itoaO, hd]; rfl
theorem itoa_len {n : Int} (h1 : -9223372036854775808 ≤ n) (h2 : n ≤ 9223372036854775807) : (Lib.itoa n).length ≤ 20 := by
 have hp := pow19
 have hl := dd_len 19 n.natAbs (by omega)
 rw [itoa_dd]
 split
 ·simp
 ·split
  ·simp; omega
  ·omega
def leapN (y : Nat) : Bool := y % 4 == 0 && (y % 100 != 0 || y % 400 == 0)
def mdN (y m : Nat) : Nat := if m = 2 then (if leapN y then 29 else 28) else if m = 4 ∨ m = 6 ∨ m = 9 ∨ m = 11 then 30 else 31
def ydN (y : Nat) : Nat := if leapN y then 366 else 365
def ysN : Nat → Nat
 | 0 => 0
 | n + 1 => ysN n + ydN (1970 + n)
def msN (y : Nat) : Nat → Nat
 | 0 => 0
 | n + 1 => msN y n + mdN y (n + 1)
theorem msN_12 (y : Nat) : msN y 12 = ydN y := by
 simp only [msN, mdN, ydN]
 cases leapN y <;> simp
theorem ysN_mono {a b : Nat} (h : a ≤ b) : ysN a ≤ ysN b := by
 induction h with
 | refl => exact Nat.le_refl _
 | step _ ih => rw [ysN]; omega
theorem msN_mono {y a b : Nat} (h : a ≤ b) : msN y a ≤ msN y b := by
 induction h with
 | refl => exact Nat.le_refl _
 | step _ ih => rw [msN]; omega
theorem ysN_130 : ysN 130 = 47482 := by decide +kernel
theorem mdN_pos (y m : Nat) : 28 ≤ mdN y m ∧ mdN y m ≤ 31 := by
 unfold mdN; split <;> split <;> omega
theorem ydN_bnd (y : Nat) : 365 ≤ ydN y ∧ ydN y ≤ 366 := by unfold ydN; split <;> omega
structure IsDay (day n p d : Nat) : Prop where
 hn : n < 130
 hp : p < 12
 hd : d < mdN (1970 + n) (p + 1)
 eq : day = ysN n + msN (1970 + n) p + d
theorem step_ex (f : Nat → Nat) (h0 : f 0 = 0) : ∀ (N x : Nat), x < f N → ∃ n, n < N ∧ f n ≤ x ∧ x < f (n + 1) := by
 intro N
 induction N with
 | zero => intro x h; omega
 | succ N ih =>
  intro x h
  by_cases c : x < f N
  ·obtain ⟨n, h1, h2, h3⟩ := ih x c
   exact ⟨n, by omega, h2, h3⟩
  ·exact ⟨N, by omega, by omega, h⟩
theorem isDay_ex {day : Nat} (h : day ≤ 47481) : ∃ n p d, IsDay day n p d := by
 obtain ⟨n, h1, h2, h3⟩ := step_ex ysN rfl 130 day (by rw [ysN_130]; omega)
 rw [ysN] at h3
 obtain ⟨p, g1, g2, g3⟩ := step_ex (msN (1970 + n)) rfl 12 (day - ysN n) (by rw [msN_12]; omega)
 rw [msN] at g3
 exact ⟨n, p, day - ysN n - msN (1970 + n) p, h1, g1, by omega, by omega⟩
theorem IsDay.ltY {day n p d : Nat} (h : IsDay day n p d) : msN (1970 + n) p + d < ydN (1970 + n) := by
 have h1 := h.hd
 have h2 : msN (1970 + n) (p + 1) ≤ msN (1970 + n) 12 := msN_mono (by have := h.hp; omega)
 rw [msN_12, msN] at h2
 omega
theorem IsDay.lt {day n p d : Nat} (h : IsDay day n p d) : day < ysN (n + 1) := by
 have := h.ltY
 rw [ysN, h.eq]; omega
theorem IsDay.le {day n p d : Nat} (h : IsDay day n p d) : day ≤ 47481 := by
 have h1 := h.lt
 have h2 : ysN (n + 1) ≤ ysN 130 := ysN_mono (by have := h.hn; omega)
 rw [ysN_130] at h2; omega
theorem IsDay.nu {day n p d n' p' d' : Nat} (h : IsDay day n p d) (h' : IsDay day n' p' d') : n = n' := by
 have h1 := h.lt
 have h2 := h'.lt
 have e1 := h.eq
 have e2 := h'.eq
 rcases Nat.lt_trichotomy n n' with c | c | c
 ·have := ysN_mono (show n + 1 ≤ n' by omega); omega
 ·exact c
 ·have := ysN_mono (show n' + 1 ≤ n by omega); omega
theorem IsDay.pu {day n p d p' d' : Nat} (h : IsDay day n p d) (h' : IsDay day n p' d') : p = p' ∧ d = d' := by
 have e1 := h.eq
 have e2 := h'.eq
 have h1 := h.hd
 have h2 := h'.hd
 have m1 : msN (1970 + n) (p + 1) = msN (1970 + n) p + mdN (1970 + n) (p + 1) := rfl
 have m2 : msN (1970 + n) (p' + 1) = msN (1970 + n) p' + mdN (1970 + n) (p' + 1) := rfl
 rcases Nat.lt_trichotomy p p' with c | c | c
 ·have := msN_mono (y := 1970 + n) (show p + 1 ≤ p' by omega); omega
 ·subst c; exact ⟨rfl, by omega⟩
 ·have := msN_mono (y := 1970 + n) (show p' + 1 ≤ p by omega); omega
def okDay (y m d : Int) : Bool := decide (1970 ≤ y) && decide (y ≤ 2099) && (decide (1 ≤ m) && decide (m ≤ 12)) && (decide (1 ≤ d) && decide (d ≤ mdN y.toNat m.toNat))
def daysI (y m d : Int) : Int := bif okDay y m d then ((ysN (y.toNat - 1970) + msN y.toNat (m.toNat - 1) + (d.toNat - 1) : Nat) : Int) else -1
theorem okDay_iff {y m d : Int} : okDay y m d = true ↔ 1970 ≤ y ∧ y ≤ 2099 ∧ 1 ≤ m ∧ m ≤ 12 ∧ 1 ≤ d ∧ d ≤ mdN y.toNat m.toNat := by
 unfold okDay; simp only [Bool.and_eq_true, decide_eq_true_eq]; omega
theorem daysI_of {day n p d : Nat} (h : IsDay day n p d) : daysI ((1970 + n : Nat) : Int) ((p + 1 : Nat) : Int) ((d + 1 : Nat) : Int) = (day : Int) := by
 have h1 := h.hn; have h2 := h.hp; have h3 := h.hd
 have : okDay ((1970 + n : Nat) : Int) ((p + 1 : Nat) : Int) ((d + 1 : Nat) : Int) = true := okDay_iff.2 ⟨by omega, by omega, by omega, by omega, by omega, by simp only [Int.toNat_natCast]; omega⟩
 rw [daysI, this, cond_true, h.eq]
 rw [Int.toNat_natCast, Int.toNat_natCast, Int.toNat_natCast, Nat.add_sub_cancel_left, Nat.add_sub_cancel, Nat.add_sub_cancel]
def wkN (day : Nat) : Nat := (day % 7 + 4) % 7
theorem wkN_lt (day : Nat) : wkN day < 7 := by unfold wkN; omega
theorem md_nat {a b : Nat} (h : b ≠ 0) : md (a : Int) (b : Int) = some ((a % b : Nat) : Int) := by
 unfold md
 rw [if_neg (by omega), Int.tmod_eq_emod_of_nonneg (by omega)]; rfl
theorem dv_nat {a b : Nat} (h : b ≠ 0) : dv (a : Int) (b : Int) = some ((a / b : Nat) : Int) := by
 unfold dv
 rw [if_neg (by omega), Int.tdiv_eq_ediv_of_nonneg (by omega)]; rfl
theorem inR_t {n a b : Int} (h1 : a ≤ n) (h2 : n ≤ b) : inR n a b = true := by unfold inR; rw [decide_eq_true h1, decide_eq_true h2]; rfl
theorem inR_and (n a b : Int) : inR n a b = (decide (a ≤ n) && decide (n ≤ b)) := rfl
theorem nat_beq0 (n : Nat) : (((n : Nat) : Int) == (0 : Int)) = (n == 0) := by
 by_cases h : n = 0
 ·subst h; rfl
 ·rw [beq_ne h, beq_ne (by omega)]
theorem nat_bne0 (n : Nat) : (((n : Nat) : Int) != (0 : Int)) = (n != 0) := by rw [bne, nat_beq0]; rfl
theorem leapN_def (y : Nat) : leapN y = (y % 4 == 0 && (y % 100 != 0 || y % 400 == 0)) := rfl
theorem wrap_nat {n : Nat} (h : n ≤ 9223372036854775807) : IntKind.wrap .i64 (n : Int) = (n : Int) := wrap_id (by omega) (by omega)
theorem S_Mod_nat {k : Nat} (a b : Nat) (h1 : 1 ≤ b) (h2 : b ≤ 1000000000) (h3 : a ≤ 1000000000000) : S_Mod k (a : Int) (b : Int) = some ((a % b : Nat) : Int) := by
 have hb : a % b < b := Nat.mod_lt _ (by omega)
 have e : (((a % b : Nat) : Int) + (b : Int)) = ((a % b + b : Nat) : Int) := by push_cast; rfl
 rw [S_Mod, S_l1In_eq, Option.bind_some, inR_t (by omega) (by omega), Bool.not_true, cond_false, md_nat (by omega), Option.bind_some, e, wrap_nat (by omega), md_nat (by omega), Option.bind_some, Nat.add_mod_right, Nat.mod_mod]
theorem S_IsLeap_nat {k : Nat} (y : Nat) (h : y ≤ 1000000) : S_IsLeap k (y : Int) = some (leapN y) := by
 have e4 : S_Mod k (y : Int) 4 = some ((y % 4 : Nat) : Int) := S_Mod_nat y 4 (by omega) (by omega) (by omega)
 have e100 : S_Mod k (y : Int) 100 = some ((y % 100 : Nat) : Int) := S_Mod_nat y 100 (by omega) (by omega) (by omega)
 have e400 : S_Mod k (y : Int) 400 = some ((y % 400 : Nat) : Int) := S_Mod_nat y 400 (by omega) (by omega) (by omega)
 rw [S_IsLeap, e4, Option.bind_some, e100, Option.bind_some, e400, Option.bind_some, nat_beq0, nat_bne0, nat_beq0, leapN_def]
 cases (y % 4 == 0) <;> cases (y % 100 != 0) <;> cases (y % 400 == 0) <;> rfl
theorem S_WeekdayOf_nat {k : Nat} (day : Nat) (h : day ≤ 1000000) : S_WeekdayOf k (day : Int) = some ((wkN day : Nat) : Int) := by
 have e1 : S_Mod k (day : Int) 7 = some ((day % 7 : Nat) : Int) := S_Mod_nat day 7 (by omega) (by omega) (by omega)
 have e2 : S_Mod k ((day % 7 + 4 : Nat) : Int) 7 = some (((day % 7 + 4) % 7 : Nat) : Int) := S_Mod_nat _ 7 (by omega) (by omega) (by omega)
 have e3 : (((day % 7 : Nat) : Int) + 4) = ((day % 7 + 4 : Nat) : Int) := by push_cast; rfl
 rw [S_WeekdayOf, e1, Option.bind_some, e3, wrap_nat (by omega), e2]; rfl
theorem I_Mod_nat {k : Nat} (a b : Nat) (h1 : 1 ≤ b) (h2 : b ≤ 1000000000) (h3 : a ≤ 1000000000000) : I_Mod k (a : Int) (b : Int) = some ((a % b : Nat) : Int) := by
 have hb : a % b < b := Nat.mod_lt _ (by omega)
 have e : (((a % b : Nat) : Int) + (b : Int)) = ((a % b + b : Nat) : Int) := by push_cast; rfl
 rw [I_Mod, I_inRange_eq, Option.bind_some, inR_t (by omega) (by omega), Bool.not_true, cond_false, md_nat (by omega), Option.bind_some, e, wrap_nat (by omega), md_nat (by omega), Option.bind_some, Nat.add_mod_right, Nat.mod_mod]
theorem I_IsLeap_nat {k : Nat} (y : Nat) (h : y ≤ 1000000) : I_IsLeap k (y : Int) = some (leapN y) := by
 have e4 : I_Mod k (y : Int) 4 = some ((y % 4 : Nat) : Int) := I_Mod_nat y 4 (by omega) (by omega) (by omega)
 have e100 : I_Mod k (y : Int) 100 = some ((y % 100 : Nat) : Int) := I_Mod_nat y 100 (by omega) (by omega) (by omega)
 have e400 : I_Mod k (y : Int) 400 = some ((y % 400 : Nat) : Int) := I_Mod_nat y 400 (by omega) (by omega) (by omega)
 rw [I_IsLeap, e4, Option.bind_some, e100, Option.bind_some, e400, Option.bind_some, nat_beq0, nat_bne0, nat_beq0, leapN_def]
 cases (y % 4 == 0) <;> cases (y % 100 != 0) <;> cases (y % 400 == 0) <;> rfl
theorem I_WeekdayOf_nat {k : Nat} (day : Nat) (h : day ≤ 1000000) : I_WeekdayOf k (day : Int) = some ((wkN day : Nat) : Int) := by
 have e1 : I_Mod k (day : Int) 7 = some ((day % 7 : Nat) : Int) := I_Mod_nat day 7 (by omega) (by omega) (by omega)
 have e2 : I_Mod k ((day % 7 + 4 : Nat) : Int) 7 = some (((day % 7 + 4) % 7 : Nat) : Int) := I_Mod_nat _ 7 (by omega) (by omega) (by omega)
 have e3 : (((day % 7 : Nat) : Int) + 4) = ((day % 7 + 4 : Nat) : Int) := by push_cast; rfl
 rw [I_WeekdayOf, e1, Option.bind_some, e3, wrap_nat (by omega), e2]; rfl
theorem mon_cases {m : Nat} (h1 : 1 ≤ m) (h2 : m ≤ 12) : m = 1 ∨ m = 2 ∨ m = 3 ∨ m = 4 ∨ m = 5 ∨ m = 6 ∨ m = 7 ∨ m = 8 ∨ m = 9 ∨ m = 10 ∨ m = 11 ∨ m = 12 := by omega
theorem I_monthDays_nat {k : Nat} (y m : Nat) (h : y ≤ 1000000) (h1 : 1 ≤ m) (h2 : m ≤ 12) : I_monthDays k (y : Int) (m : Int) = some ((mdN y m : Nat) : Int) := by
 rw [I_monthDays, I_monthDays_b0, I_monthDays_c6, I_IsLeap_nat y h]
 unfold mdN
 rcases mon_cases h1 h2 with rfl | rfl | rfl | rfl | rfl | rfl | rfl | rfl | rfl | rfl | rfl | rfl <;> cases leapN y <;> rfl
theorem S_l3Long_nat {k : Nat} (y m : Nat) (h : y ≤ 1000000) (h1 : 1 ≤ m) (h2 : m ≤ 12) : S_l3Long k (y : Int) (m : Int) = some ((mdN y m : Nat) : Int) := by
 rw [S_l3Long, S_IsLeap_nat y h]
 unfold mdN
 rcases mon_cases h1 h2 with rfl | rfl | rfl | rfl | rfl | rfl | rfl | rfl | rfl | rfl | rfl | rfl <;> cases leapN y <;> rfl
theorem I_yearDays_nat {k : Nat} (y : Nat) (h : y ≤ 1000000) : I_yearDays k (y : Int) = some ((ydN y : Nat) : Int) := by
 rw [I_yearDays, I_IsLeap_nat y h]
 unfold ydN
 cases leapN y <;> rfl
theorem cast_add (a b : Nat) : ((a : Int) + (b : Int)) = ((a + b : Nat) : Int) := by push_cast; rfl
theorem I_Days_y {k : Nat} {x1 : Int} {N a : Nat} (hN : N ≤ 129) (ha : a ≤ 1000) : ∀ (n i : Nat), i ≤ N → N - i < n → I_DaysOf_b0 k n ((1970 + N : Nat) : Int) x1 ((a + ysN i : Nat) : Int) ((1970 + i : Nat) : Int) = some ((a + ysN N : Nat) : Int) := by
 intro n
 induction n with
 | zero => intro i _ h; omega
 | succ n ih =>
  intro i hi hn
  have hm := ysN_mono (show N ≤ 130 by omega)
  rw [ysN_130] at hm
  rw [I_DaysOf_b0, bif_dec, I_yearDays_nat _ (by omega), Option.bind_some, cast_add, wrap_succ (by omega)]
  by_cases c : i < N
  ·have h3 := ysN_mono (show i + 1 ≤ N by omega)
   rw [ysN] at h3
   rw [if_pos (by omega), wrap_nat (by omega)]
   have := ih (i + 1) (by omega) (by omega)
   rw [ysN, ← Nat.add_assoc a] at this
   exact this
  ·rw [if_neg (by omega), show i = N by omega]
theorem I_Days_m {k : Nat} {y a : Nat} {p : Nat} (hy : y ≤ 1000000) (hp : p ≤ 11) (ha : a ≤ 1000000) : ∀ (n i : Nat), i ≤ p → p - i < n → I_DaysOf_b2 k n (y : Int) ((p + 1 : Nat) : Int) ((a + msN y i : Nat) : Int) ((i + 1 : Nat) : Int) = some ((a + msN y p : Nat) : Int) := by
 intro n
 induction n with
 | zero => intro i _ h; omega
 | succ n ih =>
  intro i hi hn
  have hm := msN_mono (y := y) (show p ≤ 12 by omega)
  have hb := ydN_bnd y
  rw [msN_12] at hm
  rw [I_DaysOf_b2, bif_dec, wrap_succ (by omega)]
  by_cases c : i < p
  ·have h3 := msN_mono (y := y) (show i + 1 ≤ p by omega)
   rw [msN] at h3
   rw [if_pos (by omega), I_monthDays_nat _ _ (by omega) (by omega) (by omega), Option.bind_some, cast_add, wrap_nat (by omega)]
   have := ih (i + 1) (by omega) (by omega)
   rw [msN, ← Nat.add_assoc a] at this
   exact this
  ·rw [if_neg (by omega), show i = p by omega]
theorem I_DaysOf_eq {k : Nat} (hk : 1073741824 ≤ k) (y m d : Int) : I_DaysOf k y m d = some (daysI y m d) := by
 rw [I_DaysOf, I_inRange_eq, Option.bind_some, I_inRange_eq, Option.bind_some]
 unfold daysI okDay
 rw [inR_and, inR_and]
 cases h1 : decide (1970 ≤ y) && decide (y ≤ 2099) with
 | false => rfl
 | true =>
  cases h2 : decide (1 ≤ m) && decide (m ≤ 12) with
  | false => rfl
  | true =>
   rw [Bool.and_eq_true, decide_eq_true_eq, decide_eq_true_eq] at h1 h2
   obtain ⟨N, rfl⟩ : ∃ N : Nat, y = ((1970 + N : Nat) : Int) := ⟨y.toNat - 1970, by omega⟩
   obtain ⟨p, rfl⟩ : ∃ p : Nat, m = ((p + 1 : Nat) : Int) := ⟨m.toNat - 1, by omega⟩
   rw [Bool.not_true, cond_false, cond_false, I_monthDays_nat _ _ (by omega) (by omega) (by omega), Option.bind_some, I_inRange_eq, Option.bind_some, inR_and, Int.toNat_natCast, Int.toNat_natCast]
   have hmd := mdN_pos (1970 + N) (p + 1)
   cases h3 : decide (1 ≤ d) && decide (d ≤ ((mdN (1970 + N) (p + 1) : Nat) : Int)) with
   | false => rfl
   | true =>
    rw [Bool.and_eq_true, decide_eq_true_eq, decide_eq_true_eq] at h3
    obtain ⟨a, rfl⟩ : ∃ a : Nat, d = ((a + 1 : Nat) : Int) := ⟨d.toNat - 1, by omega⟩
    have e0 : (((a + 1 : Nat) : Int) - 1) = ((a + ysN 0 : Nat) : Int) := by rw [ysN]; push_cast; omega
    have hb := ysN_mono (show N ≤ 130 by omega)
    rw [ysN_130] at hb
    have b1 := I_Days_y (k := k) (x1 := ((p + 1 : Nat) : Int)) (N := N) (a := a) (by omega) (by omega) k 0 (by omega) (by omega)
    have b2 := I_Days_m (k := k) (y := 1970 + N) (a := a + ysN N) (p := p) (by omega) (by omega) (by omega) k 0 (by omega) (by omega)
    rw [e0, wrap_nat (by rw [ysN]; omega)]
    have b1' : I_DaysOf_b0 k k ((1970 + N : Nat) : Int) ((p + 1 : Nat) : Int) ((a + ysN 0 : Nat) : Int) 1970 = some ((a + ysN N : Nat) : Int) := b1
    have b2' : I_DaysOf_b2 k k ((1970 + N : Nat) : Int) ((p + 1 : Nat) : Int) ((a + ysN N : Nat) : Int) 1 = some ((a + ysN N + msN (1970 + N) p : Nat) : Int) := b2
    rw [b1', Option.bind_some, b2', Option.bind_some, Bool.not_true, cond_false, Bool.and_true, Bool.and_true, cond_true, Nat.add_sub_cancel_left, Nat.add_sub_cancel, Int.toNat_natCast, Nat.add_sub_cancel, show a + ysN N + msN (1970 + N) p = ysN N + msN (1970 + N) p + a by omega]
theorem I_Civ_y {k : Nat} {x6 : Int} {day N p d : Nat} (h : IsDay day N p d) : ∀ (n i : Nat), i ≤ N → N - i < n → I_CivilOf_b0 k n ((day - ysN i : Nat) : Int) ((1970 + i : Nat) : Int) x6 = some (((day - ysN N : Nat) : Int), ((1970 + N : Nat) : Int)) := by
 intro n
 induction n with
 | zero => intro i _ h; omega
 | succ n ih =>
  intro i hi hn
  have hN := h.hn
  have hl := h.le
  have he := h.eq
  have hlt := h.ltY
  rw [I_CivilOf_b0, I_yearDays_nat _ (by omega), Option.bind_some, Option.bind_some, bif_dec, wrap_succ (by omega)]
  have hb := ydN_bnd (1970 + i)
  by_cases c : i < N
  ·have h3 := ysN_mono (show i + 1 ≤ N by omega)
   rw [ysN] at h3
   have e : (((day - ysN i : Nat) : Int) - ((ydN (1970 + i) : Nat) : Int)) = ((day - ysN (i + 1) : Nat) : Int) := by rw [ysN]; omega
   rw [if_pos (by omega), e, wrap_nat (by omega)]
   exact ih (i + 1) (by omega) (by omega)
  ·rw [show i = N by omega, if_neg (by omega)]
theorem S_Civ_y {k : Nat} {day N p d : Nat} (h : IsDay day N p d) : ∀ (n i : Nat), i ≤ N → N - i < n → S_CivilOf_b0 k n ((day - ysN i : Nat) : Int) ((1970 + i : Nat) : Int) = some (((day - ysN N : Nat) : Int), ((1970 + N : Nat) : Int)) := by
 intro n
 induction n with
 | zero => intro i _ h; omega
 | succ n ih =>
  intro i hi hn
  have hN := h.hn
  have hl := h.le
  have he := h.eq
  have hlt := h.ltY
  have e0 : S_CivilOf_c12 k ((day - ysN i : Nat) : Int) ((1970 + i : Nat) : Int) 365 (leapN (1970 + i)) = some ((ydN (1970 + i) : Nat) : Int) := by
   rw [S_CivilOf_c12]
   unfold ydN
   cases leapN (1970 + i) <;> rfl
  rw [S_CivilOf_b0, S_CivilOf_b1, S_IsLeap_nat _ (by omega), Option.bind_some, e0, Option.bind_some, bif_dec, wrap_succ (by omega)]
  have hb := ydN_bnd (1970 + i)
  by_cases c : i < N
  ·have h3 := ysN_mono (show i + 1 ≤ N by omega)
   rw [ysN] at h3
   have e : (((day - ysN i : Nat) : Int) - ((ydN (1970 + i) : Nat) : Int)) = ((day - ysN (i + 1) : Nat) : Int) := by rw [ysN]; omega
   rw [if_neg (by omega), e, wrap_nat (by omega)]
   exact ih (i + 1) (by omega) (by omega)
  ·rw [show i = N by omega, if_pos (by omega)]; rfl
theorem S_Civ_m {k : Nat} {day N p d : Nat} (h : IsDay day N p d) : ∀ (n i : Nat), i ≤ p → p - i < n → S_CivilOf_b2 k n ((day - ysN N - msN (1970 + N) i : Nat) : Int) ((1970 + N : Nat) : Int) ((i + 1 : Nat) : Int) = some ((d : Int), ((p + 1 : Nat) : Int)) := by
 intro n
 induction n with
 | zero => intro i _ h; omega
 | succ n ih =>
  intro i hi hn
  have hN := h.hn
  have hp := h.hp
  have hl := h.le
  have he := h.eq
  have hlt := h.hd
  rw [S_CivilOf_b2, S_l3Long_nat _ _ (by omega) (by omega) (by omega), Option.bind_some, Option.bind_some, bif_dec, wrap_succ (by omega)]
  have hb := mdN_pos (1970 + N) (i + 1)
  by_cases c : i < p
  ·have h3 := msN_mono (y := 1970 + N) (show i + 1 ≤ p by omega)
   rw [msN] at h3
   have e : (((day - ysN N - msN (1970 + N) i : Nat) : Int) - ((mdN (1970 + N) (i + 1) : Nat) : Int)) = ((day - ysN N - msN (1970 + N) (i + 1) : Nat) : Int) := by rw [msN]; omega
   rw [if_pos (by omega), e, wrap_nat (by omega)]
   exact ih (i + 1) (by omega) (by omega)
  ·have e : day - ysN N - msN (1970 + N) p = d := by omega
   rw [show i = p by omega, e, if_neg (by omega)]
theorem S_CivilOf_eq {k : Nat} (hk : 1073741824 ≤ k) {day N p d : Nat} (h : IsDay day N p d) : S_CivilOf k (day : Int) = some (((1970 + N : Nat) : Int), ((p + 1 : Nat) : Int), ((d + 1 : Nat) : Int)) := by
 have hN := h.hn
 have hp := h.hp
 have hl := h.le
 have hd := h.hd
 have hb := mdN_pos (1970 + N) (p + 1)
 have b1 := S_Civ_y (k := k)  h k 0 (by omega) (by omega)
 have b2 := S_Civ_m (k := k) h k 0 (by omega) (by omega)
 have b1' : S_CivilOf_b0 k k (day : Int) 1970  = some (((day - ysN N : Nat) : Int), ((1970 + N : Nat) : Int)) := b1
 have b2' : S_CivilOf_b2 k k ((day - ysN N : Nat) : Int) ((1970 + N : Nat) : Int) 1 = some ((d : Int), ((p + 1 : Nat) : Int)) := b2
 rw [S_CivilOf, S_l1In_eq, Option.bind_some, inR_t (by omega) (by omega), Bool.not_true, cond_false, b1', Option.bind_some, b2', Option.bind_some, wrap_succ (by omega)]
theorem I_Civ_m {k : Nat} {day N p d : Nat} (h : IsDay day N p d) : ∀ (n i : Nat), i ≤ p → p - i < n → I_CivilOf_b2 k n ((day - ysN N - msN (1970 + N) i : Nat) : Int) ((1970 + N : Nat) : Int) ((i + 1 : Nat) : Int) = some ((d : Int), ((p + 1 : Nat) : Int)) := by
 intro n
 induction n with
 | zero => intro i _ h; omega
 | succ n ih =>
  intro i hi hn
  have hN := h.hn
  have hp := h.hp
  have hl := h.le
  have he := h.eq
  have hlt := h.hd
  rw [I_CivilOf_b2, I_monthDays_nat _ _ (by omega) (by omega) (by omega), Option.bind_some, Option.bind_some, bif_dec, wrap_succ (by omega)]
  have hb := mdN_pos (1970 + N) (i + 1)
  by_cases c : i < p
  ·have h3 := msN_mono (y := 1970 + N) (show i + 1 ≤ p by omega)
   rw [msN] at h3
   have e : (((day - ysN N - msN (1970 + N) i : Nat) : Int) - ((mdN (1970 + N) (i + 1) : Nat) : Int)) = ((day - ysN N - msN (1970 + N) (i + 1) : Nat) : Int) := by rw [msN]; omega
   rw [if_pos (by omega), e, wrap_nat (by omega)]
   exact ih (i + 1) (by omega) (by omega)
  ·have e : day - ysN N - msN (1970 + N) p = d := by omega
   rw [show i = p by omega, e, if_neg (by omega)]
theorem I_CivilOf_eq {k : Nat} (hk : 1073741824 ≤ k) {day N p d : Nat} (h : IsDay day N p d) : I_CivilOf k (day : Int) = some (((1970 + N : Nat) : Int), ((p + 1 : Nat) : Int), ((d + 1 : Nat) : Int)) := by
 have hN := h.hn
 have hp := h.hp
 have hl := h.le
 have hd := h.hd
 have hb := mdN_pos (1970 + N) (p + 1)
 have b1 := I_Civ_y (k := k) (x6 := 1) h k 0 (by omega) (by omega)
 have b2 := I_Civ_m (k := k) h k 0 (by omega) (by omega)
 have b1' : I_CivilOf_b0 k k (day : Int) 1970 1 = some (((day - ysN N : Nat) : Int), ((1970 + N : Nat) : Int)) := b1
 have b2' : I_CivilOf_b2 k k ((day - ysN N : Nat) : Int) ((1970 + N : Nat) : Int) 1 = some ((d : Int), ((p + 1 : Nat) : Int)) := b2
 rw [I_CivilOf, I_inRange_eq, Option.bind_some, inR_t (by omega) (by omega), Bool.not_true, cond_false, b1', Option.bind_some, b2', Option.bind_some, wrap_succ (by omega)]
def d2 (n : Nat) : List UInt8 := [UInt8.ofNat (48 + n / 10), UInt8.ofNat (48 + n % 10)]
def d4 (n : Nat) : List UInt8 := [UInt8.ofNat (48 + n / 1000), UInt8.ofNat (48 + n / 100 % 10), UInt8.ofNat (48 + n / 10 % 10), UInt8.ofNat (48 + n % 10)]
def dFull (w : Nat) : List UInt8 := [[83, 117, 110, 100, 97, 121], [77, 111, 110, 100, 97, 121], [84, 117, 101, 115, 100, 97, 121], [87, 101, 100, 110, 101, 115, 100, 97, 121], [84, 104, 117, 114, 115, 100, 97, 121], [70, 114, 105, 100, 97, 121], [83, 97, 116, 117, 114, 100, 97, 121]].getD w []
def mon3 (p : Nat) : List UInt8 := [[74, 97, 110], [70, 101, 98], [77, 97, 114], [65, 112, 114], [77, 97, 121], [74, 117, 110], [74, 117, 108], [65, 117, 103], [83, 101, 112], [79, 99, 116], [78, 111, 118], [68, 101, 99]].getD p []
def clkT (r : Nat) : List UInt8 := d2 (r / 3600) ++ [58] ++ d2 (r / 60 % 60) ++ [58] ++ d2 (r % 60)
def T1 (w n p d r : Nat) : List UInt8 := (dFull w).take 3 ++ [44, 32] ++ d2 (d + 1) ++ [32] ++ mon3 p ++ [32] ++ d4 (1970 + n) ++ [32] ++ clkT r ++ [32, 71, 77, 84]
def T2 (w n p d r : Nat) : List UInt8 := dFull w ++ [44, 32] ++ d2 (d + 1) ++ [45] ++ mon3 p ++ [45] ++ d2 ((1970 + n) % 100) ++ [32] ++ clkT r ++ [32, 71, 77, 84]
def T3 (w n p d r : Nat) : List UInt8 := (dFull w).take 3 ++ [32] ++ mon3 p ++ [32] ++ (if d + 1 < 10 then [32, UInt8.ofNat (48 + (d + 1))] else d2 (d + 1)) ++ [32] ++ clkT r ++ [32] ++ d4 (1970 + n)
theorem dF3 {w : Nat} (h : w < 7) : ∃ a b c r, dFull w = a :: b :: c :: r ∧ 3 ≤ r.length ∧ r.length ≤ 6 := by
 have : w = 0 ∨ w = 1 ∨ w = 2 ∨ w = 3 ∨ w = 4 ∨ w = 5 ∨ w = 6 := by omega
 rcases this with rfl | rfl | rfl | rfl | rfl | rfl | rfl <;> exact ⟨_, _, _, _, rfl, by decide, by decide⟩
theorem mon3e {p : Nat} (h : p < 12) : ∃ a b c, mon3 p = [a, b, c] := by
 have : p = 0 ∨ p = 1 ∨ p = 2 ∨ p = 3 ∨ p = 4 ∨ p = 5 ∨ p = 6 ∨ p = 7 ∨ p = 8 ∨ p = 9 ∨ p = 10 ∨ p = 11 := by omega
 rcases this with rfl | rfl | rfl | rfl | rfl | rfl | rfl | rfl | rfl | rfl | rfl | rfl <;> exact ⟨_, _, _, rfl⟩
theorem T1_len {w n p d r : Nat} (hw : w < 7) (hp : p < 12) : (T1 w n p d r).length = 29 := by
 obtain ⟨a, b, c, q, e, _⟩ := dF3 hw
 obtain ⟨x, y, z, e2⟩ := mon3e hp
 unfold T1; rw [e, e2]; rfl
theorem dayT_e (d : Nat) : ∃ a b, (if d + 1 < 10 then [32, UInt8.ofNat (48 + (d + 1))] else d2 (d + 1)) = [a, b] := by
 split
 ·exact ⟨_, _, rfl⟩
 ·exact ⟨_, _, rfl⟩
theorem T3_len {w n p d r : Nat} (hw : w < 7) (hp : p < 12) : (T3 w n p d r).length = 24 := by
 obtain ⟨a, b, c, q, e, _⟩ := dF3 hw
 obtain ⟨x, y, z, e2⟩ := mon3e hp
 obtain ⟨u, v, e3⟩ := dayT_e d
 unfold T3; rw [e, e2, e3]; rfl
theorem T2_len {w n p d r : Nat} (hw : w < 7) (hp : p < 12) : 30 ≤ (T2 w n p d r).length ∧ (T2 w n p d r).length ≤ 33 := by
 obtain ⟨a, b, c, q, e, h1, h2⟩ := dF3 hw
 obtain ⟨x, y, z, e2⟩ := mon3e hp
 unfold T2; rw [e, e2]; simp [d2, clkT]; omega
theorem itoa_small {n : Nat} (h : n < 100) : Lib.itoa (n : Int) = if n < 10 then [UInt8.ofNat (48 + n)] else d2 n := by
 rw [itoa_dd]
 by_cases h0 : n = 0
 ·subst h0; rfl
 ·rw [if_neg (by omega), if_neg (by omega), Int.natAbs_natCast, dd_step h0]
  by_cases c : n < 10
  ·rw [if_pos c, show n / 10 = 0 by omega, Nat.mod_eq_of_lt c]; rfl
  ·rw [if_neg c, dd_step (by omega), show n / 10 / 10 = 0 by omega, show n / 10 % 10 = n / 10 by omega]; rfl
theorem itoa_year {n : Nat} (h1 : 1000 ≤ n) (h2 : n < 10000) : Lib.itoa (n : Int) = d4 n := by
 rw [itoa_dd, if_neg (by omega), if_neg (by omega), Int.natAbs_natCast, dd_step (by omega), dd_step (by omega), dd_step (by omega), dd_step (by omega), show n / 10 / 10 / 10 / 10 = 0 by omega, show n / 10 / 10 / 10 % 10 = n / 1000 by omega, show n / 10 / 10 % 10 = n / 100 % 10 by omega]
 rfl
theorem ite_max0 {n : Nat} : (if (n : Int) > (0 : Int) then (n : Int) else (0 : Int)) = (n : Int) := by split <;> omega
theorem S_Max_0 {k n : Nat} : S_Max k 0 (n : Int) = some (n : Int) := by
 rw [S_Max, bif_dec]
 by_cases h : n = 0
 ·subst h; rfl
 ·rw [if_pos (by omega)]
theorem S_Dig_done {k n : Nat} {x1 : Int} {x5 : List UInt8} (h : x1 ≤ (x5.length : Int)) : S_Digits_b0 k (n + 1) x1 x5 = some x5 := by
 rw [S_Digits_b0, bif_dec, if_neg (by omega)]
theorem S_Dig_pad {k n : Nat} {c : UInt8} : S_Digits_b0 k (n + 2) 2 [c] = some [48, c] := by
 rw [S_Digits_b0, bif_dec, if_pos (by simp), bif_dec, if_pos (by simp), cat_ok (by simp), Option.bind_some]
 exact S_Dig_done (by simp)
theorem S_Digits2 {k : Nat} (hk : 1073741824 ≤ k) {n : Nat} (h : n < 100) : S_Digits k (n : Int) 2 = some (d2 n) := by
 obtain ⟨k', e⟩ : ∃ k', k = k' + 2 := ⟨k - 2, by omega⟩
 rw [S_Digits, S_Max_0, Option.bind_some, S_FormatInt_eq hk _ (by omega) (by omega), Option.bind_some, itoa_small h]
 by_cases c : n < 10
 ·have : S_Digits_b0 k k 2 [UInt8.ofNat (48 + n)] = some [48, UInt8.ofNat (48 + n)] := by
   conv => lhs; arg 2; rw [e]
   exact S_Dig_pad
  rw [if_pos c, this, Option.bind_some]
  unfold d2
  rw [show n / 10 = 0 by omega, Nat.mod_eq_of_lt c]; rfl
 ·have : S_Digits_b0 k k 2 (d2 n) = some (d2 n) := by
   conv => lhs; arg 2; rw [e]
   exact S_Dig_done (by simp [d2])
  rw [if_neg c, this]; rfl
theorem I_Dig_done {k n : Nat} {x1 : Int} {x5 : List UInt8} (h : x1 ≤ (x5.length : Int)) : I_Digits_b0 k (n + 1) x1 x5 = some x5 := by
 rw [I_Digits_b0, bif_dec, if_neg (by omega)]
theorem I_Dig_pad {k n : Nat} {c : UInt8} : I_Digits_b0 k (n + 2) 2 [c] = some [48, c] := by
 rw [I_Digits_b0, bif_dec, if_pos (by simp), bif_dec, if_pos (by simp), cat_ok (by simp), Option.bind_some]
 exact I_Dig_done (by simp)
theorem I_Digits2 {k : Nat} (hk : 1073741824 ≤ k) {n : Nat} (h : n < 100) : I_Digits k (n : Int) 2 = some (d2 n) := by
 obtain ⟨k', e⟩ : ∃ k', k = k' + 2 := ⟨k - 2, by omega⟩
 rw [I_Digits, ite_max0, I_FormatInt_eq  _ (by omega) (by omega), Option.bind_some, itoa_small h]
 by_cases c : n < 10
 ·have : I_Digits_b0 k k 2 [UInt8.ofNat (48 + n)] = some [48, UInt8.ofNat (48 + n)] := by
   conv => lhs; arg 2; rw [e]
   exact I_Dig_pad
  rw [if_pos c, this, Option.bind_some]
  unfold d2
  rw [show n / 10 = 0 by omega, Nat.mod_eq_of_lt c]; rfl
 ·have : I_Digits_b0 k k 2 (d2 n) = some (d2 n) := by
   conv => lhs; arg 2; rw [e]
   exact I_Dig_done (by simp [d2])
  rw [if_neg c, this]; rfl
theorem S_Digits4 {k : Nat} (hk : 1073741824 ≤ k) {n : Nat} (h1 : 1000 ≤ n) (h2 : n < 10000) : S_Digits k (n : Int) 4 = some (d4 n) := by
 obtain ⟨k', e⟩ : ∃ k', k = k' + 2 := ⟨k - 2, by omega⟩
 have : S_Digits_b0 k k 4 (d4 n) = some (d4 n) := by
  conv => lhs; arg 2; rw [e]
  exact S_Dig_done (by simp [d4])
 rw [S_Digits, S_Max_0, Option.bind_some, S_FormatInt_eq hk _ (by omega) (by omega), Option.bind_some, itoa_year h1 h2, this]; rfl
theorem S_l3Clock_eq {k : Nat} (hk : 1073741824 ≤ k) {t : Nat} (ht : t ≤ 4102444799) : S_l3Clock k (t : Int) = some (clkT (t % 86400)) := by
 have e1 : md (t : Int) 86400 = some ((t % 86400 : Nat) : Int) := md_nat (b := 86400) (by omega)
 have e2 : dv ((t % 86400 : Nat) : Int) 3600 = some ((t % 86400 / 3600 : Nat) : Int) := dv_nat (b := 3600) (by omega)
 have e3 : dv ((t % 86400 : Nat) : Int) 60 = some ((t % 86400 / 60 : Nat) : Int) := dv_nat (b := 60) (by omega)
 have e4 : md ((t % 86400 / 60 : Nat) : Int) 60 = some ((t % 86400 / 60 % 60 : Nat) : Int) := md_nat (b := 60) (by omega)
 have e5 : md ((t % 86400 : Nat) : Int) 60 = some ((t % 86400 % 60 : Nat) : Int) := md_nat (b := 60) (by omega)
 rw [S_l3Clock, e1, Option.bind_some, e2, Option.bind_some, wrap_nat (by omega), S_Digits2 hk (by omega), Option.bind_some, cat_ok (by simp [d2]), Option.bind_some, e3, Option.bind_some, wrap_nat (by omega), e4, Option.bind_some, S_Digits2 hk (by omega), Option.bind_some, cat_ok (by simp [d2]), Option.bind_some, cat_ok (by simp [d2]), Option.bind_some, e5, Option.bind_some, S_Digits2 hk (by omega), Option.bind_some, cat_ok (by simp [d2])]
 rfl
theorem day_tab : ∀ w : Fin 7, idx ([[83, 117, 110, 100, 97, 121], [77, 111, 110, 100, 97, 121], [84, 117, 101, 115, 100, 97, 121], [87, 101, 100, 110, 101, 115, 100, 97, 121], [84, 104, 117, 114, 115, 100, 97, 121], [70, 114, 105, 100, 97, 121], [83, 97, 116, 117, 114, 100, 97, 121]] : List (List UInt8)) ((w.val : Nat) : Int) = some (dFull w.val) ∧ ssub (dFull w.val) 0 3 = some ((dFull w.val).take 3) ∧ ssub ([83, 117, 110, 77, 111, 110, 84, 117, 101, 87, 101, 100, 84, 104, 117, 70, 114, 105, 83, 97, 116] : List UInt8) (IntKind.wrap .i64 ((3 : Int) * ((w.val : Nat) : Int))) (IntKind.wrap .i64 ((IntKind.wrap .i64 ((3 : Int) * ((w.val : Nat) : Int))) + (3 : Int))) = some ((dFull w.val).take 3) := by decide +kernel
theorem mon_tab : ∀ p : Fin 12, idx ([[74, 97, 110], [70, 101, 98], [77, 97, 114], [65, 112, 114], [77, 97, 121], [74, 117, 110], [74, 117, 108], [65, 117, 103], [83, 101, 112], [79, 99, 116], [78, 111, 118], [68, 101, 99]] : List (List UInt8)) (IntKind.wrap .i64 (((p.val + 1 : Nat) : Int) - (1 : Int))) = some (mon3 p.val) ∧ ssub ([74, 97, 110, 70, 101, 98, 77, 97, 114, 65, 112, 114, 77, 97, 121, 74, 117, 110, 74, 117, 108, 65, 117, 103, 83, 101, 112, 79, 99, 116, 78, 111, 118, 68, 101, 99] : List UInt8) (IntKind.wrap .i64 ((IntKind.wrap .i64 ((3 : Int) * ((p.val + 1 : Nat) : Int))) - (3 : Int))) (IntKind.wrap .i64 ((3 : Int) * ((p.val + 1 : Nat) : Int))) = some (mon3 p.val) := by decide +kernel
theorem dF3_len {w : Nat} (h : w < 7) : ((dFull w).take 3).length = 3 := by
 obtain ⟨a, b, c, q, e, _⟩ := dF3 h
 rw [e]; rfl
theorem dF_len {w : Nat} (h : w < 7) : (dFull w).length ≤ 9 := by
 obtain ⟨a, b, c, q, e, _⟩ := dF3 h
 rw [e]; simp; omega
theorem mon3_len {p : Nat} (h : p < 12) : (mon3 p).length = 3 := by
 obtain ⟨a, b, c, e⟩ := mon3e h
 rw [e]; rfl
theorem clkT_len (r : Nat) : (clkT r).length = 8 := rfl
theorem S_l3Forms_eq {k : Nat} (hk : 1073741824 ≤ k) {t n p d : Nat} (ht : t ≤ 4102444799) (h : IsDay (t / 86400) n p d) : S_l3Forms k (t : Int) = some [T1 (wkN (t / 86400)) n p d (t % 86400), T2 (wkN (t / 86400)) n p d (t % 86400), T3 (wkN (t / 86400)) n p d (t % 86400)] := by
 have hn := h.hn
 have hp := h.hp
 have hd := h.hd
 have hm := mdN_pos (1970 + n) (p + 1)
 have hw := wkN_lt (t / 86400)
 have e1 : dv (t : Int) 86400 = some ((t / 86400 : Nat) : Int) := dv_nat (b := 86400) (by omega)
 have e2 : md ((1970 + n : Nat) : Int) 100 = some (((1970 + n) % 100 : Nat) : Int) := md_nat (b := 100) (by omega)
 obtain ⟨f1, f2, _⟩ := day_tab ⟨wkN (t / 86400), hw⟩
 obtain ⟨g1, _⟩ := mon_tab ⟨p, hp⟩
 simp only at f1 f2 g1
 have c1 := S_Digits2 hk (n := d + 1) (by omega)
 have c2 := S_Digits2 hk (n := (1970 + n) % 100) (by omega)
 have c3 := S_Digits4 hk (n := 1970 + n) (by omega) (by omega)
 have c4 := S_l3Clock_eq hk ht
 have c5 := S_FormatInt_eq hk ((d + 1 : Nat) : Int) (by omega) (by omega)
 have c6 : decide (((d + 1 : Nat) : Int) < 10) = decide (d + 1 < 10) := by by_cases c : d + 1 < 10 <;> simp [c] <;> omega
 have l1 := dF3_len hw
 have l2 := mon3_len hp
 have l3 := dF_len hw
 have l4 := clkT_len (t % 86400)
 rw [S_l3Forms, e1, Option.bind_some, wrap_nat (show t / 86400 ≤ 9223372036854775807 by omega), S_CivilOf_eq hk h, Option.bind_some, S_l3Days, Option.bind_some, Option.bind_some, wrap_nat (show t / 86400 ≤ 9223372036854775807 by omega), S_WeekdayOf_nat (k := k) (t / 86400) (by omega), Option.bind_some, f1, Option.bind_some, Option.bind_some, S_l3Months, Option.bind_some]
 simp only
 rw [g1, Option.bind_some, Option.bind_some, f2, Option.bind_some, cat_ok (by simp only [List.length_append, List.length_cons, List.length_nil, l1, l2, l4, d2, d4]; omega), Option.bind_some, c1, Option.bind_some, cat_ok (by simp only [List.length_append, List.length_cons, List.length_nil, l1, l2, l4, d2, d4]; omega), Option.bind_some, cat_ok (by simp only [List.length_append, List.length_cons, List.length_nil, l1, l2, l4, d2, d4]; omega), Option.bind_some, cat_ok (by simp only [List.length_append, List.length_cons, List.length_nil, l1, l2, l4, d2, d4]; omega), Option.bind_some, cat_ok (by simp only [List.length_append, List.length_cons, List.length_nil, l1, l2, l4, d2, d4]; omega), Option.bind_some, c3, Option.bind_some, cat_ok (by simp only [List.length_append, List.length_cons, List.length_nil, l1, l2, l4, d2, d4]; omega), Option.bind_some, cat_ok (by simp only [List.length_append, List.length_cons, List.length_nil, l1, l2, l4, d2, d4]; omega), Option.bind_some, c4, Option.bind_some, cat_ok (by simp only [List.length_append, List.length_cons, List.length_nil, l1, l2, l4, d2, d4]; omega), Option.bind_some, cat_ok (by simp only [List.length_append, List.length_cons, List.length_nil, l1, l2, l4, d2, d4]; omega), Option.bind_some]
 rw [cat_ok (by simp only [List.length_append, List.length_cons, List.length_nil, l1, l2, l4, d2, d4]; omega), Option.bind_some, Option.bind_some, cat_ok (by simp only [List.length_append, List.length_cons, List.length_nil, l1, l2, l4, d2, d4]; omega), Option.bind_some, cat_ok (by simp only [List.length_append, List.length_cons, List.length_nil, l1, l2, l4, d2, d4]; omega), Option.bind_some, cat_ok (by simp only [List.length_append, List.length_cons, List.length_nil, l1, l2, l4, d2, d4]; omega), Option.bind_some, cat_ok (by simp only [List.length_append, List.length_cons, List.length_nil, l1, l2, l4, d2, d4]; omega), Option.bind_some, e2, Option.bind_some, c2, Option.bind_some, cat_ok (by simp only [List.length_append, List.length_cons, List.length_nil, l1, l2, l4, d2, d4]; omega), Option.bind_some, cat_ok (by simp only [List.length_append, List.length_cons, List.length_nil, l1, l2, l4, d2, d4]; omega), Option.bind_some, Option.bind_some, cat_ok (by simp only [List.length_append, List.length_cons, List.length_nil, l1, l2, l4, d2, d4]; omega), Option.bind_some, cat_ok (by simp only [List.length_append, List.length_cons, List.length_nil, l1, l2, l4, d2, d4]; omega), Option.bind_some, Option.bind_some, c6, S_l3Forms_c69, c5, Option.bind_some, itoa_small (show d + 1 < 100 by omega)]
 by_cases c : d + 1 < 10
 ·rw [decide_eq_true c, cond_true, if_pos c, cat_ok (by simp only [List.length_append, List.length_cons, List.length_nil, l1, l2, l4, d2, d4]; omega), Option.bind_some, Option.bind_some]
  rw [Option.bind_some, cat_ok (by simp only [List.length_append, List.length_cons, List.length_nil, l1, l2, l4, d2, d4]; omega), Option.bind_some, cat_ok (by simp only [List.length_append, List.length_cons, List.length_nil, l1, l2, l4, d2, d4]; omega), Option.bind_some, cat_ok (by simp only [List.length_append, List.length_cons, List.length_nil, l1, l2, l4, d2, d4]; omega), Option.bind_some, cat_ok (by simp only [List.length_append, List.length_cons, List.length_nil, l1, l2, l4, d2, d4]; omega), Option.bind_some, cat_ok (by simp only [List.length_append, List.length_cons, List.length_nil, l1, l2, l4, d2, d4]; omega), Option.bind_some, Option.bind_some, cat_ok (by simp only [List.length_append, List.length_cons, List.length_nil, l1, l2, l4, d2, d4]; omega), Option.bind_some, cat_ok (by simp only [List.length_append, List.length_cons, List.length_nil, l1, l2, l4, d2, d4]; omega), Option.bind_some, Option.bind_some, cat_ok (by simp only [List.length_append, List.length_cons, List.length_nil, l1, l2, l4, d2, d4]; omega), Option.bind_some]
  unfold T1 T2 T3
  rw [if_pos c]; rfl
 ·rw [decide_eq_false c, cond_false, Option.bind_some]
  rw [Option.bind_some, cat_ok (by simp only [List.length_append, List.length_cons, List.length_nil, l1, l2, l4, d2, d4]; omega), Option.bind_some, cat_ok (by simp only [List.length_append, List.length_cons, List.length_nil, l1, l2, l4, d2, d4]; omega), Option.bind_some, cat_ok (by simp only [List.length_append, List.length_cons, List.length_nil, l1, l2, l4, d2, d4]; omega), Option.bind_some, cat_ok (by simp only [List.length_append, List.length_cons, List.length_nil, l1, l2, l4, d2, d4]; omega), Option.bind_some, cat_ok (by simp only [List.length_append, List.length_cons, List.length_nil, l1, l2, l4, d2, d4]; omega), Option.bind_some, Option.bind_some, cat_ok (by simp only [List.length_append, List.length_cons, List.length_nil, l1, l2, l4, d2, d4]; omega), Option.bind_some, cat_ok (by simp only [List.length_append, List.length_cons, List.length_nil, l1, l2, l4, d2, d4]; omega), Option.bind_some, Option.bind_some, cat_ok (by simp only [List.length_append, List.length_cons, List.length_nil, l1, l2, l4, d2, d4]; omega), Option.bind_some]
  unfold T1 T2 T3
  rw [if_neg c]
def digI (s : List UInt8) : Int := match Lib.atoiAll (Lib.trimLeftB s 32) with | .ok v => v | _ => -1
theorem digI_t2 : ∀ n : Fin 100, digI (d2 n.val) = n.val := by decide +kernel
theorem digI_t4 : ∀ n : Fin 130, digI (d4 (1970 + n.val)) = (1970 + n.val : Nat) := by decide +kernel
theorem digI_t3 : ∀ d : Fin 31, digI (if d.val + 1 < 10 then [32, UInt8.ofNat (48 + (d.val + 1))] else d2 (d.val + 1)) = (d.val + 1 : Nat) := by decide +kernel
def monAll : List UInt8 := [74, 97, 110, 70, 101, 98, 77, 97, 114, 65, 112, 114, 77, 97, 121, 74, 117, 110, 74, 117, 108, 65, 117, 103, 83, 101, 112, 79, 99, 116, 78, 111, 118, 68, 101, 99]
def isD (s : List UInt8) (t : Nat) : Prop := t ≤ 4102444799 ∧ ∃ n p d, IsDay (t / 86400) n p d ∧ (s = T1 (wkN (t / 86400)) n p d (t % 86400) ∨ (n < 100 ∧ s = T2 (wkN (t / 86400)) n p d (t % 86400)) ∨ s = T3 (wkN (t / 86400)) n p d (t % 86400))
open Classical in
noncomputable def pDate (s : List UInt8) : Int × Bool := if h : ∃ t, isD s t then ((Classical.choose h : Nat), true) else (0, false)
theorem pDate_no {s : List UInt8} (h : ¬ ∃ t, isD s t) : pDate s = (0, false) := by unfold pDate; rw [dif_neg h]
theorem I_fullDay_eq {k w : Nat} (hw : w < 7) : I_fullDay k (w : Int) = some (dFull w) := by
 obtain ⟨f1, _, _⟩ := day_tab ⟨w, hw⟩
 simp only at f1
 rw [I_fullDay, f1, Option.bind_some, Option.bind_some]
theorem I_dateText_1 {k : Nat} (hk : 1073741824 ≤ k) {t n p d : Nat} (ht : t ≤ 4102444799) (h : IsDay (t / 86400) n p d) : I_dateText k (t : Int) 1 = some (T1 (wkN (t / 86400)) n p d (t % 86400)) := by
 have hn := h.hn
 have hp := h.hp
 have hd := h.hd
 have hm := mdN_pos (1970 + n) (p + 1)
 have hw := wkN_lt (t / 86400)
 have l1 := dF3_len hw
 have l2 := mon3_len hp
 have l3 := dF_len hw
 have e1 : dv (t : Int) 86400 = some ((t / 86400 : Nat) : Int) := dv_nat (b := 86400) (by omega)
 have e2 : dv (t : Int) 3600 = some ((t / 3600 : Nat) : Int) := dv_nat (b := 3600) (by omega)
 have e3 : md ((t / 3600 : Nat) : Int) 24 = some ((t % 86400 / 3600 : Nat) : Int) := by
  rw [show t % 86400 / 3600 = t / 3600 % 24 by omega]; exact md_nat (b := 24) (by omega)
 have e4 : dv (t : Int) 60 = some ((t / 60 : Nat) : Int) := dv_nat (b := 60) (by omega)
 have e5 : md ((t / 60 : Nat) : Int) 60 = some ((t % 86400 / 60 % 60 : Nat) : Int) := by
  rw [show t % 86400 / 60 % 60 = t / 60 % 60 by omega]; exact md_nat (b := 60) (by omega)
 have e6 : md (t : Int) 60 = some ((t % 86400 % 60 : Nat) : Int) := by
  rw [show t % 86400 % 60 = t % 60 by omega]; exact md_nat (b := 60) (by omega)
 have e7 : md ((1970 + n : Nat) : Int) 100 = some (((1970 + n) % 100 : Nat) : Int) := md_nat (b := 100) (by omega)
 obtain ⟨f1, _, f3⟩ := day_tab ⟨wkN (t / 86400), hw⟩
 obtain ⟨_, g2⟩ := mon_tab ⟨p, hp⟩
 simp only at f1 f3 g2
 have c1 := I_Digits2 hk (n := d + 1) (by omega)
 have c2 := I_Digits2 hk (n := (1970 + n) % 100) (by omega)
 have c3 := I_Digits2 hk (n := t % 86400 / 3600) (by omega)
 have c4 := I_Digits2 hk (n := t % 86400 / 60 % 60) (by omega)
 have c5 := I_Digits2 hk (n := t % 86400 % 60) (by omega)
 have c6 := I_FormatInt_eq (k := k) ((1970 + n : Nat) : Int) (by omega) (by omega)
 have c7 := I_FormatInt_eq (k := k) ((d + 1 : Nat) : Int) (by omega) (by omega)
 rw [itoa_year (by omega) (by omega)] at c6
 rw [itoa_small (by omega)] at c7
 have c8 : decide (((d + 1 : Nat) : Int) < 10) = decide (d + 1 < 10) := by by_cases c : d + 1 < 10 <;> simp [c] <;> omega
 rw [I_dateText, I_inRange_eq, Option.bind_some, inR_t (by omega) (by omega), Bool.not_true, cond_false, e1, Option.bind_some, wrap_nat (show t / 86400 ≤ 9223372036854775807 by omega), I_CivilOf_eq hk h, Option.bind_some, Option.bind_some, wrap_nat (show t / 86400 ≤ 9223372036854775807 by omega), I_WeekdayOf_nat (k := k) (t / 86400) (by omega), Option.bind_some, e2, Option.bind_some, wrap_nat (show t / 3600 ≤ 9223372036854775807 by omega), e3, Option.bind_some, c3, Option.bind_some, cat_ok (by simp only [List.length_append, List.length_cons, List.length_nil, l1, l2, d2, d4]; omega), Option.bind_some, e4, Option.bind_some, wrap_nat (show t / 60 ≤ 9223372036854775807 by omega), e5, Option.bind_some, c4, Option.bind_some, cat_ok (by simp only [List.length_append, List.length_cons, List.length_nil, l1, l2, d2, d4]; omega), Option.bind_some, cat_ok (by simp only [List.length_append, List.length_cons, List.length_nil, l1, l2, d2, d4]; omega), Option.bind_some, e6, Option.bind_some, c5, Option.bind_some, cat_ok (by simp only [List.length_append, List.length_cons, List.length_nil, l1, l2, d2, d4]; omega), Option.bind_some, f3, Option.bind_some]
 simp only
 rw [g2, Option.bind_some]
 rw [show ((1 : Int) == 1) = true from rfl, cond_true, cat_ok (by simp only [List.length_append, List.length_cons, List.length_nil, l1, l2, d2, d4]; omega), Option.bind_some, c1, Option.bind_some, cat_ok (by simp only [List.length_append, List.length_cons, List.length_nil, l1, l2, d2, d4]; omega), Option.bind_some, cat_ok (by simp only [List.length_append, List.length_cons, List.length_nil, l1, l2, d2, d4]; omega), Option.bind_some, cat_ok (by simp only [List.length_append, List.length_cons, List.length_nil, l1, l2, d2, d4]; omega), Option.bind_some, cat_ok (by simp only [List.length_append, List.length_cons, List.length_nil, l1, l2, d2, d4]; omega), Option.bind_some, c6, Option.bind_some, cat_ok (by simp only [List.length_append, List.length_cons, List.length_nil, l1, l2, d2, d4]; omega), Option.bind_some, cat_ok (by simp only [List.length_append, List.length_cons, List.length_nil, l1, l2, d2, d4]; omega), Option.bind_some, cat_ok (by simp only [List.length_append, List.length_cons, List.length_nil, l1, l2, d2, d4]; omega), Option.bind_some, cat_ok (by simp only [List.length_append, List.length_cons, List.length_nil, l1, l2, d2, d4]; omega), Option.bind_some]
 rfl
theorem I_dateText_2 {k : Nat} (hk : 1073741824 ≤ k) {t n p d : Nat} (ht : t ≤ 4102444799) (h : IsDay (t / 86400) n p d) : I_dateText k (t : Int) 2 = some (if n < 100 then T2 (wkN (t / 86400)) n p d (t % 86400) else []) := by
 have hn := h.hn
 have hp := h.hp
 have hd := h.hd
 have hm := mdN_pos (1970 + n) (p + 1)
 have hw := wkN_lt (t / 86400)
 have l1 := dF3_len hw
 have l2 := mon3_len hp
 have l3 := dF_len hw
 have e1 : dv (t : Int) 86400 = some ((t / 86400 : Nat) : Int) := dv_nat (b := 86400) (by omega)
 have e2 : dv (t : Int) 3600 = some ((t / 3600 : Nat) : Int) := dv_nat (b := 3600) (by omega)
 have e3 : md ((t / 3600 : Nat) : Int) 24 = some ((t % 86400 / 3600 : Nat) : Int) := by
  rw [show t % 86400 / 3600 = t / 3600 % 24 by omega]; exact md_nat (b := 24) (by omega)
 have e4 : dv (t : Int) 60 = some ((t / 60 : Nat) : Int) := dv_nat (b := 60) (by omega)
 have e5 : md ((t / 60 : Nat) : Int) 60 = some ((t % 86400 / 60 % 60 : Nat) : Int) := by
  rw [show t % 86400 / 60 % 60 = t / 60 % 60 by omega]; exact md_nat (b := 60) (by omega)
 have e6 : md (t : Int) 60 = some ((t % 86400 % 60 : Nat) : Int) := by
  rw [show t % 86400 % 60 = t % 60 by omega]; exact md_nat (b := 60) (by omega)
 have e7 : md ((1970 + n : Nat) : Int) 100 = some (((1970 + n) % 100 : Nat) : Int) := md_nat (b := 100) (by omega)
 obtain ⟨f1, _, f3⟩ := day_tab ⟨wkN (t / 86400), hw⟩
 obtain ⟨_, g2⟩ := mon_tab ⟨p, hp⟩
 simp only at f1 f3 g2
 have c1 := I_Digits2 hk (n := d + 1) (by omega)
 have c2 := I_Digits2 hk (n := (1970 + n) % 100) (by omega)
 have c3 := I_Digits2 hk (n := t % 86400 / 3600) (by omega)
 have c4 := I_Digits2 hk (n := t % 86400 / 60 % 60) (by omega)
 have c5 := I_Digits2 hk (n := t % 86400 % 60) (by omega)
 have c6 := I_FormatInt_eq (k := k) ((1970 + n : Nat) : Int) (by omega) (by omega)
 have c7 := I_FormatInt_eq (k := k) ((d + 1 : Nat) : Int) (by omega) (by omega)
 rw [itoa_year (by omega) (by omega)] at c6
 rw [itoa_small (by omega)] at c7
 have c8 : decide (((d + 1 : Nat) : Int) < 10) = decide (d + 1 < 10) := by by_cases c : d + 1 < 10 <;> simp [c] <;> omega
 rw [I_dateText, I_inRange_eq, Option.bind_some, inR_t (by omega) (by omega), Bool.not_true, cond_false, e1, Option.bind_some, wrap_nat (show t / 86400 ≤ 9223372036854775807 by omega), I_CivilOf_eq hk h, Option.bind_some, Option.bind_some, wrap_nat (show t / 86400 ≤ 9223372036854775807 by omega), I_WeekdayOf_nat (k := k) (t / 86400) (by omega), Option.bind_some, e2, Option.bind_some, wrap_nat (show t / 3600 ≤ 9223372036854775807 by omega), e3, Option.bind_some, c3, Option.bind_some, cat_ok (by simp only [List.length_append, List.length_cons, List.length_nil, l1, l2, d2, d4]; omega), Option.bind_some, e4, Option.bind_some, wrap_nat (show t / 60 ≤ 9223372036854775807 by omega), e5, Option.bind_some, c4, Option.bind_some, cat_ok (by simp only [List.length_append, List.length_cons, List.length_nil, l1, l2, d2, d4]; omega), Option.bind_some, cat_ok (by simp only [List.length_append, List.length_cons, List.length_nil, l1, l2, d2, d4]; omega), Option.bind_some, e6, Option.bind_some, c5, Option.bind_some, cat_ok (by simp only [List.length_append, List.length_cons, List.length_nil, l1, l2, d2, d4]; omega), Option.bind_some, f3, Option.bind_some]
 simp only
 rw [g2, Option.bind_some]
 rw [show ((2 : Int) == 1) = false from rfl, show ((2 : Int) == 2) = true from rfl, cond_true, cond_false, bif_dec]
 by_cases c : n < 100
 ·rw [if_neg (by omega), if_pos c, I_fullDay_eq hw, Option.bind_some, cat_ok (by simp only [List.length_append, List.length_cons, List.length_nil, l1, l2, d2, d4]; omega), Option.bind_some, c1, Option.bind_some, cat_ok (by simp only [List.length_append, List.length_cons, List.length_nil, l1, l2, d2, d4]; omega), Option.bind_some, cat_ok (by simp only [List.length_append, List.length_cons, List.length_nil, l1, l2, d2, d4]; omega), Option.bind_some, cat_ok (by simp only [List.length_append, List.length_cons, List.length_nil, l1, l2, d2, d4]; omega), Option.bind_some, cat_ok (by simp only [List.length_append, List.length_cons, List.length_nil, l1, l2, d2, d4]; omega), Option.bind_some, e7, Option.bind_some, c2, Option.bind_some, cat_ok (by simp only [List.length_append, List.length_cons, List.length_nil, l1, l2, d2, d4]; omega), Option.bind_some, cat_ok (by simp only [List.length_append, List.length_cons, List.length_nil, l1, l2, d2, d4]; omega), Option.bind_some, cat_ok (by simp only [List.length_append, List.length_cons, List.length_nil, l1, l2, d2, d4]; omega), Option.bind_some, cat_ok (by simp only [List.length_append, List.length_cons, List.length_nil, l1, l2, d2, d4]; omega), Option.bind_some]
  rfl
 ·rw [if_pos (by omega), if_neg c]
theorem I_dateText_3 {k : Nat} (hk : 1073741824 ≤ k) {t n p d : Nat} (ht : t ≤ 4102444799) (h : IsDay (t / 86400) n p d) : I_dateText k (t : Int) 3 = some (T3 (wkN (t / 86400)) n p d (t % 86400)) := by
 have hn := h.hn
 have hp := h.hp
 have hd := h.hd
 have hm := mdN_pos (1970 + n) (p + 1)
 have hw := wkN_lt (t / 86400)
 have l1 := dF3_len hw
 have l2 := mon3_len hp
 have l3 := dF_len hw
 have e1 : dv (t : Int) 86400 = some ((t / 86400 : Nat) : Int) := dv_nat (b := 86400) (by omega)
 have e2 : dv (t : Int) 3600 = some ((t / 3600 : Nat) : Int) := dv_nat (b := 3600) (by omega)
 have e3 : md ((t / 3600 : Nat) : Int) 24 = some ((t % 86400 / 3600 : Nat) : Int) := by
  rw [show t % 86400 / 3600 = t / 3600 % 24 by omega]; exact md_nat (b := 24) (by omega)
 have e4 : dv (t : Int) 60 = some ((t / 60 : Nat) : Int) := dv_nat (b := 60) (by omega)
 have e5 : md ((t / 60 : Nat) : Int) 60 = some ((t % 86400 / 60 % 60 : Nat) : Int) := by
  rw [show t % 86400 / 60 % 60 = t / 60 % 60 by omega]; exact md_nat (b := 60) (by omega)
 have e6 : md (t : Int) 60 = some ((t % 86400 % 60 : Nat) : Int) := by
  rw [show t % 86400 % 60 = t % 60 by omega]; exact md_nat (b := 60) (by omega)
 have e7 : md ((1970 + n : Nat) : Int) 100 = some (((1970 + n) % 100 : Nat) : Int) := md_nat (b := 100) (by omega)
 obtain ⟨f1, _, f3⟩ := day_tab ⟨wkN (t / 86400), hw⟩
 obtain ⟨_, g2⟩ := mon_tab ⟨p, hp⟩
 simp only at f1 f3 g2
 have c1 := I_Digits2 hk (n := d + 1) (by omega)
 have c2 := I_Digits2 hk (n := (1970 + n) % 100) (by omega)
 have c3 := I_Digits2 hk (n := t % 86400 / 3600) (by omega)
 have c4 := I_Digits2 hk (n := t % 86400 / 60 % 60) (by omega)
 have c5 := I_Digits2 hk (n := t % 86400 % 60) (by omega)
 have c6 := I_FormatInt_eq (k := k) ((1970 + n : Nat) : Int) (by omega) (by omega)
 have c7 := I_FormatInt_eq (k := k) ((d + 1 : Nat) : Int) (by omega) (by omega)
 rw [itoa_year (by omega) (by omega)] at c6
 rw [itoa_small (by omega)] at c7
 have c8 : decide (((d + 1 : Nat) : Int) < 10) = decide (d + 1 < 10) := by by_cases c : d + 1 < 10 <;> simp [c] <;> omega
 rw [I_dateText, I_inRange_eq, Option.bind_some, inR_t (by omega) (by omega), Bool.not_true, cond_false, e1, Option.bind_some, wrap_nat (show t / 86400 ≤ 9223372036854775807 by omega), I_CivilOf_eq hk h, Option.bind_some, Option.bind_some, wrap_nat (show t / 86400 ≤ 9223372036854775807 by omega), I_WeekdayOf_nat (k := k) (t / 86400) (by omega), Option.bind_some, e2, Option.bind_some, wrap_nat (show t / 3600 ≤ 9223372036854775807 by omega), e3, Option.bind_some, c3, Option.bind_some, cat_ok (by simp only [List.length_append, List.length_cons, List.length_nil, l1, l2, d2, d4]; omega), Option.bind_some, e4, Option.bind_some, wrap_nat (show t / 60 ≤ 9223372036854775807 by omega), e5, Option.bind_some, c4, Option.bind_some, cat_ok (by simp only [List.length_append, List.length_cons, List.length_nil, l1, l2, d2, d4]; omega), Option.bind_some, cat_ok (by simp only [List.length_append, List.length_cons, List.length_nil, l1, l2, d2, d4]; omega), Option.bind_some, e6, Option.bind_some, c5, Option.bind_some, cat_ok (by simp only [List.length_append, List.length_cons, List.length_nil, l1, l2, d2, d4]; omega), Option.bind_some, f3, Option.bind_some]
 simp only
 rw [g2, Option.bind_some]
 rw [show ((3 : Int) == 1) = false from rfl, show ((3 : Int) == 2) = false from rfl, cond_false, cond_false, c7, Option.bind_some, I_dateText_c97, c8]
 unfold T3
 by_cases c : d + 1 < 10
 ·rw [decide_eq_true c, cond_true, if_pos c, if_pos c, cat_ok (by simp only [List.length_append, List.length_cons, List.length_nil, l1, l2, d2, d4]; omega), Option.bind_some, Option.bind_some, cat_ok (by simp only [List.length_append, List.length_cons, List.length_nil, l1, l2, d2, d4]; omega), Option.bind_some, cat_ok (by simp only [List.length_append, List.length_cons, List.length_nil, l1, l2, d2, d4]; omega), Option.bind_some, cat_ok (by simp only [List.length_append, List.length_cons, List.length_nil, l1, l2, d2, d4]; omega), Option.bind_some, cat_ok (by simp only [List.length_append, List.length_cons, List.length_nil, l1, l2, d2, d4]; omega), Option.bind_some, cat_ok (by simp only [List.length_append, List.length_cons, List.length_nil, l1, l2, d2, d4]; omega), Option.bind_some, cat_ok (by simp only [List.length_append, List.length_cons, List.length_nil, l1, l2, d2, d4]; omega), Option.bind_some, cat_ok (by simp only [List.length_append, List.length_cons, List.length_nil, l1, l2, d2, d4]; omega), Option.bind_some, c6, Option.bind_some, cat_ok (by simp only [List.length_append, List.length_cons, List.length_nil, l1, l2, d2, d4]; omega), Option.bind_some]
  rfl
 ·rw [decide_eq_false c, cond_false, if_neg c, if_neg c, Option.bind_some, cat_ok (by simp only [List.length_append, List.length_cons, List.length_nil, l1, l2, d2, d4]; omega), Option.bind_some, cat_ok (by simp only [List.length_append, List.length_cons, List.length_nil, l1, l2, d2, d4]; omega), Option.bind_some, cat_ok (by simp only [List.length_append, List.length_cons, List.length_nil, l1, l2, d2, d4]; omega), Option.bind_some, cat_ok (by simp only [List.length_append, List.length_cons, List.length_nil, l1, l2, d2, d4]; omega), Option.bind_some, cat_ok (by simp only [List.length_append, List.length_cons, List.length_nil, l1, l2, d2, d4]; omega), Option.bind_some, cat_ok (by simp only [List.length_append, List.length_cons, List.length_nil, l1, l2, d2, d4]; omega), Option.bind_some, cat_ok (by simp only [List.length_append, List.length_cons, List.length_nil, l1, l2, d2, d4]; omega), Option.bind_some, c6, Option.bind_some, cat_ok (by simp only [List.length_append, List.length_cons, List.length_nil, l1, l2, d2, d4]; omega), Option.bind_some]
  rfl
theorem I_dateText_out {k : Nat} {t f : Int} (h : ¬ (0 ≤ t ∧ t ≤ 4102444799)) : I_dateText k t f = some [] := by
 have : inR t 0 4102444799 = false := by
  unfold inR
  by_cases c : 0 ≤ t
  ·rw [decide_eq_false (p := t ≤ 4102444799) (by omega), Bool.and_false]
  ·rw [decide_eq_false c, Bool.false_and]
 rw [I_dateText, I_inRange_eq, Option.bind_some, this]; rfl
def isF (f : Nat) (s : List UInt8) (t : Nat) : Prop := t ≤ 4102444799 ∧ ∃ n p d, IsDay (t / 86400) n p d ∧ ((f = 1 ∧ s = T1 (wkN (t / 86400)) n p d (t % 86400)) ∨ (f = 2 ∧ n < 100 ∧ s = T2 (wkN (t / 86400)) n p d (t % 86400)) ∨ (f = 3 ∧ s = T3 (wkN (t / 86400)) n p d (t % 86400)))
theorem isF_isD {f : Nat} {s : List UInt8} {t : Nat} (h : isF f s t) : isD s t := by
 obtain ⟨h1, n, p, d, h2, h3⟩ := h
 refine ⟨h1, n, p, d, h2, ?_⟩
 rcases h3 with ⟨_, h3⟩ | ⟨_, h4, h3⟩ | ⟨_, h3⟩
 ·exact .inl h3
 ·exact .inr (.inl ⟨h4, h3⟩)
 ·exact .inr (.inr h3)
theorem isD_isF {s : List UInt8} {t : Nat} (h : isD s t) : isF 1 s t ∨ isF 2 s t ∨ isF 3 s t := by
 obtain ⟨h1, n, p, d, h2, h3⟩ := h
 rcases h3 with h3 | ⟨h4, h3⟩ | h3
 ·exact .inl ⟨h1, n, p, d, h2, .inl ⟨rfl, h3⟩⟩
 ·exact .inr (.inl ⟨h1, n, p, d, h2, .inr (.inl ⟨rfl, h4, h3⟩)⟩)
 ·exact .inr (.inr ⟨h1, n, p, d, h2, .inr (.inr ⟨rfl, h3⟩)⟩)
theorem I_dateText_eq {k : Nat} (hk : 1073741824 ≤ k) (t : Int) {f : Nat} (hf : f = 1 ∨ f = 2 ∨ f = 3) : ∃ x, I_dateText k t (f : Int) = some x ∧ (x ≠ [] → 0 ≤ t ∧ isF f x t.toNat) ∧ ∀ s u, isF f s u → t = (u : Int) → x = s := by
 by_cases c : 0 ≤ t ∧ t ≤ 4102444799
 ·obtain ⟨u, rfl⟩ : ∃ u : Nat, t = (u : Int) := ⟨t.toNat, by omega⟩
  obtain ⟨n, p, d, hd⟩ := isDay_ex (day := u / 86400) (by omega)
  have uniq : ∀ {v n' p' d' : Nat}, (u : Int) = (v : Int) → IsDay (v / 86400) n' p' d' → u = v ∧ n = n' ∧ p = p' ∧ d = d' := by
   intro v n' p' d' hv h'
   have hv : u = v := by omega
   subst hv
   have := hd.nu h'
   subst this
   have := hd.pu h'
   exact ⟨rfl, rfl, this.1, this.2⟩
  rcases hf with rfl | rfl | rfl
  ·refine ⟨_, I_dateText_1 hk (by omega) hd, fun _ => ⟨by omega, by omega, n, p, d, hd, .inl ⟨rfl, rfl⟩⟩, fun s v ⟨_, n', p', d', h1, h2⟩ hv => ?_⟩
   obtain ⟨rfl, rfl, rfl, rfl⟩ := uniq hv h1
   rcases h2 with ⟨_, h2⟩ | ⟨h3, _⟩ | ⟨h3, _⟩
   ·exact h2.symm
   ·cases h3
   ·cases h3
  ·refine ⟨_, I_dateText_2 hk (by omega) hd, fun hx => ?_, fun s v ⟨_, n', p', d', h1, h2⟩ hv => ?_⟩
   ·by_cases c2 : n < 100
    ·rw [if_pos c2]
     exact ⟨by omega, by omega, n, p, d, hd, .inr (.inl ⟨rfl, c2, rfl⟩)⟩
    ·rw [if_neg c2] at hx; exact absurd rfl hx
   ·obtain ⟨rfl, rfl, rfl, rfl⟩ := uniq hv h1
    rcases h2 with ⟨h3, _⟩ | ⟨_, h4, h2⟩ | ⟨h3, _⟩
    ·cases h3
    ·rw [if_pos h4]; exact h2.symm
    ·cases h3
  ·refine ⟨_, I_dateText_3 hk (by omega) hd, fun _ => ⟨by omega, by omega, n, p, d, hd, .inr (.inr ⟨rfl, rfl⟩)⟩, fun s v ⟨_, n', p', d', h1, h2⟩ hv => ?_⟩
   obtain ⟨rfl, rfl, rfl, rfl⟩ := uniq hv h1
   rcases h2 with ⟨h3, _⟩ | ⟨h3, _⟩ | ⟨_, h2⟩
   ·cases h3
   ·cases h3
   ·exact h2.symm
 ·refine ⟨[], I_dateText_out c, fun hx => absurd rfl hx, fun s u hu ht => ?_⟩
  have := hu.1
  omega
theorem I_digitsIn_eq {k : Nat} (q : List UInt8) (h : q.length ≤ 1000) : I_digitsIn k q = some (digI q) := by
 have hl : (Lib.trimLeftB q 32).length ≤ q.length := by unfold Lib.trimLeftB; exact (List.dropWhile_suffix _).length_le
 have e : strings_TrimLeft k q [32] = some (Lib.trimLeftB q 32) := rfl
 rw [I_digitsIn, e, Option.bind_some, strconv_Atoi, atoiO, decide_eq_true (by omega), cond_true]
 unfold digI
 cases Lib.atoiAll (Lib.trimLeftB q 32) <;> rfl
def mI (q : List UInt8) : Int := IntKind.wrap .i64 (IntKind.wrap .i64 ((Lib.index monAll q).tdiv 3) + 1)
theorem mI_t : ∀ p : Fin 12, mI (mon3 p.val) = (p.val + 1 : Nat) := by decide +kernel
def secI (c : List UInt8) (day : Int) : Int := IntKind.wrap .i64 ((IntKind.wrap .i64 ((IntKind.wrap .i64 ((IntKind.wrap .i64 (day * (86400 : Int))) + (IntKind.wrap .i64 (digI (c.take 2) * (3600 : Int))))) + (IntKind.wrap .i64 (digI ((c.take 5).drop 3) * (60 : Int))))) + digI ((c.take 8).drop 6))
def timeI (y : Int) (q : List UInt8) (d : Int) (c : List UInt8) : Int × Bool := bif decide (daysI y (mI q) d < 0) then (0, false) else (secI c (daysI y (mI q) d), true)
theorem I_timeOf_eq {k : Nat} (hk : 1073741824 ≤ k) (y d : Int) (q c : List UInt8) (h : c.length = 8) : I_timeOf k y q d c = some (timeI y q d c) := by
 have e : strings_Index k ([74, 97, 110, 70, 101, 98, 77, 97, 114, 65, 112, 114, 77, 97, 121, 74, 117, 110, 74, 117, 108, 65, 117, 103, 83, 101, 112, 79, 99, 116, 78, 111, 118, 68, 101, 99] : List UInt8) q = some (Lib.index monAll q) := rfl
 have e2 : dv (Lib.index monAll q) 3 = some ((Lib.index monAll q).tdiv 3) := rfl
 have s1 : ssub c 0 2 = some (c.take 2) := by rw [ssub_ok (by omega) (by omega) (by omega)]; rfl
 have s2 : ssub c 3 5 = some ((c.take 5).drop 3) := by rw [ssub_ok (by omega) (by omega) (by omega)]; rfl
 have s3 : ssub c 6 8 = some ((c.take 8).drop 6) := by rw [ssub_ok (by omega) (by omega) (by omega)]; rfl
 have em : IntKind.wrap .i64 ((IntKind.wrap .i64 ((Lib.index monAll q).tdiv 3)) + 1) = mI q := rfl
 rw [I_timeOf, e, Option.bind_some, e2, Option.bind_some, em, I_DaysOf_eq hk, Option.bind_some]
 unfold timeI
 cases hd : decide (daysI y (mI q) d < 0) with
 | true => rfl
 | false => rw [cond_false, s1, Option.bind_some, I_digitsIn_eq _ (by simp; omega), Option.bind_some, s2, Option.bind_some, I_digitsIn_eq _ (by simp; omega), Option.bind_some, s3, Option.bind_some, I_digitsIn_eq _ (by simp; omega), Option.bind_some]; rfl
theorem secI_of {c : List UInt8} {r day : Nat} (hr : r < 86400) (hd : day ≤ 47481) (hc : c = clkT r) : secI c (day : Int) = ((86400 * day + r : Nat) : Int) := by
 have z1 := digI_t2 ⟨r / 3600, by omega⟩
 have z2 := digI_t2 ⟨r / 60 % 60, by omega⟩
 have z3 := digI_t2 ⟨r % 60, by omega⟩
 simp only at z1 z2 z3
 have q1 : c.take 2 = d2 (r / 3600) := by rw [hc]; rfl
 have q2 : (c.take 5).drop 3 = d2 (r / 60 % 60) := by rw [hc]; rfl
 have q3 : (c.take 8).drop 6 = d2 (r % 60) := by rw [hc]; rfl
 unfold secI
 rw [q1, q2, q3, z1, z2, z3, wrap_id (n := (day : Int) * 86400) (by omega) (by omega), wrap_id (n := ((r / 3600 : Nat) : Int) * 3600) (by omega) (by omega), wrap_id (n := ((r / 60 % 60 : Nat) : Int) * 60) (by omega) (by omega), wrap_id (n := (day : Int) * 86400 + ((r / 3600 : Nat) : Int) * 3600) (by omega) (by omega), wrap_id (n := (day : Int) * 86400 + ((r / 3600 : Nat) : Int) * 3600 + ((r / 60 % 60 : Nat) : Int) * 60) (by omega) (by omega), wrap_id (by omega) (by omega)]
 omega
theorem timeI_of {q c : List UInt8} {y d : Int} {r day n p e : Nat} (h : IsDay day n p e) (hr : r < 86400) (hy : y = (1970 + n : Nat)) (hd : d = (e + 1 : Nat)) (hq : q = mon3 p) (hc : c = clkT r) : timeI y q d c = (((86400 * day + r : Nat) : Int), true) := by
 have hm := mI_t ⟨p, h.hp⟩
 simp only at hm
 have hl := h.le
 unfold timeI
 rw [hq, hm, hy, hd, daysI_of h, decide_eq_false (by omega), cond_false, secI_of hr hl hc]
def in1 (s : List UInt8) : Int × Bool := if s.length = 29 then timeI (digI ((s.take 16).drop 12)) ((s.take 11).drop 8) (digI ((s.take 7).drop 5)) ((s.take 25).drop 17) else (0, false)
def in3 (s : List UInt8) : Int × Bool := if s.length = 24 then timeI (digI ((s.take 24).drop 20)) ((s.take 7).drop 4) (digI ((s.take 10).drop 8)) ((s.take 19).drop 11) else (0, false)
def y2I (n : Int) : Int := if n < 70 then IntKind.wrap .i64 (n + 100) else n
def in2 (s : List UInt8) : Int × Bool := bif !(Lib.cut s [44]).2.2 || ((Lib.cut s [44]).2.1.length : Int) != 23 || decide (((Lib.cut s [44]).1.length : Int) < 6) then (0, false) else
 timeI (IntKind.wrap .i64 (1900 + y2I (digI (((Lib.cut s [44]).2.1.take 10).drop 8)))) (((Lib.cut s [44]).2.1.take 7).drop 4) (digI (((Lib.cut s [44]).2.1.take 3).drop 1)) (((Lib.cut s [44]).2.1.take 19).drop 11)
theorem ssub_n {s : List UInt8} (a b : Nat) (h1 : a ≤ b) (h2 : b ≤ s.length) : ssub s (a : Int) (b : Int) = some ((s.take b).drop a) := by rw [ssub_ok (by omega) (by omega) (by omega)]; rfl
theorem I_dateIn_1 {k : Nat} (hk : 1073741824 ≤ k) (s : List UInt8) : I_dateIn k s 1 = some (in1 s) := by
 rw [I_dateIn, show ((1 : Int) == 2) = false from rfl, show ((1 : Int) == 1) = true from rfl, show ((1 : Int) == 3) = false from rfl, cond_false, cond_true]
 unfold in1
 by_cases h : s.length = 29
 ·have s1 : ssub s 12 16 = some ((s.take 16).drop 12) := ssub_n 12 16 (by omega) (by omega)
  have s2 : ssub s 8 11 = some ((s.take 11).drop 8) := ssub_n 8 11 (by omega) (by omega)
  have s3 : ssub s 5 7 = some ((s.take 7).drop 5) := ssub_n 5 7 (by omega) (by omega)
  have s4 : ssub s 17 25 = some ((s.take 25).drop 17) := ssub_n 17 25 (by omega) (by omega)
  rw [beq_iff_eq.2 (by omega : (s.length : Int) = 29), cond_true, if_pos h, s1, Option.bind_some, I_digitsIn_eq _ (by simp; omega), Option.bind_some, s2, Option.bind_some, s3, Option.bind_some, I_digitsIn_eq _ (by simp; omega), Option.bind_some, s4, Option.bind_some, I_timeOf_eq hk _ _ _ _ (by simp; omega), Option.bind_some]
 ·rw [beq_ne (by omega : ¬ (s.length : Int) = 29), cond_false, if_neg h]; rfl
theorem I_dateIn_3 {k : Nat} (hk : 1073741824 ≤ k) (s : List UInt8) : I_dateIn k s 3 = some (in3 s) := by
 rw [I_dateIn, show ((3 : Int) == 2) = false from rfl, show ((3 : Int) == 1) = false from rfl, show ((3 : Int) == 3) = true from rfl, cond_false, cond_false, cond_true]
 unfold in3
 by_cases h : s.length = 24
 ·have s1 : ssub s 20 24 = some ((s.take 24).drop 20) := ssub_n 20 24 (by omega) (by omega)
  have s2 : ssub s 4 7 = some ((s.take 7).drop 4) := ssub_n 4 7 (by omega) (by omega)
  have s3 : ssub s 8 10 = some ((s.take 10).drop 8) := ssub_n 8 10 (by omega) (by omega)
  have s4 : ssub s 11 19 = some ((s.take 19).drop 11) := ssub_n 11 19 (by omega) (by omega)
  rw [beq_iff_eq.2 (by omega : (s.length : Int) = 24), cond_true, if_pos h, s1, Option.bind_some, I_digitsIn_eq _ (by simp; omega), Option.bind_some, s2, Option.bind_some, s3, Option.bind_some, I_digitsIn_eq _ (by simp; omega), Option.bind_some, s4, Option.bind_some, I_timeOf_eq hk _ _ _ _ (by simp; omega), Option.bind_some]
 ·rw [beq_ne (by omega : ¬ (s.length : Int) = 24), cond_false, if_neg h]
theorem I_dateIn_2 {k : Nat} (hk : 1073741824 ≤ k) (s : List UInt8) (hs : s.length < 1073741824) : I_dateIn k s 2 = some (in2 s) := by
 have e : strings_Cut k s [44] = some (Lib.cut s [44]) := by
  show (bif decide (s.length < 4294967281) then some (Lib.cut s [44]) else none) = _
  rw [decide_eq_true (by omega)]; rfl
 rw [I_dateIn, show ((2 : Int) == 2) = true from rfl, cond_true, e, Option.bind_some]
 unfold in2
 generalize Lib.cut s [44] = w
 obtain ⟨day, rest, found⟩ := w
 simp only
 cases found with
 | false => rfl
 | true =>
  rw [Bool.not_true, cond_false, Bool.false_or]
  by_cases h : rest.length = 23
  ·have hb : ((rest.length : Int) != 23) = false := by rw [show (rest.length : Int) = 23 by omega]; rfl
   rw [hb, cond_false, Bool.false_or]
   cases decide ((day.length : Int) < 6) with
   | true => rfl
   | false =>
    have s1 : ssub rest 8 10 = some ((rest.take 10).drop 8) := ssub_n 8 10 (by omega) (by omega)
    have s2 : ssub rest 4 7 = some ((rest.take 7).drop 4) := ssub_n 4 7 (by omega) (by omega)
    have s3 : ssub rest 1 3 = some ((rest.take 3).drop 1) := ssub_n 1 3 (by omega) (by omega)
    have s4 : ssub rest 11 19 = some ((rest.take 19).drop 11) := ssub_n 11 19 (by omega) (by omega)
    have e3 : I_dateIn_c34 k rest (digI ((rest.take 10).drop 8)) (decide (digI ((rest.take 10).drop 8) < 70)) = some (y2I (digI ((rest.take 10).drop 8))) := by
     rw [I_dateIn_c34, bif_dec]; unfold y2I; split <;> rfl
    rw [cond_false, cond_false, s1, Option.bind_some, I_digitsIn_eq _ (by simp; omega), Option.bind_some, e3, Option.bind_some, s2, Option.bind_some, s3, Option.bind_some, I_digitsIn_eq _ (by simp; omega), Option.bind_some, s4, Option.bind_some, I_timeOf_eq hk _ _ _ _ (by simp; omega), Option.bind_some]
  ·have hb : ((rest.length : Int) != 23) = true := bne_ne (by omega)
   rw [hb, cond_true, Bool.true_or, cond_true]
theorem in1_of {w n p d r day : Nat} (hw : w < 7) (h : IsDay day n p d) (hr : r < 86400) : in1 (T1 w n p d r) = (((86400 * day + r : Nat) : Int), true) := by
 have hd := h.hd
 have hm := mdN_pos (1970 + n) (p + 1)
 have t4 := digI_t4 ⟨n, h.hn⟩
 have t2 := digI_t2 ⟨d + 1, by omega⟩
 simp only at t4 t2
 obtain ⟨a, b, c, q, e, _⟩ := dF3 hw
 obtain ⟨x, y, z, e2⟩ := mon3e h.hp
 have hl : (T1 w n p d r).length = 29 := T1_len hw h.hp
 have q1 : ((T1 w n p d r).take 16).drop 12 = d4 (1970 + n) := by unfold T1; rw [e, e2]; rfl
 have q2 : ((T1 w n p d r).take 11).drop 8 = mon3 p := by unfold T1; rw [e, e2]; rfl
 have q3 : ((T1 w n p d r).take 7).drop 5 = d2 (d + 1) := by unfold T1; rw [e, e2]; rfl
 have q4 : ((T1 w n p d r).take 25).drop 17 = clkT r := by unfold T1; rw [e, e2]; rfl
 unfold in1
 rw [if_pos hl, q1, q2, q3, q4]
 exact timeI_of h hr t4 t2 rfl rfl
theorem in3_of {w n p d r day : Nat} (hw : w < 7) (h : IsDay day n p d) (hr : r < 86400) : in3 (T3 w n p d r) = (((86400 * day + r : Nat) : Int), true) := by
 have hd := h.hd
 have hm := mdN_pos (1970 + n) (p + 1)
 have t4 := digI_t4 ⟨n, h.hn⟩
 have t3 := digI_t3 ⟨d, by omega⟩
 simp only at t4 t3
 obtain ⟨a, b, c, q, e, _⟩ := dF3 hw
 obtain ⟨x, y, z, e2⟩ := mon3e h.hp
 obtain ⟨u, v, e3⟩ := dayT_e d
 rw [e3] at t3
 have hl : (T3 w n p d r).length = 24 := T3_len hw h.hp
 have q1 : ((T3 w n p d r).take 24).drop 20 = d4 (1970 + n) := by unfold T3; rw [e, e2, e3]; rfl
 have q2 : ((T3 w n p d r).take 7).drop 4 = mon3 p := by unfold T3; rw [e, e2, e3]; rfl
 have q3 : ((T3 w n p d r).take 10).drop 8 = [u, v] := by unfold T3; rw [e, e2, e3]; rfl
 have q4 : ((T3 w n p d r).take 19).drop 11 = clkT r := by unfold T3; rw [e, e2, e3]; rfl
 unfold in3
 rw [if_pos hl, q1, q2, q3, q4]
 exact timeI_of h hr t4 t3 rfl rfl
def R2 (n p d r : Nat) : List UInt8 := [32] ++ d2 (d + 1) ++ [45] ++ mon3 p ++ [45] ++ d2 ((1970 + n) % 100) ++ [32] ++ clkT r ++ [32, 71, 77, 84]
theorem T2_R2 (w n p d r : Nat) : T2 w n p d r = dFull w ++ 44 :: R2 n p d r := by unfold T2 R2; simp
theorem cut_skip {a c : UInt8} (l : List UInt8) (h : (c == a) = false) : Lib.cut (a :: l) [c] = (bif (Lib.cut l [c]).2.2 then (a :: (Lib.cut l [c]).1, (Lib.cut l [c]).2.1, true) else (a :: l, [], false)) := by
 have hi : Lib.index (a :: l) [c] = if Lib.index l [c] == -1 then -1 else Lib.index l [c] + 1 := by
  rw [Lib.index]
  have : List.isPrefixOf [c] (a :: l) = false := by simp [List.isPrefixOf, h]
  rw [this]; rfl
 have hg := Lib.index_ge l [c]
 unfold Lib.cut
 rw [hi]
 by_cases hm : Lib.index l [c] = -1
 ·rw [hm]; rfl
 ·rw [beq_ne hm]
  simp only [Bool.false_eq_true, if_false]
  rw [if_pos (by omega), if_pos (by omega), show (Lib.index l [c] + 1).toNat = (Lib.index l [c]).toNat + 1 by omega]
  simp only [cond_true, List.take_succ_cons]
  rw [show (Lib.index l [c]).toNat + 1 + [c].length = ((Lib.index l [c]).toNat + [c].length) + 1 by omega, List.drop_succ_cons]
theorem cut_here {c : UInt8} (l : List UInt8) : Lib.cut (c :: l) [c] = ([], l, true) := by
 have hi : Lib.index (c :: l) [c] = 0 := by rw [Lib.index]; simp [List.isPrefixOf]
 unfold Lib.cut
 rw [hi]; rfl
theorem cut_first {c : UInt8} : ∀ (x y : List UInt8), x.all (fun a => !(c == a)) = true → Lib.cut (x ++ c :: y) [c] = (x, y, true)
 | [], y, _ => cut_here y
 | a :: x, y, h => by
  rw [List.all_cons, Bool.and_eq_true, Bool.not_eq_true'] at h
  rw [List.cons_append, cut_skip _ h.1, cut_first x y h.2]; rfl
theorem dF_nc : ∀ w : Fin 7, (dFull w.val).all (fun a => !((44 : UInt8) == a)) = true := by decide +kernel
theorem in2_of {w n p d r day : Nat} (hw : w < 7) (h : IsDay day n p d) (hr : r < 86400) (h100 : n < 100) : in2 (T2 w n p d r) = (((86400 * day + r : Nat) : Int), true) := by
 have hd := h.hd
 have hm := mdN_pos (1970 + n) (p + 1)
 have t4 := digI_t2 ⟨(1970 + n) % 100, by omega⟩
 have t2 := digI_t2 ⟨d + 1, by omega⟩
 simp only at t4 t2
 obtain ⟨a, b, c, q, e, hq, _⟩ := dF3 hw
 obtain ⟨x, y, z, e2⟩ := mon3e h.hp
 have hc : Lib.cut (T2 w n p d r) [44] = (dFull w, R2 n p d r, true) := by rw [T2_R2]; exact cut_first _ _ (dF_nc ⟨w, hw⟩)
 have hl : (R2 n p d r).length = 23 := by unfold R2; rw [e2]; rfl
 have hf : 6 ≤ (dFull w).length := by rw [e]; simp; omega
 have q1 : ((R2 n p d r).take 10).drop 8 = d2 ((1970 + n) % 100) := by unfold R2; rw [e2]; rfl
 have q2 : ((R2 n p d r).take 7).drop 4 = mon3 p := by unfold R2; rw [e2]; rfl
 have q3 : ((R2 n p d r).take 3).drop 1 = d2 (d + 1) := by unfold R2; rw [e2]; rfl
 have q4 : ((R2 n p d r).take 19).drop 11 = clkT r := by unfold R2; rw [e2]; rfl
 have hb : (((R2 n p d r).length : Int) != 23) = false := by rw [hl]; rfl
 unfold in2
 rw [hc]
 simp only
 rw [hb, decide_eq_false (by omega), Bool.not_true, Bool.false_or, Bool.false_or, cond_false, q1, q2, q3, q4, t4]
 refine timeI_of h hr ?_ t2 rfl rfl
 unfold y2I
 split
 ·rw [wrap_id (n := (((1970 + n) % 100 : Nat) : Int) + 100) (by omega) (by omega), wrap_id (by omega) (by omega)]; omega
 ·rw [wrap_id (by omega) (by omega)]; omega
theorem in_ne {s : List UInt8} : (in1 s).2 = true ∨ (in2 s).2 = true ∨ (in3 s).2 = true → s ≠ [] := by
 intro h hs
 subst hs
 rcases h with h | h | h
 ·cases h
 ·cases h
 ·cases h
theorem pDate_cast {s : List UInt8} (hc : ∀ t u, isD s t → isD s u → t = u) {t : Nat} (h : isD s t) : pDate s = ((t : Int), true) := by
 have hx : ∃ t, isD s t := ⟨t, h⟩
 unfold pDate
 rw [dif_pos hx, hc _ _ (Classical.choose_spec hx) h]
def inF (f : Nat) (s : List UInt8) : Int × Bool := if f = 1 then in1 s else if f = 2 then in2 s else in3 s
theorem inF_of {f : Nat} {s : List UInt8} {t : Nat} (h : isF f s t) : inF f s = ((t : Int), true) := by
 obtain ⟨h1, n, p, d, h2, h3⟩ := h
 have hw := wkN_lt (t / 86400)
 have hr : t % 86400 < 86400 := Nat.mod_lt _ (by omega)
 have e : 86400 * (t / 86400) + t % 86400 = t := Nat.div_add_mod t 86400
 rcases h3 with ⟨rfl, rfl⟩ | ⟨rfl, h4, rfl⟩ | ⟨rfl, rfl⟩
 ·unfold inF
  rw [if_pos rfl, in1_of hw h2 hr, e]
 ·unfold inF
  rw [if_neg (by omega), if_pos rfl, in2_of hw h2 hr h4, e]
 ·unfold inF
  rw [if_neg (by omega), if_neg (by omega), in3_of hw h2 hr, e]
theorem isF_len {f : Nat} {s : List UInt8} {t : Nat} (h : isF f s t) : (f = 1 ∧ s.length = 29) ∨ (f = 2 ∧ 30 ≤ s.length ∧ s.length ≤ 33) ∨ (f = 3 ∧ s.length = 24) := by
 obtain ⟨h1, n, p, d, h2, h3⟩ := h
 have hw := wkN_lt (t / 86400)
 rcases h3 with ⟨rfl, rfl⟩ | ⟨rfl, h4, rfl⟩ | ⟨rfl, rfl⟩
 ·exact .inl ⟨rfl, T1_len hw h2.hp⟩
 ·exact .inr (.inl ⟨rfl, T2_len hw h2.hp⟩)
 ·exact .inr (.inr ⟨rfl, T3_len hw h2.hp⟩)
theorem isD_form {s : List UInt8} {t : Nat} (h : isD s t) : ∃ f, isF f s t := by
 rcases isD_isF h with h | h | h <;> exact ⟨_, h⟩
theorem isD_uniq {s : List UInt8} (t u : Nat) (ht : isD s t) (hu : isD s u) : t = u := by
 obtain ⟨f, hf⟩ := isD_form ht
 obtain ⟨g, hg⟩ := isD_form hu
 have l1 := isF_len hf
 have l2 := isF_len hg
 have : f = g := by omega
 subst this
 have e1 := inF_of hf
 rw [inF_of hg] at e1
 have := congrArg Prod.fst e1
 simp only at this
 omega
theorem pDate_yes {s : List UInt8} {t : Nat} (h : isD s t) : pDate s = ((t : Int), true) := pDate_cast isD_uniq h
theorem I_dateIn_all {k : Nat} (hk : 1073741824 ≤ k) (s : List UInt8) (hs : s.length < 1073741824) {f : Nat} (hf : f = 1 ∨ f = 2 ∨ f = 3) : I_dateIn k s (f : Int) = some (inF f s) := by
 rcases hf with rfl | rfl | rfl
 ·exact I_dateIn_1 hk s
 ·exact I_dateIn_2 hk s hs
 ·exact I_dateIn_3 hk s
theorem inF_ne {f : Nat} {s : List UInt8} (hf : f = 1 ∨ f = 2 ∨ f = 3) (h : (inF f s).2 = true) : s ≠ [] := by
 rcases hf with rfl | rfl | rfl
 ·exact in_ne (.inl h)
 ·exact in_ne (.inr (.inl h))
 ·exact in_ne (.inr (.inr h))
theorem I_round {k : Nat} (hk : 1073741824 ≤ k) (s : List UInt8) (hs : s.length < 1073741824) {f : Nat} (hf : f = 1 ∨ f = 2 ∨ f = 3) (n : Nat) :
    (∃ t, isF f s t ∧ I_ParseDate_b0 k (n + 1) s (f : Int) = some (.oth ((t : Int), true))) ∨ ((¬ ∃ t, isF f s t) ∧ I_ParseDate_b0 k (n + 1) s (f : Int) = I_ParseDate_b0 k n s ((f + 1 : Nat) : Int)) := by
 rw [I_ParseDate_b0, bif_dec, if_pos (by omega), I_dateIn_all hk s hs hf, Option.bind_some, wrap_succ (by omega)]
 cases h : (inF f s).2 with
 | false =>
  refine .inr ⟨fun ⟨t, ht⟩ => ?_, rfl⟩
  rw [inF_of ht] at h; cases h
 | true =>
  obtain ⟨x, hx, h1, h2⟩ := I_dateText_eq hk (inF f s).1 hf
  rw [cond_true, hx, Option.bind_some]
  cases he : (x == s) with
  | true =>
   have he : x = s := by simpa using he
   obtain ⟨g1, g2⟩ := h1 (by rw [he]; exact inF_ne hf h)
   refine .inl ⟨_, he ▸ g2, ?_⟩
   rw [cond_true, Int.toNat_of_nonneg g1]
  | false =>
   refine .inr ⟨fun ⟨t, ht⟩ => ?_, rfl⟩
   have := h2 s t ht (by rw [inF_of ht])
   rw [this] at he
   simp at he
theorem I_ParseDate_eq {k : Nat} (hk : 1073741824 ≤ k) (s : List UInt8) (hs : s.length < 1073741824) : I_ParseDate k s = some (pDate s) := by
 obtain ⟨k', e⟩ : ∃ k', k = k' + 1 + 1 + 1 + 1 := ⟨k - 4, by omega⟩
 have main : (I_ParseDate_b0 k (k' + 1 + 1 + 1 + 1) s ((1 : Nat) : Int)).bind (fun o3 => oc o3 (fun o4 => some ((0 : Int), false)) (fun o5 => some o5)) = some (pDate s) := by
  rcases I_round hk s hs (f := 1) (by omega) (k' + 1 + 1 + 1) with ⟨t, h1, h2⟩ | ⟨n1, h2⟩
  ·rw [h2, pDate_yes (isF_isD h1)]; rfl
  ·rw [h2]
   rcases I_round hk s hs (f := 1 + 1) (by omega) (k' + 1 + 1) with ⟨t, h1, h2⟩ | ⟨n2, h2⟩
   ·rw [h2, pDate_yes (isF_isD h1)]; rfl
   ·rw [h2]
    rcases I_round hk s hs (f := 1 + 1 + 1) (by omega) (k' + 1) with ⟨t, h1, h2⟩ | ⟨n3, h2⟩
    ·rw [h2, pDate_yes (isF_isD h1)]; rfl
    ·rw [h2, I_ParseDate_b0, bif_dec, if_neg (by omega), pDate_no]
     ·rfl
     ·rintro ⟨t, ht⟩
      rcases isD_isF ht with h | h | h
      ·exact n1 ⟨t, h⟩
      ·exact n2 ⟨t, h⟩
      ·exact n3 ⟨t, h⟩
 rw [I_ParseDate]
 rw [← e] at main
 exact main
def dateF (fs : List IField) (n : List UInt8) : Int × Bool := pDate (getF fs n).1
theorem getF_short {fs : List IField} (n : List UInt8) (h : fsz fs < 268435456) : (getF fs n).1.length < 1073741824 := by have := getF_len fs n; omega
theorem I_dateField_eq {k : Nat} (hk : 1073741824 ≤ k) (x : IResponse) (n : List UInt8) (h : fsz x.Fields < 268435456) : I_dateField k x n = some (dateF x.Fields n) := by
 rw [I_dateField, I_GetField_eq hk _ _ h, Option.bind_some, I_ParseDate_eq hk _ (getF_short n h), Option.bind_some]; rfl
def tagB (c : UInt8) : Bool := inR (c.toNat : Int) 33 126 && !(c == 34)
def isTagT (x : List UInt8) : Bool := x.all tagB && decide ((x.length : Int) ≤ 40)
theorem u8_34 (c : UInt8) : ((c.toNat : Int) == 34) = (c == 34) := u8_eq c 34
theorem S_IsTag_loop {k : Nat} {w : Bool} {x : List UInt8} (hx : x.length < 1073741824) : ∀ (n i : Nat), i ≤ x.length → x.length - i < n → S_IsTag_b0 k n (i : Int) w x = some (if (x.drop i).all tagB then .nrm () else .oth false) := by
 intro n
 induction n with
 | zero => intro i _ h; omega
 | succ n ih =>
  intro i hi hn
  rw [S_IsTag_b0, bif_dec]
  by_cases c : i < x.length
  ·have hb := UInt8.toNat_lt x[i]
   rw [if_pos (by omega), idx_nat c, Option.bind_some, wrap_id (by omega) (by omega), S_l1In_eq, Option.bind_some, Option.bind_some, u8_34, wrap_succ (by omega), ih (i + 1) (by omega) (by omega), List.drop_eq_getElem_cons c, List.all_cons]
   unfold tagB
   cases inR (x[i].toNat : Int) 33 126 <;> cases (x[i] == 34) <;> rfl
  ·rw [if_neg (by omega), List.drop_of_length_le (by omega)]; rfl
theorem S_IsTag_eq {k : Nat} (hk : 1073741824 ≤ k) (t : ITag) (hx : t.Text.length < 1073741824) : S_IsTag k t = some (isTagT t.Text) := by
 have : S_IsTag_b0 k k 0 t.Weak t.Text = some (if (t.Text.drop 0).all tagB then .nrm () else .oth false) := S_IsTag_loop hx k 0 (by omega) (by omega)
 rw [S_IsTag, this, Option.bind_some, List.drop_zero]
 unfold isTagT
 cases t.Text.all tagB <;> rfl
def fmtTag (t : ITag) : List UInt8 := bif isTagT t.Text then (bif t.Weak then [87, 47, 34] ++ t.Text ++ [34] else [34] ++ t.Text ++ [34]) else []
theorem S_FormatTag_eq {k : Nat} (hk : 1073741824 ≤ k) (t : ITag) (hx : t.Text.length < 1073741824) : S_FormatTag k t = some (fmtTag t) := by
 rw [S_FormatTag, S_IsTag_eq hk t hx, Option.bind_some, cat_ok (by simp; omega), Option.bind_some, cat_ok (by simp; omega), Option.bind_some, cat_ok (by simp; omega), Option.bind_some, cat_ok (by simp; omega), Option.bind_some]
 unfold fmtTag
 cases isTagT t.Text <;> cases t.Weak <;> rfl
def ctlOf (r : IResource) : List UInt8 := bif r.Private then (bif r.Control == [] then [112, 114, 105, 118, 97, 116, 101] else [112, 114, 105, 118, 97, 116, 101, 44, 32] ++ r.Control) else r.Control
theorem S_ControlOf_eq {k : Nat} (r : IResource) (h : r.Control.length ≤ 1048576) : S_ControlOf k r = some (ctlOf r) := by
 unfold S_ControlOf ctlOf
 rw [cat_ok (by simp; omega)]
 cases r.Private <;> cases (r.Control == []) <;> rfl
theorem S_BodyOf_some (k : Nat) (v : IVersion) (a b : List UInt8) (h0 : v.Text.length ≤ 1048576) (h1 : a.length ≤ 1048576) (h2 : b.length ≤ 1048576) : ∃ r, S_BodyOf k v a b = some r := by
 unfold S_BodyOf S_BodyOf_c11
 cases ha : (a == []) with
 | true =>
  simp only [Bool.not_true, cond_false, Option.bind_some, S_BodyOf_c18]
  cases hb : (b == []) with
  | true => exact ⟨_, rfl⟩
  | false =>
   rw [Bool.not_false, cond_true, cat_ok (by simp; omega), Option.bind_some, cat_ok (by simp; omega)]
   exact ⟨_, rfl⟩
 | false =>
  rw [Bool.not_false, cond_true, cat_ok (by simp; omega), Option.bind_some, cat_ok (by simp; omega), Option.bind_some, cat_ok (by simp; omega)]
  simp only [Option.bind_some, S_BodyOf_c18]
  cases hb : (b == []) with
  | true => exact ⟨_, rfl⟩
  | false =>
   rw [Bool.not_false, cond_true, cat_ok (by simp; omega), Option.bind_some, cat_ok (by simp; omega)]
   exact ⟨_, rfl⟩
def vLast (p : Nat → Bool) : Nat → Int
 | 0 => -1
 | j + 1 => bif p j then (j : Int) else vLast p j
def atP (x : List IVersion) (t : Int) (i : Nat) : Bool := match x[i]? with | some e => decide (e.At ≤ t) | none => false
theorem atP_idx {x : List IVersion} {t : Int} {i : Nat} (h : i < x.length) : atP x t i = decide (x[i].At ≤ t) := by simp only [atP, List.getElem?_eq_getElem h]
theorem S_VersionAt_loop {k : Nat} {t : Int} {a b c : List UInt8} {d : Bool} {e : List (List UInt8)} {x : List IVersion} (hx : x.length < 1073741824) : ∀ (n i : Nat), i ≤ x.length → x.length - i < n →
    S_VersionAt_b0 k n t (vLast (atP x t) i) (i : Int) a b c d e x = some (vLast (atP x t) x.length) := by
 intro n
 induction n with
 | zero => intro i _ h; omega
 | succ n ih =>
  intro i hi hn
  rw [S_VersionAt_b0, bif_dec]
  by_cases h : i < x.length
  ·rw [if_pos (by omega), S_VersionAt_b1, idx_nat h, Option.bind_some, S_VersionAt_c21, wrap_succ (by omega)]
   have := ih (i + 1) (by omega) (by omega)
   rw [vLast, atP_idx h] at this
   cases hd : decide (x[i].At ≤ t) with
   | true => rw [hd, cond_true] at this; rw [cond_true, Option.bind_some, Option.bind_some]; exact this
   | false => rw [hd, cond_false] at this; rw [cond_false, Option.bind_some, Option.bind_some]; exact this
  ·rw [if_neg (by omega), show i = x.length by omega]
theorem S_VersionAt_eq {k : Nat} (hk : 1073741824 ≤ k) (r : IResource) (t : Int) (h : r.Versions.length < 1073741824) : S_VersionAt k r t = some (vLast (atP r.Versions t) r.Versions.length) := by
 rw [S_VersionAt]
 have := S_VersionAt_loop (k := k) (t := t) (a := r.Target) (b := r.Control) (c := r.Keys) (d := r.Private) (e := r.Langs) (x := r.Versions) h k 0 (by omega) (by omega)
 rw [show (-1 : Int) = vLast (atP r.Versions t) 0 from rfl, show (0 : Int) = ((0 : Nat) : Int) from rfl, this]; rfl
theorem vLast_lt (p : Nat → Bool) : ∀ n, -1 ≤ vLast p n ∧ vLast p n < (n : Int)
 | 0 => by unfold vLast; omega
 | n + 1 => by
  have := vLast_lt p n
  rw [vLast]
  cases p n with
  | true => rw [cond_true]; omega
  | false => rw [cond_false]; omega
theorem findR_lt (x : List IResource) (s : List UInt8) : -1 ≤ findR x s ∧ findR x s < (x.length : Int) := by
 unfold findR
 cases hf : firstI (tgtP x s) x.length 0 with
 | none => simp only; omega
 | some j => have := firstI_lt hf; simp only; omega
theorem chooseT_len {x : List (List UInt8)} {a : List UInt8} {n : Nat} (h : ∀ e ∈ x, e.length ≤ n) : (chooseT x a).length ≤ n := by
 have key : ∀ (q : List IQuality) (m i : Nat) (s : List UInt8), s.length ≤ n → (foldI (bestI q x) m i s).length ≤ n := by
  intro q m
  induction m with
  | zero => intro i s hs; exact hs
  | succ m ih =>
   intro i s hs
   rw [foldI]
   refine ih (i + 1) _ ?_
   unfold bestI
   cases he : x[i]? with
   | none => exact hs
   | some e =>
    have := h e (List.mem_of_getElem? he)
    simp only
    cases (i == 0 || decide (qOf q e > qOf q s)) with
    | true => exact this
    | false => exact hs
 exact key _ _ _ _ (by simp)
theorem visitor_len (fs : List IField) : (visitor fs).length ≤ 20 := by
 unfold visitor
 cases isTok (selV fs auth) with
 | false => simp
 | true =>
  by_cases h : ((selV fs auth).length : Int) > 20
  ·rw [decide_eq_true h]; simp
  ·rw [decide_eq_false h]; simp only [Bool.not_true, cond_false]; omega
theorem S_FormatDate_tot {k : Nat} (hk : 1073741824 ≤ k) (t : Int) : ∃ d, S_FormatDate k t = some d ∧ d.length ≤ 29 := by
 rw [S_FormatDate, S_l1In_eq, Option.bind_some]
 cases hb : inR t 0 4102444799 with
 | false => exact ⟨_, rfl, by simp⟩
 | true =>
  unfold inR at hb
  simp only [Bool.and_eq_true, decide_eq_true_eq] at hb
  obtain ⟨u, rfl⟩ := Int.eq_ofNat_of_zero_le hb.1
  obtain ⟨n, p, d, hd⟩ := isDay_ex (day := u / 86400) (by omega)
  rw [Bool.not_true, cond_false, S_l3Forms_eq hk (by omega) hd, Option.bind_some]
  refine ⟨T1 (wkN (u / 86400)) n p d (u % 86400), rfl, ?_⟩
  rw [T1_len (wkN_lt _) hd.hp]; omega
structure AnsS (x : IResponse) : Prop where
 n : x.Fields.length ≤ 8
 f : ∀ e ∈ x.Fields, e.Name.length ≤ 20 ∧ e.Value.length ≤ 100
theorem ans_one {c : Int} {nm v b : List UInt8} (h1 : nm.length ≤ 20) (h2 : v.length ≤ 100) : AnsS ⟨c, [⟨nm, v⟩], b⟩ := ⟨by simp, fun e he => by
 rw [List.mem_singleton] at he
 subst he
 exact ⟨h1, h2⟩⟩
theorem S_l16Error_tot {k : Nat} (hk : 1073741824 ≤ k) (c t : Int) (s b : List UInt8) (hs : s.length ≤ 100) : ∃ x, S_l16Error k c s t b = some x ∧ AnsS x := by
 obtain ⟨d, e, l⟩ := S_FormatDate_tot hk t
 rw [S_l16Error, e, Option.bind_some]
 refine ⟨_, rfl, ⟨by simp, fun e he => ?_⟩⟩
 simp only [List.mem_cons, List.not_mem_nil, or_false] at he
 rcases he with rfl | rfl
 ·exact ⟨by simp, by simp only; omega⟩
 ·exact ⟨by simp, hs⟩
def FS (n : Nat) (l : List IField) : Prop := l.length ≤ n ∧ ∀ e ∈ l, e.Name.length ≤ 20 ∧ e.Value.length ≤ 100
theorem FS.up {n m : Nat} {l : List IField} (h : FS n l) (hm : n ≤ m) : FS m l := ⟨Nat.le_trans h.1 hm, h.2⟩
theorem FS.add {n : Nat} {l : List IField} (h : FS n l) (hn : n ≤ 100) {nm v : List UInt8} (h1 : nm.length ≤ 20) (h2 : v.length ≤ 100) : app 32 l [⟨nm, v⟩] = some (l ++ [⟨nm, v⟩]) ∧ FS (n + 1) (l ++ [⟨nm, v⟩]) := by
 have hl := h.1
 refine ⟨appn_ok (by simp only [List.length_cons, List.length_nil]; omega), by simp only [List.length_append, List.length_cons, List.length_nil]; omega, fun e he => ?_⟩
 rcases List.mem_append.1 he with he | he
 ·exact h.2 e he
 ·rw [List.mem_singleton] at he; subst he; exact ⟨h1, h2⟩
noncomputable def tailA (k : Nat) (e38 : IResource) (a1 : IRequest) (a2 w39 : Int) : Option IResponse :=
    ((S_VariantOf k e38 a1).bind fun w43 =>
    ((idx e38.Versions w39).bind fun e44 =>
    ((S_BodyOf k e44 w43.1 w43.2).bind fun w45 =>
    ((S_FormatDate k a2).bind fun w46 =>
    ((idx e38.Versions w39).bind fun e47 =>
    ((S_FormatDate k e47.At).bind fun w48 =>
    ((S_TagOf k w39 w43.1 w43.2).bind fun w49 =>
    ((S_FormatTag k w49).bind fun w50 =>
    ((app 32 ([] : List IField) ([(⟨([100, 97, 116, 101] : List UInt8), w46⟩ : IField), (⟨([108, 97, 115, 116, 45, 109, 111, 100, 105, 102, 105, 101, 100] : List UInt8), w48⟩ : IField), (⟨([101, 116, 97, 103] : List UInt8), w50⟩ : IField)] : List IField)).bind fun u51 =>
    ((S_ControlOf k e38).bind fun w52 =>
    ((S_PlainAnswer_c127 k w43.1 w52 (!(w52 == ([] : List UInt8))) (0 : Int) ([] : List UInt8) e38.Target e38.Control e38.Keys e38.Private e38.Langs e38.Versions (200 : Int) w45 u51).bind fun o53 =>
    ((S_PlainAnswer_c139 k w43.1 (decide ((e38.Langs.length : Int) > (0 : Int))) (0 : Int) ([] : List UInt8) e38.Target e38.Control e38.Keys e38.Private e38.Langs e38.Versions (200 : Int) w45 o53 ([] : List (List UInt8))).bind fun o54 =>
    ((S_PlainAnswer_c144 k w43.1 e38.Private (0 : Int) ([] : List UInt8) e38.Target e38.Control e38.Keys e38.Private e38.Langs e38.Versions (200 : Int) w45 o53 o54).bind fun o55 =>
    ((S_PlainAnswer_c150 k w43.1 (decide ((o55.length : Int) > (0 : Int))) (0 : Int) ([] : List UInt8) e38.Target e38.Control e38.Keys e38.Private e38.Langs e38.Versions (200 : Int) w45 o53 o55).bind fun o56 =>
    ((S_PlainAnswer_c160 k w43.1 (!(w43.1 == ([] : List UInt8))) (0 : Int) ([] : List UInt8) e38.Target e38.Control e38.Keys e38.Private e38.Langs e38.Versions (200 : Int) w45 o56).bind fun o57 =>
    ((S_PlainAnswer_c170 k (!(e38.Keys == ([] : List UInt8))) (0 : Int) ([] : List UInt8) e38.Target e38.Control e38.Keys e38.Private e38.Langs e38.Versions (200 : Int) w45 o57).bind fun o58 =>
    some (⟨(200 : Int), o58, w45⟩ : IResponse)))))))))))))))))
noncomputable def restA (k : Nat) (a0 : IOrigin) (a1 : IRequest) (a2 : Int) (w1 : List UInt8 × Bool) : Option IResponse :=
    ((S_FindResource k a0 w1.1).bind fun w36 =>
    (bif (decide (w36 < (0 : Int))) then ((S_l16Error k (404 : Int) ([109, 97, 120, 45, 97, 103, 101, 61, 49, 48] : List UInt8) a2 ([110, 111, 110, 101] : List UInt8)).bind fun w37 =>
    some w37)
    else ((idx a0.Resources w36).bind fun e38 =>
    ((S_VersionAt k e38 a2).bind fun w39 =>
    (bif (decide (w39 < (0 : Int))) then ((S_l16Error k (404 : Int) ([109, 97, 120, 45, 97, 103, 101, 61, 49, 48] : List UInt8) a2 ([110, 111, 110, 101] : List UInt8)).bind fun w40 =>
    some w40)
    else ((idx e38.Versions w39).bind fun e41 =>
    (bif e41.Gone then ((S_l16Error k (410 : Int) ([109, 97, 120, 45, 97, 103, 101, 61, 49, 48] : List UInt8) a2 ([103, 111, 110, 101] : List UInt8)).bind fun w42 =>
    some w42)
    else ((S_VariantOf k e38 a1).bind fun w43 =>
    ((idx e38.Versions w39).bind fun e44 =>
    ((S_BodyOf k e44 w43.1 w43.2).bind fun w45 =>
    ((S_FormatDate k a2).bind fun w46 =>
    ((idx e38.Versions w39).bind fun e47 =>
    ((S_FormatDate k e47.At).bind fun w48 =>
    ((S_TagOf k w39 w43.1 w43.2).bind fun w49 =>
    ((S_FormatTag k w49).bind fun w50 =>
    ((app 32 ([] : List IField) ([(⟨([100, 97, 116, 101] : List UInt8), w46⟩ : IField), (⟨([108, 97, 115, 116, 45, 109, 111, 100, 105, 102, 105, 101, 100] : List UInt8), w48⟩ : IField), (⟨([101, 116, 97, 103] : List UInt8), w50⟩ : IField)] : List IField)).bind fun u51 =>
    ((S_ControlOf k e38).bind fun w52 =>
    ((S_PlainAnswer_c127 k w43.1 w52 (!(w52 == ([] : List UInt8))) (0 : Int) ([] : List UInt8) e38.Target e38.Control e38.Keys e38.Private e38.Langs e38.Versions (200 : Int) w45 u51).bind fun o53 =>
    ((S_PlainAnswer_c139 k w43.1 (decide ((e38.Langs.length : Int) > (0 : Int))) (0 : Int) ([] : List UInt8) e38.Target e38.Control e38.Keys e38.Private e38.Langs e38.Versions (200 : Int) w45 o53 ([] : List (List UInt8))).bind fun o54 =>
    ((S_PlainAnswer_c144 k w43.1 e38.Private (0 : Int) ([] : List UInt8) e38.Target e38.Control e38.Keys e38.Private e38.Langs e38.Versions (200 : Int) w45 o53 o54).bind fun o55 =>
    ((S_PlainAnswer_c150 k w43.1 (decide ((o55.length : Int) > (0 : Int))) (0 : Int) ([] : List UInt8) e38.Target e38.Control e38.Keys e38.Private e38.Langs e38.Versions (200 : Int) w45 o53 o55).bind fun o56 =>
    ((S_PlainAnswer_c160 k w43.1 (!(w43.1 == ([] : List UInt8))) (0 : Int) ([] : List UInt8) e38.Target e38.Control e38.Keys e38.Private e38.Langs e38.Versions (200 : Int) w45 o56).bind fun o57 =>
    ((S_PlainAnswer_c170 k (!(e38.Keys == ([] : List UInt8))) (0 : Int) ([] : List UInt8) e38.Target e38.Control e38.Keys e38.Private e38.Langs e38.Versions (200 : Int) w45 o57).bind fun o58 =>
    some (⟨(200 : Int), o58, w45⟩ : IResponse))))))))))))))))))))))))
theorem tailA_tot {k : Nat} (hk : 1073741824 ≤ k) {e : IResource} (he : ResS e) {r : IRequest} (hr : fsz r.Fields < 67108864) {t : Int} {m : Nat} (hm : m < e.Versions.length) : ∃ x, tailA k e r t (m : Int) = some x ∧ AnsS x := by
 have hl := he.l
 have hv := he.v.n
 have v1 : (variantT e r.Fields).1.length ≤ 8 := chooseT_len he.le
 have v2 : (variantT e r.Fields).2.length ≤ 20 := by
  have := visitor_len r.Fields
  unfold variantT
  cases e.Private with
  | true => exact this
  | false => simp
 have hi : idx e.Versions (m : Int) = some e.Versions[m] := idx_nat hm
 have htx := he.v.t _ (List.getElem_mem hm)
 unfold tailA
 rw [S_VariantOf_eq hk e r (by omega) hr, Option.bind_some]
 generalize variantT e r.Fields = v at *
 obtain ⟨bd, hb⟩ := S_BodyOf_some k e.Versions[m] v.1 v.2 (by omega) (by omega) (by omega)
 obtain ⟨d1, q1, n1⟩ := S_FormatDate_tot hk t
 obtain ⟨d2, q2, n2⟩ := S_FormatDate_tot hk e.Versions[m].At
 have hil := itoa_len (n := (m : Int)) (by omega) (by omega)
 have ht : S_TagOf k (m : Int) v.1 v.2 = some ⟨false, Lib.itoa (m : Int) ++ [47] ++ v.1 ++ [47] ++ v.2⟩ := by
  rw [S_TagOf, S_FormatInt_eq hk (m : Int) (by omega) (by omega), Option.bind_some, cat_ok (by simp; omega), Option.bind_some, cat_ok (by simp; omega), Option.bind_some, cat_ok (by simp; omega), Option.bind_some, cat_ok (by simp; omega)]; rfl
 have hft : (fmtTag ⟨false, Lib.itoa (m : Int) ++ [47] ++ v.1 ++ [47] ++ v.2⟩).length ≤ 100 := by
  unfold fmtTag
  cases isTagT (Lib.itoa (m : Int) ++ [47] ++ v.1 ++ [47] ++ v.2) with
  | false => simp
  | true => simp; omega
 have hcl : (ctlOf e).length ≤ 100 := by
  have := he.c
  unfold ctlOf
  cases e.Private <;> cases (e.Control == []) <;> simp <;> omega
 rw [hi, Option.bind_some, hb, Option.bind_some, q1, Option.bind_some, Option.bind_some, q2, Option.bind_some, ht, Option.bind_some, S_FormatTag_eq hk _ (by simp; omega), Option.bind_some, appn_ok (by simp), Option.bind_some, S_ControlOf_eq e (by have := he.c; omega), Option.bind_some]
 generalize fmtTag ⟨false, Lib.itoa (m : Int) ++ [47] ++ v.1 ++ [47] ++ v.2⟩ = ft at *
 have f0 : FS 3 ([] ++ [(⟨([100, 97, 116, 101] : List UInt8), d1⟩ : IField), (⟨([108, 97, 115, 116, 45, 109, 111, 100, 105, 102, 105, 101, 100] : List UInt8), d2⟩ : IField), (⟨([101, 116, 97, 103] : List UInt8), ft⟩ : IField)]) := by
  refine ⟨by simp, fun x hx => ?_⟩
  simp only [List.nil_append, List.mem_cons, List.not_mem_nil, or_false] at hx
  rcases hx with rfl | rfl | rfl
  ·exact ⟨by simp, by simp only; omega⟩
  ·exact ⟨by simp, by simp only; omega⟩
  ·exact ⟨by simp, hft⟩
 generalize [] ++ [(⟨([100, 97, 116, 101] : List UInt8), d1⟩ : IField), (⟨([108, 97, 115, 116, 45, 109, 111, 100, 105, 102, 105, 101, 100] : List UInt8), d2⟩ : IField), (⟨([101, 116, 97, 103] : List UInt8), ft⟩ : IField)] = l0 at *
 have s1 : ∀ b y60 y62 y0 y1 y2 y3 y4 y5 z0 z2, ∃ l, S_PlainAnswer_c127 k v.1 (ctlOf e) b y60 y62 y0 y1 y2 y3 y4 y5 z0 z2 l0 = some l ∧ FS 4 l := by
  intro b y60 y62 y0 y1 y2 y3 y4 y5 z0 z2
  unfold S_PlainAnswer_c127
  cases b with
  | false => exact ⟨_, rfl, f0.up (by omega)⟩
  | true =>
   obtain ⟨g1, g2⟩ := f0.add (by omega) (nm := [99, 97, 99, 104, 101, 45, 99, 111, 110, 116, 114, 111, 108]) (v := ctlOf e) (by simp) hcl
   rw [cond_true, g1, Option.bind_some]; exact ⟨_, rfl, g2⟩
 obtain ⟨l1, e1, f1⟩ := s1 (!(ctlOf e == ([] : List UInt8))) (0 : Int) ([] : List UInt8) e.Target e.Control e.Keys e.Private e.Langs e.Versions (200 : Int) bd
 rw [e1, Option.bind_some]
 have s2 : ∀ b y60 y62 y0 y1 y2 y3 y4 y5 z0 z2, ∃ w, S_PlainAnswer_c139 k v.1 b y60 y62 y0 y1 y2 y3 y4 y5 z0 z2 l1 ([] : List (List UInt8)) = some w ∧ w.length ≤ 1 ∧ Lib.lens w ≤ 20 := by
  intro b y60 y62 y0 y1 y2 y3 y4 y5 z0 z2
  unfold S_PlainAnswer_c139
  cases b with
  | false => exact ⟨_, rfl, by simp, by simp [Lib.lens]⟩
  | true => rw [cond_true, appn_ok (by simp), Option.bind_some]; exact ⟨_, rfl, by simp, by simp [Lib.lens]⟩
 obtain ⟨w1, e2, g1, g2⟩ := s2 (decide ((e.Langs.length : Int) > (0 : Int))) (0 : Int) ([] : List UInt8) e.Target e.Control e.Keys e.Private e.Langs e.Versions (200 : Int) bd
 rw [e2, Option.bind_some]
 have s3 : ∀ b y60 y62 y0 y1 y2 y3 y4 y5 z0 z2, ∃ w, S_PlainAnswer_c144 k v.1 b y60 y62 y0 y1 y2 y3 y4 y5 z0 z2 l1 w1 = some w ∧ w.length ≤ 2 ∧ Lib.lens w ≤ 40 := by
  intro b y60 y62 y0 y1 y2 y3 y4 y5 z0 z2
  unfold S_PlainAnswer_c144
  cases b with
  | false => exact ⟨_, rfl, by omega, by omega⟩
  | true =>
   rw [cond_true, appn_ok (by simp only [List.length_cons, List.length_nil]; omega), Option.bind_some]
   exact ⟨_, rfl, by simp only [List.length_append, List.length_cons, List.length_nil]; omega, by rw [lens_app]; simp [Lib.lens] at g2 ⊢; omega⟩
 obtain ⟨w2, e3, g3, g4⟩ := s3 e.Private (0 : Int) ([] : List UInt8) e.Target e.Control e.Keys e.Private e.Langs e.Versions (200 : Int) bd
 rw [e3, Option.bind_some]
 have s4 : ∀ b y60 y62 y0 y1 y2 y3 y4 y5 z0 z2, ∃ l, S_PlainAnswer_c150 k v.1 b y60 y62 y0 y1 y2 y3 y4 y5 z0 z2 l1 w2 = some l ∧ FS 5 l := by
  intro b y60 y62 y0 y1 y2 y3 y4 y5 z0 z2
  unfold S_PlainAnswer_c150
  cases b with
  | false => exact ⟨_, rfl, f1.up (by omega)⟩
  | true =>
   have jl := joinT_len w2
   obtain ⟨g5, g6⟩ := f1.add (by omega) (nm := [118, 97, 114, 121]) (v := joinT w2) (by simp) (by omega)
   rw [cond_true, S_JoinList_eq hk _ (by omega), Option.bind_some, g5, Option.bind_some]; exact ⟨_, rfl, g6⟩
 obtain ⟨l2, e4, f2⟩ := s4 (decide ((w2.length : Int) > (0 : Int))) (0 : Int) ([] : List UInt8) e.Target e.Control e.Keys e.Private e.Langs e.Versions (200 : Int) bd
 rw [e4, Option.bind_some]
 have s5 : ∀ b y60 y62 y0 y1 y2 y3 y4 y5 z0 z2, ∃ l, S_PlainAnswer_c160 k v.1 b y60 y62 y0 y1 y2 y3 y4 y5 z0 z2 l2 = some l ∧ FS 6 l := by
  intro b y60 y62 y0 y1 y2 y3 y4 y5 z0 z2
  unfold S_PlainAnswer_c160
  cases b with
  | false => exact ⟨_, rfl, f2.up (by omega)⟩
  | true =>
   obtain ⟨g5, g6⟩ := f2.add (by omega) (nm := [99, 111, 110, 116, 101, 110, 116, 45, 108, 97, 110, 103, 117, 97, 103, 101]) (v := v.1) (by simp) (by omega)
   rw [cond_true, g5, Option.bind_some]; exact ⟨_, rfl, g6⟩
 obtain ⟨l3, e5, f3⟩ := s5 (!(v.1 == ([] : List UInt8))) (0 : Int) ([] : List UInt8) e.Target e.Control e.Keys e.Private e.Langs e.Versions (200 : Int) bd
 rw [e5, Option.bind_some]
 have hkl := he.k
 have s6 : ∀ b y60 y62 y0 y1 y3 y4 y5 z0 z2, ∃ l, S_PlainAnswer_c170 k b y60 y62 y0 y1 e.Keys y3 y4 y5 z0 z2 l3 = some l ∧ FS 7 l := by
  intro b y60 y62 y0 y1 y3 y4 y5 z0 z2
  unfold S_PlainAnswer_c170
  cases b with
  | false => exact ⟨_, rfl, f3.up (by omega)⟩
  | true =>
   obtain ⟨g5, g6⟩ := f3.add (by omega) (nm := [115, 117, 114, 114, 111, 103, 97, 116, 101, 45, 107, 101, 121]) (v := e.Keys) (by simp) (by omega)
   rw [cond_true, g5, Option.bind_some]; exact ⟨_, rfl, g6⟩
 obtain ⟨l4, e6, f4⟩ := s6 (!(e.Keys == ([] : List UInt8))) (0 : Int) ([] : List UInt8) e.Target e.Control e.Private e.Langs e.Versions (200 : Int) bd
 rw [e6, Option.bind_some]
 exact ⟨_, rfl, ⟨Nat.le_trans f4.1 (by omega), f4.2⟩⟩
theorem restA_tot {k : Nat} (hk : 1073741824 ≤ k) {o : IOrigin} (ho : OrgS o) {r : IRequest} (hr : fsz r.Fields < 67108864) {t : Int} {w : List UInt8 × Bool} : ∃ x, restA k o r t w = some x ∧ AnsS x := by
 have hn := ho.n
 unfold restA
 rw [S_FindResource_eq hk o _ (by omega), Option.bind_some]
 obtain ⟨a, b⟩ := findR_lt o.Resources w.1
 generalize findR o.Resources w.1 = fi at *
 by_cases c : fi < 0
 ·obtain ⟨x, e, h⟩ := S_l16Error_tot hk 404 t [109, 97, 120, 45, 97, 103, 101, 61, 49, 48] [110, 111, 110, 101] (by simp)
  rw [decide_eq_true c, cond_true, e]; exact ⟨x, rfl, h⟩
 ·obtain ⟨i, rfl⟩ := Int.eq_ofNat_of_zero_le (by omega : 0 ≤ fi)
  have hi : i < o.Resources.length := by omega
  have hx : idx o.Resources ((i : Nat) : Int) = some o.Resources[i] := idx_nat hi
  have hre := ho.r _ (List.getElem_mem hi)
  generalize o.Resources[i] = e at *
  have hv := hre.v.n
  rw [decide_eq_false c, cond_false, hx, Option.bind_some, S_VersionAt_eq hk e t (by omega), Option.bind_some]
  obtain ⟨a2, b2⟩ := vLast_lt (atP e.Versions t) e.Versions.length
  generalize vLast (atP e.Versions t) e.Versions.length = vi at *
  by_cases c2 : vi < 0
  ·obtain ⟨x, e, h⟩ := S_l16Error_tot hk 404 t [109, 97, 120, 45, 97, 103, 101, 61, 49, 48] [110, 111, 110, 101] (by simp)
   rw [decide_eq_true c2, cond_true, e]; exact ⟨x, rfl, h⟩
  ·obtain ⟨m, rfl⟩ := Int.eq_ofNat_of_zero_le (by omega : 0 ≤ vi)
   have hm : m < e.Versions.length := by omega
   have hy : idx e.Versions ((m : Nat) : Int) = some e.Versions[m] := idx_nat hm
   rw [decide_eq_false c2, cond_false, hy, Option.bind_some]
   cases e.Versions[m].Gone with
   | true =>
    obtain ⟨x, e, h⟩ := S_l16Error_tot hk 410 t [109, 97, 120, 45, 97, 103, 101, 61, 49, 48] [103, 111, 110, 101] (by simp)
    rw [cond_true, e]; exact ⟨x, rfl, h⟩
   | false =>
    rw [cond_false, ← hy]
    exact tailA_tot hk hre hr hm
theorem orgS_in {o : IOrigin} (h : OrgS o) : OrgIn o := ⟨by have := h.h; omega, by have := h.n; omega, fun e he => by
 have q := h.r e he
 have q1 := q.t
 have q2 := q.c
 have q3 := q.k
 have q4 := q.l
 have q5 := q.v.n
 exact ⟨by omega, by omega, by omega, by omega, fun x hx => by have := q.le x hx; omega, by omega⟩⟩
theorem S_PlainAnswer_tot {k : Nat} (hk : 1073741824 ≤ k) {o : IOrigin} (ho : OrgS o) {r : IRequest} (hr : ReqIn r) (hf : fsz r.Fields < 67108864) (ht : r.Target.length ≤ 1000) {t : Int} : ∃ x, S_PlainAnswer k o r t = some x ∧ AnsS x := by
 have bad : AnsS (⟨(400 : Int), ([(⟨([99, 97, 99, 104, 101, 45, 99, 111, 110, 116, 114, 111, 108] : List UInt8), ([110, 111, 45, 115, 116, 111, 114, 101] : List UInt8)⟩ : IField)] : List IField), ([98, 97, 100] : List UInt8)⟩ : IResponse) := ans_one (by simp) (by simp)
 rw [S_PlainAnswer, S_NormalTarget_eq hk _ (by omega), Option.bind_some, S_IsOrigin_eq hk o (orgS_in ho), Option.bind_some]
 have hrest := restA_tot hk ho hf (t := t) (w := normT r.Target)
 cases orgT o with
 | false => exact ⟨_, rfl, bad⟩
 | true =>
  rw [Bool.not_true, cond_false, S_IsRequest_eq hk r hr, Option.bind_some]
  cases isReq r with
  | false => exact ⟨_, rfl, bad⟩
  | true =>
   rw [Bool.not_true, cond_false]
   cases (normT r.Target).2 with
   | false => exact ⟨_, rfl, bad⟩
   | true =>
    rw [Bool.not_true, cond_false]
    cases (r.Host == o.Host) with
    | false => exact ⟨_, rfl, bad⟩
    | true =>
     rw [Bool.not_true, cond_false, S_l1In_eq, Option.bind_some]
     cases inR t 0 4102444799 with
     | false => exact ⟨_, rfl, bad⟩
     | true =>
      rw [Bool.not_true, cond_false]
      cases (r.Method == ([71, 69, 84] : List UInt8)) with
      | true => exact hrest
      | false =>
       rw [Bool.not_false, cond_true]
       cases (r.Method == ([72, 69, 65, 68] : List UInt8)) with
       | true => exact hrest
       | false =>
        obtain ⟨x, e, h⟩ := S_l16Error_tot hk 405 t [110, 111, 45, 115, 116, 111, 114, 101] [109, 101, 116, 104, 111, 100] (by simp)
        rw [Bool.not_false, cond_true, e]; exact ⟨x, rfl, h⟩
def stepF (n v : List UInt8) (s : Bool × List IField) (e : IField) : Bool × List IField := bif !(e.Name == n) then (s.1, s.2 ++ [e]) else bif !s.1 then (true, s.2 ++ [⟨n, v⟩]) else s
def setF (l : List IField) (n v : List UInt8) : List IField := bif !(l.foldl (stepF n v) (false, [])).1 then (l.foldl (stepF n v) (false, [])).2 ++ [⟨n, v⟩] else (l.foldl (stepF n v) (false, [])).2
theorem stepF_len (n v : List UInt8) (s : Bool × List IField) (e : IField) : (stepF n v s e).2.length ≤ s.2.length + 1 := by
 unfold stepF
 cases (e.Name == n) <;> cases s.1 <;> simp
theorem foldF_len (n v : List UInt8) : ∀ (l : List IField) (s : Bool × List IField), (l.foldl (stepF n v) s).2.length ≤ s.2.length + l.length
 | [], s => by simp
 | e :: l, s => by
  rw [List.foldl_cons]
  have := foldF_len n v l (stepF n v s e)
  have := stepF_len n v s e
  simp; omega
theorem setF_len (l : List IField) (n v : List UInt8) : (setF l n v).length ≤ l.length + 1 := by
 have := foldF_len n v l (false, [])
 simp at this
 unfold setF
 cases (l.foldl (stepF n v) (false, [])).1 <;> simp <;> omega
theorem S_SetField_eq {k : Nat} (hk : 1073741824 ≤ k) (l : List IField) (n v : List UInt8) (h : l.length < 1073741823) : S_SetField k l n v = some (setF l n v) := by
 have := fold_all (len := l.length) (g := fun j s => (l[j]?).elim s (stepF n v s)) (Inv := fun i s => s.2.length ≤ i) (F := fun m i (s : Bool × List IField) => S_SetField_b0 k m l n v s.1 i s.2) (out := id) (fun m i s hi hI => by
  have hl := stepF_len n v s l[i]
  have ha : ∀ e, app 32 s.2 [e] = some (s.2 ++ [e]) := fun e => appn_ok (by simp; omega)
  simp only [S_SetField_b0, bif_dec, lt_cast, hi, if_true, S_SetField_b1, S_SetField_b2, idx_nat hi, Option.bind_some, S_SetField_c17, S_SetField_c32, wrap_succ (by omega : i < 9223372036854775807), List.getElem?_eq_getElem hi, Option.elim_some, ha]
  refine ⟨?_, by omega⟩
  unfold stepF
  obtain ⟨s1, s2⟩ := s
  cases (l[i].Name == n) <;> cases s1 <;> rfl) (fun m i s hi => by
  simp only [S_SetField_b0, bif_dec, lt_cast]
  rw [if_neg (by omega)]; rfl) (k := k) (by omega) (s := (false, [])) (by simp)
 have h1 : S_SetField_b0 k k l n v false 0 [] = some (foldI (fun j s => (l[j]?).elim s (stepF n v s)) l.length 0 (false, [])) := this.1
 have h2 := foldF_len n v l (false, [])
 rw [S_SetField, h1, foldI_foldl l.length 0 _ (by omega), List.drop_zero, Option.bind_some, S_SetField_c42]
 unfold setF
 simp at h2
 cases (l.foldl (stepF n v) (false, [])).1 with
 | true => rfl
 | false => rw [Bool.not_false, cond_true, cond_true, appn_ok (by simp; omega)]; rfl
theorem I_SetField_eq {k : Nat} (hk : 1073741824 ≤ k) (l : List IField) (n v : List UInt8) (h : l.length < 1073741823) : I_SetField k l n v = some (setF l n v) := by
 have := fold_all (len := l.length) (g := fun j s => (l[j]?).elim s (stepF n v s)) (Inv := fun i s => s.2.length ≤ i) (F := fun m i (s : Bool × List IField) => I_SetField_b0 k m n v s.1 l (l.length : Int) i s.2) (out := id) (fun m i s hi hI => by
  have hl := stepF_len n v s l[i]
  have ha : ∀ e, app 32 s.2 [e] = some (s.2 ++ [e]) := fun e => appn_ok (by simp; omega)
  simp only [I_SetField_b0, bif_dec, lt_cast, hi, if_true, I_SetField_b1, idx_nat hi, Option.bind_some, I_SetField_c21, I_SetField_c27, wrap_succ (by omega : i < 9223372036854775807), List.getElem?_eq_getElem hi, Option.elim_some, ha]
  refine ⟨?_, by omega⟩
  unfold stepF
  obtain ⟨s1, s2⟩ := s
  cases (l[i].Name == n) <;> cases s1 <;> rfl) (fun m i s hi => by
  simp only [I_SetField_b0, bif_dec, lt_cast]
  rw [if_neg (by omega)]; rfl) (k := k) (by omega) (s := (false, [])) (by simp)
 have h1 : I_SetField_b0 k k n v false l (l.length : Int) 0 [] = some (foldI (fun j s => (l[j]?).elim s (stepF n v s)) l.length 0 (false, [])) := this.1
 have h2 := foldF_len n v l (false, [])
 rw [I_SetField, h1, foldI_foldl l.length 0 _ (by omega), List.drop_zero, Option.bind_some, I_SetField_c36]
 unfold setF
 simp at h2
 cases (l.foldl (stepF n v) (false, [])).1 with
 | true => rfl
 | false => rw [Bool.not_false, cond_true, cond_true, appn_ok (by simp; omega)]; rfl
theorem setF_inv {B : Nat} (n v : List UInt8) : ∀ (l : List IField) (s : Bool × List IField), valsF s.2 n = (bif s.1 then [v] else []) → (∀ e ∈ s.2, e.Name.length ≤ 20 ∧ e.Value.length ≤ B) → (∀ e ∈ l, e.Name.length ≤ 20 ∧ e.Value.length ≤ B) → n.length ≤ 20 → v.length ≤ B →
    valsF (l.foldl (stepF n v) s).2 n = (bif (l.foldl (stepF n v) s).1 then [v] else []) ∧ ∀ e ∈ (l.foldl (stepF n v) s).2, e.Name.length ≤ 20 ∧ e.Value.length ≤ B
 | [], s, h, h2, _, _, _ => ⟨h, h2⟩
 | e :: l, s, h, h2, h3, hn, hv => by
  rw [List.foldl_cons]
  refine setF_inv n v l (stepF n v s e) ?_ ?_ (fun x hx => h3 x (.tail _ hx)) hn hv
  ·unfold stepF
   cases hc : (e.Name == n) with
   | false =>
    simp only [Bool.not_false, cond_true]
    unfold valsF at h ⊢
    rw [List.flatMap_append, h]
    simp [valOfF, hc]
   | true =>
    cases hs : s.1 with
    | true => simp only [Bool.not_true, cond_false]; rw [h, hs]
    | false =>
     simp only [Bool.not_true, cond_false, Bool.not_false, cond_true]
     unfold valsF at h ⊢
     rw [List.flatMap_append, h, hs]
     simp [valOfF]
  ·intro x hx
   unfold stepF at hx
   cases hc : (e.Name == n) <;> cases hs : s.1 <;> simp only [hc, hs, Bool.not_true, Bool.not_false, cond_true, cond_false, List.mem_append, List.mem_singleton] at hx
   ·rcases hx with hx | rfl
    ·exact h2 x hx
    ·exact h3 _ (.head _)
   ·rcases hx with hx | rfl
    ·exact h2 x hx
    ·exact h3 _ (.head _)
   ·rcases hx with hx | rfl
    ·exact h2 x hx
    ·exact ⟨hn, hv⟩
   ·exact h2 x hx
theorem setF_get {B : Nat} {l : List IField} {n v : List UInt8} (h : ∀ e ∈ l, e.Name.length ≤ 20 ∧ e.Value.length ≤ B) (hn : n.length ≤ 20) (hv : v.length ≤ B) : valsF (setF l n v) n = [v] ∧ ∀ e ∈ setF l n v, e.Name.length ≤ 20 ∧ e.Value.length ≤ B := by
 obtain ⟨q1, q2⟩ := setF_inv n v l (false, []) rfl (by simp) h hn hv
 unfold setF
 generalize l.foldl (stepF n v) (false, []) = s at *
 cases hs : s.1 with
 | true => rw [hs] at q1; exact ⟨q1, q2⟩
 | false =>
  rw [hs] at q1
  simp only [Bool.not_false, cond_true]
  refine ⟨?_, fun e he => ?_⟩
  ·unfold valsF at q1 ⊢
   rw [List.flatMap_append, q1]
   simp [valOfF]
  ·rcases List.mem_append.1 he with he | he
   ·exact q2 e he
   ·rw [List.mem_singleton] at he; subst he; exact ⟨hn, hv⟩
def unqL : List UInt8 → List UInt8 → List UInt8 × Option Nat
 | [], acc => (acc, none)
 | [c], acc => bif c == 34 then (acc, some 0) else (acc ++ [c], none)
 | c :: d :: r, acc => bif c == 34 then (acc, some (r.length + 1)) else bif c == 92 then unqL r (acc ++ [d]) else unqL (d :: r) (acc ++ [c])
theorem unqL_q (r acc : List UInt8) {c : UInt8} (h : (c == 34) = true) : unqL (c :: r) acc = (acc, some r.length) := by
 cases r with
 | nil => rw [unqL, h]; rfl
 | cons d r => rw [unqL, h]; rfl
theorem unqL_b (r acc : List UInt8) {c d : UInt8} (h : (c == 34) = false) (h2 : (c == 92) = true) : unqL (c :: d :: r) acc = unqL r (acc ++ [d]) := by rw [unqL, h, h2]; rfl
theorem unqL_e (acc : List UInt8) {c : UInt8} (h : (c == 34) = false) : unqL [c] acc = (acc ++ [c], none) := by rw [unqL, h]; rfl
theorem unqL_p (r acc : List UInt8) {c : UInt8} (h : (c == 34) = false) (h2 : (c == 92) = false) : unqL (c :: r) acc = unqL r (acc ++ [c]) := by
 cases r with
 | nil => rw [unqL_e acc h, unqL]
 | cons d r => rw [unqL, h, h2]; rfl
theorem intsOf_snoc (a : List UInt8) (c : UInt8) : intsOf a ++ [(c.toNat : Int)] = intsOf (a ++ [c]) := by unfold intsOf; simp
def q34 (x : List UInt8) : Bool := x[0]? == some 34
def unqT (x : List UInt8) : List UInt8 × Bool := ((unqL (x.drop 1) []).1, q34 x && ((unqL (x.drop 1) []).2 == some 0))
theorem I_unq_loop {k : Nat} {x : List UInt8} (hx : x.length < 1073741824) : ∀ (n i : Nat) (acc : List UInt8), x.length - i < n → 1 ≤ i → i ≤ x.length + 1 → acc.length ≤ i →
    ∃ j t, I_UnquoteText_b0 k n x (i : Int) (intsOf acc) = some (j, intsOf t) ∧ t = (unqL (x.drop i) acc).1 ∧ (j == (x.length : Int) - 1) = ((unqL (x.drop i) acc).2 == some 0) := by
 intro n
 induction n with
 | zero => intro i acc h; omega
 | succ n ih =>
  intro i acc hn h1 hi ha
  rw [I_UnquoteText_b0, bif_dec]
  by_cases c : i < x.length
  ·have u34 : ((UInt8.toNat x[i] : Int) != 34) = !(x[i] == 34) := by unfold bne; rw [← u8_eq x[i] 34]; rfl
   have u92 : ((UInt8.toNat x[i] : Int) == 92) = (x[i] == 92) := u8_eq x[i] 92
   rw [if_pos (by omega), idx_nat c, Option.bind_some, u34, List.drop_eq_getElem_cons c]
   cases h34 : (x[i] == 34) with
   | true =>
    rw [unqL_q _ _ h34, Bool.not_true, cond_false]
    refine ⟨_, _, rfl, rfl, ?_⟩
    rw [List.length_drop]
    by_cases h : i + 1 = x.length
    ·rw [beq_iff_eq.2 (by omega : (i : Int) = (x.length : Int) - 1), show x.length - (i + 1) = 0 by omega]; rfl
    ·rw [beq_eq_false_iff_ne.2 (by omega : (i : Int) ≠ (x.length : Int) - 1), beq_eq_false_iff_ne.2 (by simp; omega)]
   | false =>
    rw [Bool.not_false, cond_true, I_UnquoteText_b1, idx_nat c, Option.bind_some, u92]
    cases h92 : (x[i] == 92) with
    | false =>
     rw [unqL_p _ _ h34 h92, cond_false, I_UnquoteText_c27, cond_false, Option.bind_some, idx_nat c, Option.bind_some, appn_ok (by simp [intsOf]; omega), Option.bind_some, Option.bind_some, intsOf_snoc, wrap_succ (by omega)]
     exact ih (i + 1) (acc ++ [x[i]]) (by omega) (by omega) (by omega) (by simp; omega)
    | true =>
     rw [cond_true, wrap_succ (by omega)]
     by_cases c2 : i + 1 < x.length
     ·rw [decide_eq_true (by omega : ((i + 1 : Nat) : Int) < (x.length : Int)), I_UnquoteText_c27, cond_true, wrap_succ (by omega), Option.bind_some, idx_nat c2, Option.bind_some, appn_ok (by simp [intsOf]; omega), Option.bind_some, Option.bind_some, intsOf_snoc, List.drop_eq_getElem_cons c2, unqL_b _ _ h34 h92, wrap_succ (by omega)]
      exact ih (i + 1 + 1) (acc ++ [x[i + 1]]) (by omega) (by omega) (by omega) (by simp; omega)
     ·rw [decide_eq_false (by omega : ¬ ((i + 1 : Nat) : Int) < (x.length : Int)), I_UnquoteText_c27, cond_false, Option.bind_some, idx_nat c, Option.bind_some, appn_ok (by simp [intsOf]; omega), Option.bind_some, Option.bind_some, intsOf_snoc, List.drop_of_length_le (by omega : x.length ≤ i + 1), unqL_e _ h34, wrap_succ (by omega)]
      have := ih (i + 1) (acc ++ [x[i]]) (by omega) (by omega) (by omega) (by simp; omega)
      rw [List.drop_of_length_le (by omega : x.length ≤ i + 1), unqL] at this
      exact this
  ·rw [if_neg (by omega), List.drop_of_length_le (by omega), unqL]
   exact ⟨_, _, rfl, rfl, by rw [beq_eq_false_iff_ne.2 (by omega : (i : Int) ≠ (x.length : Int) - 1)]; rfl⟩
theorem hasPre_q {k : Nat} (x : List UInt8) : strings_HasPrefix k x ([34] : List UInt8) = some (q34 x) := by
 rw [strings_HasPrefix, internal_stringslite_HasPrefix, bif_dec]
 cases x with
 | nil => rfl
 | cons c r =>
  rw [if_pos (by simp; omega)]
  have : ssub (c :: r) (0 : Int) ((([34] : List UInt8).length : Nat) : Int) = some [c] := by
   have := ssub_take (x := c :: r) (i := 1) (by simp)
   simpa using this
  rw [this, Option.bind_some, Option.bind_some]
  unfold q34
  simp
theorem I_UnquoteText_eq {k : Nat} (hk : 1073741824 ≤ k) (x : List UInt8) (h : x.length < 1073741000) : I_UnquoteText k x = some (unqT x) := by
 obtain ⟨j, t, e1, e2, e3⟩ := I_unq_loop (k := k) (x := x) (by omega) k 1 [] (by omega) (by omega) (by omega) (by simp)
 rw [show (((1 : Nat)) : Int) = 1 from rfl, show intsOf [] = [] from rfl] at e1
 rw [I_UnquoteText, e1, Option.bind_some, hasPre_q, Option.bind_some, wrap_id (n := (x.length : Int) - 1) (by omega) (by omega), bytes_ints, e2, e3]
 unfold unqT
 cases q34 x <;> rfl
theorem unqL_len : ∀ (x acc : List UInt8), (unqL x acc).1.length ≤ acc.length + x.length
 | [], acc => by simp [unqL]
 | [c], acc => by
  cases h : (c == 34) with
  | true => rw [unqL_q _ _ h]; simp
  | false => rw [unqL_e _ h]; simp
 | c :: d :: r, acc => by
  cases h : (c == 34) with
  | true => rw [unqL_q _ _ h]; simp
  | false =>
   cases h2 : (c == 92) with
   | true => rw [unqL_b _ _ h h2]; have := unqL_len r (acc ++ [d]); simp at this ⊢; omega
   | false => rw [unqL_p _ _ h h2]; have := unqL_len (d :: r) (acc ++ [c]); simp at this ⊢; omega
theorem unqT_len (x : List UInt8) : (unqT x).1.length ≤ x.length := by
 have := unqL_len (x.drop 1) []
 unfold unqT; simp at this ⊢; omega
def dirV (v : List UInt8) (has : Bool) : Option (List UInt8) := bif has then (bif q34 v then (bif (unqT v).2 then some (unqT v).1 else none) else (bif isTok v then some v else none)) else some v
def dirQ (n : List UInt8) (o : Option (List UInt8)) (has : Bool) : List IDirective := match o with
 | some v => bif isTok n then [(⟨lowT n, v, has⟩ : IDirective)] else []
 | none => []
def dirP (e : List UInt8) : List IDirective := dirQ (pairT e).1 (dirV (pairT e).2.1 (pairT e).2.2) (pairT e).2.2
def parseD (x : List UInt8) : List IDirective := (splitL x).flatMap dirP
theorem dirP_len (e : List UInt8) : (dirP e).length ≤ 1 := by
 unfold dirP dirQ
 cases dirV (pairT e).2.1 (pairT e).2.2 with
 | none => simp
 | some v => simp only; cases isTok (pairT e).1 <;> simp
theorem dirs_len : ∀ l : List (List UInt8), (l.flatMap dirP).length ≤ l.length
 | [] => by simp
 | p :: l => by
  have := dirs_len l
  have := dirP_len p
  rw [List.flatMap_cons, List.length_append, List.length_cons]; omega
theorem parseD_len (x : List UInt8) : (parseD x).length ≤ x.length + 1 := by
 have h1 := dirs_len (splitL x)
 have h2 := splitL_len x
 unfold parseD; omega
theorem dirV_len {v t : List UInt8} {has : Bool} (h : dirV v has = some t) : t.length ≤ v.length := by
 unfold dirV at h
 have hu := unqT_len v
 cases has with
 | false => cases h; omega
 | true =>
  cases hq : q34 v with
  | true =>
   rw [hq] at h
   cases h2 : (unqT v).2 with
   | true => rw [h2] at h; cases h; exact hu
   | false => rw [h2] at h; cases h
  | false =>
   rw [hq] at h
   cases h2 : isTok v with
   | true => rw [h2] at h; cases h; omega
   | false => rw [h2] at h; cases h
theorem I_dir {k : Nat} (hk : 1073741824 ≤ k) {x6 : List UInt8} {x14 x15 : Int} {r3 : List IDirective} {n v : List UInt8} {has b f : Bool} {r13 : List (List UInt8)} (hv : v.length < 1073741000) (hb : b = (has && q34 v)) (hf : f = (!has || isTok v)) :
    ∃ o, I_ParseDirectives_c40 k x6 v f x14 x15 b r3 (lowT n) v has r13 = some o ∧ dirV v has = (bif o.1 then some o.2 else none) := by
 subst hb
 subst hf
 unfold I_ParseDirectives_c40 dirV
 rw [I_UnquoteText_eq hk v hv]
 simp only [Option.bind_some]
 cases has <;> cases q34 v <;> cases h1 : (unqT v).2 <;> cases isTok v <;> exact ⟨_, rfl, by simp [h1]⟩
theorem I_dpart {k : Nat} (hk : 1073741824 ≤ k) {x14 x15 : Int} {r3 : List IDirective} {r13 : List (List UInt8)} {e : List UInt8} (hi : idx r13 x15 = some e) (he : e.length < 1073741000) (hr : r3.length ≤ 1073741824) : I_ParseDirectives_b1 k x14 x15 r3 r13 = some (r3 ++ dirP e) := by
 obtain ⟨p1, p2⟩ := pairT_len e
 have fin : ∀ {b f : Bool} (hb : b = ((pairT e).2.2 && q34 (pairT e).2.1)) (hf : f = (!(pairT e).2.2 || isTok (pairT e).2.1)), ((I_ParseDirectives_c40 k (pairT e).1 (pairT e).2.1 f x14 x15 b r3 (lowT (pairT e).1) (pairT e).2.1 (pairT e).2.2 r13).bind fun o6 =>
     (bif o6.1 then ((I_IsToken k (pairT e).1).bind fun w7 => ((I_ParseDirectives_c51 k x14 x15 w7 r3 (lowT (pairT e).1) o6.2 (pairT e).2.2 r13).bind fun o8 => some (o8))) else ((I_ParseDirectives_c51 k x14 x15 false r3 (lowT (pairT e).1) o6.2 (pairT e).2.2 r13).bind fun o9 => some (o9)))) = some (r3 ++ dirP e) := by
  intro b f hb hf
  obtain ⟨o, e1, e2⟩ := I_dir hk (x6 := (pairT e).1) (x14 := x14) (x15 := x15) (r3 := r3) (n := (pairT e).1) (r13 := r13) (show (pairT e).2.1.length < 1073741000 by omega) hb hf
  rw [e1, Option.bind_some]
  unfold dirP dirQ
  rw [e2]
  cases o.1 with
  | false => simp only [cond_false, I_ParseDirectives_c51, Option.bind_some, List.append_nil]
  | true =>
   simp only [cond_true, I_IsToken_eq hk _ (show (pairT e).1.length < 1073741824 by omega), Option.bind_some, I_ParseDirectives_c51]
   cases isTok (pairT e).1 with
   | true => rw [cond_true, cond_true, appn_ok (by simp; omega)]; rfl
   | false => rw [cond_false, cond_false, List.append_nil]; rfl
 rw [I_ParseDirectives_b1, hi, Option.bind_some, Option.bind_some, I_SplitPair_eq e (by omega), Option.bind_some, I_LowerText_eq (by omega) _ (by omega), Option.bind_some]
 cases hhas : (pairT e).2.2 with
 | false =>
  simp only [Bool.not_false, cond_true, cond_false]
  have := fin (b := false) (f := true) (by rw [hhas]; rfl) (by rw [hhas]; rfl)
  rw [hhas] at this
  exact this
 | true =>
  simp only [Bool.not_true, cond_true, cond_false, hasPre_q, Option.bind_some, I_IsToken_eq hk _ (show (pairT e).2.1.length < 1073741824 by omega)]
  have := fin (b := q34 (pairT e).2.1) (f := isTok (pairT e).2.1) (by rw [hhas, Bool.true_and]) (by rw [hhas]; rfl)
  rw [hhas] at this
  exact this
theorem I_ParseDirectives_eq {k : Nat} (hk : 1073741824 ≤ k) (x : List UInt8) (h : x.length < 1073741000) : I_ParseDirectives k x = some (parseD x) := by
 have hl := splitL_len x
 have hm := fun p => splitL_mem (x := x) (p := p)
 rw [I_ParseDirectives, I_SplitList_eq hk x h, Option.bind_some]
 unfold parseD
 generalize splitL x = w at hl hm
 have := fold_all (len := w.length) (g := fun j s => s ++ (w[j]?).elim [] dirP) (Inv := fun i s => s.length ≤ i) (F := fun m i s => I_ParseDirectives_b0 k m (w.length : Int) i s w) (out := id) (fun m i s hi hI => by
  have hp := hm w[i] (List.getElem_mem hi)
  have hI : s.length ≤ i := hI
  have e1 : (w[i]?).elim [] dirP = dirP w[i] := by rw [List.getElem?_eq_getElem hi, Option.elim_some]
  have hl1 := dirP_len w[i]
  constructor
  ·show I_ParseDirectives_b0 k (m + 1) (w.length : Int) (i : Int) s w = I_ParseDirectives_b0 k m (w.length : Int) _ (s ++ (w[i]?).elim [] dirP) w
   rw [e1, I_ParseDirectives_b0, bif_dec, if_pos (by omega), I_dpart hk (idx_nat hi) (by omega) (by omega), Option.bind_some, wrap_succ (by omega)]
  ·show (s ++ (w[i]?).elim [] dirP).length ≤ _
   rw [e1, List.length_append]; omega) (fun m i s hi => by
  simp only [I_ParseDirectives_b0, bif_dec, lt_cast]
  rw [if_neg (by omega)]; rfl) (k := k) (by omega) (s := []) (by simp)
 have h1 : I_ParseDirectives_b0 k k (w.length : Int) 0 [] w = some (foldI (fun j s => s ++ (w[j]?).elim [] dirP) w.length 0 []) := this.1
 rw [h1, foldI_append (f := dirP) w.length 0 [] (by omega), List.drop_zero]; rfl
def dirN (l : List IDirective) (s : List UInt8) (i : Nat) : Bool := match l[i]? with | some e => e.Name == s | none => false
def findD (l : List IDirective) (s : List UInt8) : Option Nat := firstI (dirN l s) l.length 0
theorem I_FindDirective_eq {k : Nat} (hk : 1073741824 ≤ k) (l : List IDirective) (s : List UInt8) (h : l.length < 1073741824) : I_FindDirective k l s = some (oInt (findD l s)) := by
 have := find_all (len := l.length) (c := fun i => bif dirN l s i then some (i : Int) else none) (F := fun n i => I_FindDirective_b0 k n s l (l.length : Int) i) (fun n i hi => by
  simp only [I_FindDirective_b0, idx_nat hi, Option.bind_some, wrap_succ (by omega : i < 9223372036854775807), bif_dec, lt_cast, hi, if_true, dirN, List.getElem?_eq_getElem hi]
  cases (l[i].Name == s) <;> rfl) (fun n i hi => by
  simp only [I_FindDirective_b0, bif_dec, lt_cast]
  rw [if_neg (by omega)]) (k := k) (by omega)
 rw [I_FindDirective, this, findI_first]
 unfold findD
 cases firstI (dirN l s) l.length 0 <;> rfl
theorem oInt_lt (o : Option Nat) : decide (oInt o < 0) = o.isNone := by
 cases o with
 | none => rfl
 | some i => exact decide_eq_false (by show ¬ ((i : Int) < 0); omega)
def capS (n : Int) : Int := if n < 2147483648 then n else 2147483648
def secL : List UInt8 → Int → Option Int
 | [], q => some q
 | c :: r, q => bif inR (c.toNat : Int) 48 57 then secL r (capS (10 * q + ((c.toNat : Int) - 48))) else none
theorem capS_in {q : Int} (h : 0 ≤ q) : 0 ≤ capS q ∧ capS q ≤ 2147483648 := by unfold capS; split <;> omega
theorem wrap_digS8 : ∀ j : Fin 256, (48 ≤ j.val ∧ j.val ≤ 57) → IntKind.wrap .u8 ((j.val : Int) - 48) = (j.val : Int) - 48 := by decide +kernel
theorem wrap_digS (c : UInt8) (h : 48 ≤ c.toNat ∧ c.toNat ≤ 57) : IntKind.wrap .u8 ((c.toNat : Int) - 48) = (c.toNat : Int) - 48 := wrap_digS8 ⟨c.toNat, UInt8.toNat_lt c⟩ h
theorem inR_iffS {n a b : Int} : inR n a b = true ↔ a ≤ n ∧ n ≤ b := by unfold inR; simp
theorem I_sec_loop {k : Nat} {w : Int} {x : List UInt8} (hx : x.length < 1073741824) : ∀ (n i : Nat) (q : Int), x.length - i < n → i ≤ x.length → 0 ≤ q → q ≤ 2147483648 →
    I_SecondsOf_b0 k n q (x.length : Int) (i : Int) (intsOf x) = some (match secL (x.drop i) q with | some r => .nrm r | none => .oth (0, true)) := by
 intro n
 induction n with
 | zero => intro i q h; omega
 | succ n ih =>
  intro i q hn hi h0 h1
  rw [I_SecondsOf_b0, bif_dec]
  by_cases c : i < x.length
  ·have hb := UInt8.toNat_lt x[i]
   rw [if_pos (by omega), ints_idx c, Option.bind_some, Option.bind_some, List.drop_eq_getElem_cons c, secL, bif_dec, bif_dec]
   cases hr : inR (x[i].toNat : Int) 48 57 with
   | false =>
    have hno : ¬ (48 ≤ (x[i].toNat : Int) ∧ (x[i].toNat : Int) ≤ 57) := fun e => by rw [inR_iffS.2 e] at hr; cases hr
    by_cases c1 : (x[i].toNat : Int) < 48
    ·rw [if_pos c1]; rfl
    ·rw [if_neg c1, if_pos (by omega)]; rfl
   | true =>
    obtain ⟨i1, i2⟩ := inR_iffS.1 hr
    have cp := capS_in (q := 10 * q + ((x[i].toNat : Int) - 48)) (by omega)
    rw [if_neg (by omega), if_neg (by omega), cond_true, wrap_digS _ (by omega), wrap_id (n := (x[i].toNat : Int) - 48) (by omega) (by omega), wrap_id (n := 10 * q) (by omega) (by omega), wrap_id (n := 10 * q + ((x[i].toNat : Int) - 48)) (by omega) (by omega), wrap_succ (by omega)]
    exact ih (i + 1) _ (by omega) (by omega) cp.1 cp.2
  ·rw [if_neg (by omega), List.drop_of_length_le (by omega), secL]
def secV (v : List UInt8) : Int := (secL v 0).getD 0
def secOf (l : List IDirective) (s : List UInt8) : Int × Bool := match findD l s with | some i => (secV ((l[i]?.map (·.Value)).getD []), true) | none => (0, false)
def dszOk (l : List IDirective) : Prop := l.length < 1073741824 ∧ ∀ e ∈ l, e.Value.length < 1073741824
theorem findD_lt {l : List IDirective} {s : List UInt8} {i : Nat} (h : findD l s = some i) : i < l.length := firstI_lt h
theorem I_SecondsOf_eq {k : Nat} (hk : 1073741824 ≤ k) (l : List IDirective) (s : List UInt8) (h : dszOk l) : I_SecondsOf k l s = some (secOf l s) := by
 rw [I_SecondsOf, I_FindDirective_eq hk l s h.1, Option.bind_some, oInt_lt]
 unfold secOf
 cases hf : findD l s with
 | none => rfl
 | some i =>
  have hi := findD_lt hf
  have hv := h.2 l[i] (List.getElem_mem hi)
  have := I_sec_loop (k := k) (w := 0) hv k 0 0 (by omega) (by omega) (by omega) (by omega)
  rw [show (((0 : Nat)) : Int) = 0 from rfl, List.drop_zero] at this
  show (bif false then some ((0 : Int), false) else ((idx l (i : Int)).bind _)) = _
  rw [cond_false, idx_nat hi, Option.bind_some, ints_len, this, Option.bind_some]
  simp only [List.getElem?_eq_getElem hi, Option.map_some, Option.getD_some]
  unfold secV
  cases secL l[i].Value 0 <;> rfl
theorem parseD_ok (x : List UInt8) (h : x.length < 1073741000) : dszOk (parseD x) := by
 refine ⟨by have := parseD_len x; omega, fun e he => ?_⟩
 unfold parseD at he
 obtain ⟨y, hy, he⟩ := List.mem_flatMap.1 he
 have hm := splitL_mem hy
 have hp := pairT_len y
 unfold dirP dirQ at he
 cases hd : dirV (pairT y).2.1 (pairT y).2.2 with
 | none => rw [hd] at he; simp at he
 | some v =>
  rw [hd] at he
  simp only at he
  have hl := dirV_len hd
  cases ht : isTok (pairT y).1 with
  | false => rw [ht] at he; simp at he
  | true =>
   rw [ht] at he
   have : e = ⟨lowT (pairT y).1, v, (pairT y).2.2⟩ := by simpa using he
   subst this
   show v.length < _
   omega
def rulesT (fs : List IField) : List IDirective := parseD (getF fs [99, 97, 99, 104, 101, 45, 99, 111, 110, 116, 114, 111, 108]).1
theorem I_rulesOf_eq {k : Nat} (hk : 1073741824 ≤ k) (l : List IField) (h : fsz l < 268435456) : I_rulesOf k l = some (rulesT l) := by
 have := getF_len l [99, 97, 99, 104, 101, 45, 99, 111, 110, 116, 114, 111, 108]
 rw [I_rulesOf, I_GetField_eq hk l _ h, Option.bind_some, I_ParseDirectives_eq hk _ (by omega)]; rfl
theorem rulesT_ok (l : List IField) (h : fsz l < 268435456) : dszOk (rulesT l) := by
 have := getF_len l [99, 97, 99, 104, 101, 45, 99, 111, 110, 116, 114, 111, 108]
 exact parseD_ok _ (by omega)
def mx0 (n : Int) : Int := if n > 0 then n else 0
def mnG (n : Int) : Int := if 86400 < n then 86400 else n
def lifeD (code : Int) (fs : List IField) : Int :=
 bif hasF fs [101, 120, 112, 105, 114, 101, 115] then
  (bif !(dateF fs [101, 120, 112, 105, 114, 101, 115]).2 then 0 else bif !(dateF fs [100, 97, 116, 101]).2 then 0 else mx0 (IntKind.wrap .i64 ((dateF fs [101, 120, 112, 105, 114, 101, 115]).1 - (dateF fs [100, 97, 116, 101]).1)))
 else bif !(code == 200) then 0 else bif !(dateF fs [100, 97, 116, 101]).2 then 0 else bif !(dateF fs [108, 97, 115, 116, 45, 109, 111, 100, 105, 102, 105, 101, 100]).2 then 0 else
  mx0 (mnG (IntKind.wrap .i64 ((IntKind.wrap .i64 ((dateF fs [100, 97, 116, 101]).1 - (dateF fs [108, 97, 115, 116, 45, 109, 111, 100, 105, 102, 105, 101, 100]).1)).tdiv 10)))
def lifeT (code : Int) (fs : List IField) : Int :=
 bif (secOf (rulesT fs) [115, 45, 109, 97, 120, 97, 103, 101]).2 then (secOf (rulesT fs) [115, 45, 109, 97, 120, 97, 103, 101]).1
 else bif (secOf (rulesT fs) [109, 97, 120, 45, 97, 103, 101]).2 then (secOf (rulesT fs) [109, 97, 120, 45, 97, 103, 101]).1 else lifeD code fs
theorem dv10 (n : Int) : dv n 10 = some (n.tdiv 10) := rfl
theorem I_life_b {k : Nat} (hk : 1073741824 ≤ k) (x : IResponse) (h : fsz x.Fields < 268435456) : I_LifetimeOf_b0 k k (([([115, 45, 109, 97, 120, 97, 103, 101] : List UInt8), ([109, 97, 120, 45, 97, 103, 101] : List UInt8)] : List (List UInt8)).length : Int) (0 : Int) x.Code x.Fields x.Body (rulesT x.Fields) ([([115, 45, 109, 97, 120, 97, 103, 101] : List UInt8), ([109, 97, 120, 45, 97, 103, 101] : List UInt8)] : List (List UInt8)) = some (bif (secOf (rulesT x.Fields) [115, 45, 109, 97, 120, 97, 103, 101]).2 then .oth (secOf (rulesT x.Fields) [115, 45, 109, 97, 120, 97, 103, 101]).1 else bif (secOf (rulesT x.Fields) [109, 97, 120, 45, 97, 103, 101]).2 then .oth (secOf (rulesT x.Fields) [109, 97, 120, 45, 97, 103, 101]).1 else .nrm ()) := by
 have hr := rulesT_ok _ h
 obtain ⟨k', e⟩ : ∃ k', k = k' + 3 := ⟨k - 3, by omega⟩
 have l2 : (([([115, 45, 109, 97, 120, 97, 103, 101] : List UInt8), ([109, 97, 120, 45, 97, 103, 101] : List UInt8)] : List (List UInt8)).length : Int) = 2 := rfl
 have i0 : idx ([([115, 45, 109, 97, 120, 97, 103, 101] : List UInt8), ([109, 97, 120, 45, 97, 103, 101] : List UInt8)] : List (List UInt8)) 0 = some [115, 45, 109, 97, 120, 97, 103, 101] := rfl
 have i1 : idx ([([115, 45, 109, 97, 120, 97, 103, 101] : List UInt8), ([109, 97, 120, 45, 97, 103, 101] : List UInt8)] : List (List UInt8)) 1 = some [109, 97, 120, 45, 97, 103, 101] := rfl
 have w0 : IntKind.wrap .i64 ((0 : Int) + 1) = 1 := by decide
 have w1 : IntKind.wrap .i64 ((1 : Int) + 1) = 2 := by decide
 have main : I_LifetimeOf_b0 k (k' + 1 + 1 + 1) 2 (0 : Int) x.Code x.Fields x.Body (rulesT x.Fields) ([([115, 45, 109, 97, 120, 97, 103, 101] : List UInt8), ([109, 97, 120, 45, 97, 103, 101] : List UInt8)] : List (List UInt8)) = some (bif (secOf (rulesT x.Fields) [115, 45, 109, 97, 120, 97, 103, 101]).2 then .oth (secOf (rulesT x.Fields) [115, 45, 109, 97, 120, 97, 103, 101]).1 else bif (secOf (rulesT x.Fields) [109, 97, 120, 45, 97, 103, 101]).2 then .oth (secOf (rulesT x.Fields) [109, 97, 120, 45, 97, 103, 101]).1 else .nrm ()) := by
  rw [I_LifetimeOf_b0, show decide ((0 : Int) < 2) = true from rfl, cond_true, i0, Option.bind_some, Option.bind_some, I_SecondsOf_eq hk _ _ hr, Option.bind_some, w0]
  cases (secOf (rulesT x.Fields) [115, 45, 109, 97, 120, 97, 103, 101]).2 with
  | true => rfl
  | false =>
   rw [cond_false, cond_false, I_LifetimeOf_b0, show decide ((1 : Int) < 2) = true from rfl, cond_true, i1, Option.bind_some, Option.bind_some, I_SecondsOf_eq hk _ _ hr, Option.bind_some, w1]
   cases (secOf (rulesT x.Fields) [109, 97, 120, 45, 97, 103, 101]).2 with
   | true => rfl
   | false => rw [cond_false, cond_false, I_LifetimeOf_b0, show decide ((2 : Int) < 2) = false from rfl, cond_false]
 rw [l2, ← main]
 exact congrArg (fun z => I_LifetimeOf_b0 k z 2 (0 : Int) x.Code x.Fields x.Body (rulesT x.Fields) _) e
theorem I_LifetimeOf_eq {k : Nat} (hk : 1073741824 ≤ k) (x : IResponse) (h : fsz x.Fields < 268435456) : I_LifetimeOf k x = some (lifeT x.Code x.Fields) := by
 have hl : x.Fields.length < 1073741824 := by unfold fsz at h; omega
 rw [I_LifetimeOf, I_rulesOf_eq hk _ h, Option.bind_some, I_life_b hk x h, Option.bind_some]
 unfold lifeT
 cases (secOf (rulesT x.Fields) [115, 45, 109, 97, 120, 97, 103, 101]).2 with
 | true => rfl
 | false =>
  rw [cond_false, cond_false]
  cases (secOf (rulesT x.Fields) [109, 97, 120, 45, 97, 103, 101]).2 with
  | true => rfl
  | false =>
   rw [cond_false, cond_false]
   simp only [oc]
   rw [I_dateField_eq hk x _ h, Option.bind_some, I_hasField_eq hk _ _ hl, Option.bind_some, I_dateField_eq hk x _ h, Option.bind_some, I_dateField_eq hk x _ h, Option.bind_some, dv10, Option.bind_some]
   unfold lifeD
   cases hasF x.Fields [101, 120, 112, 105, 114, 101, 115] with
   | true =>
    cases (dateF x.Fields [101, 120, 112, 105, 114, 101, 115]).2 with
    | false => rfl
    | true => cases (dateF x.Fields [100, 97, 116, 101]).2 <;> rfl
   | false =>
    rw [cond_false, cond_false, bne]
    cases (x.Code == 200) with
    | false => rfl
    | true =>
     cases (dateF x.Fields [100, 97, 116, 101]).2 with
     | false => rfl
     | true => cases (dateF x.Fields [108, 97, 115, 116, 45, 109, 111, 100, 105, 102, 105, 101, 100]).2 <;> rfl
theorem I_IsFresh_eq {k : Nat} (hk : 1073741824 ≤ k) (x : IResponse) (a : Int) (h : fsz x.Fields < 268435456) : I_IsFresh k x a = some (decide (a < lifeT x.Code x.Fields)) := by rw [I_IsFresh, I_LifetimeOf_eq hk x h]; rfl
theorem S_DropField_eq {k : Nat} (hk : 1073741824 ≤ k) (l : List IField) (n : List UInt8) (h : l.length < 1073741823) : S_DropField k l n = some (l.filter fun e => !(e.Name == n)) := by
 have := fold_all (len := l.length) (g := fun j s => s ++ (l[j]?).elim [] fun e => bif !(e.Name == n) then [e] else []) (Inv := fun i s => s.length ≤ i) (F := fun m i s => S_DropField_b0 k m l n i s) (out := id) (fun m i s hi hI => by
  have hI : s.length ≤ i := hI
  have ha : ∀ e, app 32 s [e] = some (s ++ [e]) := fun e => appn_ok (by simp; omega)
  simp only [S_DropField_b0, bif_dec, lt_cast, hi, if_true, S_DropField_b1, idx_nat hi, Option.bind_some, S_DropField_c20, wrap_succ (by omega : i < 9223372036854775807), List.getElem?_eq_getElem hi, Option.elim_some, ha]
  cases (l[i].Name == n) with
  | true =>
   simp only [Bool.not_true, cond_false, Option.bind_some, List.append_nil]
   exact ⟨trivial, by omega⟩
  | false =>
   simp only [Bool.not_false, cond_true, Option.bind_some]
   exact ⟨trivial, by simp only [List.length_append, List.length_cons, List.length_nil]; omega⟩) (fun m i s hi => by
  simp only [S_DropField_b0, bif_dec, lt_cast]
  rw [if_neg (by omega)]; rfl) (k := k) (by omega) (s := []) (by simp)
 have h1 : S_DropField_b0 k k l n 0 [] = some (foldI (fun j s => s ++ (l[j]?).elim [] fun e => bif !(e.Name == n) then [e] else []) l.length 0 []) := this.1
 rw [S_DropField, h1, foldI_filter, Option.bind_some, List.nil_append]
theorem S_l6Text_loop {k : Nat} : ∀ (n j : Nat) (s : List UInt8) (b : List Int) (i h : Int), j < n → s.length + 40 * j ≤ 400 → CurOk ⟨b, i, h⟩ →
    ∃ t b' i' h', S_l6Text_b0 k n s (j : Int) b i h = some (t, b', i', h') ∧ t.length ≤ s.length + 40 * j ∧ CurOk ⟨b', i', h'⟩ := by
 intro n
 induction n with
 | zero => intro j s b i h hj; omega
 | succ n ih =>
  intro j s b i h hj hx hc
  rw [S_l6Text_b0, bif_dec]
  cases j with
  | zero => rw [if_neg (by omega)]; exact ⟨_, _, _, _, rfl, by omega, hc⟩
  | succ j =>
   rw [if_pos (by omega)]
   obtain ⟨s1, c1, e1, l1, h1⟩ := S_l1Str_len (k := k) hc (l := [([109, 97, 120, 45, 97, 103, 101, 61, 54, 48] : List UInt8), ([77, 97, 120, 45, 65, 103, 101, 61, 49, 48] : List UInt8), ([115, 45, 109, 97, 120, 97, 103, 101, 61, 53] : List UInt8), ([110, 111, 45, 99, 97, 99, 104, 101] : List UInt8), ([110, 111, 45, 115, 116, 111, 114, 101] : List UInt8), ([112, 114, 105, 118, 97, 116, 101] : List UInt8), ([112, 117, 98, 108, 105, 99] : List UInt8), ([112, 114, 105, 118, 97, 116, 101, 61, 34, 97, 44, 32, 98, 34] : List UInt8), ([109, 97, 120, 45, 115, 116, 97, 108, 101] : List UInt8), ([109, 97, 120, 45, 115, 116, 97, 108, 101, 61, 55] : List UInt8), ([109, 105, 110, 45, 102, 114, 101, 115, 104, 61, 51] : List UInt8), ([109, 117, 115, 116, 45, 114, 101, 118, 97, 108, 105, 100, 97, 116, 101] : List UInt8), ([115, 116, 97, 108, 101, 45, 119, 104, 105, 108, 101, 45, 114, 101, 118, 97, 108, 105, 100, 97, 116, 101, 61, 57] : List UInt8), ([115, 116, 97, 108, 101, 45, 105, 102, 45, 101, 114, 114, 111, 114, 61, 50, 48] : List UInt8), ([111, 110, 108, 121, 45, 105, 102, 45, 99, 97, 99, 104, 101, 100] : List UInt8), ([109, 97, 120, 45, 97, 103, 101, 61, 57, 57, 57, 57, 57, 57, 57, 57, 57, 57, 57] : List UInt8), ([109, 97, 120, 45, 97, 103, 101, 61, 120] : List UInt8), ([109, 97, 120, 45, 97, 103, 101, 61, 34, 55, 34] : List UInt8), ([109, 97, 120, 45, 97, 103, 101, 61] : List UInt8), ([61, 51] : List UInt8), ([97, 32, 98] : List UInt8), ([120, 61, 34, 111, 112, 101, 110] : List UInt8)]) (by decide) (n := 30) (by decide)
   simp only [e1, Option.bind_some]
   rw [cat_ok (by omega), Option.bind_some]
   obtain ⟨s2, c2, e2, l2, h2⟩ := S_l1Str_len (k := k) h1 (l := [([44] : List UInt8), ([44, 32] : List UInt8), ([44, 32, 44, 32] : List UInt8)]) (by decide) (n := 4) (by decide)
   simp only [e2, Option.bind_some]
   rw [cat_ok (by simp only [List.length_append]; omega), Option.bind_some, wrap_pred (by omega)]
   obtain ⟨t, b', i', h', e, hl, hc'⟩ := ih j (s ++ s1 ++ s2) c2.b c2.i c2.h (by omega) (by simp only [List.length_append]; omega) h2
   exact ⟨t, b', i', h', e, by simp only [List.length_append] at hl; omega, hc'⟩
theorem S_l6Text_tot {k : Nat} (hk : 1073741824 ≤ k) {c : Sl1Cur} (h : CurOk c) : ∃ t c', S_l6Text k c = some (t, c') ∧ CurOk c' ∧ t.length ≤ 200 := by
 unfold S_l6Text
 obtain ⟨v, c1, e1, ⟨a1, b1⟩, h1⟩ := S_l1Below_tot (k := k) h (n := 5) (by omega)
 obtain ⟨m, rfl⟩ := Int.eq_ofNat_of_zero_le a1
 obtain ⟨t, b', i', h', e, hl, hc'⟩ := S_l6Text_loop (k := k) k m [] c1.b c1.i c1.h (by omega) (by simp only [List.length_nil]; omega) h1
 simp only [e1, e, Option.bind_some]
 exact ⟨t, _, rfl, hc', by simp only [List.length_nil] at hl; omega⟩
def FB (n : Nat) (l : List IField) : Prop := l.length ≤ n ∧ ∀ e ∈ l, e.Name.length ≤ 20 ∧ e.Value.length ≤ 200
theorem S_l21_b {k : Nat} (hk : 1073741824 ≤ k) {c : Sl1Cur} (h : CurOk c) (x14 y0 y4 : Int) (y2 y5 : List UInt8) {F : List IField} (hF : FB 8 F) : ∃ b i h t, S_l21Draw_b0 k x14 c.b c.i c.h y0 y2 y4 y5 F = some (b, i, h, t) ∧ CurOk ⟨b, i, h⟩ ∧ FB 9 t := by
 have hn := hF.1
 unfold S_l21Draw_b0 S_l21Draw_c15
 cases (x14 == (0 : Int)) with
 | true =>
  obtain ⟨s, c1, e1, h1, l1⟩ := S_l6Text_tot hk h
  have e1' : S_l6Text k (⟨c.b, c.i, c.h⟩ : Sl1Cur) = some (s, c1) := e1
  obtain ⟨g1, g2⟩ := setF_get (B := 200) (l := F) (n := [99, 97, 99, 104, 101, 45, 99, 111, 110, 116, 114, 111, 108]) (v := s) hF.2 (by simp) (by omega)
  have gl := setF_len F [99, 97, 99, 104, 101, 45, 99, 111, 110, 116, 114, 111, 108] s
  simp only [cond_true, e1', Option.bind_some, S_SetField_eq hk F _ s (by omega)]
  exact ⟨_, _, _, _, rfl, h1, by omega, g2⟩
 | false =>
  unfold S_l21Draw_c23
  cases (x14 == (1 : Int)) with
  | true =>
   have fl := List.length_filter_le (fun e : IField => !(e.Name == [99, 97, 99, 104, 101, 45, 99, 111, 110, 116, 114, 111, 108])) F
   simp only [cond_true, cond_false, Option.bind_some, S_DropField_eq hk F _ (by omega)]
   exact ⟨_, _, _, _, rfl, h, by omega, fun e he => hF.2 e (List.mem_filter.1 he).1⟩
  | false =>
   simp only [cond_false, Option.bind_some]
   exact ⟨_, _, _, _, rfl, h, by omega, hF.2⟩
theorem S_l21_c {k : Nat} (hk : 1073741824 ≤ k) {c : Sl1Cur} (h : CurOk c) (x : Bool) (y0 y4 : Int) (y2 y5 : List UInt8) {F : List IField} (hF : FB 9 F) : ∃ b i h t, S_l21Draw_c30 k x c.b c.i c.h y0 y2 y4 y5 F = some (b, i, h, t) ∧ CurOk ⟨b, i, h⟩ ∧ FB 10 t := by
 have hn := hF.1
 unfold S_l21Draw_c30
 cases x with
 | false => exact ⟨_, _, _, _, rfl, h, by omega, hF.2⟩
 | true =>
  obtain ⟨v, c1, e1, _, h1⟩ := S_l1Below_tot (k := k) h (n := 200) (by omega)
  have e1' : S_l1Below k (⟨c.b, c.i, c.h⟩ : Sl1Cur) 200 = some (v, c1) := e1
  obtain ⟨d, e2, l2⟩ := S_FormatDate_tot hk v
  obtain ⟨s, c3, e3, l3, h3⟩ := S_l1Str_len (k := k) h1 (l := [([48] : List UInt8), d, ([] : List UInt8)]) (by simp) (n := 29) (fun s hs => by
   simp only [List.mem_cons, List.not_mem_nil, or_false] at hs
   rcases hs with rfl | rfl | rfl
   ·simp
   ·exact l2
   ·simp)
  simp only [cond_true, e1', e2, e3, Option.bind_some]
  rw [appn_ok (by simp only [List.length_cons, List.length_nil]; omega), Option.bind_some]
  refine ⟨_, _, _, _, rfl, h3, by simp only [List.length_append, List.length_cons, List.length_nil]; omega, fun e he => ?_⟩
  rcases List.mem_append.1 he with he | he
  ·exact hF.2 e he
  ·rw [List.mem_singleton] at he
   subst he
   exact ⟨by simp, by simp only; omega⟩
theorem S_l21Draw_tot {k : Nat} (hk : 1073741824 ≤ k) {c : Sl1Cur} (h : CurOk c) : ∃ x c', S_l21Draw k c = some (x, c') ∧ CurOk c' ∧ FB 10 x.Fields := by
 unfold S_l21Draw
 obtain ⟨o, c1, e1, h1, so⟩ := S_l15Draw_tot hk h
 obtain ⟨r, c2, e2, h2, ⟨m1, m2, m3⟩, n1, f1⟩ := S_l15Ask_tot (k := k) h1
 obtain ⟨t, c3, e3, _, h3⟩ := S_l1Below_tot (k := k) h2 (n := 160) (by omega)
 have z := fsz_le (l := r.Fields) (n := 60) fun e he => (f1 e he).2
 have ri : ReqIn r := ⟨by omega, by omega, by omega, by omega, fun e he => by have := f1 e he; omega⟩
 obtain ⟨x, e4, sx⟩ := S_PlainAnswer_tot hk so ri (by omega) (by omega) (t := t)
 obtain ⟨v, c5, e5, _, h5⟩ := S_l1Below_tot (k := k) h3 (n := 5) (by omega)
 have hx : FB 8 x.Fields := ⟨sx.n, fun e he => by have := sx.f e he; omega⟩
 obtain ⟨b6, i6, k6, t6, e6, h6, f6⟩ := S_l21_b hk h5 v 0 x.Code [] x.Body hx
 obtain ⟨v7, c7, e7, h7⟩ := S_l1Once_tot (k := k) h6 (n := 3) (by omega)
 obtain ⟨b8, i8, k8, t8, e8, h8, f8⟩ := S_l21_c hk h7 v7 0 x.Code [] x.Body f6
 simp only [e1, e2, e3, e4, e5, e6, e7, e8, Option.bind_some]
 exact ⟨_, _, rfl, h8, f8⟩
theorem L_at_ok {k : Nat} {z : List Int} (h0 : InL InB z) (hz : z.length ≤ 1048576) {i : Nat} (hi : i ≤ 1000) : ∃ v : Nat, v < 256 ∧ L_at k z (i : Int) = some (v : Int) := by
 unfold L_at
 rw [bif_dec]
 by_cases c : (i : Int) < (z.length : Int)
 ·have hb := h0.2 z[i] (List.getElem_mem (by omega))
  unfold InB at hb
  obtain ⟨v, hv⟩ := Int.eq_ofNat_of_zero_le hb.1
  rw [if_pos c, idx_nat (by omega), Option.bind_some, wrap_id (by omega) (by omega)]
  exact ⟨v, by omega, by rw [hv]⟩
 ·rw [if_neg c, wrap_id (n := (i : Int) * 31) (by omega) (by omega), wrap_id (n := (z.length : Int) * 7) (by omega) (by omega), wrap_id (by omega) (by omega)]
  obtain ⟨r, er, h1, h2⟩ := md_pos (a := (i : Int) * 31 + (z.length : Int) * 7) (n := 256) (by omega) (by omega)
  obtain ⟨v, hv⟩ := Int.eq_ofNat_of_zero_le h1
  rw [er, Option.bind_some]
  exact ⟨v, by omega, by rw [hv]⟩
def dig3 (u : Nat) : List UInt8 := if u < 10 then [UInt8.ofNat (48 + u)] else if u < 100 then [UInt8.ofNat (48 + u / 10), UInt8.ofNat (48 + u % 10)] else [UInt8.ofNat (48 + u / 100), UInt8.ofNat (48 + u / 10 % 10), UInt8.ofNat (48 + u % 10)]
theorem itoa_dig {u : Nat} (h : u < 1000) : Lib.itoa (u : Int) = dig3 u := by
 have e : Lib.itoa (u : Int) = Lib.decDigits u := by unfold Lib.itoa; rw [if_neg (by omega)]; simp
 rw [e]
 unfold dig3
 by_cases c : u < 10
 ·rw [if_pos c, Lib.decDigits_one c]
 rw [if_neg c]
 by_cases d : u < 100
 ·rw [if_pos d, Lib.decDigits_two c d]
 rw [if_neg d, Lib.decDigits, dif_neg c, Lib.decDigits_two (by omega) (by omega), show u / 10 / 10 = u / 100 by omega]
 rfl
def gP (p : List UInt8) : Bool := !(p == []) && p.all (fun c => !(c == 44) && !(c == 34)) && trimT p == p
theorem gP_ok {p : List UInt8} (h : gP p = true) : goodP p := by
 unfold gP at h
 simp only [Bool.and_eq_true, Bool.not_eq_true', beq_eq_false_iff_ne, List.all_eq_true, beq_iff_eq] at h
 exact ⟨h.1.1, h.1.2, h.2⟩
def maxA (s : List UInt8) : List UInt8 := [109, 97, 120, 45, 97, 103, 101, 61] ++ s
def sMax (s : List UInt8) : List UInt8 := [115, 45, 109, 97, 120, 97, 103, 101, 61] ++ s
theorem life_tab : ∀ j : Fin 256, (gP (maxA (dig3 j.val)) && gP (sMax (dig3 j.val)) && (dirP (maxA (dig3 j.val)) == [(⟨[109, 97, 120, 45, 97, 103, 101], dig3 j.val, true⟩ : IDirective)]) && (dirP (sMax (dig3 j.val)) == [(⟨[115, 45, 109, 97, 120, 97, 103, 101], dig3 j.val, true⟩ : IDirective)]) && (secV (dig3 j.val) == (j.val : Int)) && decide ((dig3 j.val).length ≤ 3)) = true := by decide +kernel
theorem life_num {n : Nat} (h : n < 256) : goodP (maxA (dig3 n)) ∧ goodP (sMax (dig3 n)) ∧ dirP (maxA (dig3 n)) = [(⟨[109, 97, 120, 45, 97, 103, 101], dig3 n, true⟩ : IDirective)] ∧ dirP (sMax (dig3 n)) = [(⟨[115, 45, 109, 97, 120, 97, 103, 101], dig3 n, true⟩ : IDirective)] ∧ secV (dig3 n) = (n : Int) ∧ (dig3 n).length ≤ 3 := by
 have := life_tab ⟨n, h⟩
 simp only [Bool.and_eq_true, beq_iff_eq, decide_eq_true_eq] at this
 obtain ⟨⟨⟨⟨⟨a, b⟩, c⟩, d⟩, e⟩, f⟩ := this
 exact ⟨gP_ok a, gP_ok b, c, d, e, f⟩
def pubT : List UInt8 := [112, 117, 98, 108, 105, 99]
theorem pub_ok : goodP pubT ∧ dirP pubT = [(⟨pubT, [], false⟩ : IDirective)] := ⟨gP_ok (by decide +kernel), by decide +kernel⟩
theorem rules_set {l : List IField} {v : List UInt8} (h : valsF l [99, 97, 99, 104, 101, 45, 99, 111, 110, 116, 114, 111, 108] = [v]) : rulesT l = parseD v := by
 unfold rulesT getF
 simp only
 rw [h, joinT_one]
theorem life_y {l : List IField} {n m : Nat} (hn : n < 256) (hm : m < 256) (code : Int) (h : valsF l [99, 97, 99, 104, 101, 45, 99, 111, 110, 116, 114, 111, 108] = [joinT [maxA (dig3 n), sMax (dig3 m)]]) : lifeT code l = (m : Int) := by
 obtain ⟨g1, _, d1, _, _, _⟩ := life_num hn
 obtain ⟨_, g2, _, d2, s2, _⟩ := life_num hm
 have hp : rulesT l = [(⟨[109, 97, 120, 45, 97, 103, 101], dig3 n, true⟩ : IDirective), (⟨[115, 45, 109, 97, 120, 97, 103, 101], dig3 m, true⟩ : IDirective)] := by
  rw [rules_set h]
  unfold parseD
  rw [splitL_join (l := [maxA (dig3 n), sMax (dig3 m)]) (fun p hp => by
   simp only [List.mem_cons, List.not_mem_nil, or_false] at hp
   rcases hp with rfl | rfl
   ·exact g1
   ·exact g2)]
  simp only [List.flatMap_cons, List.flatMap_nil, d1, d2]
  rfl
 have hs : ∀ a b : List UInt8, secOf [(⟨[109, 97, 120, 45, 97, 103, 101], a, true⟩ : IDirective), (⟨[115, 45, 109, 97, 120, 97, 103, 101], b, true⟩ : IDirective)] [115, 45, 109, 97, 120, 97, 103, 101] = (secV b, true) := fun a b => rfl
 unfold lifeT
 rw [hp, hs]
 simp only [cond_true]
 exact s2
theorem life_z {l : List IField} {n : Nat} (hn : n < 256) (code : Int) (h : valsF l [99, 97, 99, 104, 101, 45, 99, 111, 110, 116, 114, 111, 108] = [joinT [pubT, maxA (dig3 n)]]) : lifeT code l = (n : Int) := by
 obtain ⟨g1, _, d1, _, s1, _⟩ := life_num hn
 obtain ⟨g2, d2⟩ := pub_ok
 have hp : rulesT l = [(⟨pubT, [], false⟩ : IDirective), (⟨[109, 97, 120, 45, 97, 103, 101], dig3 n, true⟩ : IDirective)] := by
  rw [rules_set h]
  unfold parseD
  rw [splitL_join (l := [pubT, maxA (dig3 n)]) (fun p hp => by
   simp only [List.mem_cons, List.not_mem_nil, or_false] at hp
   rcases hp with rfl | rfl
   ·exact g2
   ·exact g1)]
  simp only [List.flatMap_cons, List.flatMap_nil, d1, d2]
  rfl
 have hs : ∀ a : List UInt8, secOf [(⟨pubT, [], false⟩ : IDirective), (⟨[109, 97, 120, 45, 97, 103, 101], a, true⟩ : IDirective)] [115, 45, 109, 97, 120, 97, 103, 101] = (0, false) := fun a => rfl
 have ht : ∀ a : List UInt8, secOf [(⟨pubT, [], false⟩ : IDirective), (⟨[109, 97, 120, 45, 97, 103, 101], a, true⟩ : IDirective)] [109, 97, 120, 45, 97, 103, 101] = (secV a, true) := fun a => rfl
 unfold lifeT
 rw [hp, hs, ht]
 simp only [cond_true, cond_false]
 exact s1
theorem secL_nn : ∀ (l : List UInt8) (q r : Int), 0 ≤ q → secL l q = some r → 0 ≤ r
 | [], q, r, h, e => by simp only [secL, Option.some.injEq] at e; omega
 | c :: l, q, r, h, e => by
  rw [secL] at e
  cases hr : inR (c.toNat : Int) 48 57 with
  | false => rw [hr] at e; cases e
  | true =>
   rw [hr] at e
   have := inR_iffS.1 hr
   exact secL_nn l _ r (capS_in (by omega)).1 e
theorem secOf_nn (l : List IDirective) (s : List UInt8) : 0 ≤ (secOf l s).1 := by
 unfold secOf
 split
 ·unfold secV
  simp only
  cases h : secL _ 0 with
  | none => simp
  | some r => exact secL_nn _ 0 r (by omega) h
 ·simp
theorem mx0_nn (n : Int) : 0 ≤ mx0 n := by unfold mx0; split <;> omega
theorem lifeT_nn (c : Int) (l : List IField) : 0 ≤ lifeT c l := by
 have h1 := secOf_nn (rulesT l) [115, 45, 109, 97, 120, 97, 103, 101]
 have h2 := secOf_nn (rulesT l) [109, 97, 120, 45, 97, 103, 101]
 have h3 : 0 ≤ lifeD c l := by
  unfold lifeD
  cases hasF l [101, 120, 112, 105, 114, 101, 115] with
  | true =>
   cases (dateF l [101, 120, 112, 105, 114, 101, 115]).2 <;> cases (dateF l [100, 97, 116, 101]).2 <;> simp only [Bool.not_true, Bool.not_false, cond_true, cond_false] <;> first | exact mx0_nn _ | omega
  | false =>
   cases (c == 200) <;> cases (dateF l [100, 97, 116, 101]).2 <;> cases (dateF l [108, 97, 115, 116, 45, 109, 111, 100, 105, 102, 105, 101, 100]).2 <;> simp only [Bool.not_true, Bool.not_false, cond_true, cond_false] <;> first | exact mx0_nn _ | omega
 unfold lifeT
 cases (secOf (rulesT l) [115, 45, 109, 97, 120, 97, 103, 101]).2 with
 | true => exact h1
 | false =>
  cases (secOf (rulesT l) [109, 97, 120, 45, 97, 103, 101]).2 with
  | true => exact h2
  | false => exact h3
theorem FnLifetimes_pure {k : Nat} (hk : 1073741824 ≤ k) (a0 : List Int) (h0 : InL InB a0) : L_FnLifetimes k a0 = some true := by
 unfold L_FnLifetimes
 rw [L_big_eq, Option.bind_some, bif_dec]
 by_cases c1 : (a0.length : Int) > 1048576
 ·rw [if_pos c1]
 rw [if_neg c1]
 have ha : a0.length ≤ 1048576 := by omega
 obtain ⟨c, ec, hc⟩ := S_l1New_tot hk ha
 obtain ⟨x, c2, e2, h2, f2⟩ := S_l21Draw_tot hk hc
 obtain ⟨g, c3, e3, ⟨g1, g2⟩, h3⟩ := S_l1Below_tot (k := k) h2 (n := 70) (by omega)
 have d1 : S_DrawLifetimeOf k a0 = some x := by unfold S_DrawLifetimeOf; rw [ec, Option.bind_some, e2, Option.bind_some]
 have d2 : S_DrawIsFresh k a0 = some (x, g) := by unfold S_DrawIsFresh; rw [ec, Option.bind_some, e2, Option.bind_some]; simp only; rw [e3, Option.bind_some]
 obtain ⟨n, hn, en⟩ := L_at_ok (k := k) h0 ha (i := 1) (by omega)
 obtain ⟨m, hm, em⟩ := L_at_ok (k := k) h0 ha (i := 2) (by omega)
 have en' : L_at k a0 (1 : Int) = some (n : Int) := en
 have em' : L_at k a0 (2 : Int) = some (m : Int) := em
 obtain ⟨_, _, _, _, _, ln⟩ := life_num hn
 obtain ⟨_, _, _, _, _, lm⟩ := life_num hm
 have hl := f2.1
 have z0 := fsz_le (l := x.Fields) (n := 200) fun e he => (f2.2 e he).2
 have zx : fsz x.Fields < 268435456 := by omega
 have ty : ([109, 97, 120, 45, 97, 103, 101, 61] : List UInt8) ++ dig3 n ++ [44, 32, 115, 45, 109, 97, 120, 97, 103, 101, 61] ++ dig3 m = joinT [maxA (dig3 n), sMax (dig3 m)] := by
  rw [joinT_two, joinT_one]; unfold maxA sMax; simp
 have tz : ([112, 117, 98, 108, 105, 99, 44, 32, 109, 97, 120, 45, 97, 103, 101, 61] : List UInt8) ++ dig3 n = joinT [pubT, maxA (dig3 n)] := by
  rw [joinT_two, joinT_one]; unfold maxA pubT; simp
 have ly : (joinT [maxA (dig3 n), sMax (dig3 m)]).length ≤ 200 := by rw [← ty]; simp; omega
 have lz : (joinT [pubT, maxA (dig3 n)]).length ≤ 200 := by rw [← tz]; simp; omega
 obtain ⟨y1, y2⟩ := setF_get (B := 200) (l := x.Fields) (n := [99, 97, 99, 104, 101, 45, 99, 111, 110, 116, 114, 111, 108]) (v := joinT [maxA (dig3 n), sMax (dig3 m)]) f2.2 (by simp) ly
 obtain ⟨z1, z2⟩ := setF_get (B := 200) (l := x.Fields) (n := [99, 97, 99, 104, 101, 45, 99, 111, 110, 116, 114, 111, 108]) (v := joinT [pubT, maxA (dig3 n)]) f2.2 (by simp) lz
 have yl := setF_len x.Fields [99, 97, 99, 104, 101, 45, 99, 111, 110, 116, 114, 111, 108] (joinT [maxA (dig3 n), sMax (dig3 m)])
 have zl := setF_len x.Fields [99, 97, 99, 104, 101, 45, 99, 111, 110, 116, 114, 111, 108] (joinT [pubT, maxA (dig3 n)])
 have yf := fsz_le (n := 200) fun e he => (y2 e he).2
 have zf := fsz_le (n := 200) fun e he => (z2 e he).2
 have ly2 := life_y hn hm x.Code y1
 have lz2 := life_z hn x.Code z1
 have nn := lifeT_nn x.Code x.Fields
 have i1 : I_FormatInt k (n : Int) = some (dig3 n) := by rw [I_FormatInt_eq _ (by omega) (by omega), itoa_dig (by omega)]
 have i2 : I_FormatInt k (m : Int) = some (dig3 m) := by rw [I_FormatInt_eq _ (by omega) (by omega), itoa_dig (by omega)]
 rw [d1, Option.bind_some, en', Option.bind_some, em', Option.bind_some, i1, Option.bind_some, cat_ok (by simp; omega), Option.bind_some, cat_ok (by simp; omega), Option.bind_some, i2, Option.bind_some, cat_ok (by simp; omega), Option.bind_some, ty, I_SetField_eq hk _ _ _ (by omega), Option.bind_some, Option.bind_some, cat_ok (by simp; omega), Option.bind_some, tz, I_SetField_eq hk _ _ _ (by omega), Option.bind_some, d2, Option.bind_some]
 simp only
 rw [I_LifetimeOf_eq hk _ (by simp only; omega), Option.bind_some]
 simp only
 rw [ly2, beq_self_eq_true, cond_true, I_LifetimeOf_eq hk _ (by simp only; omega), Option.bind_some]
 simp only
 rw [lz2, beq_self_eq_true, cond_true, I_LifetimeOf_eq hk _ zx, Option.bind_some, decide_eq_true nn, cond_true, I_IsFresh_eq hk _ _ zx, Option.bind_some]
 by_cases q : g < lifeT x.Code x.Fields
 ·rw [decide_eq_true q, Bool.not_true, cond_false, bif_dec]
  by_cases q2 : g ≤ 0
  ·rw [if_pos q2]
  ·rw [if_neg q2, wrap_id (by omega) (by omega), I_IsFresh_eq hk _ _ zx, Option.bind_some, decide_eq_true (by omega)]
 ·rw [decide_eq_false q]; rfl

end
end Go.YtnidlohhndpjdaaGreatDoor
