/- What the functions come to. Nothing is claimed here. -/
import Derived.Test.YtilbenelefdihaaKu
set_option linter.unusedVariables false
set_option linter.unusedSimpArgs false
set_option maxRecDepth 100000
namespace Go.Ytilbenelefdihaa
open Go Go.RowKit Go.Pv Go.Pu

/-! Qualities. -/
def nameP (x : List IQuality) (s : List UInt8) (i : Nat) : Bool := match x[i]? with | some e => e.Name == s | none => false
def qAt (x : List IQuality) (i : Nat) : Int := match x[i]? with | some e => e.Q | none => 0
def qOf (x : List IQuality) (s : List UInt8) : Int :=
  match firstI (nameP x s) x.length 0 with
  | some i => qAt x i
  | none => match firstI (nameP x [42]) x.length 0 with
    | some i => qAt x i
    | none => 0

theorem S_star {k : Nat} {x : List IQuality} {s : List UInt8} (hx : x.length < 1073741824) : ∀ (n j : Nat) (acc : Int), j ≤ x.length → j < n →
    S_QualityOf_b0 k n x s acc ((j : Int) - 1) = some (match firstI (nameP x [42]) j 0 with | some i => qAt x i | none => acc) := by
  intro n
  induction n with
  | zero => intro j acc _ h; omega
  | succ n ih =>
    intro j acc hj hn
    rw [S_QualityOf_b0, bif_dec]
    cases j with
    | zero => rw [if_neg (by omega)]; rfl
    | succ j =>
      have hi : j < x.length := by omega
      rw [if_pos (by omega), show ((j + 1 : Nat) : Int) - 1 = (j : Int) by omega, S_QualityOf_b1, idx_nat hi, Option.bind_some, S_QualityOf_c20, idx_nat hi, wrap_id (by omega) (by omega)]
      have step : firstI (nameP x [42]) (j + 1) 0 = match firstI (nameP x [42]) j 0 with | some i => some i | none => bif nameP x [42] j then some j else none := by
        cases h1 : firstI (nameP x [42]) j 0 with
        | some i =>
          obtain ⟨_, h3, h4, h5⟩ := firstI_some _ _ _ h1
          cases h2 : firstI (nameP x [42]) (j + 1) 0 with
          | none => have := firstI_none _ _ h2 i (by omega) (by omega); rw [this] at h4; cases h4
          | some i' =>
            obtain ⟨_, g3, g4, g5⟩ := firstI_some _ _ _ h2
            rcases Nat.lt_trichotomy i i' with h | h | h
            · have := g5 i (by omega) h; rw [this] at h4; cases h4
            · simp [h]
            · have := h5 i' (by omega) h; rw [this] at g4; cases g4
        | none =>
          have h2 := firstI_none _ _ h1
          cases hp : nameP x [42] j with
          | true =>
            cases h3 : firstI (nameP x [42]) (j + 1) 0 with
            | none => have := firstI_none _ _ h3 j (by omega) (by omega); rw [this] at hp; cases hp
            | some i' =>
              obtain ⟨_, g3, g4, g5⟩ := firstI_some _ _ _ h3
              by_cases e : i' = j
              · simp [e]
              · have := h2 i' (by omega) (by omega); rw [this] at g4; cases g4
          | false =>
            cases h3 : firstI (nameP x [42]) (j + 1) 0 with
            | none => rfl
            | some i' =>
              obtain ⟨_, g3, g4, g5⟩ := firstI_some _ _ _ h3
              by_cases e : i' = j
              · rw [e, hp] at g4; cases g4
              · have := h2 i' (by omega) (by omega); rw [this] at g4; cases g4
      have hp : nameP x [42] j = (x[j].Name == [42]) := by simp [nameP, List.getElem?_eq_getElem hi]
      have hq : qAt x j = x[j].Q := by simp [qAt, List.getElem?_eq_getElem hi]
      rw [step]
      cases hb : (x[j].Name == ([42] : List UInt8)) with
      | true =>
        rw [cond_true, Option.bind_some, Option.bind_some, Option.bind_some, ih j _ (by omega) (by omega), hp, hb, ← hq]
        cases firstI (nameP x [42]) j 0 <;> rfl
      | false =>
        rw [cond_false, Option.bind_some, Option.bind_some, ih j _ (by omega) (by omega), hp, hb]
        cases firstI (nameP x [42]) j 0 <;> rfl

theorem S_QualityOf_eq {k : Nat} (hk : 1073741824 ≤ k) (x : List IQuality) (s : List UInt8) (h : x.length < 1073741824) : S_QualityOf k x s = some (qOf x s) := by
  rw [S_QualityOf, wrap_id (by omega) (by omega), S_star h k x.length 0 (by omega) (by omega), Option.bind_some]
  generalize hst : (match firstI (nameP x [42]) x.length 0 with | some i => qAt x i | none => (0 : Int)) = st
  have := find_all (len := x.length) (c := fun i => bif nameP x s i then some (qAt x i) else none) (F := fun n i => S_QualityOf_b2 k n x s st i) (fun n i hi => by
    simp only [S_QualityOf_b2, idx_nat hi, Option.bind_some, wrap_succ (by omega : i < 9223372036854775807), bif_dec, lt_cast, hi, if_true, nameP, qAt, List.getElem?_eq_getElem hi]
    cases (x[i].Name == s) <;> rfl) (fun n i hi => by
    simp only [S_QualityOf_b2, bif_dec, lt_cast]
    rw [if_neg (by omega)]) (k := k) (by omega)
  rw [this, findI_first]
  unfold qOf
  cases firstI (nameP x s) x.length 0 with
  | none => simp only [Option.map_none, ocOf, Option.bind_some, oc]; rw [← hst]
  | some j => simp [ocOf, oc]

theorem I_QualityOf_eq {k : Nat} (hk : 1073741824 ≤ k) (x : List IQuality) (s : List UInt8) (h : x.length < 1073741824) : I_QualityOf k x s = some (qOf x s) := by
  have inner : ∀ (s : List UInt8) (a b : Int) (r : List (List UInt8)), I_QualityOf_b2 k k x s a b x (x.length : Int) 0 r = some (ocOf ((firstI (nameP x s) x.length 0).map (qAt x))) := by
    intro s a b r
    have := find_all (len := x.length) (c := fun i => bif nameP x s i then some (qAt x i) else none) (F := fun n i => I_QualityOf_b2 k n x s a b x (x.length : Int) i r) (fun n i hi => by
      simp only [I_QualityOf_b2, idx_nat hi, Option.bind_some, wrap_succ (by omega : i < 9223372036854775807), bif_dec, lt_cast, hi, if_true, nameP, qAt, List.getElem?_eq_getElem hi]
      cases (x[i].Name == s) <;> rfl) (fun n i hi => by
      simp only [I_QualityOf_b2, bif_dec, lt_cast]
      rw [if_neg (by omega)]) (k := k) (by omega)
    rw [this, findI_first]
  obtain ⟨k', rfl⟩ : ∃ k', k = k' + 3 := ⟨k - 3, by omega⟩
  rw [I_QualityOf, show k' + 3 = (k' + 2) + 1 from rfl, I_QualityOf_b0]
  simp only [List.length_cons, List.length_nil, bif_dec]
  rw [if_pos (by omega), show idx ([s, [42]] : List (List UInt8)) 0 = some s from rfl, Option.bind_some, Option.bind_some, inner, Option.bind_some]
  unfold qOf
  cases firstI (nameP x s) x.length 0 with
  | some j => simp [ocOf, oc]
  | none =>
    simp only [Option.map_none, ocOf, oc]
    rw [show IntKind.wrap .i64 (0 + 1) = 1 from by decide, I_QualityOf_b0]
    simp only [bif_dec]
    rw [if_pos (by omega), show idx ([s, [42]] : List (List UInt8)) 1 = some [42] from rfl, Option.bind_some, Option.bind_some, inner, Option.bind_some]
    cases firstI (nameP x [42]) x.length 0 with
    | some j => simp [ocOf, oc]
    | none =>
      simp only [Option.map_none, ocOf, oc]
      rw [show IntKind.wrap .i64 (1 + 1) = 2 from by decide, I_QualityOf_b0]
      simp [bif_dec]

theorem FnExactQualityOf_pure {k : Nat} (hk : 1073741824 ≤ k) (a0 : List LQuality) (a1 : List UInt8) (h0 : InL V_LQuality a0) (h1 : InS a1) : L_FnExactQualityOf k a0 a1 = some true := by
  unfold L_FnExactQualityOf
  rw [bif_dec]
  by_cases c1 : (a1.length : Int) > 1048576
  · rw [if_pos c1]
  rw [if_neg c1, L_szQualityS_eq hk h0 _ (by omega) (by omega), Option.bind_some, bif_dec]
  by_cases c3 : (szL sz_LQuality a0 : Int) ≤ 1048576
  case neg => rw [if_neg c3, if_pos (by omega)]
  have hl : a0.length ≤ szL sz_LQuality a0 := by unfold szL; omega
  rw [if_pos c3, if_neg (by omega)]
  simp only [L_toQualityS_eq hk a0 (by omega), Option.bind_some]
  simp only [S_QualityOf_eq hk _ _ (by simp; omega : (a0.map to_LQuality).length < 1073741824), I_QualityOf_eq hk _ _ (by simp; omega : (a0.map to_LQuality).length < 1073741824), Option.bind_some]
  simp [L_eqQualityS_eq hk _ _ (by simp; omega : (a0.map to_LQuality).length < 1073741824)]

end Go.Ytilbenelefdihaa
