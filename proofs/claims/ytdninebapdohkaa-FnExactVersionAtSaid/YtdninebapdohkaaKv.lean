/- What the functions come to. Nothing is claimed here. -/
import Derived.Test.YtdninebapdohkaaKu
set_option linter.unusedVariables false
set_option linter.unusedSimpArgs false
set_option maxRecDepth 100000
namespace Go.Ytdninebapdohkaa
open Go Go.RowKit Go.Pv Go.Pu

/-! The last version before a time. -/
def vLast (p : Nat → Bool) : Nat → Int
  | 0 => -1
  | j + 1 => bif p j then (j : Int) else vLast p j
def atP (x : List IVersion) (t : Int) (i : Nat) : Bool := match x[i]? with | some e => decide (e.At ≤ t) | none => false
theorem atP_idx {x : List IVersion} {t : Int} {i : Nat} (h : i < x.length) : atP x t i = decide (x[i].At ≤ t) := by simp only [atP, List.getElem?_eq_getElem h]
theorem S_VersionAt_loop {k : Nat} {t : Int} {a b c : List UInt8} {d : Bool} {e : List (List UInt8)} {x : List IVersion} (hx : x.length < 1073741824) : ∀ (n i : Nat), i ≤ x.length → x.length - i < n →
    S_VersionAt_b0 k n t (vLast (atP x t) i) (i : Int) a b c d e x = some (vLast (atP x t) x.length) := by
  intro n
  induction n with
  | zero => intro i _ h; omega
  | succ n ih =>
    intro i hi hn
    rw [S_VersionAt_b0, bif_dec]
    by_cases h : i < x.length
    · rw [if_pos (by omega), S_VersionAt_b1, idx_nat h, Option.bind_some, S_VersionAt_c21, wrap_succ (by omega)]
      have := ih (i + 1) (by omega) (by omega)
      rw [vLast, atP_idx h] at this
      cases hd : decide (x[i].At ≤ t) with
      | true => rw [hd, cond_true] at this; rw [cond_true, Option.bind_some, Option.bind_some]; exact this
      | false => rw [hd, cond_false] at this; rw [cond_false, Option.bind_some, Option.bind_some]; exact this
    · rw [if_neg (by omega), show i = x.length by omega]
theorem I_VersionAt_loop {k : Nat} {t : Int} {a b c : List UInt8} {d : Bool} {e : List (List UInt8)} {x : List IVersion} (hx : x.length < 1073741824) : ∀ (n j : Nat), j ≤ x.length → j < n →
    ∃ o, I_VersionAt_b0 k n t ((j : Int) - 1) a b c d e x = some o ∧ (oc o (fun _ => some (-1 : Int)) fun r => some r) = some (vLast (atP x t) j) := by
  intro n
  induction n with
  | zero => intro j _ h; omega
  | succ n ih =>
    intro j hj hn
    rw [I_VersionAt_b0, bif_dec]
    cases j with
    | zero => rw [if_neg (by omega)]; exact ⟨_, rfl, rfl⟩
    | succ j =>
      have h : j < x.length := by omega
      rw [if_pos (by omega), show ((j + 1 : Nat) : Int) - 1 = (j : Int) by omega, idx_nat h, Option.bind_some, wrap_id (by omega) (by omega), vLast, atP_idx h]
      cases decide (x[j].At ≤ t) with
      | true => exact ⟨_, rfl, rfl⟩
      | false => rw [cond_false, cond_false]; exact ih j (by omega) (by omega)
theorem S_VersionAt_eq {k : Nat} (hk : 1073741824 ≤ k) (r : IResource) (t : Int) (h : r.Versions.length < 1073741824) : S_VersionAt k r t = some (vLast (atP r.Versions t) r.Versions.length) := by
  rw [S_VersionAt]
  have := S_VersionAt_loop (k := k) (t := t) (a := r.Target) (b := r.Control) (c := r.Keys) (d := r.Private) (e := r.Langs) (x := r.Versions) h k 0 (by omega) (by omega)
  rw [show (-1 : Int) = vLast (atP r.Versions t) 0 from rfl, show (0 : Int) = ((0 : Nat) : Int) from rfl, this]; rfl
theorem I_VersionAt_eq {k : Nat} (hk : 1073741824 ≤ k) (r : IResource) (t : Int) (h : r.Versions.length < 1073741824) : I_VersionAt k r t = some (vLast (atP r.Versions t) r.Versions.length) := by
  rw [I_VersionAt, wrap_id (by omega) (by omega)]
  obtain ⟨o, h1, h2⟩ := I_VersionAt_loop (k := k) (t := t) (a := r.Target) (b := r.Control) (c := r.Keys) (d := r.Private) (e := r.Langs) (x := r.Versions) h k r.Versions.length (by omega) (by omega)
  rw [h1, Option.bind_some]
  cases o <;> exact h2

theorem FnExactVersionAt_pure {k : Nat} (hk : 1073741824 ≤ k) (a0 : LResource) (a1 : Int) (h0 : V_LResource a0) (h1 : InI a1) : L_FnExactVersionAt k a0 a1 = some true := by
  unfold L_FnExactVersionAt
  rw [L_szResource_eq hk h0 _ (by omega) (by omega), Option.bind_some, bif_dec]
  by_cases c3 : (sz_LResource a0 : Int) ≤ 1048576
  case neg => rw [if_neg c3, if_pos (by omega)]
  have c4 : sz_LResource a0 ≤ 1048576 := by omega
  have hl : (to_LResource a0).Langs.length < 1073741824 := by unfold sz_LResource at c4; simp only [to_LResource]; unfold szL at c4; omega
  have hv : (to_LResource a0).Versions.length < 1073741824 := by unfold sz_LResource at c4; simp only [to_LResource, List.length_map]; unfold szL at c4; omega
  rw [if_pos c3, if_neg (by omega)]
  simp only [L_toResource_eq hk a0 c4, Option.bind_some, S_VersionAt_eq hk _ _ hv, I_VersionAt_eq hk _ _ hv, L_eqResource_eq hk _ _ hl hv, decide_true, Bool.not_true, cond_false, bne_self_eq_false]

end Go.Ytdninebapdohkaa
