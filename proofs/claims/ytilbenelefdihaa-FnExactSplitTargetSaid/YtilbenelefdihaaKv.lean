/- What the functions come to. Nothing is claimed here. -/
import Derived.Test.YtilbenelefdihaaKu
set_option linter.unusedVariables false
set_option linter.unusedSimpArgs false
set_option maxRecDepth 100000
namespace Go.Ytilbenelefdihaa
open Go Go.RowKit Go.Pv Go.Pu

/-! A target and its query. -/
def splitT (s : List UInt8) : List UInt8 × List UInt8 × Bool := match firstI (byteP s 63) s.length 0 with | some i => (s.take i, s.drop (i + 1), true) | none => (s, [], false)
theorem S_SplitTarget_eq {k : Nat} (hk : 1073741824 ≤ k) (s : List UInt8) (h : s.length < 1073741824) : S_SplitTarget k s = some (splitT s) := by
  have := find_all (len := s.length) (c := fun i => bif byteP s 63 i then some (s.take i, s.drop (i + 1), true) else none) (F := fun n i => S_SplitTarget_b0 k n s i) (fun n i hi => by
    have e : ((UInt8.toNat s[i] : Int) == 63) = (s[i] == 63) := u8_eq s[i] 63
    simp only [S_SplitTarget_b0, idx_nat hi, Option.bind_some, wrap_succ (by omega : i < 9223372036854775807), bif_dec, lt_cast, hi, if_true, byteP_at hi, e]
    cases (s[i] == 63) with
    | true => rw [cond_true, cond_true, ssub_take (by omega), Option.bind_some, ssub_drop (by omega)]; rfl
    | false => rfl) (fun n i hi => by
    simp only [S_SplitTarget_b0, bif_dec, lt_cast]
    rw [if_neg (by omega)]) (k := k) (by omega)
  rw [S_SplitTarget, this, findI_first]
  unfold splitT
  cases firstI (byteP s 63) s.length 0 <;> rfl
theorem I_SplitTarget_eq {k : Nat} (s : List UInt8) (h : s.length < 1073741824) : I_SplitTarget k s = some (splitT s) := by
  have hd : decide (s.length < 4294967281) = true := by simp; omega
  rw [I_SplitTarget, strings_Cut, cutO, hd, cond_true, Option.bind_some, cut_byte]
  rfl

theorem FnExactSplitTarget_pure {k : Nat} (hk : 1073741824 ≤ k) (a0 : List UInt8) (h0 : InS a0) : L_FnExactSplitTarget k a0 = some true := by
  unfold L_FnExactSplitTarget
  rw [bif_dec]
  by_cases c1 : (a0.length : Int) > 1048576
  · rw [if_pos c1]
  rw [if_neg c1, S_SplitTarget_eq hk a0 (by omega), Option.bind_some, I_SplitTarget_eq a0 (by omega), Option.bind_some]
  simp

end Go.Ytilbenelefdihaa
