/- What the laws' own functions come to. Nothing is claimed here. -/
import Derived.Test.YtdninebapdohkaaDoorKf
import Derived.Test.YtdninebapdohkaaDoorPu5
set_option linter.unusedSimpArgs false
set_option linter.unusedVariables false
set_option maxRecDepth 100000
namespace Go.YtdninebapdohkaaDoor
open Go Go.RowKit Go.Pv Go.Pu

theorem L_eqTag_eq {k : Nat} (hk : 1073741824 ≤ k) (a b : ITag) : L_eqTag k a b = some (decide (a = b)) := by
  obtain ⟨a0, a1⟩ := a
  obtain ⟨b0, b1⟩ := b
  simp only [L_eqTag, ITag.mk.injEq]
  by_cases e0 : a0 = b0
  case neg => simp [e0, bne_ne e0, beq_ne e0]
  by_cases e1 : a1 = b1
  case neg => simp [e0, e1, bne_ne e1, beq_ne e1]
  simp [e0, e1]
end Go.YtdninebapdohkaaDoor
