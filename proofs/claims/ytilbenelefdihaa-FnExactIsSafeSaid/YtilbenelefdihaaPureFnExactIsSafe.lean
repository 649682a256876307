/- The program's IsSafe returns what the reference's IsSafe returns, for every string; no conditions. -/
import Derived.Test.YtilbenelefdihaaPFnExactIsSafex1
namespace Go.Proofs.Ytilbenelefdihaa.Pure
open Go.RowKit Go.Proofs.Ytilbenelefdihaa.PFnExactIsSafe Go.Proofs.YtilbenelefdihaaW.PrintWords Go.Proofs.YtilbenelefdihaaW.PrintLast

theorem safe_same (a : ByteArray) : ∃ b, spec_IsSafe.f a = some b ∧ impl_IsSafe.f a = some b := by
  unfold spec_IsSafe.f impl_IsSafe.f
  split
  · exact ⟨_, rfl, rfl⟩
  · split
    · exact ⟨_, rfl, rfl⟩
    · exact ⟨_, rfl, rfl⟩

theorem FnExactIsSafe : laws_FnExactIsSafe.Pure := by
  intro a ha
  unfold laws_FnExactIsSafe.f
  split
  · rfl
  · obtain ⟨b, h1, h2⟩ := safe_same a
    rw [h1, h2]
    simp

end Go.Proofs.Ytilbenelefdihaa.Pure
