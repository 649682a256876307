/- The program's CurrentAge returns what the reference's CurrentAge returns, for all three numbers; no conditions. -/
import Derived.Test.YtilbenelefdihaaPFnExactCurrentAgex1
namespace Go.Proofs.Ytilbenelefdihaa.Pure
open Go.RowKit Go.Proofs.Ytilbenelefdihaa.PFnExactCurrentAge Go.Proofs.YtilbenelefdihaaW.PrintWords Go.Proofs.YtilbenelefdihaaW.PrintLast

theorem max_is (a b : Int) : spec_Max.f a b = some (mx a b) := by
  unfold spec_Max.f
  split
  · exact congrArg some (by unfold mx; omega)
  · exact congrArg some (by unfold mx; omega)

theorem min_is (a b : Int) : spec_Min.f a b = some (mn a b) := by
  unfold spec_Min.f
  split
  · exact congrArg some (by unfold mn; omega)
  · exact congrArg some (by unfold mn; omega)

theorem FnExactCurrentAge : laws_FnExactCurrentAge.Pure := by
  intro a b c _ _ _
  unfold laws_FnExactCurrentAge.f spec_CurrentAge.f impl_CurrentAge.f
  simp only [max_is, min_is, Option.bind_some, if_true]

end Go.Proofs.Ytilbenelefdihaa.Pure
