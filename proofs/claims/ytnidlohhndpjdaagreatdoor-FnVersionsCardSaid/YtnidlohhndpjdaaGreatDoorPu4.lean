/- Plain lemmas and definitions. Nothing is claimed here. -/
import Derived.Test.YtnidlohhndpjdaaGreatDoorPu3
set_option linter.unusedSimpArgs false
set_option linter.unusedVariables false
namespace Go.Pu
open Go Go.RowKit Go.Pv
theorem idx_set {A : Type} {l : List A} {i : Nat} {v : A} (h : i < l.length) : idx (l.set i v) (i : Int) = some v := by
 rw [idx_nat (by simpa using h)]; simp
end Go.Pu
