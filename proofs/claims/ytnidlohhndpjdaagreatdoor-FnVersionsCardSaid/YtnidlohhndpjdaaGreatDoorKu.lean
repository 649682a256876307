/- What the laws' own functions come to. Nothing is claimed here. -/
import Derived.Test.YtnidlohhndpjdaaGreatDoorKf
import Derived.Test.YtnidlohhndpjdaaGreatDoorPu6
set_option linter.unusedSimpArgs false
set_option linter.unusedVariables false
set_option maxRecDepth 100000
namespace Go.YtnidlohhndpjdaaGreatDoor
open Go Go.RowKit Go.Pv Go.Pu
end Go.YtnidlohhndpjdaaGreatDoor
