/- What the laws' own functions come to. Nothing is claimed here. -/
import Derived.Test.YtabadclgcgdccaaGreatDoorKf
import Derived.Test.YtabadclgcgdccaaGreatDoorPu6
set_option linter.unusedSimpArgs false
set_option linter.unusedVariables false
set_option maxRecDepth 100000
namespace Go.YtabadclgcgdccaaGreatDoor
open Go Go.RowKit Go.Pv Go.Pu
end Go.YtabadclgcgdccaaGreatDoor
