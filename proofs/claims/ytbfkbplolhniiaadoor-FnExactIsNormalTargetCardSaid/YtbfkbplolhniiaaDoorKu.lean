/- What the laws' own functions come to. Nothing is claimed here. -/
import Derived.Test.YtbfkbplolhniiaaDoorKf
import Derived.Test.YtbfkbplolhniiaaDoorPu6
set_option linter.unusedSimpArgs false
set_option linter.unusedVariables false
set_option maxRecDepth 100000
namespace Go.YtbfkbplolhniiaaDoor
open Go Go.RowKit Go.Pv Go.Pu


end Go.YtbfkbplolhniiaaDoor
