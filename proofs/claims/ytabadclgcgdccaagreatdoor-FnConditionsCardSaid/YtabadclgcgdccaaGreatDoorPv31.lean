/- Plain lemmas and definitions. Nothing is claimed here. -/
import Derived.Test.YtabadclgcgdccaaGreatDoorPv30
set_option linter.unusedSimpArgs false
set_option linter.unusedVariables false
namespace Go.Pv
open Go Go.RowKit
section
variable {D:Nat→Type} {el:Nat} {P:Program} {C:Ctx} {N:FrP} {W:Nat→Prop} {base:Nat} {w0:World} {s:Nat→SV} {m:Nat→Option MO} {bv:Nat→Nat} {hd:Nat→Value} {fp:Nat→Nat→Prop} {Fr:Nat→Prop} {a:Act} {w:World}
end
end Go.Pv
