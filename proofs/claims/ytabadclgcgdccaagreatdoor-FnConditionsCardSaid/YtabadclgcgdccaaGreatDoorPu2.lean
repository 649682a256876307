/- Plain lemmas and definitions. Nothing is claimed here. -/
import Derived.Test.YtabadclgcgdccaaGreatDoorPu1
set_option linter.unusedSimpArgs false
set_option linter.unusedVariables false
namespace Go.Pu
open Go Go.RowKit Go.Pv
theorem bne_ne{A:Type} [BEq A] [LawfulBEq A]{a b:A}(h:¬a=b):(a !=b)=true:=by simpa using h
theorem beq_ne{A:Type} [BEq A] [LawfulBEq A]{a b:A}(h:¬a=b):(a==b)=false:=by simpa using h
end Go.Pu
