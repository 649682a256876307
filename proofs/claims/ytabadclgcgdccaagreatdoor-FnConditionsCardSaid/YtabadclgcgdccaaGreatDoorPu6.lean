/- Plain lemmas and definitions. Nothing is claimed here. -/
import Derived.Test.YtabadclgcgdccaaGreatDoorPu5
set_option linter.unusedSimpArgs false
set_option linter.unusedVariables false
namespace Go.Pu
open Go Go.RowKit Go.Pv
def InB(n:Int):Prop:=0≤n∧n≤255
theorem vv_b{D:Nat→Type}{X:CT D}{n:Int}(h:∀d,VV X d (.int .u8 n)):InB n:=by
 have h1:=h 1
 simp only[VV,Lit.wf,Bool.and_eq_true,decide_eq_true_eq]at h1
 have e1:IntKind.u8.min=0:=by decide
 have e2:IntKind.u8.max=255:=by decide
 rw[e1,e2]at h1
 exact h1
end Go.Pu
