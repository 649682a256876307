/- Plain lemmas and definitions. Nothing is claimed here. -/
import Derived.Test.YtabadclgcgdccaaGreatDoorPv30
import Derived.IntWalk
set_option linter.unusedSimpArgs false
set_option linter.unusedVariables false
namespace Go.Pu
open Go Go.RowKit Go.Pv
def InL{α:Type}(p:α→Prop)(l:List α):Prop:=l.length≤9223372036854775807∧∀x∈l,p x
section
variable {D:Nat→Type} {X:CT D}
theorem vv_l{ty:Nat}{l:List (D ty)}(h:∀d,VV X d (.sl ty l)){p:D ty→Prop}(hp:∀x,(∀v∈X.E ty x,∀d,VV X d v)→p x):InL p l:=
 ⟨(h 1).1,fun x hx=>hp x fun v hv d=>(h (d+1)).2 x hx v hv⟩
end
theorem wrap_id{n:Int}(h: -9223372036854775808≤n)(h':n≤9223372036854775807):IntKind.wrap .i64 n=n:=IntWalk.i64_in n ⟨h,h'⟩
theorem wrap_succ{i:Nat}(h:i<9223372036854775807):IntKind.wrap .i64 ((i:Int)+1)=((i+1:Nat):Int):=by rw[wrap_id (by omega) (by omega)];rfl
theorem idx_nat{α:Type}{l:List α}{i:Nat}(h:i<l.length):idx l (i:Int)=some l[i]:=by
 show l[i]? =_
 rw[List.getElem?_eq_getElem h]
theorem cat_ok{a b:List UInt8}(h:a.length+b.length≤9223372036854775807):cat a b=some (a++b):=by simp[cat,h]
theorem appn_ok{α:Type}{n:Nat}{a b:List α}(h:(a.length+b.length)*n≤140737488355328):app n a b=some (a++b):=by simp[app,h]
theorem ssub_ok{α:Type}{l:List α}{lo hi:Int}(h0:0≤lo)(h1:lo≤hi)(h2:hi≤(l.length:Int)):ssub l lo hi=some ((l.take hi.toNat).drop lo.toNat):=by simp[ssub,h0,h1,h2]
theorem bif_dec{α:Type}{p:Prop} [Decidable p]{a b:α}:(bif decide p then a else b)=if p then a else b:=by by_cases h:p<;>simp[h]
theorem lt_cast{a b:Nat}:((a:Int)<(b:Int))↔a<b:=by omega
end Go.Pu
