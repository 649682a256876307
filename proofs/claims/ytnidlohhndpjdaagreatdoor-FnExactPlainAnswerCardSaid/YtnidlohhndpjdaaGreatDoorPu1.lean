/- Plain lemmas and definitions. Nothing is claimed here. -/
import Derived.Test.YtnidlohhndpjdaaGreatDoorPv30
import Derived.IntWalk
set_option linter.unusedSimpArgs false
set_option linter.unusedVariables false
namespace Go.Pu
open Go Go.RowKit Go.Pv
def InI(n:Int):Prop:= -9223372036854775808≤n∧n≤9223372036854775807
def InS(s:List UInt8):Prop:=s.length≤9223372036854775807
def InL{α:Type}(p:α→Prop)(l:List α):Prop:=l.length≤9223372036854775807∧∀x∈l,p x
section
variable {D:Nat→Type} {X:CT D}
theorem vv_i{n:Int}(h:∀d,VV X d (.int .i64 n)):InI n:=by
 have h1:=h 1
 simp only[VV,Lit.wf,Bool.and_eq_true,decide_eq_true_eq]at h1
 have e1:IntKind.i64.min= -9223372036854775808:=by decide
 have e2:IntKind.i64.max=9223372036854775807:=by decide
 rw[e1,e2]at h1
 exact h1
theorem vv_s{s:List UInt8}(h:∀d,VV X d (.str s)):InS s:=h 1
theorem vv_l{ty:Nat}{l:List (D ty)}(h:∀d,VV X d (.sl ty l)){p:D ty→Prop}(hp:∀x,(∀v∈X.E ty x,∀d,VV X d v)→p x):InL p l:=
 ⟨(h 1).1,fun x hx=>hp x fun v hv d=>(h (d+1)).2 x hx v hv⟩
end
theorem wrap_id{n:Int}(h: -9223372036854775808≤n)(h':n≤9223372036854775807):IntKind.wrap .i64 n=n:=IntWalk.i64_in n ⟨h,h'⟩
theorem wrap_succ{i:Nat}(h:i<9223372036854775807):IntKind.wrap .i64 ((i:Int)+1)=((i+1:Nat):Int):=by rw[wrap_id (by omega) (by omega)];rfl
theorem idx_nat{α:Type}{l:List α}{i:Nat}(h:i<l.length):idx l (i:Int)=some l[i]:=by
 show l[i]? =_
 rw[List.getElem?_eq_getElem h]
theorem cat_ok{a b:List UInt8}(h:a.length+b.length≤9223372036854775807):cat a b=some (a++b):=by simp[cat,h]
theorem appn_ok{α:Type}{n:Nat}{a b:List α}(h:(a.length+b.length)*n≤140737488355328):app n a b=some (a++b):=by simp[app,h]
theorem mks_ok{α:Type}{n m:Nat}{z:α}(h:m*n≤140737488355328):mks n (m:Int) z=some (List.replicate m z):=by
 show(if m*n≤140737488355328 then _ else _)=_
 rw[if_pos h]
theorem ssub_ok{α:Type}{l:List α}{lo hi:Int}(h0:0≤lo)(h1:lo≤hi)(h2:hi≤(l.length:Int)):ssub l lo hi=some ((l.take hi.toNat).drop lo.toNat):=by simp[ssub,h0,h1,h2]
theorem bifT{α:Type}{p:Bool}{a b:α}(h:p=true):(bif p then a else b)=a:=by rw[h];rfl
theorem bifF{α:Type}{p:Bool}{a b:α}(h:p=false):(bif p then a else b)=b:=by rw[h];rfl
theorem bif_dec{α:Type}{p:Prop} [Decidable p]{a b:α}:(bif decide p then a else b)=if p then a else b:=by by_cases h:p<;>simp[h]
theorem guardT_self{α:Type}{n:Int}{o:Option α}:guardT (n==n) o=o:=by simp[guardT]
theorem lt_cast{a b:Nat}:((a:Int)<(b:Int))↔a<b:=by omega
theorem to_loop{A B:Type}{F:Nat→List A→Int→List B→Option (List B)}{f:A→Option B}{g:A→B}
 (step:∀n x i r,F (n+1) x i r=bif decide (i<(x.length:Int))then(idx x i).bind fun e=>(f e).bind fun w=>(idx r i).bind fun _=>(idx r i).bind fun _=>F n x (IntKind.wrap .i64 (i+1)) (r.set i.toNat w)else some r):
 ∀(n i:Nat) (x:List A) (r:List B),(∀e∈x,f e=some (g e))→r.length=x.length→x.length<9223372036854775807→i≤x.length→x.length -i<n→F n x (i:Int) r=some (r.take i++(x.drop i).map g):=by
 intro n
 induction n with
 |zero=>intro i x r _ _ _ _ h;omega
 |succ n ih=>
  intro i x r hf hr hx hi hn
  rw[step,bif_dec]
  by_cases h:i<x.length
  ·rw[if_pos (by omega),idx_nat h,Option.bind_some,hf _ (List.getElem_mem h),Option.bind_some,idx_nat (by omega),Option.bind_some,Option.bind_some,wrap_succ (by omega),Int.toNat_natCast,ih (i+1) x _ hf (by simp[hr]) hx (by omega) (by omega)]
   congr 1
   rw[List.drop_eq_getElem_cons h,List.map_cons,List.take_add_one,List.take_set_of_le (by omega),List.getElem?_set_self (by omega)]
   simp
  ·rw[if_neg (by omega)]
   have:i=x.length:=by omega
   subst this
   rw[List.take_of_length_le (by omega)]
   simp
theorem to_all{A B:Type}{F:Nat→List A→Int→List B→Option (List B)}{f:A→Option B}{g:A→B}{z:B}
 (step:∀n x i r,F (n+1) x i r=bif decide (i<(x.length:Int))then(idx x i).bind fun e=>(f e).bind fun w=>(idx r i).bind fun _=>(idx r i).bind fun _=>F n x (IntKind.wrap .i64 (i+1)) (r.set i.toNat w)else some r)
 {k:Nat} {x:List A} (hf:∀e∈x,f e=some (g e)) (hx:x.length<9223372036854775807) (hk:x.length<k):F k x 0 (List.replicate x.length z)=some (x.map g):=by
 have:=to_loop step k 0 x (List.replicate x.length z) hf (by simp) hx (by omega) (by omega)
 simpa using this
theorem eq_loop{A:Type} [DecidableEq A]{F:Nat→List A→List A→Int→Option (Oc Unit Bool)}{f:A→A→Option Bool}
 (step:∀n x y i,F (n+1) x y i=bif decide (i<(x.length:Int))then(idx x i).bind fun e=>(idx y i).bind fun e'=>(f e e').bind fun w=>bif !w then some (.oth false)else F n x y (IntKind.wrap .i64 (i+1))else some (.nrm ())):
 ∀(n i:Nat) (x y:List A),(∀e∈x,∀e'∈y,f e e'=some (decide (e=e')))→y.length=x.length→x.length<9223372036854775807→i≤x.length→x.length -i<n→F n x y (i:Int)=some (if x.drop i=y.drop i then .nrm ()else .oth false):=by
 intro n
 induction n with
 |zero=>intro i x y _ _ _ _ h;omega
 |succ n ih=>
  intro i x y hf hr hx hi hn
  rw[step,bif_dec]
  by_cases h:i<x.length
  ·rw[if_pos (by omega),idx_nat h,Option.bind_some,idx_nat (by omega),Option.bind_some,hf _ (List.getElem_mem h) _ (List.getElem_mem (by omega)),Option.bind_some,List.drop_eq_getElem_cons h,List.drop_eq_getElem_cons (by omega:i<y.length)]
   by_cases he:x[i]=y[i]
   ·rw[bifF (by simp[he]),wrap_succ (by omega),ih (i+1) x y hf hr hx (by omega) (by omega)]
    simp only[List.cons.injEq,he,true_and]
   ·rw[bifT (by simp[he])]
    simp only[List.cons.injEq,he,false_and,if_false]
  ·rw[if_neg (by omega)]
   rw[List.drop_of_length_le (by omega),List.drop_of_length_le (by omega)]
   simp
theorem eq_all{A:Type} [DecidableEq A]{F:Nat→List A→List A→Int→Option (Oc Unit Bool)}{f:A→A→Option Bool}
 (step:∀n x y i,F (n+1) x y i=bif decide (i<(x.length:Int))then(idx x i).bind fun e=>(idx y i).bind fun e'=>(f e e').bind fun w=>bif !w then some (.oth false)else F n x y (IntKind.wrap .i64 (i+1))else some (.nrm ()))
 {k:Nat} {x y:List A} (hf:∀e∈x,∀e'∈y,f e e'=some (decide (e=e'))) (hx:x.length<9223372036854775807) (hk:x.length<k):
 (bif((x.length:Int) !=(y.length:Int))then some false else(F k x y 0).bind fun o=>oc o (fun _=>some true) fun b=>some b)=some (decide (x=y)):=by
 by_cases hl:y.length=x.length
 ·rw[bifF (by simp[hl])]
  have:=eq_loop step k 0 x y hf hl hx (by omega) (by omega)
  rw[show((0:Nat):Int)=0 from rfl]at this
  rw[this]
  simp only[List.drop_zero,Option.bind_some]
  by_cases he:x=y<;>simp[he,oc]
 ·rw[bifT (by simp;omega)]
  have:¬x=y:=fun e=>hl (by rw[e])
  simp[this]
theorem sz_loop{A:Type}{F:Nat→List A→Int→Int→Option (Oc Int Int)}{f:A→Int→Option Int}{g:A→Nat}
 (step:∀n x l i,F (n+1) x l i=bif decide (i<(x.length:Int))then(idx x i).bind fun e=>(f e l).bind fun w=>bif decide (w<0)then some (.oth (-1))else F n x w (IntKind.wrap .i64 (i+1))else some (.nrm l)):
 ∀(n i:Nat) (x:List A) (l:Int),(∀e∈x,∀l:Int,0≤l→l≤1048576→f e l=some (if(g e:Int)≤l then l -g e else -1))→x.length<9223372036854775807→i≤x.length→x.length -i<n→0≤l→l≤1048576→
  F n x l (i:Int)=some (if(((x.drop i).map g).sum:Int)≤l then .nrm (l -(((x.drop i).map g).sum:Nat))else .oth (-1)):=by
 intro n
 induction n with
 |zero=>intro i x l _ _ _ h;omega
 |succ n ih=>
  intro i x l hf hx hi hn h0 h1
  rw[step,bif_dec]
  by_cases h:i<x.length
  ·rw[if_pos (by omega),idx_nat h,Option.bind_some,hf _ (List.getElem_mem h) l h0 h1,Option.bind_some,List.drop_eq_getElem_cons h,List.map_cons,List.sum_cons,bif_dec]
   by_cases he:(g x[i]:Int)≤l
   ·rw[if_pos he,if_neg (by omega),wrap_succ (by omega),ih (i+1) x _ hf hx (by omega) (by omega) (by omega) (by omega)]
    by_cases hs:(((x.drop (i+1)).map g).sum:Int)≤l -g x[i]
    ·rw[if_pos hs,if_pos (by push_cast;omega)]
     congr 2;push_cast;omega
    ·rw[if_neg hs,if_neg (by push_cast;omega)]
   ·rw[if_neg he,if_pos (by omega),if_neg (by push_cast;omega)]
  ·rw[if_neg (by omega),List.drop_of_length_le (by omega)]
   simp[h0]
def szL{A:Type}(g:A→Nat)(x:List A):Nat:=x.length+(x.map g).sum
theorem sz_all{A:Type}{F:Nat→List A→Int→Int→Option (Oc Int Int)}{f:A→Int→Option Int}{g:A→Nat}
 (step:∀n x l i,F (n+1) x l i=bif decide (i<(x.length:Int))then(idx x i).bind fun e=>(f e l).bind fun w=>bif decide (w<0)then some (.oth (-1))else F n x w (IntKind.wrap .i64 (i+1))else some (.nrm l))
 {k:Nat} {x:List A} {l:Int} (hf:∀e∈x,∀l:Int,0≤l→l≤1048576→f e l=some (if(g e:Int)≤l then l -g e else -1)) (hx:x.length≤9223372036854775807) (h0:0≤l) (h1:l≤1048576) (hk:1048576<k):
 (bif decide (IntKind.wrap .i64 (l -(x.length:Int))<0)then some (-1)else(F k x (IntKind.wrap .i64 (l -(x.length:Int))) 0).bind fun o=>oc o (fun v=>some v) fun v=>some v)=some (if(szL g x:Int)≤l then l -szL g x else -1):=by
 rw[wrap_id (by omega) (by omega),bif_dec]
 unfold szL
 by_cases h:l -(x.length:Int)<0
 ·rw[if_pos h,if_neg (by push_cast;omega)]
 ·rw[if_neg h]
  have:=sz_loop step k 0 x (l -x.length) hf (by omega) (by omega) (by omega) (by omega) (by omega)
  rw[show((0:Nat):Int)=0 from rfl]at this
  rw[this,List.drop_zero,Option.bind_some]
  by_cases hs:((x.map g).sum:Int)≤l -x.length
  ·rw[if_pos hs,if_pos (by push_cast;omega)]
   simp only[oc]
   congr 1;push_cast;omega
  ·rw[if_neg hs,if_neg (by push_cast;omega)]
   rfl
end Go.Pu
