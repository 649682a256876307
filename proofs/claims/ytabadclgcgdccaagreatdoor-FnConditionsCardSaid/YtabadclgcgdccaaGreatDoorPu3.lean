/- Plain lemmas and definitions. Nothing is claimed here. -/
import Derived.Test.YtabadclgcgdccaaGreatDoorPu2
set_option linter.unusedSimpArgs false
set_option linter.unusedVariables false
namespace Go.Pu
open Go Go.RowKit Go.Pv
def findI{R:Type}(c:Nat→Option R):Nat→Nat→Option R
 |0,_=>none
 |m+1,i=>match c i with|some r=>some r|none=>findI c m (i+1)
def ocOf{R:Type}(o:Option R):Oc Unit R:=match o with|some r=> .oth r|none=> .nrm ()
theorem find_loop{R:Type}{len:Nat}{c:Nat→Option R}{F:Nat→Int→Option (Oc Unit R)}
 (T:∀n i,i<len→F (n+1) (i:Int)=match c i with|some r=>some (.oth r)|none=>F n ((i+1:Nat):Int))
 (E:∀n i,len≤i→F (n+1) (i:Int)=some (.nrm ())):∀(n i:Nat),i≤len→len -i<n→F n (i:Int)=some (ocOf (findI c (len -i) i)):=by
 intro n
 induction n with
 |zero=>intro i _ h;omega
 |succ n ih=>
  intro i hi hn
  by_cases h:i<len
  ·rw[T n i h,show len -i=(len -(i+1))+1 by omega,findI]
   cases hc:c i with
   |some r=>rfl
   |none=>simp only;rw[ih (i+1) (by omega) (by omega)]
  ·rw[E n i (by omega),show len -i=0 by omega];rfl
theorem find_all{R:Type}{len:Nat}{c:Nat→Option R}{F:Nat→Int→Option (Oc Unit R)}
 (T:∀n i,i<len→F (n+1) (i:Int)=match c i with|some r=>some (.oth r)|none=>F n ((i+1:Nat):Int))
 (E:∀n i,len≤i→F (n+1) (i:Int)=some (.nrm ())) {k:Nat} (hk:len<k):F k 0=some (ocOf (findI c len 0)):=by
 have:=find_loop T E k 0 (by omega) (by omega)
 simpa using this
def firstI(p:Nat→Bool)(m i:Nat):Option Nat:=findI (fun j=>bif p j then some j else none) m i
theorem findI_first{R:Type}{p:Nat→Bool}{v:Nat→R}:∀(m i:Nat),findI (fun j=>bif p j then some (v j)else none) m i=(firstI p m i).map v
 |0,_=>rfl
 |m+1,i=>by
  simp only[firstI,findI]
  cases p i with
  |true=>rfl
  |false=>exact findI_first m (i+1)
theorem firstI_some{p:Nat→Bool}:∀(m i j:Nat),firstI p m i=some j→i≤j∧j<i+m∧p j=true∧∀q,i≤q→q<j→p q=false
 |0,_,_,h=>by simp[firstI,findI]at h
 |m+1,i,j,h=>by
  simp only[firstI,findI]at h
  cases hp:p i with
  |true=>
   rw[hp]at h
   simp only[cond_true,Option.some.injEq]at h
   subst h
   exact⟨by omega,by omega,hp,fun q h1 h2=>by omega⟩
  |false=>
   rw[hp]at h
   obtain⟨h1,h2,h3,h4⟩:=firstI_some m (i+1) j h
   refine⟨by omega,by omega,h3,fun q h5 h6=> ?_⟩
   by_cases e:q=i
   ·rw[e];exact hp
   ·exact h4 q (by omega) h6
theorem firstI_none{p:Nat→Bool}:∀(m i:Nat),firstI p m i=none→∀q,i≤q→q<i+m→p q=false
 |0,_,_,q,h1,h2=>by omega
 |m+1,i,h,q,h1,h2=>by
  simp only[firstI,findI]at h
  cases hp:p i with
  |true=>rw[hp]at h;cases h
  |false=>
   rw[hp]at h
   by_cases e:q=i
   ·rw[e];exact hp
   ·exact firstI_none m (i+1) h q (by omega) (by omega)
theorem firstI_lt{p:Nat→Bool}{m j:Nat}(h:firstI p m 0=some j):j<m:=by have:=(firstI_some m 0 j h).2.1;omega
def foldI{S:Type}(g:Nat→S→S):Nat→Nat→S→S
 |0,_,s=>s
 |m+1,i,s=>foldI g m (i+1) (g i s)
theorem fold_loop{S O:Type}{len:Nat}{g:Nat→S→S}{Inv:Nat→S→Prop}{F:Nat→Int→S→Option O}{out:S→O}
 (T:∀n i s,i<len→Inv i s→F (n+1) (i:Int) s=F n ((i+1:Nat):Int) (g i s)∧Inv (i+1) (g i s))
 (E:∀n i s,len≤i→F (n+1) (i:Int) s=some (out s)):∀(n i:Nat) (s:S),i≤len→len -i<n→Inv i s→F n (i:Int) s=some (out (foldI g (len -i) i s))∧Inv len (foldI g (len -i) i s):=by
 intro n
 induction n with
 |zero=>intro i s _ h;omega
 |succ n ih=>
  intro i s hi hn hI
  by_cases h:i<len
  ·obtain⟨h1,h2⟩:=T n i s h hI
   rw[h1,show len -i=(len -(i+1))+1 by omega,foldI]
   exact ih (i+1) _ (by omega) (by omega) h2
  ·have:i=len:=by omega
   subst this
   rw[E n i s (by omega),Nat.sub_self]
   exact⟨rfl,hI⟩
theorem fold_all{S O:Type}{len:Nat}{g:Nat→S→S}{Inv:Nat→S→Prop}{F:Nat→Int→S→Option O}{out:S→O}
 (T:∀n i s,i<len→Inv i s→F (n+1) (i:Int) s=F n ((i+1:Nat):Int) (g i s)∧Inv (i+1) (g i s))
 (E:∀n i s,len≤i→F (n+1) (i:Int) s=some (out s)) {k:Nat} (hk:len<k) {s:S} (h0:Inv 0 s):F k 0 s=some (out (foldI g len 0 s))∧Inv len (foldI g len 0 s):=by
 have:=fold_loop T E k 0 s (by omega) (by omega) h0
 simpa using this
theorem foldI_rel{S S':Type}{g:Nat→S→S}{g':Nat→S'→S'}{R:Nat→S→S'→Prop}{len:Nat}(H:∀i s t,i<len→R i s t→R (i+1) (g i s) (g' i t)):∀(m i:Nat) (s:S) (t:S'),i+m=len→R i s t→R len (foldI g m i s) (foldI g' m i t)
 |0,i,s,t,h,h0=>by rw[show len=i by omega];exact h0
 |m+1,i,s,t,h,h0=>foldI_rel H m (i+1) _ _ (by omega) (H i s t (by omega) h0)
theorem foldI_append{A B:Type}{x:List A}{f:A→List B}:∀(m i:Nat) (s:List B),i+m=x.length→foldI (fun j s=>s++(x[j]?).elim [] f) m i s=s++(x.drop i).flatMap f
 |0,i,s,h=>by rw[List.drop_of_length_le (by omega)];simp[foldI]
 |m+1,i,s,h=>by
  have hi:i<x.length:=by omega
  rw[foldI,foldI_append m (i+1) _ (by omega),List.drop_eq_getElem_cons hi,List.getElem?_eq_getElem hi,Option.elim_some,List.flatMap_cons,List.append_assoc]
theorem flatMap_filter{A:Type}{p:A→Bool}(x:List A):x.flatMap (fun e=>bif p e then [e]else [])=x.filter p:=by
 induction x with
 |nil=>rfl
 |cons a l ih=>
  rw[List.flatMap_cons,ih,List.filter_cons]
  cases p a<;>rfl
theorem foldI_filter{A:Type}{p:A→Bool}(x:List A)(s:List A):foldI (fun j s=>s++(x[j]?).elim [] fun e=>bif p e then [e]else []) x.length 0 s=s++x.filter p:=by
 rw[foldI_append (f:=fun e=>bif p e then [e]else []) x.length 0 s (by omega),List.drop_zero,flatMap_filter]
theorem ssub_drop{A:Type}{x:List A}{i:Nat}(h:i≤x.length):ssub x (i:Int) (x.length:Int)=some (x.drop i):=by
 unfold ssub
 rw[if_pos (by omega)]
 simp
end Go.Pu
