/- Plain lemmas and definitions. Nothing is claimed here. -/
import Derived.Test.YtnidlohhndpjdaaGreatDoorPu3
set_option linter.unusedSimpArgs false
set_option linter.unusedVariables false
namespace Go.Pu
open Go Go.RowKit Go.Pv
theorem idx_set{A:Type}{l:List A}{i:Nat}{v:A}(h:i<l.length):idx (l.set i v) (i:Int)=some v:=by
 rw[idx_nat (by simpa using h)];simp
theorem md3{n:Int}:md n 3=some (n.tmod 3):=by simp[md]
def digT:Nat→Nat→List UInt8→List UInt8
 |0,_,acc=>acc
 |n+1,m,acc=>if m=0 then acc else digT n (m/10) (bytesOf [IntKind.wrap .u8 (IntKind.wrap .i64 (48+((m % 10:Nat):Int)))]++acc)
def mText(m:Int):List UInt8:=[109]++digT 20 m.toNat []
theorem markText_loop{F:Nat→Int→List UInt8→Option (List UInt8)}
 (step:∀n m acc,F (n+1) m acc=bif decide (m>0)then(md m 10).bind fun q=>(cat (bytesOf [IntKind.wrap .u8 (IntKind.wrap .i64 (48+q))]) acc).bind fun t=>(dv m 10).bind fun q=>F n (IntKind.wrap .i64 q) t else some acc):
 ∀(f n m:Nat) (acc:List UInt8),m<10^f→f<n→m≤1099511627787→acc.length≤1000 -f→f≤1000→F n (m:Int) acc=some (digT f m acc)∧(digT f m acc).length≤acc.length+f:=by
 intro f
 induction f with
 |zero=>
  intro n m acc h hn _ _ _
  obtain⟨n,rfl⟩:∃n',n=n'+1:=⟨n -1,by omega⟩
  have:m=0:=by simpa using h
  subst this
  rw[step,bif_dec,if_neg (by omega)]
  exact⟨rfl,by simp[digT]⟩
 |succ f ih=>
  intro n m acc h hn hm ha hf
  obtain⟨n,rfl⟩:∃n',n=n'+1:=⟨n -1,by omega⟩
  rw[step,bif_dec,digT]
  by_cases h0:m=0
  ·rw[if_neg (by omega),if_pos h0];exact⟨rfl,by omega⟩
  ·have e1:md (m:Int) 10=some ((m % 10:Nat):Int):=by simp[md,Int.tmod_eq_emod_of_nonneg]
   have e2:dv (m:Int) 10=some ((m/10:Nat):Int):=by simp[dv,Int.tdiv_eq_ediv_of_nonneg]
   rw[if_pos (by omega),e1,Option.bind_some,cat_ok (by simp[bytesOf];omega),Option.bind_some,e2,Option.bind_some,wrap_id (by omega) (by omega),if_neg h0]
   obtain⟨q1,q2⟩:=ih n (m/10) (bytesOf [IntKind.wrap .u8 (IntKind.wrap .i64 (48+((m % 10:Nat):Int)))]++acc) (by rw[Nat.pow_succ]at h;omega) (by omega) (by omega) (by simp[bytesOf];omega) (by omega)
   exact⟨q1,by rw[List.length_append]at q2;simp[bytesOf]at q2;simp[bytesOf];omega⟩
theorem markText_all{F:Nat→Int→List UInt8→Option (List UInt8)}
 (step:∀n m acc,F (n+1) m acc=bif decide (m>0)then(md m 10).bind fun q=>(cat (bytesOf [IntKind.wrap .u8 (IntKind.wrap .i64 (48+q))]) acc).bind fun t=>(dv m 10).bind fun q=>F n (IntKind.wrap .i64 q) t else some acc)
 {k:Nat} {m:Int} (hk:1073741824≤k) (h0:0<m) (h1:m≤1099511627787):(bif decide (m≤0)then some [109,48]else(F k m []).bind fun o=>(cat [109] o).bind fun t=>some t)=some (mText m):=by
 obtain⟨n,rfl⟩:∃n:Nat,m=n:=⟨m.toNat,by omega⟩
 have hp:(10:Nat)^20=100000000000000000000:=by decide
 obtain⟨q1,q2⟩:=markText_loop step 20 k n [] (by rw[hp];omega) (by omega) (by omega) (by simp) (by omega)
 rw[bif_dec,if_neg (by omega),q1,Option.bind_some,cat_ok (by simp at q2 ⊢;omega)]
 rfl
def marks{A:Type}(g:Int→A→A)(c:Nat):Int→List A→List A
 |_,[]=>[]
 |m,e::l=>g m e::marks g c (m+c) l
theorem marks_len{A:Type}{g:Int→A→A}{c:Nat}:∀(l:List A) (m:Int),(marks g c m l).length=l.length
 |[],_=>rfl
 |_::l,m=>by simp[marks,marks_len l]
theorem mark_loop{A:Type}{F:Nat→Int→Int→List A→Option (Int×List A)}{g:Int→A→A}{c:Nat}
 (T:∀n m (i:Nat) r (h:i<r.length),0<m→m≤1099511627776→r.length≤1099511627776→F (n+1) m (i:Int) r=F n (m+c) ((i+1:Nat):Int) (r.set i (g m r[i])))
 (E:∀n m (i:Nat) (r:List A),r.length≤i→F (n+1) m (i:Int) r=some (m,r)):
 ∀(n i:Nat) (m:Int) (r:List A),i≤r.length→r.length -i<n→0<m→m+c*(r.length -i:Nat)≤1099511627776→r.length≤1099511627776→F n m (i:Int) r=some (m+c*(r.length -i:Nat),r.take i++marks g c m (r.drop i)):=by
 intro n
 induction n with
 |zero=>intro i m r _ h;omega
 |succ n ih=>
  intro i m r hi hn h0 hm hr
  by_cases h:i<r.length
  ·have e:r.length -i=(r.length -(i+1))+1:=by omega
   rw[e]at hm
   have hc:(c:Int)*((r.length -(i+1)+1:Nat):Int)=c*((r.length -(i+1):Nat):Int)+c:=by push_cast;rw[Int.mul_add];simp
   rw[hc]at hm
   have hnn:(0:Int)≤c*((r.length -(i+1):Nat):Int):=Int.mul_nonneg (by omega) (by omega)
   rw[T n m i r h h0 (by omega) hr,ih (i+1) _ _ (by simp;omega) (by simp;omega) (by omega) (by simp only[List.length_set];omega) (by simpa using hr)]
   simp only[List.length_set]
   rw[e,hc]
   congr 1
   refine Prod.ext (by simp only;omega) ?_
   simp only
   rw[List.drop_eq_getElem_cons h,marks,List.take_add_one,List.take_set_of_le (by omega),List.getElem?_set_self h,List.drop_set_of_lt (by omega)]
   simp
  ·have:i=r.length:=by omega
   subst this
   rw[E n m _ r (by omega),Nat.sub_self,List.take_of_length_le (by omega),List.drop_of_length_le (by omega)]
   simp[marks]
theorem mark_all{A:Type}{F:Nat→Int→Int→List A→Option (Int×List A)}{g:Int→A→A}{c:Nat}
 (T:∀n m (i:Nat) r (h:i<r.length),0<m→m≤1099511627776→r.length≤1099511627776→F (n+1) m (i:Int) r=F n (m+c) ((i+1:Nat):Int) (r.set i (g m r[i])))
 (E:∀n m (i:Nat) (r:List A),r.length≤i→F (n+1) m (i:Int) r=some (m,r)) {k:Nat} {m:Int} {r:List A} (hk:r.length<k) (h0:0<m) (hm:m+c*r.length≤1099511627776) (hr:r.length≤1099511627776):
 F k m 0 r=some (m+c*r.length,marks g c m r):=by
 have:=mark_loop T E k 0 m r (by omega) (by omega) h0 (by simpa using hm) hr
 simpa using this
theorem held_loop{A:Type}{F:Nat→List A→Int→Int→Option (Oc Int Int)}{g:Int→A→A}{c:Nat}
 (T:∀n x m (i:Nat) (h:i<x.length) e,0<m→m≤1099511627776→x.length≤1099511627776→x[i]=g m e→F (n+1) x m (i:Int)=F n x (m+c) ((i+1:Nat):Int))
 (E:∀n x m (i:Nat),x.length≤i→F (n+1) x m (i:Int)=some (.nrm m)):
 ∀(n i:Nat) (m:Int) (x l:List A),x.drop i=marks g c m l→i≤x.length→x.length -i<n→0<m→m+c*l.length≤1099511627776→x.length≤1099511627776→F n x m (i:Int)=some (.nrm (m+c*l.length)):=by
 intro n
 induction n with
 |zero=>intro i m x l _ _ h;omega
 |succ n ih=>
  intro i m x l hd hi hn h0 hm hx
  cases l with
  |nil=>
   have hl:x.length≤i:=by
    have:=congrArg List.length hd
    simp[marks]at this
    omega
   rw[E n x m i hl]
   simp
  |cons e l=>
   have h:i<x.length:=by
    have:=congrArg List.length hd
    simp[marks]at this
    omega
   rw[List.drop_eq_getElem_cons h,marks]at hd
   have hd1:=(List.cons.inj hd).1
   have hd2:=(List.cons.inj hd).2
   have hc:(c:Int)*((l.length+1:Nat):Int)=c*(l.length:Int)+c:=by push_cast;rw[Int.mul_add];simp
   simp only[List.length_cons,hc]at hm ⊢
   have hnn:(0:Int)≤c*(l.length:Int):=Int.mul_nonneg (by omega) (by omega)
   rw[T n x m i h e h0 (by omega) hx hd1,ih (i+1) _ x l hd2 (by omega) (by omega) (by omega) (by omega) hx]
   congr 2
   omega
theorem held_all{A:Type}{F:Nat→List A→Int→Int→Option (Oc Int Int)}{g:Int→A→A}{c:Nat}
 (T:∀n x m (i:Nat) (h:i<x.length) e,0<m→m≤1099511627776→x.length≤1099511627776→x[i]=g m e→F (n+1) x m (i:Int)=F n x (m+c) ((i+1:Nat):Int))
 (E:∀n x m (i:Nat),x.length≤i→F (n+1) x m (i:Int)=some (.nrm m)) {k:Nat} {m:Int} {l:List A} (hk:l.length<k) (h0:0<m) (hm:m+c*l.length≤1099511627776) (hl:l.length≤1099511627776):
 F k (marks g c m l) m 0=some (.nrm (m+c*l.length)):=by
 have hlen:=marks_len (g:=g) (c:=c) l m
 have:=held_loop T E k 0 m (marks g c m l) l (by simp) (by omega) (by omega) h0 hm (by omega)
 simpa using this
end Go.Pu
