/- Plain lemmas and definitions. Nothing is claimed here. -/
import Derived.Test.YtnidlohhndpjdaaGreatDoorPu1
set_option linter.unusedSimpArgs false
set_option linter.unusedVariables false
namespace Go.Pu
open Go Go.RowKit Go.Pv
theorem bne_ne{A:Type} [BEq A] [LawfulBEq A]{a b:A}(h:¬a=b):(a !=b)=true:=by simpa using h
theorem beq_ne{A:Type} [BEq A] [LawfulBEq A]{a b:A}(h:¬a=b):(a==b)=false:=by simpa using h
theorem sum_mem{A:Type}{g:A→Nat}:∀{x:List A} {e:A},e∈x→g e≤(x.map g).sum
 |a::x,e,h=>by
  simp only[List.map_cons,List.sum_cons]
  rcases List.mem_cons.1 h with rfl|h
  ·omega
  ·have:=sum_mem (g:=g) h;omega
theorem sz_mem{A:Type}{g:A→Nat}{x:List A}{e:A}(h:e∈x):g e+x.length≤szL g x:=by
 unfold szL;have:=sum_mem (g:=g) h;omega
theorem to_str{F:Nat→List (List UInt8)→Int→List (List UInt8)→Option (List (List UInt8))}
 (step:∀n x i r,F (n+1) x i r=bif decide (i<(x.length:Int))then(idx x i).bind fun e=>(idx r i).bind fun _=>(idx r i).bind fun _=>F n x (IntKind.wrap .i64 (i+1)) (r.set i.toNat e)else some r)
 {k:Nat} {x:List (List UInt8)} (hx:x.length<9223372036854775807) (hk:x.length<k):F k x 0 (List.replicate x.length [])=some x:=by
 have:=to_all (F:=F) (f:=some) (g:=id) (z:=[]) (fun n x i r=>by
  rw[step]
  cases idx x i<;>rfl) (k:=k) (x:=x) (fun _ _=>rfl) hx hk
 simpa using this
theorem eq_str{F:Nat→List (List UInt8)→List (List UInt8)→Int→Option (Oc Unit Bool)}
 (step:∀n x y i,F (n+1) x y i=bif decide (i<(x.length:Int))then(idx x i).bind fun e=>(idx y i).bind fun e'=>bif !(e==e')then some (.oth false)else F n x y (IntKind.wrap .i64 (i+1))else some (.nrm ()))
 {k:Nat} {x y:List (List UInt8)} (hx:x.length<9223372036854775807) (hk:x.length<k):
 (bif((x.length:Int) !=(y.length:Int))then some false else(F k x y 0).bind fun o=>oc o (fun _=>some true) fun b=>some b)=some (decide (x=y)):=
 eq_all (f:=fun a b=>some (decide (a=b))) (fun n x y i=>by
  rw[step]
  cases idx x i with
  |none=>rfl
  |some e=>
   simp only[Option.bind_some]
   cases idx y i with
   |none=>rfl
   |some e'=>
    simp only[Option.bind_some]
    by_cases h:e=e'
    ·simp[h]
    ·have h2:(e==e')=false:=by simpa using h
     simp[h,h2]) (fun _ _ _ _=>rfl) hx hk
theorem szstr_loop{F:Nat→List (List UInt8)→Int→Int→Option (Oc Int Int)}
 (step:∀n x l i,F (n+1) x l i=bif decide (i<(x.length:Int))then(idx x i).bind fun e=>bif decide (IntKind.wrap .i64 (l -(e.length:Int))<0)then some (.oth (-1))else F n x (IntKind.wrap .i64 (l -(e.length:Int))) (IntKind.wrap .i64 (i+1))else some (.nrm l)):
 ∀(n i:Nat) (x:List (List UInt8)) (l:Int),(∀e∈x,e.length≤9223372036854775807)→x.length<9223372036854775807→i≤x.length→x.length -i<n→0≤l→l≤1048576→
  F n x l (i:Int)=some (if(((x.drop i).map List.length).sum:Int)≤l then .nrm (l -(((x.drop i).map List.length).sum:Nat))else .oth (-1)):=by
 intro n
 induction n with
 |zero=>intro i x l _ _ _ h;omega
 |succ n ih=>
  intro i x l hf hx hi hn h0 h1
  rw[step,bif_dec]
  by_cases h:i<x.length
  ·have he1:=hf _ (List.getElem_mem h)
   rw[if_pos (by omega),idx_nat h,Option.bind_some,List.drop_eq_getElem_cons h,List.map_cons,List.sum_cons,bif_dec,wrap_id (by omega) (by omega)]
   by_cases he:(x[i].length:Int)≤l
   ·rw[if_neg (by omega),wrap_succ (by omega),ih (i+1) x _ hf hx (by omega) (by omega) (by omega) (by omega)]
    by_cases hs:(((x.drop (i+1)).map List.length).sum:Int)≤l -x[i].length
    ·rw[if_pos hs,if_pos (by push_cast;omega)]
     congr 2;push_cast;omega
    ·rw[if_neg hs,if_neg (by push_cast;omega)]
   ·rw[if_pos (by omega),if_neg (by push_cast;omega)]
  ·rw[if_neg (by omega),List.drop_of_length_le (by omega)]
   simp[h0]
theorem sz_str{F:Nat→List (List UInt8)→Int→Int→Option (Oc Int Int)}
 (step:∀n x l i,F (n+1) x l i=bif decide (i<(x.length:Int))then(idx x i).bind fun e=>bif decide (IntKind.wrap .i64 (l -(e.length:Int))<0)then some (.oth (-1))else F n x (IntKind.wrap .i64 (l -(e.length:Int))) (IntKind.wrap .i64 (i+1))else some (.nrm l))
 {k:Nat} {x:List (List UInt8)} {l:Int} (hf:∀e∈x,e.length≤9223372036854775807) (hx:x.length≤9223372036854775807) (h0:0≤l) (h1:l≤1048576) (hk:1048576<k):
 (bif decide (IntKind.wrap .i64 (l -(x.length:Int))<0)then some (-1)else(F k x (IntKind.wrap .i64 (l -(x.length:Int))) 0).bind fun o=>oc o (fun v=>some v) fun v=>some v)=some (if(szL List.length x:Int)≤l then l -szL List.length x else -1):=by
 rw[wrap_id (by omega) (by omega),bif_dec]
 unfold szL
 by_cases h:l -(x.length:Int)<0
 ·rw[if_pos h,if_neg (by push_cast;omega)]
 ·rw[if_neg h]
  have:=szstr_loop step k 0 x (l -x.length) hf (by omega) (by omega) (by omega) (by omega) (by omega)
  rw[show((0:Nat):Int)=0 from rfl]at this
  rw[this,List.drop_zero,Option.bind_some]
  by_cases hs:((x.map List.length).sum:Int)≤l -x.length
  ·rw[if_pos hs,if_pos (by push_cast;omega)]
   simp only[oc]
   congr 1;push_cast;omega
  ·rw[if_neg hs,if_neg (by push_cast;omega)]
   rfl
end Go.Pu
