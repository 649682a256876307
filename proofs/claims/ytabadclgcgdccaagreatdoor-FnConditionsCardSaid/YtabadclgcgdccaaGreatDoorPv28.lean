/- Plain lemmas and definitions. Nothing is claimed here. -/
import Derived.Test.YtabadclgcgdccaaGreatDoorPv27
set_option linter.unusedSimpArgs false
set_option linter.unusedVariables false
namespace Go.Pv
open Go Go.RowKit
def flatC:T→Prop
 | .sl _ _=>True
 |t=>t.scalar=true
def argWC:Nat→List T→List SV×List (Nat×Option MO)
 |_,[]=>([],[])
 |j,.sl sz rows::r=>(.ref (600000+j) 0::(argWC (j+1) r).1,(600000+j,some (.row 0 sz rows))::(argWC (j+1) r).2)
 |j,x::r=>(.t x::(argWC (j+1) r).1,(argWC (j+1) r).2)
theorem argWC_len:∀(l:List T) (j:Nat),(argWC j l).1.length=l.length
 |[],_=>rfl
 |t::r,j=>by cases t<;>simp[argWC,argWC_len r]
theorem argWC_sl:∀(l:List T) (j i:Nat) (sv:SV),(argWC j l).1[i]? =some sv→∃t,l[i]? =some t∧(sv= .t t∨∃sz rows,t= .sl sz rows∧sv= .ref (600000+(j+i)) 0)
 |[],_,i,sv,h=>by simp[argWC]at h
 |t::r,j,0,sv,h=>by
  refine⟨t,rfl, ?_⟩
  cases t<;>simp[argWC]at h<;>subst h<;>simp
 |t::r,j,i+1,sv,h=>by
  have:(argWC (j+1) r).1[i]? =some sv:=by cases t<;>simpa[argWC]using h
  obtain⟨t',h1,h2⟩:=argWC_sl r (j+1) i sv this
  refine⟨t',by simpa using h1, ?_⟩
  rcases h2 with h2|⟨sz,rows,h2,h3⟩
  ·exact .inl h2
  ·exact .inr ⟨sz,rows,h2,by rw[h3];congr 1;omega⟩
theorem argWC_me:∀(l:List T) (j id:Nat) (o:MO),look (argWC j l).2 id none=some o→∃i sz rows,id=600000+(j+i)∧l[i]? =some (.sl sz rows)∧o= .row 0 sz rows
 |[],_,_,_,h=>by simp[argWC,look]at h
 |t::r,j,id,o,h=>by
  have step:look (argWC (j+1) r).2 id none=some o→∃i sz rows,id=600000+(j+i)∧(t::r)[i]? =some (.sl sz rows)∧o= .row 0 sz rows:=by
   intro h
   obtain⟨i,sz,rows,h1,h2,h3⟩:=argWC_me r (j+1) id o h
   exact⟨i+1,sz,rows,by omega,by simpa using h2,h3⟩
  cases t with
  |sl sz rows=>
   simp only[argWC]at h
   rw[look_cons]at h
   by_cases hi:id=600000+j
   ·simp only[hi,if_true,Option.some.injEq]at h
    exact⟨0,sz,rows,by omega,rfl,h.symm⟩
   ·simp only[hi,if_false]at h;exact step h
  |_=>exact step h
section
variable {D:Nat→Type} {X:CT D} {cl:Calls' D}
def asF(g:Nat)(sv:VS D)(K:List (VS D)→Prop):Prop:=match sv with| .clo f l=>bcond (Nat.beq f g) (K l) False|_=>False
def cloOf:List (VS D)→Nat
 |[]=>0
 | .clo g _::_=>g
 |_::r=>cloOf r
def selE(l:List (Nat×Entry D)):Entry D:=fun m vs K=>(look l (cloOf vs) fun _ _ _=>False) m vs K
theorem selE_ok{g:Nat}{l:List (Nat×Entry D)}(h:AllP (fun p:Nat×Entry D=>EntryOK X g p.2) l):EntryOK X g (selE l):=by
 intro m vs K hK
 unfold selE at hK
 rcases look_key (rfl:look l (cloOf vs) (fun _ _ _=>False)=look l (cloOf vs) fun _ _ _=>False)with h1|h1
 ·rw[h1]at hK;exact hK.elim
 ·exact AllP_mem h _ h1 m vs K hK
end
def argQ(l0 l:List T):St:=⟨[(0,.ptr 700000 0),(1,.agg (argWC 0 l).1)],(700000,some (.var (l0.map SV.t)))::(argWC 0 l).2⟩
theorem callQ_of{P:Program}{C:Ctx}(H:CtxOK P C)(hm:P.follows .mixedOrders=true){g:FuncId}{fn:Func}{body:Code}{l0 l l1 rs:List T}{pl:Plan}{k pt:Nat}(hf:P.funcs[g]? =some fn)(hb:fn.body=some body)
 (hok:fnPOK fn body 1=true) (hpt:pt≠0) (hag:(C.i pt).agg=true) (hfl:AllP flatC l) (hlen:l.length≤1000) (h:wpc C pl k body (argQ l0 l) (retK C (.cell 0 pt::fn.results.toList) (.tup (.agg l1::rs)))):CallQ P C.gi g l0 l (oneT rs) l1:=by
 simp only[fnPOK,Bool.and_eq_true,Bool.not_eq_true']at hok
 obtain⟨⟨⟨⟨hc,hn⟩,hr4⟩,hname⟩,hnp⟩:=hok
 have hn:=bleN hn
 have hr4:=bleN hr4
 refine⟨⟨fn,hf,hname,by rw[hb];rfl⟩,fun w b us G Fr hgi hbs hnb hG hfr hD ⟨cs,el,hh,hl,hrd⟩ hul hown=> ?_⟩
 refine calls_of_wp hf hb ?_
 let v0:Value:= .pointer (some ⟨b,0,none⟩)
 let vs:List Value:=[.agg ⟨us⟩]
 let act:Act:={ tmps:=(⟨v0::vs⟩:Array Value)++Array.replicate (fn.ntmps -(⟨v0::vs⟩:Array Value).size) undef,defers:=[] }
 have get:∀i (hi:i<(v0::vs).length),act.tmps.getD i undef=(v0::vs)[i]:=fun i hi=>by
  show((⟨v0::vs⟩:Array Value)++Array.replicate _ undef).getD i undef=_
  have hi':i<(⟨v0::vs⟩:Array Value).size:=by simpa using hi
  rw[Array.getD_eq_getD_getElem?,Array.getElem?_append_left hi',Array.getElem?_eq_getElem hi']
  rfl
 let hd0:Nat→Value:=fun id=>us.getD (id -600000) undef
 let fp0:Nat→Nat→Prop:=fun id x=>(id=700000∧x=b)∨(600000≤id∧id<700000∧G (id -600000) x)
 have hm0:∀id o,(argQ l0 l).m id=some o→(id=700000∧o= .var (l0.map SV.t))∨∃i sz rows,id=600000+i∧i<1000∧l[i]? =some (.sl sz rows)∧o= .row 0 sz rows:=by
  intro id o h
  have h:look ((700000,some (MO.var (l0.map SV.t)))::(argWC 0 l).2) id none=some o:=h
  rw[look_cons]at h
  by_cases e:id=700000
  ·simp only[e,if_true,Option.some.injEq]at h;exact .inl ⟨e,h.symm⟩
  ·simp only[e,if_false]at h
   obtain⟨i,sz,rows,e1,e2,e3⟩:=argWC_me l 0 id o h
   have:=(List.getElem?_eq_some_iff.1 e2).1
   exact .inr ⟨i,sz,rows,by omega,by omega,e2,e3⟩
 have R0:Rel ⟨fn.ntmps,1,fun _=>v0,C.gi,Fr⟩ (fun x=>x=b∨∃i,G i x) w.heap.size w (argQ l0 l).s (argQ l0 l).m act w:=by
  refine⟨fun _=>b,hd0,fp0,Fr,rfl, ?_,fun t ht=> ?_,hgi,fun x hx=> .inl hx,⟨rfl,rfl,rfl,Nat.le_refl _,fun _ _ _=>rfl⟩,Nat.le_refl _,fun t=> ?_, ?_⟩
  ·show((⟨v0::vs⟩:Array Value)++Array.replicate (fn.ntmps -_) undef).size=fn.ntmps
   simp[vs];omega
  ·have:t=0:=by have ht:t<1:=ht;omega
   subst this
   exact get 0 (by simp)
  ·show VRel w Fr (argQ l0 l).m _ _ (look [(0,SV.ptr 700000 0),(1,.agg (argWC 0 l).1)] t .gone) _
   rw[look_cons,look_cons]
   by_cases e0:t=0
   ·subst e0
    simp only[if_true]
    rw[get 0 (by simp)]
    exact .ptr _ _ _ ⟨_,rfl⟩ fun l _=>rfl
   by_cases e1:t=1
   ·subst e1
    simp only[if_true]
    rw[get 1 (by simp[vs])]
    show VRel w Fr (argQ l0 l).m _ _ (.agg (argWC 0 l).1) (.agg ⟨us⟩)
    refine .agg _ us (by rw[hul,argWC_len]) fun i v sv e1 e2=> ?_
    obtain⟨t,h1,h2⟩:=argWC_sl l 0 i sv e2
    have ho:=hown i v t e1 h1
    rcases h2 with rfl|⟨sz,rows,rfl,rfl⟩
    ·have hft:=AllP_mem hfl t (List.mem_of_getElem? h1)
     cases t with
     |sl sz rows=>
      exfalso
      have key:∀(l:List T) (j i:Nat),l[i]? =some (.sl sz rows)→(argWC j l).1[i]? =some (.ref (600000+(j+i)) 0):=by
       intro l
       induction l with
       |nil=>intro j i h;simp at h
       |cons a l ih=>
        intro j i h
        cases i with
        |zero=>simp at h;subst h;simp[argWC]
        |succ i=>
         have:=ih (j+1) i (by simpa using h)
         cases a<;>simp[argWC]<;>(rw[this];congr 2;omega)
      rw[key l 0 i h1]at e2
      cases e2
     |_=>exact .t _ _ (ho.reads.owns_scalar hft w _|>.reads)
    ·obtain⟨a1,n1,c1,e,_⟩:=ho.slice
     refine .ref _ _ _ ⟨a1,n1,c1,e⟩ fun sz' rows' _=> ?_
     show v=us.getD (600000+(0+i) -600000) undef
     rw[show 600000+(0+i) -600000=i by omega,List.getD_eq_getElem?_getD,e1];rfl
   ·simp only[e0,e1,if_false];exact .gone _
  ·refine⟨fun id l' h=> ?_,fun id ver sz rows h=> ?_,fun id ver sz rows q l' h=> ?_,fun id id' x _ _ h3 h4=> ?_,fun id x _ h=> ?_,hfr,fun id sz1 rows1 h=> ?_⟩
   ·rcases hm0 id _ h with⟨e,h⟩|⟨i,sz,rows,_,_,_,h⟩
    ·cases h
     refine⟨.inl ⟨e,rfl⟩,cs,el,hh,by simpa using hl,fun i v s e1 e2=> ?_⟩
     rw[List.getElem?_map,Option.map_eq_some_iff]at e2
     obtain⟨t,e2,rfl⟩:=e2
     exact .t _ _ (hrd i v t e1 e2)
    ·cases h
   ·rcases hm0 id _ h with⟨e,h⟩|⟨i,sz',rows',e1,e2,e3,h⟩
    ·cases h
    ·cases h
     have hi:i<us.length:=by rw[hul];exact(List.getElem?_eq_some_iff.1 e3).1
     have ho:=hown i _ _ (List.getElem?_eq_getElem hi) e3
     have e4:hd0 id=us[i]:=by simp[hd0,e1,List.getD_eq_getElem?_getD,List.getElem?_eq_getElem hi]
     rw[e4]
     exact ho.mono (fun x hx=> .inr ⟨by omega,by omega,by rw[e1,Nat.add_sub_cancel_left];exact hx⟩) fun _ _=>rfl
   ·rcases hm0 id _ h with⟨_,h⟩|⟨_,_,_,_,_,_,h⟩<;>cases h
   ·rcases h3 with⟨e1,h3⟩|⟨a1,a2,h3⟩<;>rcases h4 with⟨e2,h4⟩|⟨b1,b2,h4⟩
    ·rw[e1,e2]
    ·exact absurd h3 (hG _ _ h4).2.2
    ·exact absurd h4 (hG _ _ h3).2.2
    ·have:=hD _ _ _ h3 h4;omega
   ·rcases h with⟨_,h⟩|⟨_,_,h⟩
    ·exact⟨.inr (.inl h),by rw[h];exact hbs,by rw[h];exact hnb⟩
    ·exact⟨.inr (.inr ⟨_,h⟩),(hG _ _ h).1,(hG _ _ h).2.1⟩
   ·rcases asRow_of h with h|⟨_,_,h⟩<;>rcases hm0 id _ h with⟨_,h⟩|⟨_,_,_,_,_,_,h⟩<;>cases h
 refine wpc_sound H (fun _ h=>h) hm body _ _ _ _ w hc h R0 fun e st' a' w' hK R'=> ?_
 obtain⟨bv,hd,fp,Fr',R'⟩:=R'
 have fin:RetOK C st' (.cell 0 pt::fn.results.toList) (.tup (.agg l1::rs))→
  a'.defers=[]∧∃v,(results fn a'.tmps).run P w'= .ok v w'∧∃v' F Fr',Ending.returned v= .returned v'∧Owns w' F v' (oneT rs)∧(∀x,F x→(w.heap.size≤x∨∃i,G i x)∧x<w'.heap.size∧¬Fr' x)∧BelowW (fun x=>x=b∨∃i,G i x) w.heap.size w w'∧
  (∀x,Fr' x→(Fr x∨w.heap.size≤x∨∃i,G i x)∧x<w'.heap.size∧x≠b)∧
  ∃cs el,w'.heap[b]? =some (.cells ⟨cs⟩ el (0,0))∧cs.length=l1.length∧∀(i:Nat) v t,cs[i]? =some v→l1[i]? =some t→Reads w' Fr' v t:=by
  intro hr
  have hr:∃l1' ts',T.tup (.agg l1::rs)= .tup (.agg l1'::ts')∧resV C st' (.cell 0 pt)= .agg (l1'.map SV.t)∧rbo st'.m 4 (resOf (fn.results.toList.map (resV C st'))) (oneT ts')∧nodupN (refs 4 (resOf (fn.results.toList.map (resV C st'))))=true:=by
   unfold RetOK at hr
   split at hr
   ·rename_i e;simp only[List.cons.injEq,ResultVar.cell.injEq]at e;exact absurd e.1.2 hpt
   ·rename_i t' rs' _ e
    simp only[List.cons.injEq,ResultVar.cell.injEq]at e
    obtain⟨⟨_,rfl⟩,rfl⟩:=e
    exact hr
   ·rename_i e;exact(e _ _ rfl).elim
  obtain⟨l1',ts',e,h1,h2,h3⟩:=hr
  simp only[T.tup.injEq,List.cons.injEq,T.agg.injEq]at e
  obtain⟨rfl,rfl⟩:=e
  obtain⟨id,l,hmid,hv0,hfp,cs',el',hh',hl',hrd'⟩:=var_cells R' hag h1
  have hpin:=R'.pins 0 (by show 0<1;omega)
  rw[hpin]at hv0
  have hbe:b=bv id:=by have:v0=_:=hv0;simp only[v0]at this;injection this with this;injection this with this;injection this
  rw[←hbe]at hh' hfp
  have hlive:st'.m id≠none:=by rw[hmid];simp
  obtain⟨v,h4,h5⟩:=res_run H R' hr4 h2
  refine⟨R'.defs,v,h4,v,_,Fr',rfl,rbo_own R'.mem 4 _ _ _ h5 h2 (nodupN_iff.1 h3), ?_,R'.below,fun x hx=> ?_,cs',el',hh',hl',hrd'⟩
  ·rintro x ⟨j,hj,hx⟩
   have ho:=R'.mem.own j x (rbo_live 4 _ _ h2 j hj) hx
   have hne:x≠b:=by
    rintro rfl
    obtain⟨_,_,_,e⟩:=rbo_rows 4 _ _ h2 j hj
    have:=R'.mem.apart j id x (by rw[e];simp) hlive hx hfp
    rw[this,hmid]at e;cases e
   exact⟨ho.1.imp (fun h=>h) fun h=>h.resolve_left hne,ho.2.1,ho.2.2⟩
  ·have hne:x≠b:=by rintro rfl;exact(R'.mem.own id x hlive hfp).2.2 hx
   rcases R'.bnd x hx with h|h|h
   ·exact⟨.inl h,R'.mem.fr x hx,hne⟩
   ·exact⟨.inr (.inl h),R'.mem.fr x hx,hne⟩
   ·exact⟨.inr (.inr (h.resolve_left hne)),R'.mem.fr x hx,hne⟩
 cases e with
 |normal=>exact fin hK
 |ret=>exact fin hK
 |exit id=>exact hK.elim
end Go.Pv
