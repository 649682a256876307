/- Plain lemmas and definitions. Nothing is claimed here. -/
import Derived.Test.YtabadclgcgdccaaGreatDoorPv16
set_option linter.unusedSimpArgs false
set_option linter.unusedVariables false
namespace Go.Pv
open Go Go.RowKit
def fld{α:Type}(f:Nat→α):List (Nat→Option α)→(Nat→Bool)→Nat→α
 |[],_=>f
 |x::l,D=>fld (fun k=>bif D 0 then(x k).getD (f k)else f k) l (fun i=>D (i+1))
theorem fld_indep{α:Type}:∀(W:List (Nat→Option α)) (f g:Nat→α) (D D':Nat→Bool) (k:Nat),f k=g k→
 (∀i x,W[i]? =some x→D i≠D' i→x k=none)→fld f W D k=fld g W D' k
 |[],_,_,_,_,_,h,_=>h
 |x::W,f,g,D,D',k,h,hx=>by
  refine fld_indep W _ _ _ _ k ?_ (fun i y hy hd=>hx (i+1) y (by simpa using hy) hd)
  by_cases e:D 0=D' 0
  ·simp only[e,h]
  ·have:=hx 0 x (by simp) e
   simp only[this,Option.getD_none,h]
   cases D 0<;>cases D' 0<;>rfl
theorem fld_none{α:Type}:∀(W:List (Nat→Option α)) (f:Nat→α) (D:Nat→Bool) (k:Nat),
 (∀i x,W[i]? =some x→D i=true→x k=none)→fld f W D k=f k
 |[],_,_,_,_=>rfl
 |x::W,f,D,k,hx=>by
  rw[fld,fld_none W _ _ k (fun i y hy hd=>hx (i+1) y (by simpa using hy) hd)]
  cases e:D 0
  ·rfl
  ·simp only[cond_true,hx 0 x (by simp) e,Option.getD_none]
theorem fld_insert{α:Type}:∀(W:List (Nat→Option α)) (f:Nat→α) (D D':Nat→Bool) (k j:Nat) (xj:Nat→Option α),W[j]? =some xj→D j=false→D' j=true→(∀i,i≠j→D' i=D i)→
 (∀i x,j<i→W[i]? =some x→D i=true→xj k≠none→x k=none)→fld f W D' k=(xj k).getD (fld f W D k)
 |[],_,_,_,_,_,_,h,_,_,_,_=>by simp at h
 |x::W,f,D,D',k,0,xj,h,h1,h2,h3,h4=>by
  obtain rfl:x=xj:=by simpa using h
  simp only[fld,h1,h2,cond_true,cond_false]
  have e:fld (fun k=>(x k).getD (f k)) W (fun i=>D' (i+1)) k=fld (fun k=>(x k).getD (f k)) W (fun i=>D (i+1)) k:=fld_indep W _ _ _ _ k rfl (fun i y hy hd=>absurd (h3 (i+1) (by omega)) hd)
  rw[e]
  cases hx:x k with
  |none=>
   simp only[Option.getD_none]
   exact fld_indep W _ _ _ _ k (by simp[hx]) (fun i y hy hd=>absurd rfl hd)
  |some v=>
   rw[fld_none W _ _ k (fun i y hy hd=>h4 (i+1) y (by omega) (by simpa using hy) hd (by simp[hx]))]
   simp[hx]
 |x::W,f,D,D',k,j+1,xj,h,h1,h2,h3,h4=>by
  simp only[fld,h3 0 (by omega)]
  exact fld_insert W _ (fun i=>D (i+1)) (fun i=>D' (i+1)) k j xj (by simpa using h) h1 h2 (fun i hi=>h3 (i+1) (by omega)) (fun i y hi hy hd hn=>h4 (i+1) y (by omega) (by simpa using hy) hd hn)
theorem fld_prop{α:Type}{p:α→Prop}:∀(W:List (Nat→Option α)) (f:Nat→α) (D:Nat→Bool) (k:Nat),p (f k)→
 (∀i x v,W[i]? =some x→D i=true→x k=some v→p v)→p (fld f W D k)
 |[],_,_,_,h,_=>h
 |x::W,f,D,k,h,hx=>by
  refine fld_prop W _ _ k ?_ (fun i y v hy hd hv=>hx (i+1) y v (by simpa using hy) hd hv)
  cases e:D 0
  ·exact h
  ·cases hv:x k with
   |none=>simpa[hv]using h
   |some v=>simpa[hv]using hx 0 x v (by simp) e hv
def wS(x:Oper×Eff)(t:Nat):Option SV:=if x.1.dst=some t then some x.2.val else none
def wM(x:Oper×Eff)(id:Nat):Option (Option MO):=look (x.2.mw.map fun p=>(p.1,some p.2)) id none
theorem updS_wS(s:Nat→SV)(x:Oper×Eff):updS s x.1.dst x.2.val=fun t=>(wS x t).getD (s t):=by
 funext t
 unfold updS wS
 cases h:x.1.dst with
 |none=>simp
 |some d=>by_cases e:d=t<;>simp[e]
theorem updM_look{mw:List (Nat×Option MO)}{id:Nat}{d:Option MO}:look mw id d=(look (mw.map fun p=>(p.1,some p.2)) id none).getD d:=by
 induction mw with
 |nil=>rfl
 |cons p r ih=>
  simp only[List.map_cons,look]
  cases h:Nat.beq p.1 id
  ·exact ih
  ·rfl
theorem updM_wM(m:Nat→Option MO)(x:Oper×Eff):updM m x.2.mw=fun id=>(wM x id).getD (m id):=by
 funext id
 exact updM_look
theorem look_key{α:Type}{l:List (Nat×α)}{k:Nat}{d v:α}(h:look l k d=v):v=d∨(k,v)∈l:=by
 induction l with
 |nil=>exact .inl h.symm
 |cons p r ih=>
  simp only[look]at h
  cases e:Nat.beq p.1 k with
  |false=>
   rw[e]at h
   exact(ih h).imp id (fun h=>List.mem_cons_of_mem _ h)
  |true=>
   rw[e]at h
   have:=beqN e
   subst this
   simp only[cond_true]at h
   subst h
   exact .inr (by simp)
theorem wM_key{x:Oper×Eff}{id:Nat}{o:Option MO}(h:wM x id=some o):(id,o)∈x.2.mw:=by
 rcases look_key h with h1|h1
 ·cases h1
 ·obtain⟨p,hp,e⟩:=List.mem_map.1 h1
  simp only[Prod.mk.injEq,Option.some.injEq]at e
  obtain⟨rfl,rfl⟩:=e
  exact hp
theorem wM_not{x:Oper×Eff}{id:Nat}(h:id∉keys x.2.mw):wM x id=none:=by
 cases e:wM x id with
 |none=>rfl
 |some o=>exact absurd (List.mem_map.2 ⟨_,wM_key e,rfl⟩) h
def wantS(ops:List Oper)(s:Nat→SV)(o:Oper):Option Bool:=
 match o.guard with
 |none=>some true
 |some (j,want)=>
  match(ops[j]?).bind (·.dst)with
  |none=>none
  |some g=>
   match s g with
   | .t (.bool b)=>some (b==want)
   | .tup []=>some false
   |_=>none
def StepOK(C:Ctx)(ops:List Oper)(s:Nat→SV)(m:Nat→Option MO)(x:Oper×Eff):Prop:=
 (wantS ops s x.1=some true∧EffR C s m x.1 x.2)∨(wantS ops s x.1=some false∧x.2=pureE (.tup []))
def Chain(C:Ctx)(ops:List Oper):(Nat→SV)→(Nat→Option MO)→List (Oper×Eff)→Prop
 |_,_,[]=>True
 |s,m,x::l=>StepOK C ops s m x∧Chain C ops (updS s x.1.dst x.2.val) (updM m x.2.mw) l
theorem look_app{α:Type}(a b:List (Nat×α))(k:Nat)(d:α):look (a++b) k d=look a k (look b k d):=by
 induction a with
 |nil=>rfl
 |cons p r ih=>simp only[List.cons_append,look,ih]
theorem apply_s(o:Oper)(e:Eff)(st:St):(apply o e st).s=updS st.s o.dst e.val:=by
 funext t
 unfold apply St.s updS
 cases h:o.dst with
 |none=>rfl
 |some d=>
  simp only[look]
  by_cases ed:d=t
  ·subst ed;simp
  ·have:Nat.beq d t=false:=by cases hb:Nat.beq d t with|false=>rfl|true=>exact absurd (beqN hb) ed
   simp[this,ed]
theorem apply_m(o:Oper)(e:Eff)(st:St):(apply o e st).m=updM st.m e.mw:=by
 funext id
 simp only[apply,St.m,updM,look_app]
theorem setS_s(g:Nat)(v:SV)(st:St)(h:st.s g=v):(setS g v st).s=st.s:=by
 funext t
 simp only[setS,St.s,look]
 cases hb:Nat.beq g t with
 |false=>rfl
 |true=>have:=beqN hb;subst this;exact h.symm
theorem bcond_or{b:Bool}{p q:Prop}(h:bcond b p q):(b=true∧p)∨(b=false∧q):=by
 cases b
 ·exact .inr ⟨rfl,h⟩
 ·exact .inl ⟨rfl,h⟩
theorem evOps_chain{C:Ctx}{all:List Oper}{K:List (Oper×Eff)→St→Prop}:∀(r:List Oper) (acc:List (Oper×Eff)) (st:St),evOps C all r acc st K→
 ∃L,L.map (·.1)=r∧Chain C all st.s st.m L∧∃st',K (L.reverse++acc) st'∧st'.s=fld st.s (L.map wS) (fun _=>true)∧st'.m=fld st.m (L.map wM) (fun _=>true)
 |[],acc,st,h=>⟨[],rfl,trivial,st,h,rfl,rfl⟩
 |o::r,acc,st,h=>by
  have go:∀(e:Eff) (st0:St),st0.s=st.s→st0.m=st.m→StepOK C all st.s st.m (o,e)→evOps C all r ((o,e)::acc) (apply o e st0) K→
   ∃L,L.map (·.1)=o::r∧Chain C all st.s st.m L∧∃st',K (L.reverse++acc) st'∧st'.s=fld st.s (L.map wS) (fun _=>true)∧st'.m=fld st.m (L.map wM) (fun _=>true):=by
   intro e st0 es em hs hr
   obtain⟨L,h1,h2,st',h3,h4,h5⟩:=evOps_chain r _ _ hr
   rw[apply_s,apply_m,es,em]at h2
   rw[apply_s,es]at h4
   rw[apply_m,em]at h5
   refine⟨(o,e)::L,by simp[h1],⟨hs,h2⟩,st',by simpa using h3, ?_, ?_⟩
   ·rw[h4,updS_wS st.s (o,e)];rfl
   ·rw[h5,updM_wM st.m (o,e)];rfl
  unfold evOps at h
  split at h
  ·rename_i hg
   obtain⟨e,he,hK⟩:=eff_of h
   exact go e st rfl rfl (.inl ⟨by simp[wantS,hg],he⟩) hK
  ·rename_i j want hg
   split at h
   ·exact h.elim
   ·rename_i g hj
    split at h
    ·rename_i b hb
     dsimp only at h
     have perform:∀st0:St,st0.s=st.s→st0.m=st.m→b=want→(effK C st0.s st0.m o fun e=>evOps C all r ((o,e)::acc) (apply o e st0) K)→
      ∃L,L.map (·.1)=o::r∧Chain C all st.s st.m L∧∃st',K (L.reverse++acc) st'∧st'.s=fld st.s (L.map wS) (fun _=>true)∧st'.m=fld st.m (L.map wM) (fun _=>true):=by
      intro st0 es em hbw h0
      obtain⟨e,he,hK⟩:=eff_of h0
      rw[es,em]at he
      exact go e st0 es em (.inl ⟨by simp[wantS,hg,hj,hb,hbw],he⟩) hK
     have pass:∀st0:St,st0.s=st.s→st0.m=st.m→b≠want→evOps C all r ((o,pureE (.tup []))::acc) (apply o (pureE (.tup [])) st0) K→
      ∃L,L.map (·.1)=o::r∧Chain C all st.s st.m L∧∃st',K (L.reverse++acc) st'∧st'.s=fld st.s (L.map wS) (fun _=>true)∧st'.m=fld st.m (L.map wM) (fun _=>true):=by
      intro st0 es em hbw h0
      exact go _ st0 es em (.inr ⟨by simp[wantS,hg,hj,hb,hbw],rfl⟩) h0
     cases want with
     |true=>
      rcases bcond_or h with⟨e,h⟩|⟨e,h⟩
      ·exact perform _ (setS_s _ _ _ (by rw[hb,e])) rfl e h
      ·exact pass _ (setS_s _ _ _ (by rw[hb,e])) rfl (by simp[e]) h
     |false=>
      rcases bcond_or h with⟨e,h⟩|⟨e,h⟩
      ·exact pass _ (setS_s _ _ _ (by rw[hb,e])) rfl (by simp[e]) h
      ·exact perform _ (setS_s _ _ _ (by rw[hb,e])) rfl e h
    ·rename_i hb
     exact go _ st rfl rfl (.inr ⟨by simp[wantS,hg,hj,hb],rfl⟩) h
    ·exact h.elim
theorem chain_at{C:Ctx}{ops:List Oper}:∀(L:List (Oper×Eff)) (s:Nat→SV) (m:Nat→Option MO) (j:Nat) (x:Oper×Eff),Chain C ops s m L→L[j]? =some x→
 StepOK C ops (fld s (L.map wS) fun i=>decide (i<j)) (fld m (L.map wM) fun i=>decide (i<j)) x
 |[],_,_,_,_,_,h=>by simp at h
 |y::L,s,m,0,x,hc,h=>by
  obtain rfl:y=x:=by simpa using h
  have e1:fld s ((y::L).map wS) (fun i=>decide (i<0))=s:=by funext t;exact fld_none _ _ _ _ (fun i x _ hd=>by simp at hd)
  have e2:fld m ((y::L).map wM) (fun i=>decide (i<0))=m:=by funext t;exact fld_none _ _ _ _ (fun i x _ hd=>by simp at hd)
  rw[e1,e2]
  exact hc.1
 |y::L,s,m,j+1,x,hc,h=>by
  have:=chain_at L _ _ j x hc.2 (by simpa using h)
  rw[updS_wS,updM_wM]at this
  simp only[List.map_cons,fld,Nat.zero_lt_succ,decide_true,cond_true,Nat.add_lt_add_iff_right]
  exact this
def Closed(ops:List Oper)(D:Nat→Bool):Prop:=∀i o,ops[i]? =some o→D i=true→∀e∈o.after.toList,Region.binds .any e=true→D e.on=true
def Back(ops:List Oper):Prop:=∀i o,ops[i]? =some o→∀e∈o.after.toList,Region.binds .any e=true→e.on<i
theorem ins_mem{a x:Nat}{l:List Nat}:x∈ins a l↔x=a∨x∈l:=by
 unfold ins
 cases h:memN a l with
 |true=>
  simp only[cond_true]
  constructor
  ·exact .inr
  ·rintro(rfl|h')
   ·exact memN_iff.1 h
   ·exact h'
 |false=>simp
theorem union_mem{a b:List Nat}{x:Nat}:x∈union a b↔x∈a∨x∈b:=by
 unfold union
 induction a with
 |nil=>simp
 |cons y a ih=>simp only[List.foldr_cons,ins_mem,ih,List.mem_cons,or_assoc]
def AncL(ops:List Oper)(acc:List (List Nat)):Prop:=
 ∀p A,acc[p]? =some A→∀o,ops[acc.length -1 -p]? =some o→∀D,Closed ops D→(∀e∈o.after.toList,Region.binds .any e=true→D e.on=true)→∀a∈A,D a=true
def ancF(acc:List (List Nat))(s:List Nat)(e:Edge):List Nat:=bif Region.binds .any e then ins e.on (union ((acc[acc.length -1 -e.on]?).getD []) s)else s
theorem ancF_mem{acc:List (List Nat)}:∀(es:List Edge) (s:List Nat) (a:Nat),a∈es.foldl (ancF acc) s→a∈s∨∃e∈es,Region.binds .any e=true∧(a=e.on∨a∈(acc[acc.length -1 -e.on]?).getD [])
 |[],s,a,h=> .inl h
 |e::es,s,a,h=>by
  rcases ancF_mem es _ a h with h1|⟨e',he',hb,h1⟩
  ·unfold ancF at h1
   cases hb:Region.binds .any e with
   |false=>rw[hb]at h1;exact .inl h1
   |true=>
    rw[hb]at h1
    simp only[cond_true,ins_mem,union_mem]at h1
    rcases h1 with h1|h1|h1
    ·exact .inr ⟨e,by simp,hb,.inl h1⟩
    ·exact .inr ⟨e,by simp,hb,.inr h1⟩
    ·exact .inl h1
  ·exact .inr ⟨e',by simp[he'],hb,h1⟩
theorem ancs_ok{ops:List Oper}(hB:Back ops):∀(r pre:List Oper) (acc:List (List Nat)),ops=pre++r→acc.length=pre.length→AncL ops acc→AncL ops (ancs r acc)∧(ancs r acc).length=ops.length
 |[],pre,acc,h,hl,hA=>⟨hA,by simp[ancs,h,hl]⟩
 |o::r,pre,acc,h,hl,hA=>by
  refine ancs_ok hB r (pre++[o]) _ (by simp[h]) (by simp[hl]) ?_
  intro p A hp o' ho' D hC hD a ha
  cases p with
  |zero=>
   simp only[List.getElem?_cons_zero,Option.some.injEq]at hp
   subst hp
   have e0:ops[acc.length]? =some o:=by rw[h,hl];simp
   simp only[List.length_cons,Nat.add_sub_cancel,Nat.sub_zero]at ho'
   obtain rfl:o=o':=by rw[e0]at ho';exact Option.some.inj ho'
   rcases ancF_mem (acc:=acc) o.after.toList [] a ha with h1|⟨e,he,hb,h1⟩
   ·cases h1
   ·have hDe:=hD e he hb
    rcases h1 with rfl|h1
    ·exact hDe
    ·have hlt:=hB _ _ e0 e he hb
     cases hq:acc[acc.length -1 -e.on]? with
     |none=>rw[hq]at h1;simp at h1
     |some A=>
      rw[hq]at h1
      simp only[Option.getD_some]at h1
      have hidx:acc.length -1 -(acc.length -1 -e.on)=e.on:=by omega
      obtain⟨oe,hoe⟩:∃oe,ops[e.on]? =some oe:=by
       have:e.on<ops.length:=by have:=(List.getElem?_eq_some_iff.1 e0).1;omega
       exact⟨_,List.getElem?_eq_getElem this⟩
      exact hA _ A hq oe (by rw[hidx];exact hoe) D hC (fun e' he' hb'=>hC _ _ hoe hDe e' he' hb') a h1
  |succ p=>
   have hp':acc[p]? =some A:=by simpa using hp
   have hlt:p<acc.length:=(List.getElem?_eq_some_iff.1 hp').1
   have hi:(acc.length+1) -1 -(p+1)=acc.length -1 -p:=by omega
   simp only[List.length_cons]at ho'
   rw[hi]at ho'
   exact hA p A hp' o' ho' D hC hD a ha
theorem ancs_spec{ops:List Oper}(hB:Back ops):AncL ops (ancs ops [])∧(ancs ops []).length=ops.length:=
 ancs_ok hB ops [] [] rfl rfl (fun p A h=>by simp at h)
theorem apartAll_at{all:List Oper}{x:Oper×Eff}{a:List Nat}:∀(l:List (Oper×Eff)) (q:Nat) (y:Oper×Eff),drawL.apartAll all x a l l.length=true→l[q]? =some y→l.length -1 -q∈a∨apartE all x y=true
 |[],_,_,_,h=>by simp at h
 |z::l,0,y,h,hq=>by
  obtain rfl:z=y:=by simpa using hq
  simp only[List.length_cons,drawL.apartAll,Bool.and_eq_true,Bool.or_eq_true]at h
  simp only[List.length_cons,Nat.add_sub_cancel,Nat.sub_zero]
  exact h.1.imp memN_iff.1 id
 |z::l,q+1,y,h,hq=>by
  simp only[List.length_cons,drawL.apartAll,Bool.and_eq_true]at h
  have hi:(l.length+1) -1 -(q+1)=l.length -1 -q:=by omega
  simp only[List.length_cons]
  rw[hi]
  exact apartAll_at l q y h.2 (by simpa using hq)
theorem drawL_at{all:List Oper}:∀(acc:List (Oper×Eff)) (anc:List (List Nat)) (p q:Nat) (x y:Oper×Eff) (A:List Nat),drawL all acc anc=true→p<q→acc[p]? =some x→acc[q]? =some y→anc[p]? =some A→
 acc.length -1 -q∈A∨apartE all x y=true
 |[],_,_,_,_,_,_,_,_,h,_,_=>by simp at h
 |z::l,[],_,_,_,_,_,_,_,_,_,h=>by simp at h
 |z::l,a::r,0,q,x,y,A,h,hlt,hx,hy,hA=>by
  obtain rfl:z=x:=by simpa using hx
  obtain rfl:a=A:=by simpa using hA
  obtain⟨q,rfl⟩:∃q',q=q'+1:=⟨q -1,by omega⟩
  simp only[drawL,Bool.and_eq_true]at h
  have hi:(l.length+1) -1 -(q+1)=l.length -1 -q:=by omega
  simp only[List.length_cons]
  rw[hi]
  exact apartAll_at l q y h.1 (by simpa using hy)
 |z::l,a::r,p+1,q,x,y,A,h,hlt,hx,hy,hA=>by
  obtain⟨q,rfl⟩:∃q',q=q'+1:=⟨q -1,by omega⟩
  simp only[drawL,Bool.and_eq_true]at h
  have hi:(l.length+1) -1 -(q+1)=l.length -1 -q:=by omega
  simp only[List.length_cons]
  rw[hi]
  exact drawL_at l r p q x y A h.2 (by omega) (by simpa using hx) (by simpa using hy) (by simpa using hA)
theorem priorOK_at:∀(acc:List (Oper×Eff)) (p q:Nat) (x y:Oper×Eff),priorOK acc=true→p<q→acc[p]? =some x→acc[q]? =some y→sepE x.2.tok y.2=true
 |[],_,_,_,_,_,_,h,_=>by simp at h
 |z::l,0,q,x,y,h,hlt,hx,hy=>by
  obtain rfl:z=x:=by simpa using hx
  obtain⟨q,rfl⟩:∃q',q=q'+1:=⟨q -1,by omega⟩
  simp only[priorOK,Bool.and_eq_true,List.all_eq_true]at h
  exact h.1 y (List.mem_of_getElem? (by simpa using hy:l[q]? =some y))
 |z::l,p+1,q,x,y,h,hlt,hx,hy=>by
  obtain⟨q,rfl⟩:∃q',q=q'+1:=⟨q -1,by omega⟩
  simp only[priorOK,Bool.and_eq_true]at h
  exact priorOK_at l p q x y h.2 (by omega) (by simpa using hx) (by simpa using hy)
theorem rev_at{α:Type}{L:List α}{i:Nat}{x:α}(h:L[i]? =some x):L.reverse[L.length -1 -i]? =some x:=by
 have hlt:=(List.getElem?_eq_some_iff.1 h).1
 rw[List.getElem?_reverse (by omega)]
 have:L.length -1 -(L.length -1 -i)=i:=by omega
 rw[this];exact h
end Go.Pv
