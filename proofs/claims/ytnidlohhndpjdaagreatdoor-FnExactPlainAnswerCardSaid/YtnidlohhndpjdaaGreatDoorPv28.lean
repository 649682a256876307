/- Plain lemmas and definitions. Nothing is claimed here. -/
import Derived.Test.YtnidlohhndpjdaaGreatDoorPv27
set_option linter.unusedSimpArgs false
set_option linter.unusedVariables false
namespace Go.Pv
open Go Go.RowKit
def flatC:T→Prop
 | .sl _ _=>True
 |t=>t.scalar=true
def flatT:T→Prop
 | .agg l=>AllP flatC l
 |t=>flatC t
def argWC:Nat→List T→List SV×List (Nat×Option MO)
 |_,[]=>([],[])
 |j,.sl sz rows::r=>(.ref (600000+j) 0::(argWC (j+1) r).1,(600000+j,some (.row 0 sz rows))::(argWC (j+1) r).2)
 |j,x::r=>(.t x::(argWC (j+1) r).1,(argWC (j+1) r).2)
def argW(t0 t1:T):St:=
 match t0 with
 | .sl sz rows=>⟨[(0,.ref 500000 0),(1,.t t1)],[(500000,some (.row 0 sz rows))]⟩
 | .agg l=>⟨[(0,.agg (argWC 0 l).1),(1,.t t1)],(argWC 0 l).2⟩
 |_=>⟨[],[]⟩
theorem argWC_len:∀(l:List T) (j:Nat),(argWC j l).1.length=l.length
 |[],_=>rfl
 |t::r,j=>by cases t<;>simp[argWC,argWC_len r]
theorem argWC_sl:∀(l:List T) (j i:Nat) (sv:SV),(argWC j l).1[i]? =some sv→∃t,l[i]? =some t∧(sv= .t t∨∃sz rows,t= .sl sz rows∧sv= .ref (600000+(j+i)) 0)
 |[],_,i,sv,h=>by simp[argWC]at h
 |t::r,j,0,sv,h=>by
  refine⟨t,rfl, ?_⟩
  cases t<;>simp[argWC]at h<;>subst h<;>simp
 |t::r,j,i+1,sv,h=>by
  have:(argWC (j+1) r).1[i]? =some sv:=by cases t<;>simpa[argWC]using h
  obtain⟨t',h1,h2⟩:=argWC_sl r (j+1) i sv this
  refine⟨t',by simpa using h1, ?_⟩
  rcases h2 with h2|⟨sz,rows,h2,h3⟩
  ·exact .inl h2
  ·exact .inr ⟨sz,rows,h2,by rw[h3];congr 1;omega⟩
theorem argWC_me:∀(l:List T) (j id:Nat) (o:MO),look (argWC j l).2 id none=some o→∃i sz rows,id=600000+(j+i)∧l[i]? =some (.sl sz rows)∧o= .row 0 sz rows
 |[],_,_,_,h=>by simp[argWC,look]at h
 |t::r,j,id,o,h=>by
  have step:look (argWC (j+1) r).2 id none=some o→∃i sz rows,id=600000+(j+i)∧(t::r)[i]? =some (.sl sz rows)∧o= .row 0 sz rows:=by
   intro h
   obtain⟨i,sz,rows,h1,h2,h3⟩:=argWC_me r (j+1) id o h
   exact⟨i+1,sz,rows,by omega,by simpa using h2,h3⟩
  cases t with
  |sl sz rows=>
   simp only[argWC]at h
   rw[look_cons]at h
   by_cases hi:id=600000+j
   ·simp only[hi,if_true,Option.some.injEq]at h
    exact⟨0,sz,rows,by omega,rfl,h.symm⟩
   ·simp only[hi,if_false]at h;exact step h
  |_=>exact step h
theorem argW_rel{w:World}{G:Nat→Nat→Prop}{v0 v1:Value}{t0 t1:T}{N:FrP}{act:Act}(hD:∀i j b,G i b→G j b→i=j)(hlt:∀i b,G i b→b<w.heap.size)
 (h0:Owns w (G 0) v0 t0) (h1:Owns w (G 1) v1 t1) (hf:flatT t0) (hs:t1.scalar=true) (hg:t0.scalar=false)
 (hfr:∀b,N.fr b) (hdef:act.defers=[]) (hsz:act.tmps.size=N.n) (hp:∀t,t<N.lo→act.tmps.getD t undef=N.pin t) (hi:∀w',BelowW (fun b=>∃i,G i b) w.heap.size w w'→N.gi w')
 (ha0:act.tmps.getD 0 undef=v0) (ha1:act.tmps.getD 1 undef=v1):Rel N (fun b=>∃i,G i b) w.heap.size w (argW t0 t1).s (argW t0 t1).m act w:=by
 let Fr:Nat→Prop:=fun b=>b<w.heap.size∧¬∃i,G i b
 have bel:BelowW (fun b=>∃i,G i b) w.heap.size w w:=⟨rfl,rfl,rfl,Nat.le_refl _,fun _ _ _=>rfl⟩
 have hv1:∀m bv hd,VRel w Fr m bv hd (.t t1) (act.tmps.getD 1 undef):=fun m bv hd=>by rw[ha1];exact .t _ _ ((h1.reads.owns_scalar hs w Fr).reads)
 cases t0 with
 |sl sz rows=>
  refine⟨fun _=>0,fun _=>v0,fun id b=>id=500000∧G 0 b,Fr,hdef,hsz,hp,hi,fun b _=> .inl (hfr b),bel,Nat.le_refl _,fun t=> ?_, ?_⟩
  ·show VRel w Fr (argW (.sl sz rows) t1).m _ _ (look [(0,SV.ref 500000 0),(1,.t t1)] t .gone) _
   rw[look_cons,look_cons]
   by_cases e0:t=0
   ·subst e0
    simp only[if_true]
    rw[ha0]
    obtain⟨a,n,c,e,_⟩:=h0.slice
    exact .ref _ _ _ ⟨a,n,c,e⟩ fun _ _ _=>rfl
   ·by_cases e1:t=1
    ·subst e1;simp only[e0,if_false,if_true];exact hv1 _ _ _
    ·simp only[e0,e1,if_false];exact .gone _
  ·have hm:∀id o,(argW (.sl sz rows) t1).m id=some o→id=500000∧o= .row 0 sz rows:=by
    intro id o h
    have h:look [(500000,some (MO.row 0 sz rows))] id none=some o:=h
    rw[look_cons]at h
    by_cases e:id=500000
    ·simp only[e,if_true,Option.some.injEq]at h;exact⟨e,h.symm⟩
    ·simp only[e,if_false,look]at h;cases h
   refine⟨fun id l h=> ?_,fun id ver sz' rows' h=> ?_,fun id ver sz' rows' q l h=>(by obtain⟨_,h⟩:=hm id _ h;cases h),fun id id' b _ _ h3 h4=>h3.1.trans h4.1.symm,fun id b _ h=>⟨.inr ⟨0,h.2⟩,hlt 0 b h.2,fun hF=>hF.2 ⟨0,h.2⟩⟩,fun b hb=>hb.1⟩
   ·obtain⟨_,h⟩:=hm id _ h;cases h
   ·obtain⟨e,h⟩:=hm id _ h
    cases h
    exact h0.mono (fun b hb=>⟨e,hb⟩) fun _ _=>rfl
 |agg l=>
  cases h0 with
  |agg _ cs _ G' hl hG' hD' hh=>
   let hd:Nat→Value:=fun id=>cs.getD (id -600000) undef
   let fp:Nat→Nat→Prop:=fun id b=>600000≤id∧G' (id -600000) b
   refine⟨fun _=>0,hd,fp,Fr,hdef,hsz,hp,hi,fun b _=> .inl (hfr b),bel,Nat.le_refl _,fun t=> ?_, ?_⟩
   ·show VRel w Fr (argW (.agg l) t1).m _ _ (look [(0,SV.agg (argWC 0 l).1),(1,.t t1)] t .gone) _
    rw[look_cons,look_cons]
    by_cases e0:t=0
    ·subst e0
     simp only[if_true]
     rw[ha0]
     refine .agg _ cs (by rw[hl,argWC_len]) fun i v sv e1 e2=> ?_
     obtain⟨t,e3,e4⟩:=argWC_sl l 0 i sv e2
     have ho:=hh i v t e1 e3
     rcases e4 with rfl|⟨sz,rows,rfl,rfl⟩
     ·have hft:=AllP_mem hf t (List.mem_of_getElem? e3)
      cases t with
      |sl sz rows=>
       exfalso
       have:∀(l:List T) (j i:Nat),(argWC j l).1[i]? ≠some (.t (.sl sz rows)):=by
        intro l
        induction l with
        |nil=>intro j i h;simp[argWC]at h
        |cons a r ih=>
         intro j i h
         cases i with
         |zero=>cases a<;>simp[argWC]at h
         |succ i=>exact ih (j+1) i (by cases a<;>simpa[argWC]using h)
       exact this l 0 i e2
      |int k n=>exact .t _ _ ((ho.reads.owns_scalar rfl w Fr).reads)
      |bool b=>exact .t _ _ ((ho.reads.owns_scalar rfl w Fr).reads)
      |str s=>exact .t _ _ ((ho.reads.owns_scalar rfl w Fr).reads)
      |err e=>exact .t _ _ ((ho.reads.owns_scalar rfl w Fr).reads)
      |_=>simp[flatC,T.scalar]at hft
     ·obtain⟨a,n,c,e,_⟩:=ho.slice
      refine .ref _ _ _ ⟨a,n,c,e⟩ fun sz' rows' _=> ?_
      have hi2:i<cs.length:=(List.getElem?_eq_some_iff.1 e1).1
      simp only[hd,Nat.zero_add,Nat.add_sub_cancel_left,List.getD_eq_getElem?_getD,e1,Option.getD_some]
    ·by_cases e1:t=1
     ·subst e1;simp only[e0,if_false,if_true];exact hv1 _ _ _
     ·simp only[e0,e1,if_false];exact .gone _
   ·have hm:∀id o,(argW (.agg l) t1).m id=some o→∃i sz rows,id=600000+i∧l[i]? =some (.sl sz rows)∧o= .row 0 sz rows:=by
     intro id o h
     obtain⟨i,sz,rows,e1,e2,e3⟩:=argWC_me l 0 id o h
     exact⟨i,sz,rows,by omega,e2,e3⟩
    have hsub:∀id b,fp id b→G 0 b:=fun id b h=>hG' _ b h.2
    refine⟨fun id l' h=> ?_,fun id ver sz' rows' h=> ?_,fun id ver sz' rows' q l' h=>(by obtain⟨i,sz,rows,_,_,h⟩:=hm id _ h;cases h),fun id id' b _ _ h3 h4=> ?_,fun id b _ h=>⟨.inr ⟨0,hsub id b h⟩,hlt 0 b (hsub id b h),fun hF=>hF.2 ⟨0,hsub id b h⟩⟩,fun b hb=>hb.1⟩
    ·obtain⟨i,sz,rows,_,_,h⟩:=hm id _ h;cases h
    ·obtain⟨i,sz,rows,e1,e2,h⟩:=hm id _ h
     cases h
     have hi2:i<cs.length:=by rw[hl];exact(List.getElem?_eq_some_iff.1 e2).1
     have ho:=hh i _ _ (List.getElem?_eq_getElem hi2) e2
     have e3:hd id=cs[i]:=by simp[hd,e1,List.getD_eq_getElem?_getD,List.getElem?_eq_getElem hi2]
     rw[e3]
     exact ho.mono (fun b hb=>⟨by omega,by rw[e1,Nat.add_sub_cancel_left];exact hb⟩) fun _ _=>rfl
    ·have:=hD' _ _ b h3.2 h4.2
     have:=h3.1
     have:=h4.1
     omega
 |int k n=>simp[T.scalar]at hg
 |bool b=>simp[T.scalar]at hg
 |str s=>simp[T.scalar]at hg
 |err e=>simp[T.scalar]at hg
 |tup l=>simp[flatT,flatC,T.scalar]at hf
 |box l=>simp[flatT,flatC,T.scalar]at hf
 |clo f l=>simp[flatT,flatC,T.scalar]at hf
def fnWOK(fn:Func)(body:Code):Bool:=codeOK fn.ntmps 1 body&&Nat.ble 2 fn.ntmps&& !(fn.name== "runtime.NumGoroutine")
theorem callW_of{P:Program}{C:Ctx}(H:CtxOK P C)(hm:P.follows .mixedOrders=true){g:FuncId}{fn:Func}{body:Code}{t0 t1 res out:T}{pl:Plan}{k r0:Nat}(hf:P.funcs[g]? =some fn)(hb:fn.body=some body)
 (hr:fn.results= #[.tmp r0]) (hok:fnWOK fn body=true) (h:wpc C pl k body (argW t0 t1) (retK C [.tmp r0,.tmp 0] (.tup [res,out]))) (f0:flatT t0) (fo:flatT out) (s0:t0.scalar=false) (s1:t1.scalar=true) (hs:res.scalar=true):
 CallW P C.gi g [t0,t1] res [out,t1]:=by
 simp only[fnWOK,Bool.and_eq_true,Bool.not_eq_true']at hok
 obtain⟨⟨hc,hn⟩,hname⟩:=hok
 have hn:=bleN hn
 refine⟨⟨fn,hf,hname,by rw[hb];rfl⟩,rfl,fun w vs G hgi hlen hD hlt hargs=> ?_⟩
 match vs,hlen with
 |[v0,v1],_=>
 have h0:=hargs 0 v0 t0 rfl rfl
 have h1:=hargs 1 v1 t1 rfl rfl
 refine calls_of_wp hf hb ?_
 let act:Act:={ tmps:=(⟨[v0,v1]⟩:Array Value)++Array.replicate (fn.ntmps -(⟨[v0,v1]⟩:Array Value).size) undef,defers:=[] }
 have R0:Rel ⟨fn.ntmps,1,fun _=>v0,C.gi,fun _=>True⟩ (fun b=>∃i,G i b) w.heap.size w (argW t0 t1).s (argW t0 t1).m act w:=by
  have e0:act.tmps.getD 0 undef=v0:=by
   show((⟨[v0,v1]⟩:Array Value)++Array.replicate _ undef).getD 0 undef=v0
   simp[Array.getD_eq_getD_getElem?,Array.getElem?_append]
  have e1:act.tmps.getD 1 undef=v1:=by
   show((⟨[v0,v1]⟩:Array Value)++Array.replicate _ undef).getD 1 undef=v1
   simp[Array.getD_eq_getD_getElem?,Array.getElem?_append]
  refine argW_rel hD hlt h0 h1 f0 s1 s0 (fun _=>trivial) rfl ?_ (fun t ht=> ?_) hgi e0 e1
  ·show((⟨[v0,v1]⟩:Array Value)++Array.replicate (fn.ntmps -2) undef).size=fn.ntmps
   simp;omega
  have:t=0:=by have ht:t<1:=ht;omega
  subst this
  exact e0
 refine wpc_sound H (fun _ h=>h) hm body _ _ _ _ w hc h R0 fun e st' a' w' hK R'=> ?_
 obtain⟨bv,hd,fp,Fr,R'⟩:=R'
 have fin:rbo st'.m 4 (resOf ([ResultVar.tmp r0,.tmp 0].map (resV C st'))) (.tup [res,out])∧nodupN (refs 4 (resOf ([ResultVar.tmp r0,.tmp 0].map (resV C st'))))=true→
  a'.defers=[]∧∃v,(results fn a'.tmps).run P w'= .ok v w'∧∃v',Ending.returned v= .returned v'∧Owns w' (fun _=>False) v' res∧BelowW (fun b=>∃i,G i b) w.heap.size w w'∧
   ∃G':Nat→Nat→Prop,(∀i j b,G' i b→G' j b→i=j)∧(∀i b,G' i b→((∃j,G j b)∨w.heap.size≤b)∧b<w'.heap.size)∧∀(i:Nat) v t,[v0,v1][i]? =some v→[out,t1][i]? =some t→Owns w' (G' i) v t:=by
  rintro⟨q1,q2⟩
  simp only[List.map_cons,List.map_nil,resV,resOf,rbo,all2]at q1
  obtain⟨q1,q3,_⟩:=q1
  have q2:=nodupN_iff.1 q2
  have hsv:st'.s r0= .t res:=by
   generalize st'.s r0=sv at q1
   cases sv with
   |t x=>simp only[rbo]at q1;rw[q1.1]
   |_=>cases res<;>simp[rbo,T.scalar]at q1 hs
  have hrv:=R'.slots r0
  rw[hsv]at hrv
  refine⟨R'.defs,a'.tmps.getD r0 undef,by rw[results_eq,hr];simp[rv],_,rfl,hrv.reads.owns_scalar hs _ _,R'.below,fun i b=>i=0∧∃id∈refs 3 (st'.s 0),fp id b,fun i j b h2 h3=>h2.1.trans h3.1.symm,fun i b h2=> ?_,fun i v t e1 e2=> ?_⟩
  ·obtain⟨_,id,h3,h4⟩:=h2
   obtain⟨o1,o2,_⟩:=R'.mem.own id b (rbo_live 3 _ _ q3 id h3) h4
   exact⟨o1.symm,o2⟩
  match i with
  |0=>
   simp at e1 e2
   subst e1 e2
   have hs0:=R'.slots 0
   rw[R'.pins 0 (by show 0<1;omega)]at hs0
   exact(rbo_own R'.mem 3 _ _ _ hs0 q3 (by
    simp only[List.map_cons,List.map_nil,resV,resOf,refs,refsL,List.append_nil]at q2
    exact(List.nodup_append.1 q2).2.1)).mono (fun b hb=>⟨rfl,hb⟩) (fun _ _=>rfl)
  |1=>
   simp at e1 e2
   subst e1 e2
   exact h1.reads.owns_scalar s1 _ _
  |i+2=>simp at e1
 cases e with
 |normal=>exact fin hK
 |ret=>exact fin hK
 |exit id=>exact hK.elim
section
variable {D:Nat→Type} {X:CT D} {cl:Calls' D}
theorem callWT_of{P:Program}(ok:CallsOK X cl)(H:CtxOK P X.C)(hm:P.follows .mixedOrders=true){g:FuncId}{fn:Func}{body:Code}{t0 t1:T}{x:V D}{y:VP D}{pl:Plan}{k r0:Nat}{cu:Cuts D}{tys:List (List Nat)}{st:VSt D}
 (hf:P.funcs[g]? =some fn) (hb:fn.body=some body) (hr:fn.results= #[.tmp r0]) (hok:fnWOK fn body=true) (ha:X.eSt st=argW t0 t1) (hc:CutOK X pl k cu [.tmp r0,.tmp 0] body)
 (f0:flatT t0) (fo:flatT (X.eP y)) (s0:t0.scalar=false) (s1:t1.scalar=true) (hs:(X.er x).scalar=true)
 (h:∀R:VR D→Prop,R (.tup [.c x,y])→wpT X cl pl cu [.tmp r0,.tmp 0] tys body st (endQ X [.tmp r0,.tmp 0] tys R) R):CallW P X.C.gi g [t0,t1] (X.er x) [X.eP y,t1]:=by
 refine callW_of H hm (pl:=plE X pl) (k:=k) hf hb hr hok ?_ f0 fo s0 s1 hs
 rw[←ha]
 refine wpT_sound ok body st _ (fun r'=>r'= .tup [.c x,y]) _ hc ⟨fun e st' h'=> ?_,fun r' st' h1 h2=> ?_⟩ (h _ rfl)
 ·cases e with
  |normal=>
   obtain⟨r',h1,h2⟩:=ret_ok (X:=X) (rs:=[.tmp r0,.tmp 0]) (tys:=tys) (R:=fun r'=>r'= .tup [.c x,y]) (st:=st') h'
   subst h2
   exact h1
  |ret=>exact h'.elim
  |exit j=>exact h'.elim
 ·subst h1
  exact h2
def asO(m:Nat→Option (VM D))(ty:Nat)(sv:VS D)(K:List (D ty)→(List (D ty)→List (Nat×Option (VM D)))→Prop):Prop:=
 match sv with
 | .nil=>K [] fun _=>[]
 | .ref id ver=>
   match m id with
   |some (.row v ty' l)=>bcond (Nat.beq v ver) (if h:ty'=ty then K (h▸l) (fun l'=>[(id,some (.row ver ty l'))])else False) False
   |_=>False
 |_=>False
structure WA(m:Nat→Option MO)(sv:SV)(t out:T)(mw:List (Nat×Option MO)):Prop where
 rb:∀n,rbo m (n+1) sv t
 bkC:∀l r w,effK.backsC m l r=some w→effK.backsC m (sv::l) (out::r)=some (mw++w)
 bk:∀l r w,effK.backs m l r=some w→effK.backs m (sv::l) (out::r)=some (mw++w)
 rf:∀n,refs (n+1) sv=keys mw
theorem asO_ok{m:Nat→Option (VM D)}{ty:Nat}{sv:VS D}{K:List (D ty)→(List (D ty)→List (Nat×Option (VM D)))→Prop}(h:asO m ty sv K):
 ∃l b,K l b∧∀l',WA (fun id=>X.eO (m id)) (X.eS sv) (.sl (X.C.i ty).size (l.map (X.R ty))) (.sl (X.C.i ty).size (l'.map (X.R ty))) ((b l').map fun p=>(p.1,X.eO p.2)):=by
 unfold asO at h
 split at h
 ·refine⟨[],_,h,fun l'=>⟨fun n=>by simp[CT.eS,rbo],fun l r w hw=> ?_,fun l r w hw=> ?_,fun n=>by simp[CT.eS,refs,keys]⟩⟩
  ·simp only[CT.eS,effK.backsC,hw,List.map_nil,List.nil_append]
  ·simp only[CT.eS,effK.backs,hw,List.map_nil,List.nil_append]
 ·rename_i id ver
  split at h
  ·rename_i v ty' l hm
   obtain⟨hb,h⟩:=bcond_false h
   split at h
   ·rename_i hty
    subst hty
    have:=beqN hb;subst this
    refine⟨l,_,h,fun l'=>⟨fun n=>by simp[CT.eS,rbo,eO_row hm,bcond],fun q r w hw=> ?_,fun q r w hw=> ?_,fun n=>by simp[CT.eS,refs,keys]⟩⟩
    ·simp only[CT.eS,effK.backsC,hw,eO_row hm]
     simp[eO_r]
    ·simp only[CT.eS,effK.backs,hw,eO_row hm]
     simp[eO_r]
   ·exact h.elim
  ·exact h.elim
 ·exact h.elim
inductive WAL(m:Nat→Option MO):List SV→List T→List T→List (Nat×Option MO)→Prop
 |nil:WAL m [] [] [] []
 |cons {sv:SV} {t out:T} {mw:List (Nat×Option MO)} {l:List SV} {ts outs:List T} {mws:List (Nat×Option MO)} (h:WA m sv t out mw) (r:WAL m l ts outs mws):WAL m (sv::l) (t::ts) (out::outs) (mw++mws)
theorem wa_agg{m:Nat→Option MO}{l:List SV}{ts outs:List T}{mw:List (Nat×Option MO)}(h:WAL m l ts outs mw):
 (∀n,rbo m (n+2) (.agg l) (.agg ts))∧effK.backsC m l outs=some mw∧∀n,refs (n+2) (.agg l)=keys mw:=by
 have key:(∀n,all2 (rbo m (n+1)) l ts)∧effK.backsC m l outs=some mw∧∀n,refsL (refs (n+1)) l=keys mw:=by
  induction h with
  |nil=>exact⟨fun _=>trivial,rfl,fun _=>rfl⟩
  |cons h r ih=>exact⟨fun n=>⟨h.rb n,ih.1 n⟩,h.bkC _ _ _ ih.2.1,fun n=>by simp only[refsL,h.rf,ih.2.2,keys_append]⟩
 exact⟨key.1,key.2.1,key.2.2⟩
theorem entW_one{g:Nat}{m:Nat→Option (VM D)}{sv:VS D}{u:VS D}{t0 out:T}{x:V D}{n:Int}{mw:List (Nat×Option (VM D))}{K:V D→List (Nat×Option (VM D))→Prop}
 (h0:WA (fun id=>X.eO (m id)) (X.eS sv) t0 out (mw.map fun p=>(p.1,X.eO p.2))) (hu:u= .t (.int .i64 n)) (hn:nodupN (keys mw)=true) (hx:(X.er x).scalar=true)
 (hw:X.C.cw g [t0,.int .i64 n] (X.er x) [out,.int .i64 n]) (hK:K x mw):
 ∃ts x outs mw,all2 (rbo (fun id=>X.eO (m id)) 4) ([sv,u].map X.eS) ts∧nodupN (refsL (refs 4) ([sv,u].map X.eS))=true∧X.C.cw g ts (X.er x) outs∧
  effK.backs (fun id=>X.eO (m id)) ([sv,u].map X.eS) outs=some (mw.map fun p=>(p.1,X.eO p.2))∧((X.er x).scalar&&(refsL (refs 4) ([sv,u].map X.eS)).all fun id=>memN id (keys mw))=true∧K x mw:=by
 subst hu
 have e:refsL (refs 4) ([sv,.t (.int .i64 n)].map X.eS)=keys mw:=by
  simp only[List.map_cons,List.map_nil,refsL,h0.rf,keys_map,CT.eS,refs,List.append_nil]
 refine⟨[t0,.int .i64 n],x,[out,.int .i64 n],mw,⟨h0.rb 3, ?_,trivial⟩,by rw[e];exact hn,hw, ?_, ?_,hK⟩
 ·simp[CT.eS,CT.er,rbo,T.scalar]
 ·have:=h0.bk [.t (.int .i64 n)] [.int .i64 n] [] (by simp[effK.backs])
  rw[List.append_nil]at this
  simpa[CT.eS,CT.er]using this
 ·rw[e,hx]
  simp only[Bool.true_and,List.all_eq_true]
  intro id h
  exact memN_iff.2 h
theorem entW_agg{g:Nat}{m:Nat→Option (VM D)}{l:List (VS D)}{u:VS D}{ts outs:List T}{x:V D}{n:Int}{mw:List (Nat×Option (VM D))}{K:V D→List (Nat×Option (VM D))→Prop}
 (h0:WAL (fun id=>X.eO (m id)) (l.map X.eS) ts outs (mw.map fun p=>(p.1,X.eO p.2))) (hu:u= .t (.int .i64 n)) (hn:nodupN (keys mw)=true) (hx:(X.er x).scalar=true)
 (hw:X.C.cw g [.agg ts,.int .i64 n] (X.er x) [.agg outs,.int .i64 n]) (hK:K x mw):
 ∃ts x outs mw,all2 (rbo (fun id=>X.eO (m id)) 4) ([.agg l,u].map X.eS) ts∧nodupN (refsL (refs 4) ([.agg l,u].map X.eS))=true∧X.C.cw g ts (X.er x) outs∧
  effK.backs (fun id=>X.eO (m id)) ([.agg l,u].map X.eS) outs=some (mw.map fun p=>(p.1,X.eO p.2))∧((X.er x).scalar&&(refsL (refs 4) ([.agg l,u].map X.eS)).all fun id=>memN id (keys mw))=true∧K x mw:=by
 subst hu
 obtain⟨q1,q2,q3⟩:=wa_agg h0
 have es:X.eS (.agg l)= .agg (l.map X.eS):=by simp only[CT.eS,CT.eL_map]
 have e:refsL (refs 4) ([.agg l,.t (.int .i64 n)].map X.eS)=keys mw:=by
  simp only[List.map_cons,List.map_nil,refsL,es,q3 2,keys_map]
  simp[CT.eS,refs]
 refine⟨[.agg ts,.int .i64 n],x,[.agg outs,.int .i64 n],mw,⟨by rw[es];exact q1 2, ?_,trivial⟩,by rw[e];exact hn,hw, ?_, ?_,hK⟩
 ·simp[CT.eS,CT.er,rbo,T.scalar]
 ·simp only[List.map_cons,List.map_nil,es,effK.backs,q2]
  simp[CT.eS,CT.er,effK.backs]
 ·rw[e,hx]
  simp only[Bool.true_and,List.all_eq_true]
  intro id h
  exact memN_iff.2 h
end
end Go.Pv
