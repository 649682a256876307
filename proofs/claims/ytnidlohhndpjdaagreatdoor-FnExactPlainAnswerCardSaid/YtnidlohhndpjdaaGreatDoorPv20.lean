/- Plain lemmas and definitions. Nothing is claimed here. -/
import Derived.Test.YtnidlohhndpjdaaGreatDoorPv19
set_option linter.unusedSimpArgs false
set_option linter.unusedVariables false
namespace Go.Pv
open Go Go.RowKit
theorem Below.ofW{base:Nat}{w w':World}(h:BelowW (fun _=>False) base w w'):Below base w w':=
 ⟨h.os,h.tape,h.output,h.size,fun k hk=>h.block k hk id⟩
theorem argC_rel{w:World}{Fr:Nat→Prop}{m:Nat→Option MO}{bv:Nat→Nat}{hd:Nat→Value}{v:Value}{x:T}(h:Reads w Fr v x):VRel w Fr m bv hd (argV.argC x) v:=by
 cases h with
 |box b o ts f hb hw h=>exact .rptr b o ts f hb hw h
 |int k n=>exact .t _ _ (.int k n)
 |bool b=>exact .t _ _ (.bool b)
 |str s=>exact .t _ _ (.str s)
 |errN=>exact .t _ _ .errN
 |errS t v=>exact .t _ _ (.errS t v)
 |agg cs ts hl h=>exact .t _ _ (.agg cs ts hl h)
 |tup cs ts hl h=>exact .t _ _ (.tup cs ts hl h)
 |sl0 a c sz=>exact .t _ _ (.sl0 a c sz)
 |sl b o n c sz rows f hn hc hb hr hw h=>exact .t _ _ (.sl b o n c sz rows f hn hc hb hr hw h)
 |clo g cs ts hl h=>exact .t _ _ (.clo g cs ts hl h)
theorem argV_rel{w:World}{Fr:Nat→Prop}{m:Nat→Option MO}{bv:Nat→Nat}{hd:Nat→Value}{v:Value}{x:T}(h:Reads w Fr v x):VRel w Fr m bv hd (argV x) v:=by
 cases h with
 |agg cs ts hl h=>
  refine .agg _ cs (by simpa using hl) fun i v s h1 h2=> ?_
  rw[List.getElem?_map,Option.map_eq_some_iff]at h2
  obtain⟨t,h3,rfl⟩:=h2
  exact .t _ _ (h i v t h1 h3)
 |box b o ts f hb hw h=>exact .rptr b o ts f hb hw h
 |clo g cs ts hl h=>
  refine .clo g _ cs (by simpa using hl) fun i v s h1 h2=> ?_
  rw[List.getElem?_map,Option.map_eq_some_iff]at h2
  obtain⟨t,h3,rfl⟩:=h2
  exact argC_rel (h i v t h1 h3)
 |int k n=>exact .t _ _ (.int k n)
 |bool b=>exact .t _ _ (.bool b)
 |str s=>exact .t _ _ (.str s)
 |errN=>exact .t _ _ .errN
 |errS t v=>exact .t _ _ (.errS t v)
 |tup cs ts hl h=>exact .t _ _ (.tup cs ts hl h)
 |sl0 a c sz=>exact .t _ _ (.sl0 a c sz)
 |sl b o n c sz rows f hn hc hb hr hw h=>exact .t _ _ (.sl b o n c sz rows f hn hc hb hr hw h)
theorem argS_look:∀(ts:List T) (k t:Nat) (v:SV),look (argS k ts) t .gone=v→v= .gone∨∃i x,t=k+i∧ts[i]? =some x∧v=argV x
 |[],_,_,_,h=> .inl h.symm
 |x::r,k,t,v,h=>by
  simp only[argS,look]at h
  cases hb:Nat.beq k t with
  |true=>
   rw[hb]at h
   exact .inr ⟨0,x,by have:=beqN hb;omega,by simp,h.symm⟩
  |false=>
   rw[hb]at h
   rcases argS_look r (k+1) t v h with h1|⟨i,y,h1,h2,h3⟩
   ·exact .inl h1
   ·exact .inr ⟨i+1,y,by omega,by simpa using h2,h3⟩
def rv(tmps:Array Value):ResultVar→Sem Value
 | .tmp t=>pure (tmps.getD t undef)
 | .cell a t=>do loadVar t (←asAddr (tmps.getD a undef))
theorem results_eq(fn:Func)(tmps:Array Value):results fn tmps=(do
 let vs←fn.results.mapM (rv tmps)
 pure (if h:vs.size=1 then vs[0]else .tuple vs)):=by
 unfold results
 congr 1
section
variable {P:Program} {C:Ctx} {N:FrP} {W:Nat→Prop} {base:Nat} {w0:World} {st:St} {bv:Nat→Nat} {hd:Nat→Value} {fp:Nat→Nat→Prop} {Fr:Nat→Prop} {a:Act} {w:World}
theorem rv_run(H:CtxOK P C)(R:RelE N W base w0 st.s st.m bv hd fp Fr a w)(r:ResultVar)(h:resV C st r≠ .gone):∃v,(rv a.tmps r).run P w= .ok v w∧VRel w Fr st.m bv hd (resV C st r) v:=by
 cases r with
 |tmp t=>exact⟨_,by simp[rv],R.slots t⟩
 |cell ad t=>
  simp only[resV]at h ⊢
  split at h
  ·rename_i id hs
   split at h
   ·rename_i l hm
    cases hb:(Nat.ble 1 (C.i t).kind&&Nat.ble 1 (C.i t).size&&Nat.beq l.length (C.i t).size)with
    |false=>rw[hb]at h;exact absurd rfl h
    |true=>
     simp only[hs,hm,hb,cond_true]
     simp only[Bool.and_eq_true]at hb
     have hk:=bleN hb.1.1
     have hz:=bleN hb.1.2
     have hlen:=beqN hb.2
     have hr:=R.slots ad
     rw[hs]at hr
     generalize hv:a.tmps.getD ad undef=v at hr
     cases hr with
     |ptr _ _ _ _ hp=>
      have e:=hp l hm
      subst e
      obtain⟨_,cs,el,hh,hl,hrel⟩:=R.mem.vars id l hm
      have f:=H.fact (t:=t) hk
      refine⟨if(C.i t).agg then .agg ⟨cs⟩else cs.headD undef, ?_,valOf_rel hl (by omega) hrel _⟩
      simp only[rv,hv,asAddr,Sem.run_bind,Sem.run_pure,Result.andThen_ok,loadVar,f.isAgg]
      cases hag:(C.i t).agg with
      |true=>
       have hlc:(loadCells ⟨bv id,0,none⟩ cs.length).run P w= .ok cs.toArray w:=run_loadCells_list (P:=P) w ⟨bv id,0,none⟩ cs (fun j v hj=>by
        rw[Addr.add_mid,cell_heap hh];simpa using hj)
       have hcz:cs.length=(C.i t).size:=by omega
       simp only[if_true,Sem.run_bind,f.sizeOf,Result.andThen_ok,←hcz,hlc,Sem.run_pure]
      |false=>
       cases cs with
       |nil=>simp at hl;omega
       |cons v us=>
        have h0:w.cell? ⟨bv id,0,none⟩=some v:=by rw[cell_heap hh];rfl
        simp[h0]
   ·exact absurd rfl h
  ·exact absurd rfl h
theorem rbo_gone{m:Nat→Option MO}{n:Nat}{v:SV}{t:T}(h:rbo m n v t):v≠ .gone:=by
 rintro rfl
 cases n with
 |zero=>exact h.elim
 |succ n=>cases t<;>simp[rbo]at h
theorem all2_mem{α β:Type}{f:α→β→Prop}:∀{l:List α} {r:List β},all2 f l r→∀a∈l,∃b,f a b
 |[],_,_,a,h=>by cases h
 |x::l,[],h,_,_=>h.elim
 |x::l,y::r,h,a,ha=>by
  cases ha with
  |head=>exact⟨y,h.1⟩
  |tail _ ha=>exact all2_mem h.2 a ha
theorem res_run(H:CtxOK P C)(R:RelE N W base w0 st.s st.m bv hd fp Fr a w){fn:Func}(hn:fn.results.toList.length≤4){res:T}(h:rbo st.m 4 (resOf (fn.results.toList.map (resV C st))) res):
 ∃v,(results fn a.tmps).run P w= .ok v w∧VRel w Fr st.m bv hd (resOf (fn.results.toList.map (resV C st))) v:=by
 have hrs:∃rs,fn.results=⟨rs⟩:=⟨fn.results.toList,rfl⟩
 obtain⟨rs,hrs⟩:=hrs
 have hrl:fn.results.toList=rs:=by rw[hrs]
 rw[hrl]at h hn ⊢
 have ne:∀r∈rs,resV C st r≠ .gone:=by
  match rs,h with
  |[],h=>intro r hr;cases hr
  |[r],h=>intro r' hr';simp only[List.mem_singleton]at hr';subst hr';exact rbo_gone h
  |r1::r2::rest,h=>
   intro r hr
   cases res with
   |tup ts=>
    simp only[List.map_cons,resOf,rbo]at h
    obtain⟨b,hb⟩:=all2_mem h (resV C st r) (by rw[←List.map_cons,←List.map_cons];exact List.mem_map_of_mem hr)
    exact rbo_gone hb
   |_=>simp[resOf,rbo]at h
 match rs,hn,hrs,ne with
 |[],_,hrs,_=>exact⟨.tuple #[],by rw[results_eq,hrs];simp,.tup [] [] rfl (fun i v s h=>by simp at h)⟩
 |[r],_,hrs,ne=>
  obtain⟨v,h1,h2⟩:=rv_run H R r (ne r (by simp))
  exact⟨v,by rw[results_eq,hrs];simp[h1],h2⟩
 |[r,r'],_,hrs,ne=>
  obtain⟨v,h1,h2⟩:=rv_run H R r (ne r (by simp))
  obtain⟨v',h1',h2'⟩:=rv_run H R r' (ne r' (by simp))
  refine⟨.tuple ⟨[v,v']⟩,by rw[results_eq,hrs];simp[h1,h1'],.tup _ [v,v'] rfl fun i u s h3 h4=> ?_⟩
  match i with
  |0=>simp at h3 h4;subst h3 h4;exact h2
  |1=>simp at h3 h4;subst h3 h4;exact h2'
  |k+2=>simp at h3
 |[r,r',r''],_,hrs,ne=>
  obtain⟨v,h1,h2⟩:=rv_run H R r (ne r (by simp))
  obtain⟨v',h1',h2'⟩:=rv_run H R r' (ne r' (by simp))
  obtain⟨v'',h1'',h2''⟩:=rv_run H R r'' (ne r'' (by simp))
  refine⟨.tuple ⟨[v,v',v'']⟩,by rw[results_eq,hrs];simp[h1,h1',h1''],.tup _ [v,v',v''] rfl fun i u s h3 h4=> ?_⟩
  match i with
  |0=>simp at h3 h4;subst h3 h4;exact h2
  |1=>simp at h3 h4;subst h3 h4;exact h2'
  |2=>simp at h3 h4;subst h3 h4;exact h2''
  |k+3=>simp at h3
 |[r,r',r'',r3],_,hrs,ne=>
  obtain⟨v,h1,h2⟩:=rv_run H R r (ne r (by simp))
  obtain⟨v',h1',h2'⟩:=rv_run H R r' (ne r' (by simp))
  obtain⟨v'',h1'',h2''⟩:=rv_run H R r'' (ne r'' (by simp))
  obtain⟨v3,h13,h23⟩:=rv_run H R r3 (ne r3 (by simp))
  refine⟨.tuple ⟨[v,v',v'',v3]⟩,by rw[results_eq,hrs];simp[h1,h1',h1'',h13],.tup _ [v,v',v'',v3] rfl fun i u s h3 h4=> ?_⟩
  match i with
  |0=>simp at h3 h4;subst h3 h4;exact h2
  |1=>simp at h3 h4;subst h3 h4;exact h2'
  |2=>simp at h3 h4;subst h3 h4;exact h2''
  |3=>simp at h3 h4;subst h3 h4;exact h23
  |k+4=>simp at h3
 |r::r'::r''::r3::r4::rest,hn,_,_=>simp at hn
end
theorem retOK_not{C:Ctx}{st:St}{rs:List ResultVar}{res:T}(h:notP rs=true)(hr:RetOK C st rs res):rbo st.m 4 (resOf (rs.map (resV C st))) res∧nodupN (refs 4 (resOf (rs.map (resV C st))))=true:=by
 unfold RetOK at hr
 split at hr
 ·simp[notP]at h
 ·simp[notP]at h
 ·exact hr
def fnOK(fn:Func)(body:Code)(n:Nat):Bool:=codeOK fn.ntmps 0 body&&Nat.ble n fn.ntmps&&Nat.ble fn.results.toList.length 4&& !(fn.name== "runtime.NumGoroutine")&&notP fn.results.toList
theorem callOK_of{P:Program}{C:Ctx}(H:CtxOK P C)(hm:P.follows .mixedOrders=true){g:FuncId}{fn:Func}{body:Code}{ts:List T}{res:T}{pl:Plan}{k:Nat}(hf:P.funcs[g]? =some fn)(hb:fn.body=some body)
 (hok:fnOK fn body ts.length=true) (h:wpc C pl k body ⟨argS 0 ts,[]⟩ (retK C fn.results.toList res)):CallOK P C.gi g ts res:=by
 simp only[fnOK,Bool.and_eq_true,Bool.not_eq_true']at hok
 obtain⟨⟨⟨⟨hc,hn⟩,hr4⟩,hname⟩,hnp⟩:=hok
 have hn:=bleN hn
 have hr4:=bleN hr4
 refine⟨⟨fn,hf,hname,by rw[hb];rfl⟩,fun w vs hgi hlen hargs=> ?_⟩
 refine calls_of_wp hf hb ?_
 have R0:Rel ⟨fn.ntmps,0,fun _=>undef,C.gi,fun _=>True⟩ (fun _=>False) w.heap.size w (⟨argS 0 ts,[]⟩:St).s (⟨argS 0 ts,[]⟩:St).m { tmps:=(⟨vs⟩:Array Value)++Array.replicate (fn.ntmps -(⟨vs⟩:Array Value).size) undef,defers:=[] } w:=by
  refine⟨fun _=>0,fun _=>undef,fun _ _=>False,fun b=>b<w.heap.size,rfl, ?_,fun t ht=>absurd ht (Nat.not_lt_zero t),hgi,fun _ _=> .inl trivial,⟨rfl,rfl,rfl,Nat.le_refl _,fun _ _ _=>rfl⟩,Nat.le_refl _,fun t=> ?_, ?_⟩
  ·simp;omega
  ·rcases argS_look ts 0 t _ rfl with h1|⟨i,x,h1,h2,h3⟩
   ·show VRel w _ _ _ _ (look (argS 0 ts) t .gone) _
    rw[h1];exact .gone _
   ·show VRel w _ _ _ _ (look (argS 0 ts) t .gone) _
    rw[h3]
    have hi:i<vs.length:=by rw[hlen];exact(List.getElem?_eq_some_iff.1 h2).1
    have ht:t=i:=by omega
    subst ht
    have e:((⟨vs⟩:Array Value)++Array.replicate (fn.ntmps -(⟨vs⟩:Array Value).size) undef).getD t undef=vs[t]:=by
     simp[Array.getD_eq_getD_getElem?,Array.getElem?_append,hi]
    rw[e]
    exact argV_rel (hargs t _ x (List.getElem?_eq_getElem hi) h2)
  ·have m0:∀id,(⟨argS 0 ts,[]⟩:St).m id=none:=fun _=>rfl
   exact⟨fun id l h=>(by rw[m0]at h;cases h),fun id ver sz rows h=>(by rw[m0]at h;cases h),fun id ver sz rows q l h=>(by rw[m0]at h;cases h),fun i i' b h=>absurd (m0 i) h,fun i b h=>absurd (m0 i) h,fun b hb=>hb⟩
 refine wpc_sound H (fun _ h=>h) hm body _ _ _ _ w hc h R0 fun e st' a' w' hK R'=> ?_
 obtain⟨bv,hd,fp,Fr,R'⟩:=R'
 have fin:rbo st'.m 4 (resOf (fn.results.toList.map (resV C st'))) res∧nodupN (refs 4 (resOf (fn.results.toList.map (resV C st'))))=true→
  a'.defers=[]∧∃v,(results fn a'.tmps).run P w'= .ok v w'∧∃v' F,Ending.returned v= .returned v'∧Owns w' F v' res∧(∀b,F b→w.heap.size≤b∧b<w'.heap.size)∧Below w.heap.size w w':=by
  rintro⟨h1,h2⟩
  obtain⟨v,h3,h4⟩:=res_run H R' hr4 h1
  refine⟨R'.defs,v,h3,v,_,rfl,rbo_own R'.mem 4 _ _ _ h4 h1 (nodupN_iff.1 h2), ?_,Below.ofW R'.below⟩
  rintro b ⟨id,hid,hb⟩
  have:=R'.mem.own id b (rbo_live 4 _ _ h1 id hid) hb
  exact⟨this.1.resolve_right fun h=>h,this.2.1⟩
 cases e with
 |normal=>exact fin (retOK_not hnp hK)
 |ret=>exact fin (retOK_not hnp hK)
 |exit id=>exact hK.elim
def argT(sz:Nat)(rows:List (List T))(ts:List T):St:=⟨(0,.ref 700000 0)::argS 1 ts,[(700000,some (.row 0 sz rows))]⟩
def fnTOK(fn:Func)(body:Code)(n:Nat):Bool:=codeOK fn.ntmps 0 body&&Nat.ble (n+1) fn.ntmps&&Nat.ble fn.results.toList.length 4&& !(fn.name== "runtime.NumGoroutine")&&notP fn.results.toList
theorem ownCall_of{P:Program}{C:Ctx}(H:CtxOK P C)(hm:P.follows .mixedOrders=true){g:FuncId}{fn:Func}{body:Code}{sz:Nat}{rows:List (List T)}{ts:List T}{res:T}{pl:Plan}{k:Nat}(hf:P.funcs[g]? =some fn)(hb:fn.body=some body)
 (hok:fnTOK fn body ts.length=true) (h:wpc C pl k body (argT sz rows ts) (retK C fn.results.toList res)):CallT P C.gi g sz rows ts res none:=by
 simp only[fnTOK,Bool.and_eq_true,Bool.not_eq_true']at hok
 obtain⟨⟨⟨⟨hc,hn⟩,hr4⟩,hname⟩,hnp⟩:=hok
 have hn:=bleN hn
 have hr4:=bleN hr4
 refine⟨⟨fn,hf,hname,by rw[hb];rfl⟩,fun w v0 vs G Fr hgi hGb hfr hlen hown hargs=> ?_⟩
 refine calls_of_wp hf hb ?_
 let act:Act:={ tmps:=(⟨v0::vs⟩:Array Value)++Array.replicate (fn.ntmps -(⟨v0::vs⟩:Array Value).size) undef,defers:=[] }
 have get:∀i (hi:i<(v0::vs).length),act.tmps.getD i undef=(v0::vs)[i]:=fun i hi=>by
  show((⟨v0::vs⟩:Array Value)++Array.replicate _ undef).getD i undef=_
  have hi':i<(⟨v0::vs⟩:Array Value).size:=by simpa using hi
  rw[Array.getD_eq_getD_getElem?,Array.getElem?_append_left hi',Array.getElem?_eq_getElem hi']
  rfl
 have R0:Rel ⟨fn.ntmps,0,fun _=>undef,C.gi,Fr⟩ G w.heap.size w (argT sz rows ts).s (argT sz rows ts).m act w:=by
  refine⟨fun _=>0,fun _=>v0,fun id x=>id=700000∧G x,Fr,rfl, ?_,fun t ht=>absurd ht (Nat.not_lt_zero t),hgi,fun x hx=> .inl hx,⟨rfl,rfl,rfl,Nat.le_refl _,fun _ _ _=>rfl⟩,Nat.le_refl _,fun t=> ?_, ?_⟩
  ·show((⟨v0::vs⟩:Array Value)++Array.replicate (fn.ntmps -_) undef).size=fn.ntmps
   simp;omega
  ·show VRel w Fr (argT sz rows ts).m _ _ (look ((0,SV.ref 700000 0)::argS 1 ts) t .gone) _
   by_cases ht:t=0
   ·subst ht
    rw[get 0 (by simp)]
    obtain⟨a,n,c,e,_⟩:=hown.slice
    exact .ref _ _ _ ⟨a,n,c,e⟩ fun _ _ _=>rfl
   ·have e:look ((0,SV.ref 700000 0)::argS 1 ts) t .gone=look (argS 1 ts) t .gone:=by
     show(bif Nat.beq 0 t then _ else _)=_
     have:Nat.beq 0 t=false:=by cases t with
      |zero=>exact absurd rfl ht
      |succ t=>rfl
     rw[this];rfl
    rw[e]
    rcases argS_look ts 1 t _ rfl with h1|⟨i,x,h1,h2,h3⟩
    ·rw[h1];exact .gone _
    ·rw[h3]
     have hi:i<vs.length:=by rw[hlen];exact(List.getElem?_eq_some_iff.1 h2).1
     have ht:t=i+1:=by omega
     subst ht
     rw[get (i+1) (by simpa using hi),List.getElem_cons_succ]
     exact argV_rel (hargs i _ x (List.getElem?_eq_getElem hi) h2)
  ·have hm0:∀id o,(argT sz rows ts).m id=some o→id=700000∧o= .row 0 sz rows:=by
    intro id o h
    have h:look [(700000,some (MO.row 0 sz rows))] id none=some o:=h
    simp only[look]at h
    cases he:Nat.beq 700000 id with
    |true=>rw[he]at h;simp only[cond_true,Option.some.injEq]at h;exact⟨(beqN he).symm,h.symm⟩
    |false=>rw[he]at h;cases h
   refine⟨fun id l h=> ?_,fun id ver sz' rows' h=> ?_,fun id ver sz' rows' q l h=>(by obtain⟨_,h⟩:=hm0 id _ h;cases h),fun i i' x _ _ h3 h4=>h3.1.trans h4.1.symm,fun i x _ h=>⟨.inr h.2,(hGb x h.2).1,(hGb x h.2).2⟩,hfr⟩
   ·obtain⟨_,h⟩:=hm0 id _ h;cases h
   ·obtain⟨e,h⟩:=hm0 id _ h
    cases h
    exact hown.mono (fun b hb=>⟨e,hb⟩) fun _ _=>rfl
 refine wpc_sound H (fun _ h=>h) hm body _ _ _ _ w hc h R0 fun e st' a' w' hK R'=> ?_
 obtain⟨bv,hd,fp,Fr',R'⟩:=R'
 have fin:rbo st'.m 4 (resOf (fn.results.toList.map (resV C st'))) res∧nodupN (refs 4 (resOf (fn.results.toList.map (resV C st'))))=true→
  a'.defers=[]∧∃v,(results fn a'.tmps).run P w'= .ok v w'∧∃v' F,Ending.returned v= .returned v'∧Owns w' F v' res∧(∀x,F x→(w.heap.size≤x∨(G x∧(none:Option (List (List T)))=none))∧x<w'.heap.size)∧BelowW G w.heap.size w w'∧
   ∀rs,(none:Option (List (List T)))=some rs→Owns w' G v0 (.sl sz rs):=by
  rintro⟨h1,h2⟩
  obtain⟨v,h3,h4⟩:=res_run H R' hr4 h1
  refine⟨R'.defs,v,h3,v,_,rfl,rbo_own R'.mem 4 _ _ _ h4 h1 (nodupN_iff.1 h2), ?_,R'.below,fun rs e=>by cases e⟩
  rintro b ⟨id,hid,hb⟩
  have:=R'.mem.own id b (rbo_live 4 _ _ h1 id hid) hb
  refine⟨?_,this.2.1⟩
  rcases this.1 with h|h
  ·exact .inl h
  ·exact .inr ⟨h,rfl⟩
 cases e with
 |normal=>exact fin (retOK_not hnp hK)
 |ret=>exact fin (retOK_not hnp hK)
 |exit id=>exact hK.elim
end Go.Pv
