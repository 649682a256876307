/- Plain lemmas and definitions. Nothing is claimed here. -/
import Derived.Test.YtabadclgcgdccaaGreatDoorPv19
set_option linter.unusedSimpArgs false
set_option linter.unusedVariables false
namespace Go.Pv
open Go Go.RowKit
theorem Below.ofW{base:Nat}{w w':World}(h:BelowW (fun _=>False) base w w'):Below base w w':=
 ⟨h.os,h.tape,h.output,h.size,fun k hk=>h.block k hk id⟩
theorem argC_rel{w:World}{Fr:Nat→Prop}{m:Nat→Option MO}{bv:Nat→Nat}{hd:Nat→Value}{v:Value}{x:T}(h:Reads w Fr v x):VRel w Fr m bv hd (argV.argC x) v:=by
 cases h with
 |box b o ts f hb hw h=>exact .rptr b o ts f hb hw h
 |int k n=>exact .t _ _ (.int k n)
 |bool b=>exact .t _ _ (.bool b)
 |str s=>exact .t _ _ (.str s)
 |errN=>exact .t _ _ .errN
 |errS t v=>exact .t _ _ (.errS t v)
 |agg cs ts hl h=>exact .t _ _ (.agg cs ts hl h)
 |tup cs ts hl h=>exact .t _ _ (.tup cs ts hl h)
 |sl0 a c sz=>exact .t _ _ (.sl0 a c sz)
 |sl b o n c sz rows f hn hc hb hr hw h=>exact .t _ _ (.sl b o n c sz rows f hn hc hb hr hw h)
 |clo g cs ts hl h=>exact .t _ _ (.clo g cs ts hl h)
theorem argV_rel{w:World}{Fr:Nat→Prop}{m:Nat→Option MO}{bv:Nat→Nat}{hd:Nat→Value}{v:Value}{x:T}(h:Reads w Fr v x):VRel w Fr m bv hd (argV x) v:=by
 cases h with
 |agg cs ts hl h=>
  refine .agg _ cs (by simpa using hl) fun i v s h1 h2=> ?_
  rw[List.getElem?_map,Option.map_eq_some_iff]at h2
  obtain⟨t,h3,rfl⟩:=h2
  exact .t _ _ (h i v t h1 h3)
 |box b o ts f hb hw h=>exact .rptr b o ts f hb hw h
 |clo g cs ts hl h=>
  refine .clo g _ cs (by simpa using hl) fun i v s h1 h2=> ?_
  rw[List.getElem?_map,Option.map_eq_some_iff]at h2
  obtain⟨t,h3,rfl⟩:=h2
  exact argC_rel (h i v t h1 h3)
 |int k n=>exact .t _ _ (.int k n)
 |bool b=>exact .t _ _ (.bool b)
 |str s=>exact .t _ _ (.str s)
 |errN=>exact .t _ _ .errN
 |errS t v=>exact .t _ _ (.errS t v)
 |tup cs ts hl h=>exact .t _ _ (.tup cs ts hl h)
 |sl0 a c sz=>exact .t _ _ (.sl0 a c sz)
 |sl b o n c sz rows f hn hc hb hr hw h=>exact .t _ _ (.sl b o n c sz rows f hn hc hb hr hw h)
theorem argS_look:∀(ts:List T) (k t:Nat) (v:SV),look (argS k ts) t .gone=v→v= .gone∨∃i x,t=k+i∧ts[i]? =some x∧v=argV x
 |[],_,_,_,h=> .inl h.symm
 |x::r,k,t,v,h=>by
  simp only[argS,look]at h
  cases hb:Nat.beq k t with
  |true=>
   rw[hb]at h
   exact .inr ⟨0,x,by have:=beqN hb;omega,by simp,h.symm⟩
  |false=>
   rw[hb]at h
   rcases argS_look r (k+1) t v h with h1|⟨i,y,h1,h2,h3⟩
   ·exact .inl h1
   ·exact .inr ⟨i+1,y,by omega,by simpa using h2,h3⟩
def rv(tmps:Array Value):ResultVar→Sem Value
 | .tmp t=>pure (tmps.getD t undef)
 | .cell a t=>do loadVar t (←asAddr (tmps.getD a undef))
theorem results_eq(fn:Func)(tmps:Array Value):results fn tmps=(do
 let vs←fn.results.mapM (rv tmps)
 pure (if h:vs.size=1 then vs[0]else .tuple vs)):=by
 unfold results
 congr 1
section
variable {P:Program} {C:Ctx} {N:FrP} {W:Nat→Prop} {base:Nat} {w0:World} {st:St} {bv:Nat→Nat} {hd:Nat→Value} {fp:Nat→Nat→Prop} {Fr:Nat→Prop} {a:Act} {w:World}
theorem rv_run(H:CtxOK P C)(R:RelE N W base w0 st.s st.m bv hd fp Fr a w)(r:ResultVar)(h:resV C st r≠ .gone):∃v,(rv a.tmps r).run P w= .ok v w∧VRel w Fr st.m bv hd (resV C st r) v:=by
 cases r with
 |tmp t=>exact⟨_,by simp[rv],R.slots t⟩
 |cell ad t=>
  simp only[resV]at h ⊢
  split at h
  ·rename_i id hs
   split at h
   ·rename_i l hm
    cases hb:(Nat.ble 1 (C.i t).kind&&Nat.ble 1 (C.i t).size&&Nat.beq l.length (C.i t).size)with
    |false=>rw[hb]at h;exact absurd rfl h
    |true=>
     simp only[hs,hm,hb,cond_true]
     simp only[Bool.and_eq_true]at hb
     have hk:=bleN hb.1.1
     have hz:=bleN hb.1.2
     have hlen:=beqN hb.2
     have hr:=R.slots ad
     rw[hs]at hr
     generalize hv:a.tmps.getD ad undef=v at hr
     cases hr with
     |ptr _ _ _ _ hp=>
      have e:=hp l hm
      subst e
      obtain⟨_,cs,el,hh,hl,hrel⟩:=R.mem.vars id l hm
      have f:=H.fact (t:=t) hk
      refine⟨if(C.i t).agg then .agg ⟨cs⟩else cs.headD undef, ?_,valOf_rel hl (by omega) hrel _⟩
      simp only[rv,hv,asAddr,Sem.run_bind,Sem.run_pure,Result.andThen_ok,loadVar,f.isAgg]
      cases hag:(C.i t).agg with
      |true=>
       have hlc:(loadCells ⟨bv id,0,none⟩ cs.length).run P w= .ok cs.toArray w:=run_loadCells_list (P:=P) w ⟨bv id,0,none⟩ cs (fun j v hj=>by
        rw[Addr.add_mid,cell_heap hh];simpa using hj)
       have hcz:cs.length=(C.i t).size:=by omega
       simp only[if_true,Sem.run_bind,f.sizeOf,Result.andThen_ok,←hcz,hlc,Sem.run_pure]
      |false=>
       cases cs with
       |nil=>simp at hl;omega
       |cons v us=>
        have h0:w.cell? ⟨bv id,0,none⟩=some v:=by rw[cell_heap hh];rfl
        simp[h0]
   ·exact absurd rfl h
  ·exact absurd rfl h
theorem rbo_gone{m:Nat→Option MO}{n:Nat}{v:SV}{t:T}(h:rbo m n v t):v≠ .gone:=by
 rintro rfl
 cases n with
 |zero=>exact h.elim
 |succ n=>cases t<;>simp[rbo]at h
theorem all2_mem{α β:Type}{f:α→β→Prop}:∀{l:List α} {r:List β},all2 f l r→∀a∈l,∃b,f a b
 |[],_,_,a,h=>by cases h
 |x::l,[],h,_,_=>h.elim
 |x::l,y::r,h,a,ha=>by
  cases ha with
  |head=>exact⟨y,h.1⟩
  |tail _ ha=>exact all2_mem h.2 a ha
theorem res_run(H:CtxOK P C)(R:RelE N W base w0 st.s st.m bv hd fp Fr a w){fn:Func}(hn:fn.results.toList.length≤4){res:T}(h:rbo st.m 4 (resOf (fn.results.toList.map (resV C st))) res):
 ∃v,(results fn a.tmps).run P w= .ok v w∧VRel w Fr st.m bv hd (resOf (fn.results.toList.map (resV C st))) v:=by
 have hrs:∃rs,fn.results=⟨rs⟩:=⟨fn.results.toList,rfl⟩
 obtain⟨rs,hrs⟩:=hrs
 have hrl:fn.results.toList=rs:=by rw[hrs]
 rw[hrl]at h hn ⊢
 have ne:∀r∈rs,resV C st r≠ .gone:=by
  match rs,h with
  |[],h=>intro r hr;cases hr
  |[r],h=>intro r' hr';simp only[List.mem_singleton]at hr';subst hr';exact rbo_gone h
  |r1::r2::rest,h=>
   intro r hr
   cases res with
   |tup ts=>
    simp only[List.map_cons,resOf,rbo]at h
    obtain⟨b,hb⟩:=all2_mem h (resV C st r) (by rw[←List.map_cons,←List.map_cons];exact List.mem_map_of_mem hr)
    exact rbo_gone hb
   |_=>simp[resOf,rbo]at h
 match rs,hn,hrs,ne with
 |[],_,hrs,_=>exact⟨.tuple #[],by rw[results_eq,hrs];simp,.tup [] [] rfl (fun i v s h=>by simp at h)⟩
 |[r],_,hrs,ne=>
  obtain⟨v,h1,h2⟩:=rv_run H R r (ne r (by simp))
  exact⟨v,by rw[results_eq,hrs];simp[h1],h2⟩
 |[r,r'],_,hrs,ne=>
  obtain⟨v,h1,h2⟩:=rv_run H R r (ne r (by simp))
  obtain⟨v',h1',h2'⟩:=rv_run H R r' (ne r' (by simp))
  refine⟨.tuple ⟨[v,v']⟩,by rw[results_eq,hrs];simp[h1,h1'],.tup _ [v,v'] rfl fun i u s h3 h4=> ?_⟩
  match i with
  |0=>simp at h3 h4;subst h3 h4;exact h2
  |1=>simp at h3 h4;subst h3 h4;exact h2'
  |k+2=>simp at h3
 |[r,r',r''],_,hrs,ne=>
  obtain⟨v,h1,h2⟩:=rv_run H R r (ne r (by simp))
  obtain⟨v',h1',h2'⟩:=rv_run H R r' (ne r' (by simp))
  obtain⟨v'',h1'',h2''⟩:=rv_run H R r'' (ne r'' (by simp))
  refine⟨.tuple ⟨[v,v',v'']⟩,by rw[results_eq,hrs];simp[h1,h1',h1''],.tup _ [v,v',v''] rfl fun i u s h3 h4=> ?_⟩
  match i with
  |0=>simp at h3 h4;subst h3 h4;exact h2
  |1=>simp at h3 h4;subst h3 h4;exact h2'
  |2=>simp at h3 h4;subst h3 h4;exact h2''
  |k+3=>simp at h3
 |[r,r',r'',r3],_,hrs,ne=>
  obtain⟨v,h1,h2⟩:=rv_run H R r (ne r (by simp))
  obtain⟨v',h1',h2'⟩:=rv_run H R r' (ne r' (by simp))
  obtain⟨v'',h1'',h2''⟩:=rv_run H R r'' (ne r'' (by simp))
  obtain⟨v3,h13,h23⟩:=rv_run H R r3 (ne r3 (by simp))
  refine⟨.tuple ⟨[v,v',v'',v3]⟩,by rw[results_eq,hrs];simp[h1,h1',h1'',h13],.tup _ [v,v',v'',v3] rfl fun i u s h3 h4=> ?_⟩
  match i with
  |0=>simp at h3 h4;subst h3 h4;exact h2
  |1=>simp at h3 h4;subst h3 h4;exact h2'
  |2=>simp at h3 h4;subst h3 h4;exact h2''
  |3=>simp at h3 h4;subst h3 h4;exact h23
  |k+4=>simp at h3
 |r::r'::r''::r3::r4::rest,hn,_,_=>simp at hn
end
theorem retOK_not{C:Ctx}{st:St}{rs:List ResultVar}{res:T}(h:notP rs=true)(hr:RetOK C st rs res):rbo st.m 4 (resOf (rs.map (resV C st))) res∧nodupN (refs 4 (resOf (rs.map (resV C st))))=true:=by
 unfold RetOK at hr
 split at hr
 ·simp[notP]at h
 ·simp[notP]at h
 ·exact hr
def fnOK(fn:Func)(body:Code)(n:Nat):Bool:=codeOK fn.ntmps 0 body&&Nat.ble n fn.ntmps&&Nat.ble fn.results.toList.length 4&& !(fn.name== "runtime.NumGoroutine")&&notP fn.results.toList
theorem callOK_of{P:Program}{C:Ctx}(H:CtxOK P C)(hm:P.follows .mixedOrders=true){g:FuncId}{fn:Func}{body:Code}{ts:List T}{res:T}{pl:Plan}{k:Nat}(hf:P.funcs[g]? =some fn)(hb:fn.body=some body)
 (hok:fnOK fn body ts.length=true) (h:wpc C pl k body ⟨argS 0 ts,[]⟩ (retK C fn.results.toList res)):CallOK P C.gi g ts res:=by
 simp only[fnOK,Bool.and_eq_true,Bool.not_eq_true']at hok
 obtain⟨⟨⟨⟨hc,hn⟩,hr4⟩,hname⟩,hnp⟩:=hok
 have hn:=bleN hn
 have hr4:=bleN hr4
 refine⟨⟨fn,hf,hname,by rw[hb];rfl⟩,fun w vs hgi hlen hargs=> ?_⟩
 refine calls_of_wp hf hb ?_
 have R0:Rel ⟨fn.ntmps,0,fun _=>undef,C.gi,fun _=>True⟩ (fun _=>False) w.heap.size w (⟨argS 0 ts,[]⟩:St).s (⟨argS 0 ts,[]⟩:St).m { tmps:=(⟨vs⟩:Array Value)++Array.replicate (fn.ntmps -(⟨vs⟩:Array Value).size) undef,defers:=[] } w:=by
  refine⟨fun _=>0,fun _=>undef,fun _ _=>False,fun b=>b<w.heap.size,rfl, ?_,fun t ht=>absurd ht (Nat.not_lt_zero t),hgi,fun _ _=> .inl trivial,⟨rfl,rfl,rfl,Nat.le_refl _,fun _ _ _=>rfl⟩,Nat.le_refl _,fun t=> ?_, ?_⟩
  ·simp;omega
  ·rcases argS_look ts 0 t _ rfl with h1|⟨i,x,h1,h2,h3⟩
   ·show VRel w _ _ _ _ (look (argS 0 ts) t .gone) _
    rw[h1];exact .gone _
   ·show VRel w _ _ _ _ (look (argS 0 ts) t .gone) _
    rw[h3]
    have hi:i<vs.length:=by rw[hlen];exact(List.getElem?_eq_some_iff.1 h2).1
    have ht:t=i:=by omega
    subst ht
    have e:((⟨vs⟩:Array Value)++Array.replicate (fn.ntmps -(⟨vs⟩:Array Value).size) undef).getD t undef=vs[t]:=by
     simp[Array.getD_eq_getD_getElem?,Array.getElem?_append,hi]
    rw[e]
    exact argV_rel (hargs t _ x (List.getElem?_eq_getElem hi) h2)
  ·have m0:∀id,(⟨argS 0 ts,[]⟩:St).m id=none:=fun _=>rfl
   exact⟨fun id l h=>(by rw[m0]at h;cases h),fun id ver sz rows h=>(by rw[m0]at h;cases h),fun id ver sz rows q l h=>(by rw[m0]at h;cases h),fun i i' b h=>absurd (m0 i) h,fun i b h=>absurd (m0 i) h,fun b hb=>hb,fun id sz rows h=>(by rw[m0]at h;cases h)⟩
 refine wpc_sound H (fun _ h=>h) hm body _ _ _ _ w hc h R0 fun e st' a' w' hK R'=> ?_
 obtain⟨bv,hd,fp,Fr,R'⟩:=R'
 have fin:rbo st'.m 4 (resOf (fn.results.toList.map (resV C st'))) res∧nodupN (refs 4 (resOf (fn.results.toList.map (resV C st'))))=true→
  a'.defers=[]∧∃v,(results fn a'.tmps).run P w'= .ok v w'∧∃v' F,Ending.returned v= .returned v'∧Owns w' F v' res∧(∀b,F b→w.heap.size≤b∧b<w'.heap.size)∧Below w.heap.size w w':=by
  rintro⟨h1,h2⟩
  obtain⟨v,h3,h4⟩:=res_run H R' hr4 h1
  refine⟨R'.defs,v,h3,v,_,rfl,rbo_own R'.mem 4 _ _ _ h4 h1 (nodupN_iff.1 h2), ?_,Below.ofW R'.below⟩
  rintro b ⟨id,hid,hb⟩
  have:=R'.mem.own id b (rbo_live 4 _ _ h1 id hid) hb
  exact⟨this.1.resolve_right fun h=>h,this.2.1⟩
 cases e with
 |normal=>exact fin (retOK_not hnp hK)
 |ret=>exact fin (retOK_not hnp hK)
 |exit id=>exact hK.elim
theorem var_cells{C:Ctx}{st:St}{bv:Nat→Nat}{hd:Nat→Value}{fp:Nat→Nat→Prop}{Fr:Nat→Prop}{N:FrP}{W:Nat→Prop}{base:Nat}{w0 w:World}{act:Act}(R:RelE N W base w0 st.s st.m bv hd fp Fr act w){r t:Nat}{l1:List T}(hag:(C.i t).agg=true)(h:resV C st (.cell r t)= .agg (l1.map SV.t)):
 ∃id l,st.m id=some (.var l)∧act.tmps.getD r undef= .pointer (some ⟨bv id,0,none⟩)∧fp id (bv id)∧∃cs el,w.heap[bv id]? =some (.cells ⟨cs⟩ el (0,0))∧cs.length=l1.length∧∀(i:Nat) v t,cs[i]? =some v→l1[i]? =some t→Reads w Fr v t:=by
 simp only[resV]at h
 split at h
 ·rename_i id hs
  split at h
  ·rename_i l hm
   cases hb:(Nat.ble 1 (C.i t).kind&&Nat.ble 1 (C.i t).size&&Nat.beq l.length (C.i t).size)with
   |false=>rw[hb]at h;cases h
   |true=>
    rw[hb,cond_true,hag]at h
    simp only[valOf,cond_true,SV.agg.injEq]at h
    have hr:=R.slots r
    rw[hs]at hr
    obtain⟨q1,cs,el,q2,q3,q4⟩:=R.mem.vars id l hm
    refine⟨id,l,hm, ?_,q1,cs,el,q2,by rw[q3,h];simp,fun i v t e1 e2=>(q4 i v (.t t) e1 (by rw[h,List.getElem?_map,e2];rfl)).reads⟩
    generalize act.tmps.getD r undef=v at hr
    cases hr with
    |ptr _ _ _ _ hh=>exact hh l hm
  ·cases h
 ·cases h
theorem rbo_rows{m:Nat→Option MO}:∀(n:Nat) (sv:SV) (t:T),rbo m n sv t→∀id∈refs n sv,∃ver sz rows,m id=some (.row ver sz rows)
 |0,_,_,h,_,_=>h.elim
 |n+1,sv,t,h,id,hid=>by
  have lists:∀(l:List SV) (ts:List T),all2 (rbo m n) l ts→id∈refsL (refs n) l→∃ver sz rows,m id=some (.row ver sz rows):=by
   intro l
   induction l with
   |nil=>intro ts _ h;simp[refsL]at h
   |cons a r ih=>
    intro ts h2 h3
    cases ts with
    |nil=>exact h2.elim
    |cons t ts=>
     simp only[refsL,List.mem_append]at h3
     rcases h3 with h3|h3
     ·exact rbo_rows n a t h2.1 id h3
     ·exact ih ts h2.2 h3
  cases sv with
  |ref j ver=>
   simp only[refs,List.mem_singleton]at hid
   subst hid
   cases t<;>simp only[rbo]at h
   split at h
   ·rename_i v s r hm;exact⟨v,s,r,hm⟩
   ·exact h.elim
  |agg l=>cases t<;>simp only[rbo]at h;exact lists _ _ h (by simpa[refs]using hid)
  |tup l=>cases t<;>simp only[rbo]at h;exact lists _ _ h (by simpa[refs]using hid)
  |clo f l=>cases t<;>simp[rbo]at h
  |ptr i off=>cases t<;>simp[rbo]at h
  |eptr a b c d=>cases t<;>simp[rbo]at h
  |vw j ver lo=>
   simp only[refs,List.mem_singleton]at hid
   subst hid
   cases t<;>simp only[rbo]at h
   split at h
   ·rename_i v s r hm;exact⟨v,s,r,hm⟩
   ·exact h.elim
  |_=>simp[refs]at hid
def argP(l0 ts:List T):St:=⟨(0,.ptr 700000 0)::argS 1 ts,[(700000,some (.var (l0.map SV.t)))]⟩
def fnPOK(fn:Func)(body:Code)(n:Nat):Bool:=codeOK fn.ntmps 1 body&&Nat.ble (n+1) fn.ntmps&&Nat.ble fn.results.toList.length 4&& !(fn.name== "runtime.NumGoroutine")&&notP fn.results.toList
theorem callP_of{P:Program}{C:Ctx}(H:CtxOK P C)(hm:P.follows .mixedOrders=true){g:FuncId}{fn:Func}{body:Code}{l0 ts l1 rs:List T}{pl:Plan}{k pt:Nat}(hf:P.funcs[g]? =some fn)(hb:fn.body=some body)
 (hok:fnPOK fn body ts.length=true) (hpt:pt≠0) (hag:(C.i pt).agg=true) (h:wpc C pl k body (argP l0 ts) (retK C (.cell 0 pt::fn.results.toList) (.tup (.agg l1::rs)))):CallP P C.gi g l0 ts (oneT rs) l1:=by
 simp only[fnPOK,Bool.and_eq_true,Bool.not_eq_true']at hok
 obtain⟨⟨⟨⟨hc,hn⟩,hr4⟩,hname⟩,hnp⟩:=hok
 have hn:=bleN hn
 have hr4:=bleN hr4
 refine⟨⟨fn,hf,hname,by rw[hb];rfl⟩,fun w b vs Fr hgi hbs hnb hfr hlen ⟨cs,el,hh,hl,hrd⟩ hargs=> ?_⟩
 refine calls_of_wp hf hb ?_
 let v0:Value:= .pointer (some ⟨b,0,none⟩)
 let act:Act:={ tmps:=(⟨v0::vs⟩:Array Value)++Array.replicate (fn.ntmps -(⟨v0::vs⟩:Array Value).size) undef,defers:=[] }
 have get:∀i (hi:i<(v0::vs).length),act.tmps.getD i undef=(v0::vs)[i]:=fun i hi=>by
  show((⟨v0::vs⟩:Array Value)++Array.replicate _ undef).getD i undef=_
  have hi':i<(⟨v0::vs⟩:Array Value).size:=by simpa using hi
  rw[Array.getD_eq_getD_getElem?,Array.getElem?_append_left hi',Array.getElem?_eq_getElem hi']
  rfl
 have R0:Rel ⟨fn.ntmps,1,fun _=>v0,C.gi,Fr⟩ (fun x=>x=b) w.heap.size w (argP l0 ts).s (argP l0 ts).m act w:=by
  refine⟨fun _=>b,fun _=>undef,fun id x=>id=700000∧x=b,Fr,rfl, ?_,fun t ht=> ?_,hgi,fun x hx=> .inl hx,⟨rfl,rfl,rfl,Nat.le_refl _,fun _ _ _=>rfl⟩,Nat.le_refl _,fun t=> ?_, ?_⟩
  ·show((⟨v0::vs⟩:Array Value)++Array.replicate (fn.ntmps -_) undef).size=fn.ntmps
   simp;omega
  ·have:t=0:=by have ht:t<1:=ht;omega
   subst this
   exact get 0 (by simp)
  ·show VRel w Fr (argP l0 ts).m _ _ (look ((0,SV.ptr 700000 0)::argS 1 ts) t .gone) _
   by_cases ht:t=0
   ·subst ht
    rw[get 0 (by simp)]
    exact .ptr _ _ _ ⟨_,rfl⟩ fun l _=>rfl
   ·have e:look ((0,SV.ptr 700000 0)::argS 1 ts) t .gone=look (argS 1 ts) t .gone:=by
     show(bif Nat.beq 0 t then _ else _)=_
     have:Nat.beq 0 t=false:=by cases t with
      |zero=>exact absurd rfl ht
      |succ t=>rfl
     rw[this];rfl
    rw[e]
    rcases argS_look ts 1 t _ rfl with h1|⟨i,x,h1,h2,h3⟩
    ·rw[h1];exact .gone _
    ·rw[h3]
     have hi:i<vs.length:=by rw[hlen];exact(List.getElem?_eq_some_iff.1 h2).1
     have ht:t=i+1:=by omega
     subst ht
     rw[get (i+1) (by simpa using hi),List.getElem_cons_succ]
     exact argV_rel (hargs i _ x (List.getElem?_eq_getElem hi) h2)
  ·have hm0:∀id o,(argP l0 ts).m id=some o→id=700000∧o= .var (l0.map SV.t):=by
    intro id o h
    have h:look [(700000,some (MO.var (l0.map SV.t)))] id none=some o:=h
    simp only[look]at h
    cases he:Nat.beq 700000 id with
    |true=>rw[he]at h;simp only[cond_true,Option.some.injEq]at h;exact⟨(beqN he).symm,h.symm⟩
    |false=>rw[he]at h;cases h
   refine⟨fun id l h=> ?_,fun id ver sz rows h=> ?_,fun id ver sz rows q l h=>(by obtain⟨_,h⟩:=hm0 id _ h;cases h),fun i i' x _ _ h3 h4=>h3.1.trans h4.1.symm,fun i x _ h=>⟨.inr h.2,by rw[h.2];exact hbs,by rw[h.2];exact hnb⟩,hfr,fun id sz1 rows1 h=>(by rcases asRow_of h with h|⟨_,_,h⟩<;>(obtain⟨_,h⟩:=hm0 id _ h;cases h))⟩
   ·obtain⟨e,h⟩:=hm0 id _ h
    cases h
    refine⟨⟨e,rfl⟩,cs,el,hh,by simpa using hl,fun i v s e1 e2=> ?_⟩
    rw[List.getElem?_map,Option.map_eq_some_iff]at e2
    obtain⟨t,e2,rfl⟩:=e2
    exact .t _ _ (hrd i v t e1 e2)
   ·obtain⟨_,h⟩:=hm0 id _ h;cases h
 refine wpc_sound H (fun _ h=>h) hm body _ _ _ _ w hc h R0 fun e st' a' w' hK R'=> ?_
 obtain⟨bv,hd,fp,Fr',R'⟩:=R'
 have fin:RetOK C st' (.cell 0 pt::fn.results.toList) (.tup (.agg l1::rs))→
  a'.defers=[]∧∃v,(results fn a'.tmps).run P w'= .ok v w'∧∃v' F Fr',Ending.returned v= .returned v'∧Owns w' F v' (oneT rs)∧(∀x,F x→w.heap.size≤x∧x<w'.heap.size∧¬Fr' x)∧BelowW (fun x=>x=b) w.heap.size w w'∧
  (∀x,Fr' x→(Fr x∨w.heap.size≤x)∧x<w'.heap.size∧x≠b)∧
  ∃cs el,w'.heap[b]? =some (.cells ⟨cs⟩ el (0,0))∧cs.length=l1.length∧∀(i:Nat) v t,cs[i]? =some v→l1[i]? =some t→Reads w' Fr' v t:=by
  intro hr
  have hr:∃l1' ts',T.tup (.agg l1::rs)= .tup (.agg l1'::ts')∧resV C st' (.cell 0 pt)= .agg (l1'.map SV.t)∧rbo st'.m 4 (resOf (fn.results.toList.map (resV C st'))) (oneT ts')∧nodupN (refs 4 (resOf (fn.results.toList.map (resV C st'))))=true:=by
   unfold RetOK at hr
   split at hr
   ·rename_i e;simp only[List.cons.injEq,ResultVar.cell.injEq]at e;exact absurd e.1.2 hpt
   ·rename_i t' rs' _ e
    simp only[List.cons.injEq,ResultVar.cell.injEq]at e
    obtain⟨⟨_,rfl⟩,rfl⟩:=e
    exact hr
   ·rename_i e;exact(e _ _ rfl).elim
  obtain⟨l1',ts',e,h1,h2,h3⟩:=hr
  simp only[T.tup.injEq,List.cons.injEq,T.agg.injEq]at e
  obtain⟨rfl,rfl⟩:=e
  obtain⟨id,l,hmid,hv0,hfp,cs',el',hh',hl',hrd'⟩:=var_cells R' hag h1
  have hpin:=R'.pins 0 (by show 0<1;omega)
  rw[hpin]at hv0
  have hbe:b=bv id:=by have:v0=_:=hv0;simp only[v0]at this;injection this with this;injection this with this;injection this
  rw[←hbe]at hh' hfp
  have hlive:st'.m id≠none:=by rw[hmid];simp
  obtain⟨v,h4,h5⟩:=res_run H R' hr4 h2
  refine⟨R'.defs,v,h4,v,_,Fr',rfl,rbo_own R'.mem 4 _ _ _ h5 h2 (nodupN_iff.1 h3), ?_,R'.below,fun x hx=> ?_,cs',el',hh',hl',hrd'⟩
  ·rintro x ⟨j,hj,hx⟩
   have ho:=R'.mem.own j x (rbo_live 4 _ _ h2 j hj) hx
   have hne:x≠b:=by
    rintro rfl
    obtain⟨_,_,_,e⟩:=rbo_rows 4 _ _ h2 j hj
    have:=R'.mem.apart j id x (by rw[e];simp) hlive hx hfp
    rw[this,hmid]at e;cases e
   exact⟨ho.1.resolve_right hne,ho.2.1,ho.2.2⟩
  ·have hne:x≠b:=by rintro rfl;exact(R'.mem.own id x hlive hfp).2.2 hx
   rcases R'.bnd x hx with h|h|h
   ·exact⟨.inl h,R'.mem.fr x hx,hne⟩
   ·exact⟨.inr h,R'.mem.fr x hx,hne⟩
   ·exact absurd h hne
 cases e with
 |normal=>exact fin hK
 |ret=>exact fin hK
 |exit id=>exact hK.elim
theorem callB_of{P:Program}{C:Ctx}(H:CtxOK P C)(hm:P.follows .mixedOrders=true){g:FuncId}{fn:Func}{body:Code}{ts l1:List T}{pl:Plan}{k r0 pt:Nat}(hf:P.funcs[g]? =some fn)(hb:fn.body=some body)(hr:fn.results= #[.tmp r0])
 (hok:fnOK fn body ts.length=true) (hag:(C.i pt).agg=true) (h:wpc C pl k body ⟨argS 0 ts,[]⟩ (retK C [.cell 0 0,.cell r0 pt] (.agg l1))):CallB P C.gi g ts l1:=by
 simp only[fnOK,Bool.and_eq_true,Bool.not_eq_true']at hok
 obtain⟨⟨⟨⟨hc,hn⟩,hr4⟩,hname⟩,hnp⟩:=hok
 have hn:=bleN hn
 refine⟨⟨fn,hf,hname,by rw[hb];rfl⟩,fun w vs Fr hgi hfr hlen hargs=> ?_⟩
 refine calls_of_wp hf hb ?_
 have R0:Rel ⟨fn.ntmps,0,fun _=>undef,C.gi,Fr⟩ (fun _=>False) w.heap.size w (⟨argS 0 ts,[]⟩:St).s (⟨argS 0 ts,[]⟩:St).m { tmps:=(⟨vs⟩:Array Value)++Array.replicate (fn.ntmps -(⟨vs⟩:Array Value).size) undef,defers:=[] } w:=by
  refine⟨fun _=>0,fun _=>undef,fun _ _=>False,Fr,rfl, ?_,fun t ht=>absurd ht (Nat.not_lt_zero t),hgi,fun _ h=> .inl h,⟨rfl,rfl,rfl,Nat.le_refl _,fun _ _ _=>rfl⟩,Nat.le_refl _,fun t=> ?_, ?_⟩
  ·simp;omega
  ·show VRel w _ _ _ _ (look (argS 0 ts) t .gone) _
   rcases argS_look ts 0 t _ rfl with h1|⟨i,x,h1,h2,h3⟩
   ·rw[h1];exact .gone _
   ·rw[h3]
    have hi:i<vs.length:=by rw[hlen];exact(List.getElem?_eq_some_iff.1 h2).1
    have ht:t=i:=by omega
    subst ht
    have e:((⟨vs⟩:Array Value)++Array.replicate (fn.ntmps -(⟨vs⟩:Array Value).size) undef).getD t undef=vs[t]:=by
     simp[Array.getD_eq_getD_getElem?,Array.getElem?_append,hi]
    rw[e]
    exact argV_rel (hargs t _ x (List.getElem?_eq_getElem hi) h2)
  ·have m0:∀id,(⟨argS 0 ts,[]⟩:St).m id=none:=fun _=>rfl
   exact⟨fun id l h=>(by rw[m0]at h;cases h),fun id ver sz rows h=>(by rw[m0]at h;cases h),fun id ver sz rows q l h=>(by rw[m0]at h;cases h),fun i i' b h=>absurd (m0 i) h,fun i b h=>absurd (m0 i) h,hfr,fun id sz rows h=>(by rw[m0]at h;cases h)⟩
 refine wpc_sound H (fun _ h=>h) hm body _ _ _ _ w hc h R0 fun e st' a' w' hK R'=> ?_
 obtain⟨bv,hd,fp,Fr',R'⟩:=R'
 have fin:RetOK C st' [.cell 0 0,.cell r0 pt] (.agg l1)→
  a'.defers=[]∧∃v,(results fn a'.tmps).run P w'= .ok v w'∧∃b Fr',Ending.returned v= .returned (.pointer (some ⟨b,0,none⟩))∧w.heap.size≤b∧b<w'.heap.size∧BelowW (fun _=>False) w.heap.size w w'∧
  (∀x,Fr' x→(Fr x∨w.heap.size≤x)∧x<w'.heap.size∧x≠b)∧
  ∃cs el,w'.heap[b]? =some (.cells ⟨cs⟩ el (0,0))∧cs.length=l1.length∧∀(i:Nat) v t,cs[i]? =some v→l1[i]? =some t→Reads w' Fr' v t:=by
  intro hr1
  obtain⟨l1',e,h1⟩:∃l1',T.agg l1= .agg l1'∧resV C st' (.cell r0 pt)= .agg (l1'.map SV.t):=hr1
  simp only[T.agg.injEq]at e
  subst e
  obtain⟨id,l,hmid,hv0,hfp,cs',el',hh',hl',hrd'⟩:=var_cells R' hag h1
  have hlive:st'.m id≠none:=by rw[hmid];simp
  obtain⟨o1,o2,o3⟩:=R'.mem.own id _ hlive hfp
  refine⟨R'.defs,_,by rw[results_eq,hr];simp[rv,hv0],bv id,Fr',rfl,o1.resolve_right (fun h=>h),o2,R'.below,fun x hx=> ?_,cs',el',hh',hl',hrd'⟩
  have hne:x≠bv id:=by rintro rfl;exact o3 hx
  rcases R'.bnd x hx with h|h|h
  ·exact⟨.inl h,R'.mem.fr x hx,hne⟩
  ·exact⟨.inr h,R'.mem.fr x hx,hne⟩
  ·exact h.elim
 cases e with
 |normal=>exact fin hK
 |ret=>exact fin hK
 |exit id=>exact hK.elim
end Go.Pv
