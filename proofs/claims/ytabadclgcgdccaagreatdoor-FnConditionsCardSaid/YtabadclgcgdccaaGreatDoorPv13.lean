/- Plain lemmas and definitions. Nothing is claimed here. -/
import Derived.Test.YtabadclgcgdccaaGreatDoorPv12
set_option linter.unusedSimpArgs false
set_option linter.unusedVariables false
namespace Go.Pv
open Go Go.RowKit Go.Lib
section
variable {P:Program} {C:Ctx} {N:FrP} {W:Nat→Prop} {base:Nat} {w0:World} {s:Nat→SV} {m:Nat→Option MO} {bv:Nat→Nat} {hd:Nat→Value} {fp:Nat→Nat→Prop} {Fr:Nat→Prop} {a:Act} {w:World}
theorem keys_append{α:Type}(x y:List (Nat×α)):keys (x++y)=keys x++keys y:=by simp[keys]
theorem impPart_ok{w':World}(base k:Nat){t:T}{v:Value}{F:Nat→Prop}(ho:Owns w' F v t)(hok:partOK t=true):
 ∃hN fN,ImpOK w' F (impPart base k t).2 hN fN∧(∀id b,fN id b→id∈keys (impPart base k t).2)∧Taken w' (impPart base k t).2 hN (impPart base k t).1 v:=by
 have scal:t.scalar=true→impPart base k t=(.t t,[])→∃hN fN,ImpOK w' F (impPart base k t).2 hN fN∧(∀id b,fN id b→id∈keys (impPart base k t).2)∧Taken w' (impPart base k t).2 hN (impPart base k t).1 v:=by
  intro hs e
  rw[e]
  exact⟨fun _=>undef,fun _ _=>False,⟨fun id ob h=>by simp at h,fun _ _ h=>h.elim,fun _ _ _ h=>h.elim⟩,fun _ _ h=>h.elim,fun Fr m' bv' hd' _=> .t _ _ (ho.reads.owns_scalar hs w' Fr).reads⟩
 cases t with
 |int k n=>exact scal rfl rfl
 |bool b=>exact scal rfl rfl
 |str l=>exact scal rfl rfl
 |err e=>exact scal rfl rfl
 |sl sz rows=>
  refine⟨fun _=>v,fun id b=>id=base+1000*k∧F b,⟨fun id ob h=> ?_,fun id b h=>h.2,fun id id' b h h'=>by rw[h.1,h'.1]⟩,fun id b h=>by simp[impPart,keys,h.1], ?_⟩
  ·simp only[impPart,List.mem_singleton,Prod.mk.injEq]at h
   obtain⟨rfl,rfl⟩:=h
   exact⟨sz,rows,rfl,ho.mono (fun b hb=>⟨rfl,hb⟩) (fun _ _=>rfl)⟩
  ·intro Fr m' bv' hd' hh
   obtain⟨a1,a2,a3,e,_⟩:=ho.slice
   exact .ref _ _ _ ⟨_,_,_,e⟩ fun _ _ _=>(hh _ (by simp[impPart,keys])).symm
 |agg l=>
  cases ho with
  |agg _ cs _ G hl hG hD h=>
   obtain⟨hN,fN,I,hk,hlen,hT⟩:=impCells_ok (w':=w') base l k cs G hl hD h (fun t ht=>by
    have:=List.all_eq_true.1 hok t ht
    cases t<;>first|exact .inl rfl|exact .inr ⟨_,_,rfl⟩|(simp[cellOK,T.scalar]at this;done))
   refine⟨hN,fN,⟨I.row,fun id b h=> ?_,I.dis⟩,hk,fun Fr m' bv' hd' hh=> ?_⟩
   ·obtain⟨i,hi⟩:=I.sub id b h;exact hG i b hi
   ·exact .agg _ cs hlen.symm fun i v sv h1 h2=>hT i v sv h1 h2 Fr m' bv' hd' hh
 |tup l=>simp[partOK,cellOK,T.scalar]at hok
 |box l=>simp[partOK,cellOK,T.scalar]at hok
 |clo f l=>simp[partOK,cellOK,T.scalar]at hok
theorem ImpOK.join{w':World}{F1 F2:Nat→Prop}{m1 m2:List (Nat×Option MO)}{h1 h2:Nat→Value}{f1 f2:Nat→Nat→Prop}(I1:ImpOK w' F1 m1 h1 f1)(I2:ImpOK w' F2 m2 h2 f2)(k1:∀id b,f1 id b→id∈keys m1)(k2:∀id b,f2 id b→id∈keys m2)
 (hn:(keys (m1++m2)).Nodup) (hF:∀b,F1 b→F2 b→False):
 ImpOK w' (fun b=>F1 b∨F2 b) (m1++m2) (fun id=>if id∈keys m1 then h1 id else h2 id) (fun id b=>f1 id b∨f2 id b):=by
 rw[keys_append,List.nodup_append]at hn
 refine⟨fun id ob h=> ?_,fun id b h=> ?_,fun id id' b h h'=> ?_⟩
 ·rcases List.mem_append.1 h with h|h
  ·obtain⟨sz,rows,e,ho⟩:=I1.row id ob h
   have:id∈keys m1:=List.mem_map.2 ⟨_,h,rfl⟩
   exact⟨sz,rows,e,by simp only[this,if_true];exact ho.mono (fun b hb=> .inl hb) (fun _ _=>rfl)⟩
  ·obtain⟨sz,rows,e,ho⟩:=I2.row id ob h
   have h3:id∈keys m2:=List.mem_map.2 ⟨_,h,rfl⟩
   have:id∉keys m1:=fun h4=>hn.2.2 id h4 id h3 rfl
   exact⟨sz,rows,e,by simp only[this,if_false];exact ho.mono (fun b hb=> .inr hb) (fun _ _=>rfl)⟩
 ·rcases h with h|h
  ·exact .inl (I1.sub id b h)
  ·exact .inr (I2.sub id b h)
 ·rcases h with h|h<;>rcases h' with h'|h'
  ·exact I1.dis id id' b h h'
  ·exact(hF b (I1.sub _ _ h) (I2.sub _ _ h')).elim
  ·exact(hF b (I1.sub _ _ h') (I2.sub _ _ h)).elim
  ·exact I2.dis id id' b h h'
theorem Taken.left{w':World}{m1 m2:List (Nat×Option MO)}{h1 h2:Nat→Value}{sv:SV}{v:Value}(h:Taken w' m1 h1 sv v):Taken w' (m1++m2) (fun id=>if id∈keys m1 then h1 id else h2 id) sv v:=
 fun Fr m' bv' hd' hh=>h Fr m' bv' hd' fun id hid=>by rw[hh id (by rw[keys_append];exact List.mem_append_left _ hid)];simp[hid]
theorem Taken.right{w':World}{m1 m2:List (Nat×Option MO)}{h1 h2:Nat→Value}{sv:SV}{v:Value}(h:Taken w' m2 h2 sv v)(hn:(keys (m1++m2)).Nodup):Taken w' (m1++m2) (fun id=>if id∈keys m1 then h1 id else h2 id) sv v:=by
 rw[keys_append,List.nodup_append]at hn
 exact fun Fr m' bv' hd' hh=>h Fr m' bv' hd' fun id hid=>by
  rw[hh id (by rw[keys_append];exact List.mem_append_right _ hid)]
  have:id∉keys m1:=fun h4=>hn.2.2 id h4 id hid rfl
  simp[this]
theorem impParts_ok{w':World}(base:Nat):∀(ts:List T) (k:Nat) (cs:List Value) (G:Nat→Nat→Prop),cs.length=ts.length→(∀i j b,G i b→G j b→i=j)→
 (∀(i:Nat) v t,cs[i]? =some v→ts[i]? =some t→Owns w' (G i) v t)→(∀t∈ts,partOK t=true)→(keys (impParts base k ts).2).Nodup→∃hN fN,ImpOK w' (fun b=>∃i,G i b) (impParts base k ts).2 hN fN∧(∀id b,fN id b→id∈keys (impParts base k ts).2)∧(impParts base k ts).1.length=cs.length∧
  ∀(i:Nat) v sv,cs[i]? =some v→(impParts base k ts).1[i]? =some sv→Taken w' (impParts base k ts).2 hN sv v
 |[],k,cs,G,hl,hD,ho,hc,hn=>by
  have:cs=[]:=List.eq_nil_of_length_eq_zero (by simpa using hl)
  subst this
  exact⟨fun _=>undef,fun _ _=>False,⟨fun id ob h=>by simp[impParts]at h,fun _ _ h=>h.elim,fun _ _ _ h=>h.elim⟩,fun _ _ h=>h.elim,rfl,fun i v sv h=>by simp at h⟩
 |t::ts,k,[],G,hl,hD,ho,hc,hn=>by simp at hl
 |t::ts,k,c::cs,G,hl,hD,ho,hc,hn=>by
  have hn':(keys ((impPart base k t).2++(impParts base (k+100) ts).2)).Nodup:=hn
  have hn2:(keys (impParts base (k+100) ts).2).Nodup:=by rw[keys_append,List.nodup_append]at hn';exact hn'.2.1
  obtain⟨h2,f2,I2,k2,hlen,hT⟩:=impParts_ok (w':=w') base ts (k+100) cs (fun i=>G (i+1)) (by simpa using hl) (fun i j b h1 h2=>by have:=hD _ _ b h1 h2;omega) (fun i v t h1 h2=>ho (i+1) v t h1 h2) (fun t ht=>hc t (by simp[ht])) hn2
  obtain⟨h1,f1,I1,k1,hT1⟩:=impPart_ok base k (ho 0 c t rfl rfl) (hc t (by simp))
  have J:=I1.join I2 k1 k2 hn' (fun b hb ⟨i,hi⟩=>by have:=hD _ _ b hb hi;omega)
  refine⟨_,_,⟨J.row,fun id b h=> ?_,J.dis⟩,fun id b h=> ?_,by simp[impParts,hlen],fun i v sv e1 e2=> ?_⟩
  ·rcases J.sub id b h with h|⟨i,h⟩
   ·exact⟨0,h⟩
   ·exact⟨i+1,h⟩
  ·show id∈keys ((impPart base k t).2++(impParts base (k+100) ts).2)
   rw[keys_append]
   rcases h with h|h
   ·exact List.mem_append_left _ (k1 id b h)
   ·exact List.mem_append_right _ (k2 id b h)
  ·cases i with
   |zero=>
    simp[impParts]at e1 e2
    subst e1
    subst e2
    exact hT1.left
   |succ i=>
    simp only[impParts,List.getElem?_cons_succ]at e1 e2
    exact(hT i v sv e1 e2).right hn'
theorem imp_ok{w':World}(base:Nat){t:T}{v:Value}{F:Nat→Prop}(ho:Owns w' F v t)(hok:impOK t=true)(hn:(keys (imp base t).2).Nodup):
 ∃hN fN,ImpOK w' F (imp base t).2 hN fN∧Taken w' (imp base t).2 hN (imp base t).1 v:=by
 have part:partOK t=true→imp base t=impPart base 1 t→∃hN fN,ImpOK w' F (imp base t).2 hN fN∧Taken w' (imp base t).2 hN (imp base t).1 v:=by
  intro h e
  rw[e]
  obtain⟨hN,fN,I,_,hT⟩:=impPart_ok base 1 ho h
  exact⟨hN,fN,I,hT⟩
 cases t with
 |tup l=>
  cases ho with
  |tup _ cs _ G hl hG hD h=>
   obtain⟨hN,fN,I,hk,hlen,hT⟩:=impParts_ok (w':=w') base l 1 cs G hl hD h (fun t ht=>List.all_eq_true.1 hok t ht) hn
   refine⟨hN,fN,⟨I.row,fun id b h=> ?_,I.dis⟩,fun Fr m' bv' hd' hh=> ?_⟩
   ·obtain⟨i,hi⟩:=I.sub id b h;exact hG i b hi
   ·exact .tup _ cs hlen.symm fun i v sv h1 h2=>hT i v sv h1 h2 Fr m' bv' hd' hh
 |int k n=>exact part hok rfl
 |bool b=>exact part hok rfl
 |str l=>exact part hok rfl
 |err e=>exact part hok rfl
 |sl sz rows=>exact part hok rfl
 |agg l=>exact part hok rfl
 |box l=>exact part hok rfl
 |clo f l=>exact part hok rfl
theorem run_call{o:Oper}{c:Call}{f:Operand}{g:FuncId}{caps:List Value}(he:Enters P g)(h:o.op= .call c)(hc:c.callee= .value f)(hf:a.eval f= .func (.func g) #[] ⟨caps⟩):
 (execOp a.eval o).run P w= .ok (.enter g ⟨c.args.toList.map a.eval++caps⟩) w:=by
 obtain⟨fn,h1,h2,h3⟩:=he
 have e:c.args.map a.eval++(⟨caps⟩:Array Value)=⟨c.args.toList.map a.eval++caps⟩:=by apply Array.ext';simp
 have e2:(#[]:Array Value)++c.args.map a.eval=c.args.map a.eval:=by simp
 simp only[execOp,h,resolve,hc,hf,Deferred.ofValue,Sem.run_bind,Sem.run_pure,Result.andThen_ok,invoke,callFunc,run_program,h1,h2,h3,e2,e]
 simp
theorem args_rel(R:RelE N W base w0 s m bv hd fp Fr a w)(c:Call){cap:List SV}{caps:List Value}(hl:caps.length=cap.length)(hr:∀(i:Nat) v sv,caps[i]? =some v→cap[i]? =some sv→VRel w Fr m bv hd sv v):
 (c.args.toList.map a.eval++caps).length=(c.args.toList.map (opnd s)++cap).length∧∀(i:Nat) v sv,(c.args.toList.map a.eval++caps)[i]? =some v→(c.args.toList.map (opnd s)++cap)[i]? =some sv→VRel w Fr m bv hd sv v:=by
 refine⟨by simp[hl],fun i v sv h1 h2=> ?_⟩
 by_cases hi:i<c.args.toList.length
 ·rw[List.getElem?_append_left (by simpa using hi)]at h1 h2
  rw[List.getElem?_map,Option.map_eq_some_iff]at h1 h2
  obtain⟨x,hx,rfl⟩:=h1
  obtain⟨y,hy,rfl⟩:=h2
  rw[hx]at hy
  cases hy
  exact opnd_rel R x
 ·rw[List.getElem?_append_right (by simp;simp at hi;omega)]at h1 h2
  simp only[List.length_map]at h1 h2
  exact hr _ _ _ h1 h2
theorem goes_call(H:CtxOK P C)(hG:∀w,N.gi w→C.gi w)(R:RelE N W base w0 s m bv hd fp Fr a w){o:Oper}(hdst:∀d,o.dst=some d→N.ok d){c:Call}{f:Operand}{g:FuncId}{cap:List SV}{ts:List T}{res:T}{fpl:List Nat}(h:o.op= .call c)(hc:c.callee= .value f)(hf:opnd s f= .clo g cap)
 (ht:all2 (rb m 4) (c.args.toList.map (opnd s)++cap) ts) (hw:C.cs g ts res) (hi:impOK res=true) (hfresh:∀id∈keys (imp (o.dst.getD 0) res).2,m id=none) (hn:(keys (imp (o.dst.getD 0) res).2).Nodup) (cl:Clean s m (toks (imp (o.dst.getD 0) res).2)):
 Goes P N W base w0 s m o ⟨(imp (o.dst.getD 0) res).1,(imp (o.dst.getD 0) res).2,fpl,toks (imp (o.dst.getD 0) res).2⟩ a w:=by
 obtain⟨he,hcall⟩:=H.cs g ts res hw
 have hv:=opnd_rel R f
 rw[hf]at hv
 generalize hev:a.eval f=v at hv
 cases hv with
 |clo _ _ caps hl hr=>
  obtain⟨h1,h2⟩:=args_rel R c hl hr
  obtain⟨h3,h4⟩:=all2_get ht
  have hC:=hcall w (c.args.toList.map a.eval++caps) (fun w2 h2=>hG _ (R.inv _ (BelowW.trans0 R.below h2 R.base_le))) (by rw[h1,h3]) (fun i v t e1 e2=>by
   have li:i<(c.args.toList.map (opnd s)++cap).length:=by rw[←h1];exact(List.getElem?_eq_some_iff.1 e1).1
   have hx:=List.getElem?_eq_getElem li
   exact rb_reads R.mem 4 _ v t (h2 i v _ e1 hx) (h4 i _ _ hx e2))
  intro K Q hK
  unfold Oper.wp
  rw[run_call he h hc hev,Oper.upon_enter]
  intro cs
  obtain⟨e,w',fr,⟨v,F,rfl,hown,hF,hbel⟩,hcomes,hfn,hleave⟩:=hC cs
  refine⟨.returned v,w',fr, ?_,hcomes,hfn,hleave⟩
  obtain⟨hN,fN,I,hT⟩:=imp_ok (o.dst.getD 0) hown hi hn
  have g:w.grownBy w' none:=⟨hbel.os,hbel.tape,hbel.output,hbel.size,fun k hk _=>hbel.block k hk⟩
  obtain⟨bv',hd',fp',M',k,hh⟩:=add_ids R.mem g R.base_le I hF hfresh cl.m
  have bel:BelowW W base w0 w':=R.below.grown g R.base_le (fun k hk=>by cases hk)
  exact hK _ _ ⟨bv',hd',fp',Fr,put_rel R k cl.s bel (Nat.le_trans R.base_le g.size) M' R.bnd o.dst hdst (hT Fr _ bv' hd' hh)⟩
theorem goes_loadO(H:CtxOK P C)(R:RelE N W base w0 s m bv hd fp Fr a w){o:Oper}(hdst:∀d,o.dst=some d→N.ok d){t:Nat}{x:Operand}{id ver off z:Nat}{j:Int}{rows:List (List T)}{row:List T}{fpl:List Nat}(h:o.op= .load t x)(hk:1≤(C.i t).kind)
 (hz:1≤(C.i t).size) (ha:opnd s x= .eptr id ver j off) (hm:m id=some (.row ver z rows)) (hi:idx rows j=some row) (hl:off+(C.i t).size≤row.length) (hc:row.all cellOK=true) (hn:id∉keys (impCells (o.dst.getD 0) 0 row).2)
 (hfresh:∀id∈keys (impCells (o.dst.getD 0) 0 row).2,m id=none) (cl:Clean s m (toks (impCells (o.dst.getD 0) 0 row).2)):
 Goes P N W base w0 s m o ⟨valOf (C.i t).agg (((impCells (o.dst.getD 0) 0 row).1.drop off).take (C.i t).size),(id,some (.rowv ver z rows j (impCells (o.dst.getD 0) 0 row).1))::(impCells (o.dst.getD 0) 0 row).2,fpl,toks (impCells (o.dst.getD 0) 0 row).2⟩ a w:=by
 have hr:=opnd_rel R x
 rw[ha]at hr
 obtain⟨q,rfl,hq⟩:=idx_some hi
 generalize hev:a.eval x=v at hr
 cases hr with
 |eptr _ _ _ _ _ _ hp=>
  obtain⟨_,b',bo',n',c',hhd,hv⟩:=hp z rows (asRow_row hm)
  subst hv
  have own:=R.mem.rows id _ _ _ hm
  rw[hhd]at own
  simp only[Int.toNat_natCast]at*
  cases own with
  |sl0=>simp at hq
  |sl _ b bo n c sz rs cells el lo hi' f G hn' hcap hb hsz' hz0 hF hrow hcell hone hG hD hrd=>
   have hrl:=hrow q row hq
   have hqn:q<rows.length:=(List.getElem?_eq_some_iff.1 hq).1
   have hcq:∀k,k<z→cells[bo'+(q*z+k)]? =some (f q k):=fun k hk'=>hcell q row k _ hq (List.getElem?_eq_getElem (by omega))
   have hcs:∀(i:Nat) v,((List.range z).map (f q))[i]? =some v→i<z∧v=f q i:=fun i v hv=>range_get hv
   obtain⟨hN,fN,I,hkk,hlen,hT⟩:=impCells_ok (w':=w) (o.dst.getD 0) row 0 ((List.range z).map (f q)) (G q) (by simp[hrl]) (fun i j b h1 h2=>(hD _ _ _ _ b h1 h2).2) (fun i v t h1 h2=>by
    obtain⟨_,rfl⟩:=hcs i v h1
    exact hrd q row i t hq h2) (fun t ht=>by
    have:=List.all_eq_true.1 hc t ht
    cases t<;>first|exact .inl this|exact .inr ⟨_,_,rfl⟩)
   generalize impCells (o.dst.getD 0) 0 row=ip at*
   let m2:=updM m ((id,some (.rowv ver z rows (q:Int) ip.1))::ip.2)
   let hd2:Nat→Value:=fun i=>if i∈keys ip.2 then hN i else hd i
   let fp2:Nat→Nat→Prop:=fun i=>if i∈keys ip.2 then fN i else if i=id then fun x=>fp id x∧¬∃k,G q k x else fp i
   have m2p:m2 id=some (.rowv ver z rows (q:Int) ip.1):=by show updM m (_::_) id=_;rw[updM_cons];simp
   have m2i:∀i,i∈keys ip.2→i≠id∧∃sz rows,m2 i=some (.row 0 sz rows)∧Owns w (fN i) (hN i) (.sl sz rows):=by
    intro i hi
    have hne:i≠id:=fun e=>hn (e▸hi)
    refine⟨hne, ?_⟩
    obtain⟨sz,rows,e,ho⟩:=I.row i _ (look_mem (d:=m i) hi)
    exact⟨sz,rows,by show updM m (_::_) i=_;rw[updM_cons,if_neg hne];exact e,ho⟩
   have m2o:∀i,i∉keys ip.2→i≠id→m2 i=m i:=by
    intro i hi hne
    show updM m (_::_) i=_
    rw[updM_cons,if_neg hne]
    exact look_not hi
   have gin:∀i x,fN i x→∃k,G q k x:=fun i x hx=>I.sub i x hx
   have gfp:∀x,(∃k,G q k x)→fp id x:=fun x ⟨k,hk⟩=>(hG q k x hk).1
   have hmn:m id≠none:=by simp[hm]
   have k:Keeps w w Fr Fr m m2 bv bv hd hd2 (toks ip.2):=by
    refine⟨fun _ h=>h,fun _ _=>rfl,fun i ver' sz' rows' h=> ?_,fun i l' h=> ?_⟩
    ·by_cases hk':i∈keys ip.2
     ·obtain⟨_,sz2,rows2,e1,_⟩:=m2i i hk'
      rw[e1]at h;cases h
      refine .inr ?_
      obtain⟨p,hp1,hp2⟩:=List.mem_map.1 hk'
      exact List.mem_map.2 ⟨p,hp1,by rw[hp2]⟩
     ·by_cases e:i=id
      ·subst e
       rw[m2p]at h;cases h
       exact .inl ⟨rows,asRow_row hm,by simp[hd2,hk']⟩
      ·rw[m2o i hk' e]at h
       exact .inl ⟨rows',h,by simp[hd2,hk']⟩
    ·by_cases hk':i∈keys ip.2
     ·obtain⟨_,sz2,rows2,e1,_⟩:=m2i i hk'
      rw[e1]at h;cases h
     ·by_cases e:i=id
      ·subst e;rw[m2p]at h;cases h
      ·rw[m2o i hk' e]at h
       exact .inl ⟨l',h,rfl⟩
   have hdk:∀i∈keys ip.2,hd2 i=hN i:=fun i hi=>by simp[hd2,hi]
   have M:MemOK W base m2 bv hd2 fp2 Fr w:=by
    refine R.mem.change k cl.m (Nat.le_refl _) (fun i=>i=id∨i∈keys ip.2) (fun i hA=> ?_) (fun i hA l' h=> ?_) (fun i hA ver' sz' rs' h=> ?_) (fun i hA ver' sz' rs' q' l' h=> ?_) (fun i i' x hA h1 h2 h3 h4=> ?_) (fun i x hA h1 h2=> ?_) (fun i _=>full_of k R.mem (fun _ h=>toks_no h) i)
    ·have e1:i≠id:=fun e=>hA (.inl e)
     have e2:i∉keys ip.2:=fun e=>hA (.inr e)
     exact⟨m2o i e2 e1,rfl,by simp[hd2,e2],by simp[fp2,e1,e2],fun _ _ _=>rfl⟩
    ·rcases hA with e|e
     ·subst e;rw[m2p]at h;cases h
     ·obtain⟨_,sz2,rows2,e1,_⟩:=m2i i e
      rw[e1]at h;cases h
    ·rcases hA with e|e
     ·subst e;rw[m2p]at h;cases h
     ·obtain⟨_,sz2,rows2,e1,ho⟩:=m2i i e
      rw[e1]at h;cases h
      simp only[fp2,hd2,e,if_true];exact ho
    ·rcases hA with e|e
     ·subst e
      rw[m2p]at h
      cases h
      have e1:hd2 i=hd i:=by simp[hd2,hn]
      have e2:fp2 i=fun x=>fp i x∧¬∃k,G q k x:=by simp[fp2,hn]
      rw[e1,e2,hhd]
      refine⟨b',bo',n',c',q,cells,el,lo,hi',f,fun i j x=>G i j x∧i≠q,rfl,rfl,hn',by omega,hcap,hb,hsz',hz0,⟨hF,fun⟨k,hk⟩=>(hG q k _ hk).2 rfl⟩,hrow,by rw[hlen];simp,hcell,hone,fun i j x hx=>⟨⟨(hG i j x hx.1).1,fun⟨k,hk⟩=>hx.2 (hD _ _ _ _ x hx.1 hk).1⟩,(hG i j x hx.1).2⟩,
       fun i j i' j' x h1 h2=>hD i j i' j' x h1.1 h2.1,fun i r j u hne h1 h2=>(hrd i r j u h1 h2).mono (fun x hx=>⟨hx,hne⟩) (fun _ _=>rfl),fun j sv hj=> ?_⟩
      have hjl:j<z:=by
       have:=(List.getElem?_eq_some_iff.1 hj).1
       rw[hlen]at this;simpa using this
      exact hT j (f q j) sv (by rw[List.getElem?_map,List.getElem?_range hjl];rfl) hj Fr m2 bv hd2 hdk
     ·obtain⟨_,sz2,rows2,e1,_⟩:=m2i i e
      rw[e1]at h;cases h
    ·have old:∀i' x,i'≠id→i'∉keys ip.2→m2 i'≠none→fp2 i' x→fp id x→False:=fun i' x e1 e2 h3 h4 h5=>by
      rw[m2o i' e2 e1]at h3
      have h4:fp i' x:=by simpa[fp2,e1,e2]using h4
      exact e1 (R.mem.apart i' id x h3 hmn h4 h5)
     have new:∀i,i∈keys ip.2→fp2 i x→∃k,G q k x:=fun i hi h=>gin i x (by simpa[fp2,hi]using h)
     have idx':fp2 id x→fp id x∧¬∃k,G q k x:=fun h=>by simpa[fp2,hn]using h
     rcases hA with e|e
     ·subst e
      by_cases e':i'=i
      ·exact e'.symm
      by_cases e2:i'∈keys ip.2
      ·exact absurd (new i' e2 h4) (idx' h3).2
      ·exact(old i' x e' e2 h2 h4 (idx' h3).1).elim
     ·by_cases e':i'=id
      ·subst e';exact absurd (new i e h3) (idx' h4).2
      by_cases e2:i'∈keys ip.2
      ·simp only[fp2,e,e2,if_true]at h3 h4
       exact I.dis i i' x h3 h4
      ·exact(old i' x e' e2 h2 h4 (gfp x (new i e h3))).elim
    ·rcases hA with e|e
     ·subst e
      have h2:fp i x∧¬∃k,G q k x:=by simpa[fp2,hn]using h2
      exact R.mem.own i x hmn h2.1
     ·have h2:fN i x:=by simpa[fp2,e]using h2
      exact R.mem.own id x hmn (gfp x (gin i x h2))
   intro K Q hK
   let us:=(List.range (C.i t).size).map fun k=>f q (off+k)
   have hus:us.length=(C.i t).size:=by simp[us]
   have hip:ip.1.length=z:=by rw[hlen];simp
   have hrun:(execOp a.eval o).run P w= .ok (.value (if(C.i t).agg then .agg ⟨us⟩else us.headD undef)) w:=by
    simp only[execOp,h,hev,Sem.run_bind,Result.andThen_ok,Sem.run_pure,run_load_cells (H.fact hk) hz (b:=b') (off:=bo'+(q*z+off)) hus (fun j v hj=>by
     obtain⟨h1,rfl⟩:=range_get hj
     rw[cell_heap hb,Nat.add_assoc,Nat.add_assoc]
     exact hcq (off+j) (by omega))]
   unfold Oper.wp
   rw[hrun]
   refine hK _ _ ⟨bv,hd2,fp2,Fr,put_rel R k cl.s R.below R.base_le M R.bnd o.dst hdst (valOf_rel (by simp[us,hip];omega) (by simp[hip];omega) (fun i v sv h1 h2=> ?_) _)⟩
   obtain⟨h3,rfl⟩:=range_get h1
   rw[List.getElem?_take,if_pos h3,List.getElem?_drop]at h2
   exact hT (off+i) _ sv (by rw[List.getElem?_map,List.getElem?_range (by omega)];rfl) h2 Fr m2 bv hd2 hdk
end
end Go.Pv
