/- Plain lemmas and definitions. Nothing is claimed here. -/
import Derived.Test.YtabadclgcgdccaaGreatDoorPv4
import Derived.Great.BuildSlice
import Derived.Laws.MakeOwn
set_option linter.unusedSimpArgs false
set_option linter.unusedVariables false
namespace Go.Pv
open Go Go.RowKit
section
variable {P:Program} {C:Ctx} {N:FrP} {W:Nat→Prop} {base:Nat} {w0:World} {s:Nat→SV} {m:Nat→Option MO} {bv:Nat→Nat} {hd:Nat→Value} {fp:Nat→Nat→Prop} {Fr:Nat→Prop} {a:Act} {w:World}
structure Clean(s:Nat→SV)(m:Nat→Option MO)(tok:List (Nat×Nat)):Prop where
 s:∀t,Cl tok (s t)
 m:∀id sv,sv∈svsOf (m id)→Cl tok sv
theorem change_one(M:MemOK W base m bv hd fp Fr w){w':World}{row:Option Nat}(g:w.grownBy w' row)(hbase:base≤w.heap.size){m':Nat→Option MO}{d:Nat}{obj:MO}{tok:List (Nat×Nat)}(hd':m' d=some obj)
 (hm:∀id,id≠d→m' id=m id∨m' id=none) (cl:∀id sv,sv∈svsOf (m id)→Cl tok sv) (F:Nat→Prop)
 (hF:∀b,F b→(w.heap.size≤b∧b<w'.heap.size)∨∃id,(id=d∨m' id=none)∧m id≠none∧fp id b)
 (hrow:∀k,row=some k→∃id,(id=d∨m' id=none)∧m id≠none∧fp id k) (b0:Nat) (v0:Value)
 (hr:∀ver sz rows,obj= .row ver sz rows→Owns w' F v0 (.sl sz rows)∧((d,ver)∈tok∨∃rows0,m d=some (.row ver sz rows0)∧v0=hd d))
 (hv:∀l,obj= .var l→F b0∧((d,0)∈tok∨∃l0,m d=some (.var l0)∧b0=bv d)∧∀bv' hd',Keeps w w' Fr Fr m m' bv bv' hd hd' tok→VarOK w' Fr m' bv' hd' b0 l)
 (hx:∀ver sz rows q l,obj= .rowv ver sz rows q l→(∃rows0,asRow (m d)=some (.row ver sz rows0)∧v0=hd d)∧∀bv' hd',Keeps w w' Fr Fr m m' bv bv' hd hd' tok→RowvOK w' Fr m' bv' hd' F v0 sz rows q l:=by intro _ _ _ _ _ h;cases h)
 (hfl:(d,1)∈tok→IsFull v0:=by intro h;first|(simp at h;done)|(simp at h;omega)):
 ∃bv' hd' fp',MemOK W base m' bv' hd' fp' Fr w'∧Keeps w w' Fr Fr m m' bv bv' hd hd' tok∧bv' d=b0∧hd' d=v0:=by
 let bv':=fun id=>if id=d then b0 else bv id
 let hdn:=fun id=>if id=d then v0 else hd id
 let fp':=fun id=>if id=d then F else fp id
 have k:Keeps w w' Fr Fr m m' bv bv' hd hdn tok:=by
  refine⟨fun _ h=>h,fun b hb=>g.block b (M.fr b hb) (fun e=> ?_),fun id ver sz rows h=> ?_,fun id l h=> ?_⟩
  ·obtain⟨id,_,h1,h2⟩:=hrow b e.symm
   exact(M.own id b h1 h2).2.2 hb
  ·by_cases e:id=d
   ·subst e
    rw[hd']at h
    cases hob:obj with
    |var l=>rw[hob]at h;cases h
    |row v z r=>
     rw[hob]at h
     have e:MO.row v z r= .row ver sz rows:=Option.some.inj h
     rcases(hr ver sz rows (hob.trans e)).2 with h1|⟨r0,h1,h2⟩
     ·exact .inr h1
     ·exact .inl ⟨r0,asRow_row h1,by simp[hdn,h2]⟩
    |rowv v z r q l=>
     rw[hob]at h
     have e:MO.row v z r= .row ver sz rows:=Option.some.inj h
     cases e
     obtain⟨⟨r0,h1,h2⟩,_⟩:=hx _ _ _ _ _ hob
     exact .inl ⟨r0,h1,by simp[hdn,h2]⟩
   ·rcases hm id e with h1|h1
    ·exact .inl ⟨rows,by rw[←h1];exact h,by simp[hdn,e]⟩
    ·rw[h1]at h;cases h
  ·by_cases e:id=d
   ·subst e
    rw[hd']at h
    simp only[Option.some.injEq]at h
    rcases(hv l h).2.1 with h1|⟨l0,h1,h2⟩
    ·exact .inr ⟨0,h1⟩
    ·exact .inl ⟨l0,h1,by simp[bv',h2]⟩
   ·rcases hm id e with h1|h1
    ·exact .inl ⟨l,by rw[←h1];exact h,by simp[bv',e]⟩
    ·rw[h1]at h;cases h
 refine⟨bv',hdn,fp', ?_,k,by simp[bv'],by simp[hdn]⟩
 refine M.change k cl g.size (fun id=>id=d∨m' id=none) (fun id hA=> ?_) (fun id hA l h=> ?_) (fun id hA ver sz rs h=> ?_) (fun id hA ver sz rs q l h=> ?_) (fun id id' b hA h1 h2 h3 h4=> ?_) (fun id b hA h1 h2=> ?_) (fun id hA sz rs h=> ?_)
 ·have e:id≠d:=fun e=>hA (.inl e)
  have h1:m' id=m id:=(hm id e).resolve_right fun h=>hA (.inr h)
  refine⟨h1,by simp[bv',e],by simp[hdn,e],by simp[fp',e],fun b hn hb=>g.block b (M.own id b hn hb).2.1 fun eb=> ?_⟩
  obtain⟨id1,h2,h3,h4⟩:=hrow b eb.symm
  have:=M.apart id id1 b hn h3 hb h4
  subst this
  exact hA h2
 ·rcases hA with e|e
  ·subst e
   rw[hd']at h
   simp only[Option.some.injEq]at h
   have:=hv l h
   simp only[fp',bv',if_true]
   exact⟨this.1,this.2.2 bv' hdn k⟩
  ·rw[e]at h;cases h
 ·rcases hA with e|e
  ·subst e
   rw[hd']at h
   simp only[Option.some.injEq]at h
   simp only[fp',hdn,if_true]
   exact(hr ver sz rs h).1
  ·rw[e]at h;cases h
 ·rcases hA with e|e
  ·subst e
   rw[hd']at h
   simp only[Option.some.injEq]at h
   simp only[fp',hdn,if_true]
   exact(hx ver sz rs q l h).2 bv' hdn k
  ·rw[e]at h;cases h
 ·rcases hA with e|e
  ·subst e
   by_cases e2:id'=id
   ·exact e2.symm
   ·have hm2:m id'≠none:=by
     rcases hm id' e2 with h|h
     ·rw[←h];exact h2
     ·exact absurd h h2
    simp only[fp',if_true]at h3
    simp only[fp',if_neg e2]at h4
    rcases hF b h3 with⟨h5,_⟩|⟨id1,h5,h6,h7⟩
    ·have:=(M.own id' b hm2 h4).2.1;omega
    ·have:=M.apart id1 id' b h6 hm2 h7 h4
     subst this
     rcases h5 with h5|h5
     ·exact absurd h5 e2
     ·exact absurd h5 h2
  ·exact absurd e h1
 ·rcases hA with e|e
  ·subst e
   simp only[fp',if_true]at h2
   rcases hF b h2 with⟨h5,h6⟩|⟨id1,h5,h6,h7⟩
   ·exact⟨.inl (by omega),h6,fun hfr=>by have:=M.fr b hfr;omega⟩
   ·obtain⟨q1,q2,q3⟩:=M.own id1 b h6 h7
    exact⟨q1,Nat.lt_of_lt_of_le q2 g.size,q3⟩
  ·exact absurd e h1
 ·rcases hA with e|e
  ·subst e
   rw[hd']at h
   simp only[hdn,if_true]
   cases hob:obj with
   |var l=>rw[hob]at h;cases h
   |row v z r=>
    rw[hob]at h
    have e:MO.row v z r= .row 1 sz rs:=Option.some.inj h
    rcases(hr 1 sz rs (hob.trans e)).2 with h1|⟨r0,h1,h2⟩
    ·exact hfl h1
    ·rw[h2];exact M.full _ _ _ (asRow_row h1)
   |rowv v z r q l=>
    rw[hob]at h
    have e:MO.row v z r= .row 1 sz rs:=Option.some.inj h
    cases e
    obtain⟨⟨r0,h1,h2⟩,_⟩:=hx _ _ _ _ _ hob
    rw[h2];exact M.full _ _ _ h1
  ·rw[e]at h;cases h
theorem goes_one(R:RelE N W base w0 s m bv hd fp Fr a w){o:Oper}(hdst:∀d,o.dst=some d→N.ok d){w':World}{row:Option Nat}(g:w.grownBy w' row){d:Nat}{obj:MO}{mw:List (Nat×Option MO)}{tok:List (Nat×Nat)}{val:SV}{v:Value}{fpl:List Nat}
 {nx:Next} (hnx:nx= .value v∨(nx= .skip∧v=undef)) (hr:(execOp a.eval o).run P w= .ok nx w') (hd':updM m mw d=some obj) (hm:∀id,id≠d→updM m mw id=m id∨updM m mw id=none) (cl:Clean s m tok) (F:Nat→Prop)
 (hF:∀b,F b→(w.heap.size≤b∧b<w'.heap.size)∨∃id,(id=d∨updM m mw id=none)∧m id≠none∧fp id b)
 (hrow:∀k,row=some k→∃id,(id=d∨updM m mw id=none)∧m id≠none∧fp id k) (b0:Nat) (v0:Value)
 (hrr:∀ver sz rows,obj= .row ver sz rows→Owns w' F v0 (.sl sz rows)∧((d,ver)∈tok∨∃rows0,m d=some (.row ver sz rows0)∧v0=hd d))
 (hvv:∀l,obj= .var l→F b0∧((d,0)∈tok∨∃l0,m d=some (.var l0)∧b0=bv d)∧∀bv' hd',Keeps w w' Fr Fr m (updM m mw) bv bv' hd hd' tok→VarOK w' Fr (updM m mw) bv' hd' b0 l)
 (hval:∀bv' hd',Keeps w w' Fr Fr m (updM m mw) bv bv' hd hd' tok→bv' d=b0→hd' d=v0→VRel w' Fr (updM m mw) bv' hd' val v)
 (hx:∀ver sz rows q l,obj= .rowv ver sz rows q l→(∃rows0,asRow (m d)=some (.row ver sz rows0)∧v0=hd d)∧∀bv' hd',Keeps w w' Fr Fr m (updM m mw) bv bv' hd hd' tok→RowvOK w' Fr (updM m mw) bv' hd' F v0 sz rows q l:=by intro _ _ _ _ _ h;cases h)
 (hfl:(d,1)∈tok→IsFull v0:=by intro h;first|(simp at h;done)|(simp at h;omega)):Goes P N W base w0 s m o ⟨val,mw,fpl,tok⟩ a w:=by
 intro K Q hK
 obtain⟨bv',hd'',fp',M,k,e1,e2⟩:=change_one R.mem g R.base_le hd' hm cl.m F hF hrow b0 v0 hrr hvv hx hfl
 have bel:BelowW W base w0 w':=R.below.grown g R.base_le fun q hq=>by
  obtain⟨id,_,h1,h2⟩:=hrow q hq
  exact(R.mem.own id q h1 h2).1
 have fin:=put_rel R k cl.s bel (Nat.le_trans R.base_le g.size) M R.bnd o.dst hdst (hval bv' hd'' k e1 e2)
 unfold Oper.wp
 rw[hr]
 rcases hnx with rfl|⟨rfl,rfl⟩
 ·exact hK _ _ ⟨bv',hd'',fp',Fr,fin⟩
 ·exact hK _ _ ⟨bv',hd'',fp',Fr,fin⟩
theorem updM_one{d:Nat}{x:Option MO}(id:Nat):updM m [(d,x)] id=if id=d then x else m id:=by
 unfold updM look look
 cases h:Nat.beq d id with
 |true=>rw[beqN h];simp
 |false=>
  have:id≠d:=fun e=>by rw[e]at h;simp at h
  simp[this]
theorem grown_alloc(w:World)(ob:Obj):w.grownBy (w.alloc ob) none:=World.grownBy_alloc w ob none
theorem heap_new(w:World)(ob:Obj):(w.alloc ob).heap[w.heap.size]? =some ob:=by
 show(w.heap.push ob)[w.heap.size]? =_
 simp
theorem goes_allocVar(R:RelE N W base w0 s m bv hd fp Fr a w){o:Oper}(hdst:∀d,o.dst=some d→N.ok d){d:Nat}(hfresh:m d=none)(cl:Clean s m [(d,0)]){us:List Value}{svs:List SV}{el:Nat}(hlen:us.length=svs.length)
 (hrel:∀(i:Nat) v sv,us[i]? =some v→svs[i]? =some sv→VRel w Fr m bv hd sv v) (hcl:∀sv∈svs,Cl [(d,0)] sv)
 (hr:(execOp a.eval o).run P w= .ok (.value (.pointer (some ⟨w.heap.size,0,none⟩))) (w.alloc (.cells ⟨us⟩ el))) {fpl:List Nat}:Goes P N W base w0 s m o ⟨.ptr d 0,[(d,some (.var svs))],fpl,[(d,0)]⟩ a w:=by
 refine goes_one R hdst (grown_alloc w _) (d:=d) (obj:= .var svs) (.inl rfl) hr (by rw[updM_one];simp) (fun id h=> .inl (by rw[updM_one];simp[h])) cl (fun b=>b=w.heap.size) (fun b hb=> .inl (by subst hb;simp)) (fun k hk=>by cases hk) w.heap.size undef (fun _ _ _ h=>by cases h)
  (fun l hl=> ?_) (fun bv' hd' k e1 e2=> .ptr _ _ _ ⟨_,rfl⟩ fun l _=>by rw[e1])
 cases hl
 refine⟨rfl,.inl (by simp),fun bv' hd' k=>⟨us,el,heap_new w _,hlen,fun i v sv h1 h2=> ?_⟩⟩
 exact(hrel i v sv h1 h2).stepC k (hcl sv (List.mem_of_getElem? h2))
theorem goes_allocRow(R:RelE N W base w0 s m bv hd fp Fr a w){o:Oper}(hdst:∀d,o.dst=some d→N.ok d){d:Nat}(hfresh:m d=none)(cl:Clean s m [(d,0)]){w':World}(g:w.grownBy w' none){v0:Value}{sz:Nat}{rows:List (List T)}
 (F:Nat→Prop) (hF:∀b,F b→w.heap.size≤b∧b<w'.heap.size) (hown:Owns w' F v0 (.sl sz rows))
 (hr:(execOp a.eval o).run P w= .ok (.value v0) w') {fpl:List Nat}:Goes P N W base w0 s m o ⟨.ref d 0,[(d,some (.row 0 sz rows))],fpl,[(d,0)]⟩ a w:=by
 refine goes_one R hdst g (d:=d) (obj:= .row 0 sz rows) (.inl rfl) hr (by rw[updM_one];simp) (fun id h=> .inl (by rw[updM_one];simp[h])) cl F (fun b hb=> .inl (hF b hb)) (fun k hk=>by cases hk) 0 v0 (fun ver sz' rows' h=> ?_)
  (fun l hl=>by cases hl) (fun bv' hd' k e1 e2=> .ref _ _ _ ?_ fun sz' rows' hm=>by rw[e2])
 ·cases h;exact⟨hown,.inl (by simp)⟩
 ·obtain⟨a,n,c,e,_⟩:=hown.slice;exact⟨a,n,c,e⟩
theorem mention_const(tok:List (Nat×Nat))(v:Value):mention tok 4 (constSV v)=false:=by
 unfold constSV
 split<;>rfl
theorem mention_opnd{tok:List (Nat×Nat)}(cl:Clean s m tok)(x:Operand):Cl tok (opnd s x):=by
 cases x with
 |tmp t=>exact cl.s t
 |const v=>exact .inr ⟨4,mention_const tok v⟩
 |global g=>exact .inr ⟨4,rfl⟩
 |func f=>exact .inr ⟨4,rfl⟩
theorem mention_cells{tok:List (Nat×Nat)}{sv:SV}(h:Cl tok sv):∀x∈sv.cells,Cl tok x:=by
 intro x hx
 cases sv with
 |agg l=>
  rcases h with h|⟨n,h⟩
  ·exact .inl h
  ·cases n with
   |zero=>simp[mention]at h
   |succ n=>exact .inr ⟨n,mentionL_false h x hx⟩
 |_=>simp only[SV.cells,List.mem_singleton]at hx;subst hx;exact h
theorem cells_rel{sv:SV}{v:Value}(h:VRel w Fr m bv hd sv v)(hok:okC sv=true):v.cells.toList.length=sv.cells.length∧∀(i:Nat) u x,v.cells.toList[i]? =some u→sv.cells[i]? =some x→VRel w Fr m bv hd x u:=by
 have one:∀(u:Value),v.cells= #[u]→sv.cells=[sv]→u=v→v.cells.toList.length=sv.cells.length∧∀(i:Nat) u x,v.cells.toList[i]? =some u→sv.cells[i]? =some x→VRel w Fr m bv hd x u:=by
  intro u h1 h2 h3
  subst h3
  rw[h1,h2]
  refine⟨rfl,fun i u' x e1 e2=> ?_⟩
  cases i with
  |zero=>simp at e1 e2;subst e1;subst e2;exact h
  |succ i=>simp at e1
 cases h with
 |t x v hr=>cases hr<;>first|(simp[okC]at hok;done)|exact one _ rfl rfl rfl
 |nil a=>exact one _ rfl rfl rfl
 |gone v=>simp[okC]at hok
 |ref id ver v sh hh=>obtain⟨_,_,_,rfl⟩:=sh;exact one _ rfl rfl rfl
 |ptr id off v sh hh=>obtain⟨_,rfl⟩:=sh;exact one _ rfl rfl rfl
 |rptr b off ts f hb hw hrd=>exact one _ rfl rfl rfl
 |eptr id ver i off v sh hh=>obtain⟨_,rfl⟩:=sh;exact one _ rfl rfl rfl
 |vw id ver lo v sh hh=>obtain⟨_,_,_,rfl⟩:=sh;exact one _ rfl rfl rfl
 |fs z r v hr hf=>obtain⟨_,_,rfl⟩:=hf;exact one _ rfl rfl rfl
 |agg l cs hl hr=>exact⟨hl,hr⟩
 |tup l cs hl hr=>simp[okC]at hok
 |clo g l cs hl hr=>exact one _ rfl rfl rfl
theorem cell1_one{sv:SV}{v:Value}(h:VRel w Fr m bv hd sv v)(hok:cell1 sv=true):v.oneCell'=true:=by
 cases h with
 |t x v hr=>cases hr<;>first|(simp[cell1,okC]at hok;done)|rfl
 |nil a=>rfl
 |gone v=>simp[cell1,okC]at hok
 |ref id ver v sh hh=>obtain⟨_,_,_,rfl⟩:=sh;rfl
 |ptr id off v sh hh=>obtain⟨_,rfl⟩:=sh;rfl
 |rptr b off ts f hb hw hrd=>rfl
 |eptr id ver i off v sh hh=>obtain⟨_,rfl⟩:=sh;rfl
 |vw id ver lo v sh hh=>obtain⟨_,_,_,rfl⟩:=sh;rfl
 |fs z r v hr hf=>obtain⟨_,_,rfl⟩:=hf;rfl
 |agg l cs hl hr=>simp[cell1,okC]at hok
 |tup l cs hl hr=>simp[cell1,okC]at hok
 |clo g l cs hl hr=>rfl
theorem zero_rel{t:Nat}{i:TInfo}(f:TFact P t i):∃d z,P.info? t=some d∧d.zero=some z∧d.size=i.size∧d.bytes=i.bytes∧z.cells.toList.length=i.zero.length∧
 ∀(j:Nat) u x,z.cells.toList[j]? =some u→i.zero[j]? =some x→VRel w Fr m bv hd x u:=by
 obtain⟨d,u,z,h1,_,h3,h4,h5,_,_,_,_,hz⟩:=f.ex
 refine⟨d,z,h1,h3,h4,h5,by simp[hz],fun j u x e1 e2=> ?_⟩
 rw[hz,List.getElem?_map,e1]at e2
 simp only[Option.map_some,Option.some.injEq]at e2
 subst e2
 exact constSV_rel u
theorem mention_zero{t:Nat}{i:TInfo}(f:TFact P t i)(tok:List (Nat×Nat)):∀x∈i.zero,Cl tok x:=by
 obtain⟨d,u,z,_,_,_,_,_,_,_,_,_,hz⟩:=f.ex
 rw[hz]
 intro x hx
 obtain⟨v,_,rfl⟩:=List.mem_map.1 hx
 exact .inr ⟨4,mention_const tok v⟩
theorem goes_alloc(H:CtxOK P C)(R:RelE N W base w0 s m bv hd fp Fr a w){o:Oper}(hdst:∀d,o.dst=some d→N.ok d){t:Nat}(h:o.op= .alloc t)(hk:1≤(C.i t).kind)(hfresh:m (o.dst.getD 0)=none)(cl:Clean s m [(o.dst.getD 0,0)]):
 Goes P N W base w0 s m o ⟨.ptr (o.dst.getD 0) 0,[(o.dst.getD 0,some (.var (C.i t).zero))],[o.dst.getD 0],[(o.dst.getD 0,0)]⟩ a w:=by
 obtain⟨d,z,h1,h2,h3,h4,h5,h6⟩:=zero_rel (w:=w) (Fr:=Fr) (m:=m) (bv:=bv) (hd:=hd) (H.fact hk)
 refine goes_allocVar R hdst hfresh cl (us:=z.cells.toList) (el:=t) h5 h6 (mention_zero (H.fact hk) _) ?_
 simp[execOp,h,Instr.alloc,zeroValue,typeInfo,h1,h2,newVar,newRow]
theorem goes_box(R:RelE N W base w0 s m bv hd fp Fr a w){o:Oper}(hdst:∀d,o.dst=some d→N.ok d){t:Nat}{x:Operand}(h:o.op= .box t x)(hx:okC (opnd s x)=true)(hfresh:m (o.dst.getD 0)=none)(cl:Clean s m [(o.dst.getD 0,0)]):
 Goes P N W base w0 s m o ⟨.ptr (o.dst.getD 0) 0,[(o.dst.getD 0,some (.var (opnd s x).cells))],[o.dst.getD 0],[(o.dst.getD 0,0)]⟩ a w:=by
 obtain⟨h1,h2⟩:=cells_rel (opnd_rel R x) hx
 refine goes_allocVar R hdst hfresh cl (us:=(a.eval x).cells.toList) (el:=t) h1 h2 (mention_cells (mention_opnd cl x)) ?_
 simp[execOp,h,Instr.box,newVar,newRow]
end
end Go.Pv
