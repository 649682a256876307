/- Plain lemmas and definitions. Nothing is claimed here. -/
import Derived.Test.YtabadclgcgdccaaGreatDoorPv11
set_option linter.unusedSimpArgs false
set_option linter.unusedVariables false
namespace Go.Pv
open Go Go.RowKit Go.Lib
section
variable {P:Program} {C:Ctx} {N:FrP} {W:Nat→Prop} {base:Nat} {w0:World} {s:Nat→SV} {m:Nat→Option MO} {bv:Nat→Nat} {hd:Nat→Value} {fp:Nat→Nat→Prop} {Fr:Nat→Prop} {a:Act} {w:World}
theorem rb_reads(M:MemOK W base m bv hd fp Fr w):∀(n:Nat) (sv:SV) (v:Value) (t:T),VRel w Fr m bv hd sv v→rb m n sv t→Reads w (fun b=>b<w.heap.size) v t
 |0,_,_,_,_,h=>h.elim
 |n+1,sv,v,t,hv,h=>by
  have lists:∀(l:List SV) (ts:List T) (cs:List Value),all2 (rb m n) l ts→cs.length=l.length→(∀(i:Nat) v s,cs[i]? =some v→l[i]? =some s→VRel w Fr m bv hd s v)→
   cs.length=ts.length∧∀(i:Nat) v t,cs[i]? =some v→ts[i]? =some t→Reads w (fun b=>b<w.heap.size) v t:=by
   intro l ts cs h2 hl hr
   obtain⟨h3,h4⟩:=all2_get h2
   refine⟨by omega,fun i v t h5 h6=> ?_⟩
   have li:i<l.length:=by have:=(List.getElem?_eq_some_iff.1 h5).1;omega
   have hx:=List.getElem?_eq_getElem li
   exact rb_reads M n _ v t (hr i v _ h5 hx) (h4 i _ _ hx h6)
  cases hv with
  |t x v hr=>
   simp only[rb]at h
   subst h
   exact hr.mono (fun b hb=>M.fr b hb) (fun _ _=>rfl)
  |nil ad=>
   cases t<;>simp only[rb]at h
   subst h
   exact .sl0 _ _ _
  |gone v=>cases t<;>simp[rb]at h
  |ref id ver v sh hh=>
   cases t<;>simp only[rb]at h
   rename_i sz rows
   cases hm:m id with
   |none=>simp[hm]at h
   |some ob=>
    cases ob with
    |var l=>simp[hm]at h
    |rowv ver0 sz0 rows0 q0 l0=>simp[hm]at h
    |row ver' sz' rows'=>
     simp only[hm]at h
     obtain⟨h1,rfl,rfl⟩:=bcond_false h
     obtain rfl:=beqN h1
     rw[hh _ _ (asRow_row hm)]
     exact(M.rows id _ _ _ hm).reads.mono (fun b hb=>(M.own id b (by simp[hm]) hb).2.1) (fun _ _=>rfl)
  |ptr id off v sh hh=>
   cases t<;>first|(simp[rb]at h;done)|skip
   rename_i ts
   cases off with
   |succ off=>simp[rb]at h
   |zero=>
    simp only[rb]at h
    cases hm:m id with
    |none=>simp[hm]at h
    |some ob=>
     cases ob with
     |row ver' sz' rows'=>simp[hm]at h
     |rowv ver0 sz0 rows0 q0 l0=>simp[hm]at h
     |var l=>
      simp only[hm]at h
      rw[hh _ hm]
      obtain⟨hf,cs,el,hb,hl,hr⟩:=M.vars id l hm
      obtain⟨h1,h2⟩:=lists l ts cs h hl hr
      refine .box (bv id) 0 ts (fun j=>cs.getD j undef) (M.own id _ (by simp[hm]) hf).2.1 (fun j t hj=> ?_) (fun j t hj=> ?_)
      ·have hlt:j<cs.length:=by rw[h1];exact(List.getElem?_eq_some_iff.1 hj).1
       rw[cell_heap hb,Nat.zero_add,List.getD_eq_getElem?_getD,List.getElem?_eq_getElem hlt];rfl
      ·have hlt:j<cs.length:=by rw[h1];exact(List.getElem?_eq_some_iff.1 hj).1
       exact h2 j _ t (by rw[List.getD_eq_getElem?_getD,List.getElem?_eq_getElem hlt];rfl) hj
  |fs z r v hr hf=>
   cases t<;>simp only[rb]at h
   obtain⟨rfl,rfl⟩:=h
   exact hr.mono (fun b hb=>M.fr b hb) (fun _ _=>rfl)
  |rptr b off ts f hb hw hrd=>
   cases t<;>simp only[rb]at h
   subst h
   exact .box b off _ f (M.fr b hb) hw (fun j t hj=>(hrd j t hj).mono (fun b hb=>M.fr b hb) (fun _ _=>rfl))
  |eptr id ver i off v sh hh=>cases t<;>simp[rb]at h
  |vw id ver lo v sh hh=>
   cases t<;>simp only[rb]at h
   rename_i sz rows
   cases hm:m id with
   |none=>simp[hm]at h
   |some ob=>
    cases ob with
    |var l=>simp[hm]at h
    |rowv ver0 sz0 rows0 q0 l0=>simp[hm]at h
    |row ver' sz' rows'=>
     simp only[hm]at h
     obtain⟨h1,rfl,rfl⟩:=bcond_false h
     obtain rfl:=beqN h1
     obtain⟨_,ad,n',c,M',e,q1,q2,q3,ev⟩:=hh _ _ (asRow_row hm)
     have own:=M.rows id _ _ _ hm
     rw[e]at own
     rw[ev]
     exact(own.tail q1 q2 q3).reads.mono (fun b hb=>(M.own id b (by simp[hm]) hb).2.1) (fun _ _=>rfl)
  |agg l cs hl hr=>
   cases t<;>simp only[rb]at h
   obtain⟨h1,h2⟩:=lists l _ cs h hl hr
   exact .agg cs _ h1 h2
  |tup l cs hl hr=>
   cases t<;>simp only[rb]at h
   obtain⟨h1,h2⟩:=lists l _ cs h hl hr
   exact .tup cs _ h1 h2
  |clo g l cs hl hr=>
   cases t<;>simp only[rb]at h
   obtain⟨rfl,h⟩:=h
   obtain⟨h1,h2⟩:=lists l _ cs h hl hr
   exact .clo g cs _ h1 h2
structure ImpOK(w':World)(F:Nat→Prop)(mw:List (Nat×Option MO))(hN:Nat→Value)(fN:Nat→Nat→Prop):Prop where
 row:∀id ob,(id,ob)∈mw→∃sz rows,ob=some (.row 0 sz rows)∧Owns w' (fN id) (hN id) (.sl sz rows)
 sub:∀id b,fN id b→F b
 dis:∀id id' b,fN id b→fN id' b→id=id'
theorem look_mem{l:List (Nat×Option MO)}{id:Nat}{d:Option MO}(h:id∈keys l):(id,look l id d)∈l:=by
 induction l with
 |nil=>simp[keys]at h
 |cons p r ih=>
  obtain⟨j,v⟩:=p
  rw[look]
  cases hb:Nat.beq j id with
  |true=>simp[beqN hb]
  |false=>
   have:id≠j:=fun e=>by rw[e]at hb;simp at hb
   simp only[keys,List.map_cons,List.mem_cons]at h
   rcases h with h|h
   ·exact absurd h this
   ·simp only[cond_false];exact List.mem_cons_of_mem _ (ih h)
theorem look_not{l:List (Nat×Option MO)}{id:Nat}{d:Option MO}(h:id∉keys l):look l id d=d:=by
 induction l with
 |nil=>rfl
 |cons p r ih=>
  obtain⟨j,v⟩:=p
  simp only[keys,List.map_cons,List.mem_cons,not_or]at h
  rw[look]
  cases hb:Nat.beq j id with
  |true=>exact absurd (beqN hb).symm h.1
  |false=>exact ih h.2
theorem add_ids(M:MemOK W base m bv hd fp Fr w){w':World}(g:w.grownBy w' none)(hbase:base≤w.heap.size){mw:List (Nat×Option MO)}{F:Nat→Prop}{hN:Nat→Value}{fN:Nat→Nat→Prop}(I:ImpOK w' F mw hN fN)
 (hF:∀b,F b→w.heap.size≤b∧b<w'.heap.size) (hfresh:∀id∈keys mw,m id=none) (cl:∀id sv,sv∈svsOf (m id)→Cl (toks mw) sv):
 ∃bv' hd' fp',MemOK W base (updM m mw) bv' hd' fp' Fr w'∧Keeps w w' Fr Fr m (updM m mw) bv bv' hd hd' (toks mw)∧∀id∈keys mw,hd' id=hN id:=by
 let hdn:=fun id=>if id∈keys mw then hN id else hd id
 let fp':=fun id=>if id∈keys mw then fN id else fp id
 have hin:∀id,id∈keys mw→∃sz rows,updM m mw id=some (.row 0 sz rows)∧Owns w' (fN id) (hN id) (.sl sz rows):=by
  intro id hid
  obtain⟨sz,rows,e,ho⟩:=I.row id _ (look_mem (d:=m id) hid)
  exact⟨sz,rows,e,ho⟩
 have hout:∀id,id∉keys mw→updM m mw id=m id:=fun id h=>look_not h
 have k:Keeps w w' Fr Fr m (updM m mw) bv bv hd hdn (toks mw):=by
  refine⟨fun _ h=>h,fun b hb=>g.block b (M.fr b hb) (by simp),fun id ver sz rows h=> ?_,fun id l h=> ?_⟩
  ·by_cases hid:id∈keys mw
   ·obtain⟨sz',rows',e,_⟩:=hin id hid
    rw[e]at h
    cases h
    refine .inr ?_
    simp only[toks,List.mem_map]
    exact⟨_,look_mem (d:=m id) hid,rfl⟩
   ·rw[hout id hid]at h
    exact .inl ⟨rows,h,by simp[hdn,hid]⟩
  ·by_cases hid:id∈keys mw
   ·obtain⟨sz',rows',e,_⟩:=hin id hid
    rw[e]at h;cases h
   ·rw[hout id hid]at h
    exact .inl ⟨l,h,rfl⟩
 refine⟨bv,hdn,fp', ?_,k,fun id hid=>by simp[hdn,hid]⟩
 refine M.change k cl g.size (fun id=>id∈keys mw) (fun id hA=>⟨hout id hA,rfl,by simp[hdn,hA],by simp[fp',hA],fun b hn hb=>g.block b (M.own id b hn hb).2.1 (by simp)⟩) (fun id hA l h=> ?_) (fun id hA ver sz rs h=> ?_) (fun id hA ver sz rs q l h=> ?_) (fun id id' b hA h1 h2 h3 h4=> ?_) (fun id b hA h1 h2=> ?_) (fun id hA sz rs h=>by obtain⟨sz',rows',e,_⟩:=hin id hA;rw[e]at h;cases h)
 ·obtain⟨sz',rows',e,_⟩:=hin id hA
  rw[e]at h;cases h
 ·obtain⟨sz',rows',e,ho⟩:=hin id hA
  rw[e]at h;cases h
  simp only[fp',hdn,hA,if_true]
  exact ho
 ·obtain⟨sz',rows',e,_⟩:=hin id hA
  rw[e]at h;cases h
 ·simp only[fp',hA,if_true]at h3
  by_cases hid:id'∈keys mw
  ·simp only[fp',hid,if_true]at h4
   exact I.dis id id' b h3 h4
  ·simp only[fp',hid,if_false]at h4
   rw[hout id' hid]at h2
   have e1:=(hF b (I.sub _ _ h3)).1
   have e2:=(M.own id' b h2 h4).2.1
   omega
 ·simp only[fp',hA,if_true]at h2
  have e1:=hF b (I.sub _ _ h2)
  exact⟨.inl (by omega),e1.2,fun hfr=>by have:=M.fr b hfr;omega⟩
def Taken(w':World)(mw:List (Nat×Option MO))(hN:Nat→Value)(sv:SV)(v:Value):Prop:=
 ∀(Fr:Nat→Prop) (m':Nat→Option MO) (bv':Nat→Nat) (hd':Nat→Value),(∀id∈keys mw,hd' id=hN id)→VRel w' Fr m' bv' hd' sv v
theorem impCells_keys(base:Nat):∀(ts:List T) (k:Nat) (id:Nat),id∈keys (impCells base k ts).2→∃j,k≤j∧id=base+1000*j
 |[],k,id,h=>by simp[impCells,keys]at h
 |t::ts,k,id,h=>by
  cases t with
  |sl sz rows=>
   simp only[impCells,keys,List.map_cons,List.mem_cons]at h
   rcases h with h|h
   ·exact⟨k,Nat.le_refl _,h⟩
   ·obtain⟨j,h1,h2⟩:=impCells_keys base ts (k+1) id h
    exact⟨j,by omega,h2⟩
  |_=>exact impCells_keys base ts k id h
theorem impCells_ok{w':World}(base:Nat):∀(ts:List T) (k:Nat) (cs:List Value) (G:Nat→Nat→Prop),cs.length=ts.length→(∀i j b,G i b→G j b→i=j)→
 (∀(i:Nat) v t,cs[i]? =some v→ts[i]? =some t→Owns w' (G i) v t)→(∀t∈ts,t.scalar=true∨∃sz rows,t= .sl sz rows)→∃hN fN,ImpOK w' (fun b=>∃i,G i b) (impCells base k ts).2 hN fN∧(∀id b,fN id b→id∈keys (impCells base k ts).2)∧(impCells base k ts).1.length=cs.length∧
  ∀(i:Nat) v sv,cs[i]? =some v→(impCells base k ts).1[i]? =some sv→Taken w' (impCells base k ts).2 hN sv v
 |[],k,cs,G,hl,hD,ho,hc=>by
  have:cs=[]:=List.eq_nil_of_length_eq_zero (by simpa using hl)
  subst this
  exact⟨fun _=>undef,fun _ _=>False,⟨fun id ob h=>by simp[impCells]at h,fun _ _ h=>h.elim,fun _ _ _ h=>h.elim⟩,fun _ _ h=>h.elim,rfl,fun i v sv h=>by simp at h⟩
 |t::ts,k,[],G,hl,hD,ho,hc=>by simp at hl
 |t::ts,k,c::cs,G,hl,hD,ho,hc=>by
  have rest:=fun k'=>impCells_ok (w':=w') base ts k' cs (fun i=>G (i+1)) (by simpa using hl) (fun i j b h1 h2=>by have:=hD _ _ b h1 h2;omega) (fun i v t h1 h2=>ho (i+1) v t h1 h2) (fun t ht=>hc t (by simp[ht]))
  have h0:=ho 0 c t rfl rfl
  rcases hc t (by simp)with hs|⟨sz,rows,rfl⟩
  ·obtain⟨hN,fN,I,hk,hlen,hT⟩:=rest k
   have e:impCells base k (t::ts)=(.t t::(impCells base k ts).1,(impCells base k ts).2):=by cases t<;>first|rfl|(simp[T.scalar]at hs;done)
   rw[e]
   refine⟨hN,fN,⟨I.row,fun id b h=>by obtain⟨i,hi⟩:=I.sub id b h;exact⟨i+1,hi⟩,I.dis⟩,hk,by simp[hlen],fun i v sv h1 h2=> ?_⟩
   cases i with
   |zero=>
    simp at h1 h2
    subst h1
    subst h2
    exact fun Fr m' bv' hd' _=> .t _ _ ((h0.reads.owns_scalar hs w' Fr).reads)
   |succ i=>exact hT i v sv h1 h2
  ·obtain⟨hN,fN,I,hk,hlen,hT⟩:=rest (k+1)
   have hne:∀id∈keys (impCells base (k+1) ts).2,id≠base+1000*k:=by
    intro id hid
    obtain⟨j,h1,h2⟩:=impCells_keys base ts (k+1) id hid
    omega
   refine⟨fun id=>if id=base+1000*k then c else hN id,fun id=>if id=base+1000*k then G 0 else fN id,⟨fun id ob h=> ?_,fun id b h=> ?_,fun id id' b h h'=> ?_⟩,fun id b h=> ?_,by simp[impCells,hlen],fun i v sv h1 h2=> ?_⟩
   ·simp only[impCells,List.mem_cons,Prod.mk.injEq]at h
    rcases h with⟨rfl,rfl⟩|h
    ·exact⟨sz,rows,rfl,by simpa using h0⟩
    ·have:=hne id (List.mem_map.2 ⟨_,h,rfl⟩)
     simp only[this,if_false]
     exact I.row id ob h
   ·by_cases e:id=base+1000*k
    ·simp only[e,if_true]at h;exact⟨0,h⟩
    ·simp only[e,if_false]at h;obtain⟨i,hi⟩:=I.sub id b h;exact⟨i+1,hi⟩
   ·by_cases e:id=base+1000*k<;>by_cases e':id'=base+1000*k
    ·rw[e,e']
    ·simp only[e,if_true]at h
     simp only[e',if_false]at h'
     obtain⟨i,hi⟩:=I.sub id' b h'
     have:=hD _ _ b h hi;omega
    ·simp only[e,if_false]at h
     simp only[e',if_true]at h'
     obtain⟨i,hi⟩:=I.sub id b h
     have:=hD _ _ b h' hi;omega
    ·simp only[e,if_false]at h
     simp only[e',if_false]at h'
     exact I.dis id id' b h h'
   ·simp only[impCells,keys,List.map_cons,List.mem_cons]
    by_cases e:id=base+1000*k
    ·exact .inl e
    ·simp only[e,if_false]at h;exact .inr (hk id b h)
   ·cases i with
    |zero=>
     simp[impCells]at h1 h2
     subst h1
     subst h2
     intro Fr m' bv' hd' hh
     obtain⟨a1,a2,a3,e,_⟩:=h0.slice
     refine .ref _ _ _ ⟨_,_,_,e⟩ fun _ _ _=> ?_
     rw[hh (base+1000*k) (by simp[impCells,keys])];simp
    |succ i=>
     simp only[impCells,List.getElem?_cons_succ]at h1 h2
     intro Fr m' bv' hd' hh
     refine hT i v sv h1 h2 Fr m' bv' hd' fun id hid=> ?_
     rw[hh id (by simp only[impCells,keys,List.map_cons,List.mem_cons];exact .inr hid)]
     simp[hne id hid]
theorem run_bounds3{isS:Bool}{len cap:Nat}(lo:Option Value){l h:Int}{k1 k2:IntKind}(h0:0≤l)(h1:l≤h)(h2:h≤(cap:Int))(hlo:(∃k,lo=some (.int k l))∨(lo=none∧l=0)):
 (Instr.sliceBounds isS len cap lo (some (.int k1 h)) (some (.int k2 h))).run P w= .ok (l.toNat,h.toNat,h.toNat) w:=by
 have h3:0≤h:=by omega
 have h4:l≤(h.toNat:Int):=by omega
 have h5:h≤(h.toNat:Int):=by omega
 rcases hlo with⟨k,rfl⟩|⟨rfl,rfl⟩
 ·simp[Instr.sliceBounds,run_sliceBound (P:=P) w k2 h cap _ h3 h2,run_sliceBound (P:=P) w k1 h h.toNat _ h3 h5,run_sliceBound (P:=P) w k l h.toNat _ h0 h4]
 ·simp[Instr.sliceBounds,run_sliceBound (P:=P) w k2 h cap _ h3 h2,run_sliceBound (P:=P) w k1 h h.toNat _ h3 h5]
theorem Owns.le_cap{F:Nat→Prop}{ad:Option Addr}{n c:Nat}{t:T}(h:Owns w F (.slice ad n c) t):n≤c:=by
 cases h with
 |sl0=>exact Nat.le_refl _
 |sl _ _ _ _ _ _ _ _ _ _ _ _ _ hn hc=>exact hc
theorem goes_cutE(H:CtxOK P C)(R:RelE N W base w0 s m bv hd fp Fr a w){o:Oper}(hdst:∀d,o.dst=some d→N.ok d){t id ver:Nat}{x:Operand}{lo hi mx:Option Operand}{rows r:List (List T)}{l h':Int}{k k':IntKind}{fpl:List Nat}
 (h:o.op= .slice t x lo hi mx) (hx:opnd s x= .ref id ver) (hm:m id=some (.row ver (C.i (C.i t).elem).size rows)) (hk:(C.i t).kind=2) (he:1≤(C.i (C.i t).elem).kind) (hl:loS s lo= .t (.int k l))
 (hh:hiS s (rows.length:Int) hi= .t (.int k' h')) (hr:ssub rows l h'=some r) (hmx:mx=none∨∃y z k2,mx=some y∧hi=some z∧opnd s y= .t (.int k2 h')) (cl:Clean s m [(id,o.dst.getD 0+2)]):
 Goes P N W base w0 s m o ⟨.ref id (o.dst.getD 0+2),[(id,some (.row (o.dst.getD 0+2) (C.i (C.i t).elem).size r))],fpl,[(id,o.dst.getD 0+2)]⟩ a w:=by
 have hu:=(H.fact (t:=t) (by omega)).slice hk
 have hsz:=(H.fact he).sizeOf w
 obtain⟨h0,h1,h2,rfl⟩:=ssub_some hr
 have hrx:=opnd_rel R x
 rw[hx]at hrx
 generalize hev:a.eval x=v at hrx
 have hlo:(∃k,lo.map a.eval=some (.int k l))∨(lo.map a.eval=none∧l=0):=by rcases bound_lo R (lo:=lo) (by cases lo<;>exact hl)with⟨x,rfl,e⟩|⟨rfl,rfl⟩<;>simp[*]
 have hhi:(∃k,hi.map a.eval=some (.int k h'))∨(hi.map a.eval=none∧h'=(rows.length:Int)):=by rcases bound_hi R (hi:=hi) (by cases hi<;>exact hh)with⟨x,rfl,e⟩|⟨rfl,rfl⟩<;>simp[*]
 cases hrx with
 |ref _ _ _ _ hhd=>
  have:=hhd _ _ (asRow_row hm)
  subst this
  have own:=R.mem.rows id _ _ _ hm
  have hid:m id≠none:=by simp[hm]
  obtain⟨ad,n,c,ev,hn⟩:=own.slice
  rw[ev]at own hev
  have hnc:=own.le_cap
  --where the part ends
  have hb:∃M:Nat,h'.toNat≤M∧M≤c∧(Instr.sliceBounds true n c (lo.map a.eval) (hi.map a.eval) (mx.map a.eval)).run P w= .ok (l.toNat,h'.toNat,M) w:=by
   rcases hmx with rfl|⟨y,z,k2,rfl,rfl,hy⟩
   ·exact⟨c,by omega,Nat.le_refl _,run_bounds (P:=P) (w:=w) (isS:=true) hnc _ _ h0 h1 (by rw[←hn];exact h2) hlo (by rw[←hn];exact hhi)⟩
   ·simp only[hiS]at hh
    have e1:=opnd_int R hy
    have e2:=opnd_int R hh
    refine⟨h'.toNat,Nat.le_refl _,by omega, ?_⟩
    simp only[Option.map_some,e1,e2]
    exact run_bounds3 (P:=P) (w:=w) (isS:=true) (len:=n) (cap:=c) _ h0 h1 (by omega) hlo
  obtain⟨M,hM1,hM2,hb⟩:=hb
  have own':=own.cut (l:=l.toNat) (h:=h'.toNat) (M:=M) (by omega) (by omega) hM1 hM2
  refine goes_one R hdst (w':=w) (row:=none) ⟨rfl,rfl,rfl,Nat.le_refl _,fun _ _ _=>rfl⟩ (d:=id) (obj:= .row (o.dst.getD 0+2) (C.i (C.i t).elem).size ((rows.take h'.toNat).drop l.toNat)) (.inl rfl) (v:= .slice (if M=l.toNat then ad else ad.map (·.add (l.toNat*(C.i (C.i t).elem).size))) (h'.toNat -l.toNat) (M -l.toNat)) ?_
   (by rw[updM_one];simp) (fun j he=> .inl (by rw[updM_one];simp[he])) cl (fun b=>fp id b) (fun b hb=> .inr ⟨id,.inl rfl,hid,hb⟩) (fun _ hk=>by cases hk) 0 _ (fun ver' sz' rows' he=> ?_) (fun l he=>by cases he) (fun bv' hd' k e1 e2=> .ref _ _ _ ⟨_,_,_,rfl⟩ fun _ _ _=>e2.symm)
  ·simp[execOp,h,Instr.sliceAt,Instr.slice,run_underlying hu,hev,hb,hsz]
  ·cases he
   exact⟨own',.inl (by simp)⟩
theorem goes_cutV(H:CtxOK P C)(R:RelE N W base w0 s m bv hd fp Fr a w){o:Oper}(hdst:∀d,o.dst=some d→N.ok d){t id ver:Nat}{x lo:Operand}{rows r:List (List T)}{l:Int}{k:IntKind}{fpl:List Nat}
 (h:o.op= .slice t x (some lo) none none) (hx:opnd s x= .ref id ver) (hm:m id=some (.row ver (C.i (C.i t).elem).size rows)) (hk:(C.i t).kind=2) (he:1≤(C.i (C.i t).elem).kind) (hl:opnd s lo= .t (.int k l))
 (hr:ssub rows l (rows.length:Int)=some r):Goes P N W base w0 s m o ⟨.vw id ver l,[],fpl,[]⟩ a w:=by
 have hu:=(H.fact (t:=t) (by omega)).slice hk
 have hsz:=(H.fact he).sizeOf w
 obtain⟨h0,h1,h2,rfl⟩:=ssub_some hr
 have hrx:=opnd_rel R x
 rw[hx]at hrx
 generalize hev:a.eval x=v at hrx
 cases hrx with
 |ref _ _ _ _ hhd=>
  have:=hhd _ _ (asRow_row hm)
  subst this
  have own:=R.mem.rows id _ _ _ hm
  obtain⟨ad,n,c,ev,hn⟩:=own.slice
  rw[ev]at own hev
  have hnc:=own.le_cap
  have hb:=run_bounds (P:=P) (w:=w) (isS:=true) (len:=n) (cap:=c) hnc (some (.int k l)) none (l:=l) (h:=(n:Int)) h0 (by omega) (Int.le_refl _) (.inl ⟨k,rfl⟩) (.inr ⟨rfl,rfl⟩)
  refine goes_pure R hdst (v:= .slice (if c=l.toNat then ad else ad.map (·.add (l.toNat*(C.i (C.i t).elem).size))) (n -l.toNat) (c -l.toNat)) ?_ (.vw _ _ _ _ ⟨_,_,_,rfl⟩ fun sz' rows' hm'=> ?_)
  ·simp[execOp,h,Instr.sliceAt,Instr.slice,run_underlying hu,hev,hsz,opnd_int R hl,hb]
  ·rw[hm]at hm';cases hm'
   exact⟨h0,ad,n,c,c,ev,by omega,hnc,Nat.le_refl _,rfl⟩
theorem goes_cutW(H:CtxOK P C)(R:RelE N W base w0 s m bv hd fp Fr a w){o:Oper}(hdst:∀d,o.dst=some d→N.ok d){t id ver:Nat}{x lo q y:Operand}{rows r:List (List T)}{l:Int}{k k' k2:IntKind}{fpl:List Nat}
 (h:o.op= .slice t x (some lo) (some q) (some y)) (hx:opnd s x= .ref id ver) (hm:m id=some (.row ver (C.i (C.i t).elem).size rows)) (hk:(C.i t).kind=2) (he:1≤(C.i (C.i t).elem).kind) (hl:opnd s lo= .t (.int k l))
 (hq:opnd s q= .t (.int k' (rows.length:Int))) (hy:opnd s y= .t (.int k2 (rows.length:Int))) (hr:ssub rows l (rows.length:Int)=some r):Goes P N W base w0 s m o ⟨.vw id ver l,[],fpl,[]⟩ a w:=by
 have hu:=(H.fact (t:=t) (by omega)).slice hk
 have hsz:=(H.fact he).sizeOf w
 obtain⟨h0,h1,h2,rfl⟩:=ssub_some hr
 have hrx:=opnd_rel R x
 rw[hx]at hrx
 generalize hev:a.eval x=v at hrx
 cases hrx with
 |ref _ _ _ _ hhd=>
  have:=hhd _ _ (asRow_row hm)
  subst this
  have own:=R.mem.rows id _ _ _ hm
  obtain⟨ad,n,c,ev,hn⟩:=own.slice
  rw[ev]at own hev
  have hnc:=own.le_cap
  have hb:=run_bounds3 (P:=P) (w:=w) (isS:=true) (len:=n) (cap:=c) (k1:=k') (k2:=k2) (some (.int k l)) (l:=l) (h:=(rows.length:Int)) h0 (by omega) (by omega) (.inl ⟨k,rfl⟩)
  rw[Int.toNat_natCast,hn]at hb
  refine goes_pure R hdst (v:= .slice (if n=l.toNat then ad else ad.map (·.add (l.toNat*(C.i (C.i t).elem).size))) (n -l.toNat) (n -l.toNat)) ?_ (.vw _ _ _ _ ⟨_,_,_,rfl⟩ fun sz' rows' hm'=> ?_)
  ·simp[execOp,h,Instr.sliceAt,Instr.slice,run_underlying hu,hev,hsz,opnd_int R hl,opnd_int R hq,opnd_int R hy,hb,hn]
  ·rw[hm]at hm';cases hm'
   exact⟨h0,ad,n,c,n,ev,by omega,Nat.le_refl _,hnc,rfl⟩
theorem goes_convFz(H:CtxOK P C)(R:RelE N W base w0 s m bv hd fp Fr a w){o:Oper}(hdst:∀d,o.dst=some d→N.ok d){src dst:Nat}{x:Operand}{l:List Int}(h:o.op= .convert src dst x)(hx:opnd s x= .t (.sl 1 (rowsI .u8 l)))
 (hk:(C.i dst).kind=1) (hs:(C.i src).kind=2) (he:(C.i (C.i src).elem).kind=15):Goes P N W base w0 s m o (pureE (.t (.str (bytesOf l)))) a w:=by
 have hus:=(H.fact (t:=src) (by omega)).slice hs
 have hud:=(H.fact (t:=dst) (by omega)).string hk
 have hue:P.underlying (C.i src).elem=some (.int .u8):=by
  obtain⟨d,u,z,_,hu,_,_,_,_,hkk,_⟩:=(H.fact (t:=(C.i src).elem) (by omega)).ex
  rw[hkk]at he
  rw[hu,kind_u8 he]
 have hv:=opnd_t R hx
 generalize hev:a.eval x=v at hv
 have res:Reads w Fr (.string ⟨⟨bytesOf l⟩⟩) (.str (bytesOf l)):=str_mk _
 have push:∀(ns:List Int) (r:ByteArray),ns.foldl (fun r n=>r.push (UInt8.ofNat n.toNat)) r=⟨⟨r.data.toList++bytesOf ns⟩⟩:=by
  intro ns
  induction ns with
  |nil=>intro r;simp[bytesOf]
  |cons n ns ih=>intro r;rw[List.foldl_cons,ih];simp[bytesOf]
 have fin:∀(ad:Addr) (n c:Nat),v= .slice (some ad) n c→(loadCells ad n).run P w= .ok (l.map (Value.int .u8)).toArray w→Goes P N W base w0 s m o (pureE (.t (.str (bytesOf l)))) a w:=by
  intro ad n c e hld
  subst e
  refine goes_pure R hdst (v:= .string ⟨⟨bytesOf l⟩⟩) ?_ (.t _ _ res)
  have hb:=run_bytesToString (P:=P) w ad n c l hld
  rw[push]at hb
  simp only[execOp,h,hev,Sem.run_bind,convert,run_underlying hus,run_underlying hud,run_underlying hue,Result.andThen_ok,hb,Sem.run_pure]
  rfl
 generalize hrw:rowsI .u8 l=rows at hv
 cases hv with
 |sl0 ad c sz=>
  have hl:l=[]:=by simpa[rowsI]using hrw
  subst hl
  cases ad with
  |none=>exact goes_pure R hdst (v:= .string ⟨⟨[]⟩⟩) (by simp[execOp,h,hev,convert,run_underlying hus,run_underlying hud,run_underlying hue,Conv.bytesToString];rfl) (.t _ _ res)
  |some ad=>exact fin ad 0 c rfl (by simp[loadCells,loadCellsFrom])
 |sl b bo n c sz rs f hn hc hb hrow hcell hrd=>
  have hnl:n=l.length:=by rw[←hn,←hrw];simp[rowsI]
  refine fin _ n c rfl ?_
  have:=run_loadCells_list (P:=P) w ⟨b,bo,none⟩ (l.map (Value.int .u8)) (fun j v hj=>by
   rw[Addr.add_mid]
   rw[List.getElem?_map,Option.map_eq_some_iff]at hj
   obtain⟨q,hq,rfl⟩:=hj
   have h1:rows[j]? =some [T.int .u8 q]:=by rw[←hrw];simp[rowsI,hq]
   have h2:=hcell j _ 0 (T.int .u8 q) h1 rfl
   have h3:=hrd j _ 0 (T.int .u8 q) h1 rfl
   rw[show bo+j=bo+(j*1+0)by omega,h2]
   generalize f j 0=u at h3
   cases h3
   rfl)
  simpa[hnl]using this
theorem over_owns{F:Nat→Prop}{b bo n c sz el lo hi q k:Nat}{rows new:List (List T)}{cells news:List Value}{f f2:Nat→Nat→Value}{G:Nat→Nat→Nat→Prop}(hn:rows.length=n)(hc:n≤c)(hb:w.heap[b]? =some (.cells ⟨cells⟩ el (lo,hi)))
 (hs:bo+c*sz≤cells.length) (hz:bo+c*sz≤lo∨hi≤lo) (hF:F b) (hrow:∀(i:Nat) row,rows[i]? =some row→row.length=sz) (hcell:∀(i:Nat) row (j:Nat) t,rows[i]? =some row→row[j]? =some t→cells[bo+(i*sz+j)]? =some (f i j))
 (hone:∀(i:Nat) row (j:Nat) t,rows[i]? =some row→row[j]? =some t→(f i j).oneCell'=true) (hG:∀i j x,G i j x→F x∧x≠b) (hD:∀i j i' j' x,G i j x→G i' j' x→i=i'∧j=j') (hrd:∀(i:Nat) row (j:Nat) t,rows[i]? =some row→row[j]? =some t→Owns w (G i j) (f i j) t)
 (hlt:∀x,F x→x<w.heap.size) (hk:q+k≤n) (hnl:new.length=k) (hns:news.length=k*sz) (nrow:∀(i:Nat) row,new[i]? =some row→row.length=sz) (ncell:∀(i:Nat) row (j:Nat) t,new[i]? =some row→row[j]? =some t→news[i*sz+j]? =some (f2 i j))
 (n1:∀v∈news,v.oneCell'=true) (nrd:∀(i:Nat) row (j:Nat) t,new[i]? =some row→row[j]? =some t→∀w',Owns w' (fun _=>False) (f2 i j) t):
 (∀j,j<news.length→(w.cell? ⟨b,bo+q*sz+0+j,none⟩).isSome=true)∧(∀j,j<news.length→w.frozen? ⟨b,bo+q*sz+0+j,none⟩=false)∧
  Owns (w.setCells b (bo+q*sz) news) F (.slice (some ⟨b,bo,none⟩) n c) (.sl sz (rows.take q++new++rows.drop (q+k))):=by
 have hqk:q*sz+k*sz≤c*sz:=by rw[←Nat.add_mul];exact Nat.mul_le_mul_right _ (by omega)
 have hfit:bo+q*sz+news.length≤cells.length:=by omega
 refine⟨fun j hj=> ?_,fun j hj=> ?_, ?_⟩
 ·rw[cell_heap hb,List.getElem?_eq_getElem (by omega)];rfl
 ·simp only[World.frozen?,hb,Nat.add_zero]
  rcases hz with hz|hz
  ·have:¬lo≤bo+q*sz+j:=by omega
   simp[this]
  ·by_cases e1:lo≤bo+q*sz+j
   ·have:¬bo+q*sz+j<hi:=by omega
    simp[this]
   ·simp[e1]
 ·have hheap:=setCells_heap b news (bo+q*sz) w cells el (lo,hi) hb hfit
  have hg:=setCells_grown b news (bo+q*sz) w
  have same:∀y,F y→y≠b→(w.setCells b (bo+q*sz) news).heap[y]? =w.heap[y]? :=fun y hy hne=>hg.block y (hlt y hy) (fun e=>hne (by cases e;rfl))
  have hmid:=fun k'=>mid_get cells (bo+q*sz) (k*sz) news hns (by omega) k'
  have hgetR:∀i,(rows.take q++new++rows.drop (q+k))[i]? =if q≤i∧i<q+k then new[i -q]? else rows[i]? :=fun i=>mid_get rows q k new hnl (by omega) i
  refine .sl _ b bo n c sz _ _ el lo hi (fun i j=>if q≤i∧i<q+k then f2 (i -q) j else f i j) (fun i j x=>G i j x∧¬(q≤i∧i<q+k)) (by simp;omega) hc hheap (by simp only[List.length_append,List.length_take,List.length_drop];omega) hz hF (fun i r hi=> ?_) (fun i r j u hi hj=> ?_) (fun i r j u hi hj=> ?_) (fun i j y hy=>hG i j y hy.1) (fun i j i' j' y hy hy'=>hD i j i' j' y hy.1 hy'.1) (fun i r j u hi hj=> ?_)
  ·rw[hgetR]at hi
   split at hi
   ·exact nrow _ _ hi
   ·exact hrow _ _ hi
  ·rw[hns,hmid]
   rw[hgetR]at hi
   split at hi
   ·rename_i hq
    have hjl:j<sz:=by rw[←nrow _ _ hi];exact(List.getElem?_eq_some_iff.1 hj).1
    have e1:(i -q)*sz+j<k*sz:=row_lt (by omega) hjl rfl
    have e2:i*sz=q*sz+(i -q)*sz:=by rw[←Nat.add_mul];congr 1;omega
    rw[if_pos (by omega),if_pos hq,show bo+(i*sz+j) -(bo+q*sz)=(i -q)*sz+j by omega]
    exact ncell _ _ _ _ hi hj
   ·rename_i hq
    have hjl:j<sz:=by rw[←hrow _ _ hi];exact(List.getElem?_eq_some_iff.1 hj).1
    have hne:¬(bo+q*sz≤bo+(i*sz+j)∧bo+(i*sz+j)<bo+q*sz+k*sz):=by
     rintro⟨e1,e2⟩
     by_cases h1:i<q
     ·have:(i+1)*sz≤q*sz:=Nat.mul_le_mul_right _ (by omega)
      rw[Nat.add_mul]at this;omega
     ·have:(q+k)*sz≤i*sz:=Nat.mul_le_mul_right _ (by omega)
      rw[Nat.add_mul]at this;omega
    rw[if_neg hne,if_neg hq]
    exact hcell _ _ _ _ hi hj
  ·rw[hgetR]at hi
   split at hi
   ·rename_i hq
    rw[if_pos hq]
    exact n1 _ (List.mem_of_getElem? (ncell _ _ _ _ hi hj))
   ·rename_i hq
    rw[if_neg hq]
    exact hone _ _ _ _ hi hj
  ·rw[hgetR]at hi
   split at hi
   ·rename_i hq
    simp only[hq,and_self,if_true]
    exact(nrd _ _ _ _ hi hj (w.setCells b (bo+q*sz) news)).mono (fun _ hf=>hf.elim) (fun _ _=>rfl)
   ·rename_i hq
    simp only[hq,if_false]
    exact(hrd _ _ _ _ hi hj).mono (fun y hy=>⟨hy,not_false⟩) (fun y hy=>same y (hG i j y hy).1 (hG i j y hy).2)
theorem vw_own(R:RelE N W base w0 s m bv hd fp Fr a w){id ver sz:Nat}{lo:Int}{rows:List (List T)}{v:Value}(hv:VRel w Fr m bv hd (.vw id ver lo) v)(hm:m id=some (.row ver sz rows)):
 0≤lo∧lo.toNat≤rows.length∧((lo.toNat=rows.length∧∃ad c,v= .slice ad 0 c)∨(lo.toNat<rows.length∧∃b bo c c',hd id= .slice (some ⟨b,bo,none⟩) rows.length c∧v= .slice (some ⟨b,bo+lo.toNat*sz,none⟩) (rows.length -lo.toNat) c')):=by
 cases hv with
 |vw _ _ _ _ _ hh=>
  obtain⟨h0,ad,n,c,M,e,h1,hM1,hM2,ev⟩:=hh _ _ (asRow_row hm)
  have own:=R.mem.rows id _ _ _ hm
  rw[e]at own
  have hnc:=own.le_cap
  obtain⟨_,_,_,e2,hn⟩:=own.slice
  cases e2
  refine⟨h0,by omega, ?_⟩
  by_cases hl:lo.toNat=rows.length
  ·exact .inl ⟨hl,_,_,by rw[ev,show n -lo.toNat=0 by omega]⟩
  ·refine .inr ⟨by omega, ?_⟩
   cases own with
   |sl0=>omega
   |sl _ b bo _ _ _ _ cells el lo' hi f G hn' hc hb hs hz hF hrow hcell hone hG hD hrd=>
    refine⟨b,bo,c,M -lo.toNat,by rw[e,hn], ?_⟩
    have e:(⟨b,bo,none⟩:Addr).add (lo.toNat*sz)=⟨b,bo+lo.toNat*sz,none⟩:=Addr.add_mid ..
    rw[ev,if_neg (by omega),Option.map_some,e,hn]
theorem goes_over(R:RelE N W base w0 s m bv hd fp Fr a w){o:Oper}(hdst:∀d,o.dst=some d→N.ok d){id ver sz q k b bo c:Nat}{rows new:List (List T)}{news:List Value}{f2:Nat→Nat→Value}{val:SV}{v:Value}{fpl:List Nat}(hm:m id=some (.row ver sz rows))(hhd:hd id= .slice (some ⟨b,bo,none⟩) rows.length c)
 (hk:q+k≤rows.length) (hk0:q<rows.length) (hnl:new.length=k) (hns:news.length=k*sz) (nrow:∀(i:Nat) row,new[i]? =some row→row.length=sz) (ncell:∀(i:Nat) row (j:Nat) t,new[i]? =some row→row[j]? =some t→news[i*sz+j]? =some (f2 i j))
 (n1:∀v∈news,v.oneCell'=true) (nrd:∀(i:Nat) row (j:Nat) t,new[i]? =some row→row[j]? =some t→∀w',Owns w' (fun _=>False) (f2 i j) t)
 (hr:(storeCells ⟨b,bo+q*sz,none⟩ news).run P w= .ok () (w.setCells b (bo+q*sz) news)→(execOp a.eval o).run P w= .ok (.value v) (w.setCells b (bo+q*sz) news)) (hval:∀w' Fr m bv hd,VRel w' Fr m bv hd val v):
 Goes P N W base w0 s m o ⟨val,[(id,some (.row ver sz (rows.take q++new++rows.drop (q+k))))],fpl,[]⟩ a w:=by
 have own:=R.mem.rows id _ _ _ hm
 have hid:m id≠none:=by simp[hm]
 rw[hhd]at own
 obtain⟨n,hnn⟩:∃n,rows.length=n:=⟨_,rfl⟩
 rw[hnn]at own hk hk0 hhd
 cases own with
 |sl0=>omega
 |sl _ _ _ _ _ _ _ cells el lo' hi f G hn hc hb hs hz hF hrow hcell hone hG hD hrd=>
  obtain⟨p1,p2,own'⟩:=over_owns hn hc hb hs hz hF hrow hcell hone hG hD hrd (fun x hx=>(R.mem.own id x hid hx).2.1) hk hnl hns nrow ncell n1 nrd
  have hst:=run_storeCells_cells (P:=P) b (bo+q*sz) news 0 w p1 p2 n1
  simp only[Nat.add_zero]at hst
  refine goes_one R hdst (setCells_grown b news (bo+q*sz) w) (d:=id) (obj:= .row ver sz (rows.take q++new++rows.drop (q+k))) (.inl rfl) (v:=v) (hr hst) (by rw[updM_one];simp) (fun j he=> .inl (by rw[updM_one];simp[he])) ⟨fun t=> .inl rfl,fun _ _ _=> .inl rfl⟩ (fun b=>fp id b)
   (fun b hb=> .inr ⟨id,.inl rfl,hid,hb⟩) (fun k hk=>⟨id,.inl rfl,hid,by cases hk;exact hF⟩) 0 (hd id) (fun ver' sz' rows' he=> ?_) (fun l he=>by cases he) (fun _ _ _ _ _=>hval _ _ _ _ _)
  cases he
  exact⟨by rw[hhd];exact own',.inr ⟨rows,hm,rfl⟩⟩
theorem goes_still(R:RelE N W base w0 s m bv hd fp Fr a w){o:Oper}(hdst:∀d,o.dst=some d→N.ok d){id:Nat}{ob:MO}{val:SV}{v:Value}{fpl:List Nat}(hm:m id=some ob)(hr:(execOp a.eval o).run P w= .ok (.value v) w)(hval:∀w' Fr m bv hd,VRel w' Fr m bv hd val v):
 Goes P N W base w0 s m o ⟨val,[(id,some ob)],fpl,[]⟩ a w:=by
 intro K Q hK
 have e:updM m [(id,some ob)]=m:=by
  funext j
  rw[updM_one]
  split
  ·rename_i e;rw[e,hm]
  ·rfl
 unfold Oper.wp
 rw[hr]
 refine hK _ _ ⟨bv,hd,fp,Fr, ?_⟩
 show RelE N W base w0 (updS s o.dst val) (updM m [(id,some ob)]) bv hd fp Fr _ w
 rw[e]
 exact pure_rel R o.dst hdst (hval _ _ _ _ _)
theorem goes_clear(H:CtxOK P C)(R:RelE N W base w0 s m bv hd fp Fr a w){o:Oper}(hdst:∀d,o.dst=some d→N.ok d){c:Call}{id ver:Nat}{lo:Int}{rows:List (List T)}{zt:List T}{fpl:List Nat}(h:o.op= .call c)(hc:c.callee= .builtin .clear)
 (hargs:c.args.toList.map (opnd s)=[.vw id ver lo]) (hm:m id=some (.row ver (C.i (C.i (c.argTypes.toList.headD 0)).elem).size rows)) (hk:(C.i (c.argTypes.toList.headD 0)).kind=2) (he:1≤(C.i (C.i (c.argTypes.toList.headD 0)).elem).kind)
 (hz:1≤(C.i (C.i (c.argTypes.toList.headD 0)).elem).size) (hl:(C.i (C.i (c.argTypes.toList.headD 0)).elem).zero.length=(C.i (C.i (c.argTypes.toList.headD 0)).elem).size) (hz0:refsL (refs 4) (C.i (C.i (c.argTypes.toList.headD 0)).elem).zero=[]) (hz1:(C.i (C.i (c.argTypes.toList.headD 0)).elem).zero.all cell1=true)
 (hzt:all2 (rbo m 4) (C.i (C.i (c.argTypes.toList.headD 0)).elem).zero zt):Goes P N W base w0 s m o ⟨.gone,[(id,some (.row ver (C.i (C.i (c.argTypes.toList.headD 0)).elem).size (rows.take lo.toNat++List.replicate (rows.length -lo.toNat) zt)))],fpl,[]⟩ a w:=by
 obtain⟨x,hca,hx⟩:=args_one hargs
 have hne:c.argTypes.toList.headD 0≠0:=by intro e;rw[e,H.z]at hk;cases hk
 have hty:=ts_head rfl hne
 generalize c.argTypes.toList.headD 0=ty at*
 have hu:=(H.fact (t:=ty) (by omega)).slice hk
 have hrx:=opnd_rel R x
 rw[hx]at hrx
 generalize hev:a.eval x=v at hrx
 obtain⟨h0,h1,h2⟩:=vw_own R hrx hm
 rcases h2 with⟨e,ad,cp,rfl⟩|⟨hlt,b,bo,cp,cp',hhd,rfl⟩
 ·rw[e,List.take_length,Nat.sub_self,List.replicate_zero,List.append_nil]
  refine goes_still R hdst hm (v:= .tuple #[]) ?_ (fun _ _ _ _ _=> .gone _)
  cases ad<;>simp[execOp,h,resolve,hc,hca,invoke,builtin,Builtin.clear_,hty,run_underlying hu,hev]
 ·obtain⟨d,z,e1,e2,e3,e4,e5,e6⟩:=zero_rel (w:=w) (Fr:=Fr) (m:=m) (bv:=bv) (hd:=hd) (H.fact he)
  obtain⟨tl,tg⟩:=all2_get hzt
  have hzv:(zeroValue (C.i ty).elem).run P w= .ok z w:=by simp[zeroValue,typeInfo,e1,e2]
  generalize hsz:(C.i (C.i ty).elem).size=size at*
  generalize hzz:(C.i (C.i ty).elem).zero=zero at*
  have hzc:z.cells.size=size:=by rw[←Array.length_toList,e5,hl]
  have hcell:∀(i j:Nat),i<rows.length -lo.toNat→j<size→(Builtin.zeroCells z.cells (rows.length -lo.toNat)).toList[i*size+j]? =some (z.cells.toList.getD j undef):=by
   intro i j hi hj
   have hlt2:i*size+j<(rows.length -lo.toNat)*size:=row_lt hi hj rfl
   have hmod:(i*size+j) % size=j:=by rw[Nat.mul_comm,Nat.mul_add_mod,Nat.mod_eq_of_lt hj]
   have hjz:j<z.cells.size:=by rw[hzc];exact hj
   simp only[Builtin.zeroCells,Array.toList_map,List.getElem?_map,Array.toList_range,hzc,List.getElem?_range hlt2,Option.map_some,Option.some.injEq,hmod]
   rw[getElem!_pos z.cells j hjz,List.getD_eq_getElem?_getD,List.getElem?_eq_getElem (by simpa using hjz)]
   simp
  have hval:∀j,j<size→z.cells.toList[j]? =some (z.cells.toList.getD j undef):=fun j hj=>by rw[List.getD_eq_getElem?_getD,List.getElem?_eq_getElem (by rw[Array.length_toList];omega)];rfl
  have hns:(Builtin.zeroCells z.cells (rows.length -lo.toNat)).toList.length=(rows.length -lo.toNat)*size:=by simp[Builtin.zeroCells,hzc]
  have hone:∀u∈(Builtin.zeroCells z.cells (rows.length -lo.toNat)).toList,u.oneCell'=true:=by
   intro u hu'
   obtain⟨k,hk'⟩:=List.mem_iff_getElem?.1 hu'
   have hkl:k<(rows.length -lo.toNat)*size:=by rw[←hns];exact(List.getElem?_eq_some_iff.1 hk').1
   have hdm:=Nat.div_add_mod k size
   have hk1:k/size<rows.length -lo.toNat:=by rw[Nat.div_lt_iff_lt_mul (by omega)];exact hkl
   have hk2:k % size<size:=Nat.mod_lt _ (by omega)
   have h3:=hcell (k/size) (k % size) hk1 hk2
   rw[Nat.mul_comm (k/size) size,hdm,hk']at h3
   simp only[Option.some.injEq]at h3
   subst h3
   have hsv:=List.getElem?_eq_getElem (l:=zero) (i:=k % size) (by omega)
   exact cell1_one (e6 _ _ _ (hval _ hk2) hsv) (List.all_eq_true.1 hz1 _ (List.mem_of_getElem? hsv))
  have hdrop:rows.drop (lo.toNat+(rows.length -lo.toNat))=[]:=List.drop_eq_nil_of_le (by omega)
  have:=goes_over (P:=P) R hdst (q:=lo.toNat) (k:=rows.length -lo.toNat) (new:=List.replicate (rows.length -lo.toNat) zt) (news:=(Builtin.zeroCells z.cells (rows.length -lo.toNat)).toList) (f2:=fun _ j=>z.cells.toList.getD j undef) (val:= .gone) (v:= .tuple #[]) (fpl:=fpl) hm hhd (by omega) hlt (by simp) hns
   (fun i row hi=>by
    rw[List.getElem?_replicate]at hi
    split at hi
    ·simp only[Option.some.injEq]at hi;subst hi;omega
    ·cases hi) (fun i row j t hi hj=>by
    rw[List.getElem?_replicate]at hi
    split at hi
    ·rename_i hin
     simp only[Option.some.injEq]at hi;subst hi
     have hjl:=(List.getElem?_eq_some_iff.1 hj).1
     exact hcell i j hin (by omega)
    ·cases hi) hone (fun i row j t hi hj w'=>by
    rw[List.getElem?_replicate]at hi
    split at hi
    ·simp only[Option.some.injEq]at hi
     subst hi
     have hjl:=(List.getElem?_eq_some_iff.1 hj).1
     have hsv:=List.getElem?_eq_getElem (l:=zero) (i:=j) (by omega)
     have hno:refs 4 (zero[j]'(by omega))=[]:=by
      cases hr:refs 4 (zero[j]'(by omega))with
      |nil=>rfl
      |cons a l=>
       have:a∈refsL (refs 4) zero:=refsL_mem.2 ⟨_,List.mem_of_getElem? hsv,by rw[hr];exact List.mem_cons_self ..⟩
       rw[hz0]at this;cases this
     have own:=rbo_own R.mem 4 _ _ t (e6 j _ _ (hval j (by omega)) hsv) (tg _ _ _ hsv hj) (by rw[hno];exact List.nodup_nil)
     exact own.mono (fun b ⟨id,hid,_⟩=>by rw[hno]at hid;cases hid) (fun b ⟨id,hid,_⟩=>by rw[hno]at hid;cases hid)
    ·cases hi) (fun hst=>by
    have hnz:rows.length -lo.toNat≠0:=by omega
    simp only[execOp,h,resolve,hc,hca,invoke,builtin,Builtin.clear_]
    simp[hty,run_underlying hu,hev,hzv,hst]) (fun _ _ _ _ _=> .gone _)
  rw[hdrop,List.append_nil]at this
  exact this
theorem goes_copy(H:CtxOK P C)(R:RelE N W base w0 s m bv hd fp Fr a w){o:Oper}(hdst:∀d,o.dst=some d→N.ok d){c:Call}{id ver:Nat}{lo:Int}{l:List UInt8}{rows:List (List T)}{fpl:List Nat}(h:o.op= .call c)(hc:c.callee= .builtin .copy)
 (hargs:c.args.toList.map (opnd s)=[.vw id ver lo,.t (.str l)]) (hm:m id=some (.row ver 1 rows)) (hk:(C.i (c.argTypes.toList.headD 0)).kind=2) (he:1≤(C.i (C.i (c.argTypes.toList.headD 0)).elem).kind)
 (hz:(C.i (C.i (c.argTypes.toList.headD 0)).elem).size=1):Goes P N W base w0 s m o ⟨.t (.int .i64 ((min l.length (rows.length -lo.toNat):Nat):Int)),[(id,some (.row ver 1 (overR rows lo.toNat (rowsI .u8 (intsOf l)))))],fpl,[]⟩ a w:=by
 obtain⟨x,y,hca,hx,hy⟩:=args_two hargs
 have hne:c.argTypes.toList.headD 0≠0:=by intro e;rw[e,H.z]at hk;cases hk
 have hty:=ts_head rfl hne
 generalize c.argTypes.toList.headD 0=ty at*
 have hu:=(H.fact (t:=ty) (by omega)).slice hk
 have hszr:=(H.fact he).sizeOf w
 rw[hz]at hszr
 have hyv:=opnd_str R hy
 have hrx:=opnd_rel R x
 rw[hx]at hrx
 generalize hev:a.eval x=v at hrx
 obtain⟨h0,h1,h2⟩:=vw_own R hrx hm
 have hlr:(rowsI .u8 (intsOf l)).length=l.length:=by simp[rowsI,intsOf]
 have hd0:∀k,k=min l.length (rows.length -lo.toNat)→(rowsI .u8 (intsOf l)).take (rows.length -lo.toNat)=(rowsI .u8 (intsOf l)).take k:=by
  intro k hk'
  rcases Nat.le_total l.length (rows.length -lo.toNat)with h3|h3
  ·rw[List.take_of_length_le (by omega),List.take_of_length_le (by omega)]
  ·congr 1;omega
 have hd1:∀k,k=min l.length (rows.length -lo.toNat)→rows.drop (lo.toNat+(rowsI .u8 (intsOf l)).length)=rows.drop (lo.toNat+k):=by
  intro k hk'
  rw[hlr]
  rcases Nat.le_total l.length (rows.length -lo.toNat)with h3|h3
  ·congr 1;omega
  ·rw[List.drop_eq_nil_of_le (by omega),List.drop_eq_nil_of_le (by omega)]
 have hcl:∀k,((⟨⟨l⟩⟩:ByteArray).extract 0 k).data.map (fun b=>Value.int .u8 (b.toNat:Int))=((l.take k).map fun b=>Value.int .u8 (b.toNat:Int)).toArray:=by
  intro k
  apply Array.ext'
  simp[List.extract_eq_take_drop]
 rcases h2 with⟨e,ad,cp,rfl⟩|⟨hlt,b,bo,cp,cp',hhd,rfl⟩
 ·have hk0:min l.length (rows.length -lo.toNat)=0:=by omega
  have e2:overR rows lo.toNat (rowsI .u8 (intsOf l))=rows:=by
   unfold overR
   rw[hd0 0 hk0.symm,hd1 0 hk0.symm,List.take_zero,List.append_nil,Nat.add_zero,List.take_append_drop]
  rw[e2,hk0]
  refine goes_still R hdst hm (v:= .int .i64 0) ?_ (fun _ _ _ _ _=> .t _ _ (.int _ _))
  have h3:Nat.min (⟨⟨l⟩⟩:ByteArray).size 0=0:=by simp
  cases ad with
  |none=>simp[execOp,h,resolve,hc,hca,invoke,builtin,Builtin.copy_,hty,run_underlying hu,hev,hyv,Builtin.lenOf,hszr,Builtin.firstCells,h3,goInt]
  |some ad=>simp[execOp,h,resolve,hc,hca,invoke,builtin,Builtin.copy_,hty,run_underlying hu,hev,hyv,Builtin.lenOf,hszr,Builtin.firstCells,h3,goInt,storeCells]
 ·generalize hkk:min l.length (rows.length -lo.toNat)=k at*
  have hkl:k≤l.length:=by omega
  have e2:overR rows lo.toNat (rowsI .u8 (intsOf l))=rows.take lo.toNat++(rowsI .u8 (intsOf l)).take k++rows.drop (lo.toNat+k):=by
   unfold overR
   rw[hd0 k rfl,hd1 k rfl]
  rw[e2]
  have hrow:∀(i:Nat) (row:List T),((rowsI .u8 (intsOf l)).take k)[i]? =some row→i<k∧∃u:UInt8,l[i]? =some u∧row=[T.int .u8 (u.toNat:Int)]:=by
   intro i row hi
   rw[List.getElem?_take]at hi
   split at hi
   ·rename_i hik
    simp only[rowsI,intsOf,List.map_map,List.getElem?_map,Option.map_eq_some_iff,Function.comp]at hi
    obtain⟨u,hu',rfl⟩:=hi
    exact⟨hik,u,hu',rfl⟩
   ·cases hi
  have hj0:∀{u:UInt8} {j:Nat} {t:T},[T.int .u8 (u.toNat:Int)][j]? =some t→j=0∧t=T.int .u8 (u.toNat:Int):=by
   intro u j t hj
   cases j with
   |zero=>simp at hj;exact⟨rfl,hj.symm⟩
   |succ j=>simp at hj
  refine goes_over (P:=P) R hdst (q:=lo.toNat) (k:=k) (news:=(l.take k).map fun b=>Value.int .u8 (b.toNat:Int)) (f2:=fun i _=> .int .u8 ((l.getD i 0).toNat:Int)) (v:= .int .i64 (k:Int)) hm hhd (by omega) hlt (by simp[hlr];omega) (by simp;omega) (fun i row hi=> ?_) (fun i row j t hi hj=> ?_) (fun v hv=> ?_) (fun i row j t hi hj w'=> ?_) (fun hst=> ?_) (fun _ _ _ _ _=> .t _ _ (.int _ _))
  ·obtain⟨_,u,_,rfl⟩:=hrow i row hi;rfl
  ·obtain⟨hik,u,hu',rfl⟩:=hrow i row hi
   obtain⟨rfl,rfl⟩:=hj0 hj
   simp[List.getElem?_take,hik,hu',List.getD]
  ·obtain⟨u,_,rfl⟩:=List.mem_map.1 hv
   rfl
  ·obtain⟨hik,u,hu',rfl⟩:=hrow i row hi
   obtain⟨rfl,rfl⟩:=hj0 hj
   simp only[List.getD,hu',Option.getD_some]
   exact .int _ _ _
  ·have h3:Nat.min (⟨⟨l⟩⟩:ByteArray).size (rows.length -lo.toNat)=k:=hkk
   rw[Nat.mul_one,List.map_take]at hst
   simp only[execOp,h,resolve,hc,hca,invoke,builtin,Builtin.copy_]
   simp[hty,run_underlying hu,hev,hyv,Builtin.lenOf,hszr,Builtin.firstCells,h3,goInt,hcl,List.map_take,hst]
end
end Go.Pv
