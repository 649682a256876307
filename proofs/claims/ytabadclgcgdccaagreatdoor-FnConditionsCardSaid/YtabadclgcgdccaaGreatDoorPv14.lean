/- Plain lemmas and definitions. Nothing is claimed here. -/
import Derived.Test.YtabadclgcgdccaaGreatDoorPv13
set_option linter.unusedSimpArgs false
set_option linter.unusedVariables false
namespace Go.Pv
open Go Go.RowKit Go.Lib
section
variable {P:Program} {C:Ctx} {N:FrP} {W:Nat→Prop} {base:Nat} {w0:World} {s:Nat→SV} {m:Nat→Option MO} {bv:Nat→Nat} {hd:Nat→Value} {fp:Nat→Nat→Prop} {Fr:Nat→Prop} {a:Act} {w:World}
structure BackOK(w':World)(m:Nat→Option MO)(hd:Nat→Value)(F:Nat→Prop)(ids:List Nat)(mw:List (Nat×Option MO))(fN:Nat→Nat→Prop):Prop where
 row:∀id ob,(id,ob)∈mw→∃ver sz rows rows0,ob=some (.row ver sz rows)∧m id=some (.row ver sz rows0)∧Owns w' (fN id) (hd id) (.sl sz rows)
 sub:∀id b,fN id b→F b
 dis:∀id id' b,fN id b→fN id' b→id=id'
 kin:∀id b,fN id b→id∈keys mw
 ref:∀id∈keys mw,id∈ids
theorem BackOK.nil{w':World}{F:Nat→Prop}{ids:List Nat}:BackOK w' m hd F ids [] (fun _ _=>False):=
 ⟨fun id ob h=>by simp at h,fun _ _ h=>h.elim,fun _ _ _ h=>h.elim,fun _ _ h=>h.elim,fun id h=>by simp[keys]at h⟩
theorem BackOK.join{w':World}{F1 F2:Nat→Prop}{i1 i2:List Nat}{m1 m2:List (Nat×Option MO)}{f1 f2:Nat→Nat→Prop}(I1:BackOK w' m hd F1 i1 m1 f1)(I2:BackOK w' m hd F2 i2 m2 f2)(hn:∀id∈i1,id∉i2)(hF:∀b,F1 b→F2 b→False):
 BackOK w' m hd (fun b=>F1 b∨F2 b) (i1++i2) (m1++m2) (fun id b=>f1 id b∨f2 id b):=by
 refine⟨fun id ob h=> ?_,fun id b h=> ?_,fun id id' b h h'=> ?_,fun id b h=> ?_,fun id h=> ?_⟩
 ·rcases List.mem_append.1 h with h|h
  ·obtain⟨v,sz,rows,r0,e,e2,ho⟩:=I1.row id ob h
   exact⟨v,sz,rows,r0,e,e2,ho.mono (fun b hb=> .inl hb) (fun _ _=>rfl)⟩
  ·obtain⟨v,sz,rows,r0,e,e2,ho⟩:=I2.row id ob h
   exact⟨v,sz,rows,r0,e,e2,ho.mono (fun b hb=> .inr hb) (fun _ _=>rfl)⟩
 ·rcases h with h|h
  ·exact .inl (I1.sub id b h)
  ·exact .inr (I2.sub id b h)
 ·rcases h with h|h<;>rcases h' with h'|h'
  ·exact I1.dis id id' b h h'
  ·exact(hF b (I1.sub _ _ h) (I2.sub _ _ h')).elim
  ·exact(hF b (I1.sub _ _ h') (I2.sub _ _ h)).elim
  ·exact I2.dis id id' b h h'
 ·rw[keys_append]
  rcases h with h|h
  ·exact List.mem_append_left _ (I1.kin id b h)
  ·exact List.mem_append_right _ (I2.kin id b h)
 ·rw[keys_append]at h
  rcases List.mem_append.1 h with h|h
  ·exact List.mem_append_left _ (I1.ref id h)
  ·exact List.mem_append_right _ (I2.ref id h)
theorem BackOK.weak{w':World}{F F':Nat→Prop}{i i':List Nat}{mw:List (Nat×Option MO)}{fN:Nat→Nat→Prop}(I:BackOK w' m hd F i mw fN)(hF:∀b,F b→F' b)(hi:∀id∈i,id∈i'):BackOK w' m hd F' i' mw fN:=
 ⟨I.row,fun id b h=>hF b (I.sub id b h),I.dis,I.kin,fun id h=>hi id (I.ref id h)⟩
theorem back_one{w':World}{id ver sz sz0:Nat}{rows rows0:List (List T)}{G:Nat→Prop}{v:Value}(hv:VRel w Fr m bv hd (.ref id ver) v)(hm:m id=some (.row ver sz rows0))(ho:Owns w' G v (.sl sz rows)):
 BackOK w' m hd G [id] [(id,some (.row ver sz rows))] (fun j b=>j=id∧G b):=by
 cases hv with
 |ref _ _ _ _ hh=>
  have:=hh _ _ (asRow_row hm)
  subst this
  refine⟨fun j ob h=> ?_,fun _ _ h=>h.2,fun _ _ _ h h'=>by rw[h.1,h'.1],fun j b h=>by simp[keys,h.1],fun j h=>by simpa[keys]using h⟩
  simp only[List.mem_singleton,Prod.mk.injEq]at h
  obtain⟨rfl,rfl⟩:=h
  exact⟨ver,sz,rows,rows0,rfl,hm,ho.mono (fun b hb=>⟨rfl,hb⟩) (fun _ _=>rfl)⟩
theorem backsC_ok{w':World}{n:Nat}:∀(svs:List SV) (outs:List T) (cs:List Value) (G:Nat→Nat→Prop) (mw:List (Nat×Option MO)),effK.backsC m svs outs=some mw→cs.length=svs.length→
 (∀(i:Nat) v sv,cs[i]? =some v→svs[i]? =some sv→VRel w Fr m bv hd sv v)→(∀i j b,G i b→G j b→i=j)→(∀(i:Nat) v t,cs[i]? =some v→outs[i]? =some t→Owns w' (G i) v t)→(refsL (refs (n+1)) svs).Nodup→
 ∃fN,BackOK w' m hd (fun b=>∃i,G i b) (refsL (refs (n+1)) svs) mw fN
 |[],outs,cs,G,mw,h,hl,hr,hD,ho,hn=>by
  cases outs with
  |nil=>simp only[effK.backsC,Option.some.injEq]at h;subst h;exact⟨_,.nil⟩
  |cons t outs=>simp[effK.backsC]at h
 |sv::svs,[],cs,G,mw,h,hl,hr,hD,ho,hn=>by cases sv<;>simp[effK.backsC]at h
 |sv::svs,t::outs,[],G,mw,h,hl,hr,hD,ho,hn=>by simp at hl
 |sv::svs,t::outs,c::cs,G,mw,h,hl,hr,hD,ho,hn=>by
  have hn2:(refsL (refs (n+1)) svs).Nodup:=by simp only[refsL,List.nodup_append]at hn;exact hn.2.1
  have rest:=fun mw' h'=>backsC_ok (w':=w') (n:=n) svs outs cs (fun i=>G (i+1)) mw' h' (by simpa using hl) (fun i v sv h1 h2=>hr (i+1) v sv h1 h2) (fun i j b h1 h2=>by have:=hD _ _ b h1 h2;omega) (fun i v t h1 h2=>ho (i+1) v t h1 h2) hn2
  have skip:effK.backsC m svs outs=some mw→∃fN,BackOK w' m hd (fun b=>∃i,G i b) (refsL (refs (n+1)) (sv::svs)) mw fN:=by
   intro h'
   obtain⟨fN,I⟩:=rest mw h'
   exact⟨fN,I.weak (fun b ⟨i,hi⟩=>⟨i+1,hi⟩) (fun id hid=>by simp only[refsL];exact List.mem_append_right _ hid)⟩
  cases sv with
  |ref id ver=>
   cases t with
   |sl sz rows=>
    simp only[effK.backsC]at h
    cases hm:m id with
    |none=>simp[hm]at h
    |some ob=>
     cases ob with
     |var l=>simp[hm]at h
     |rowv ver0 sz0 rows0 q0 l0=>simp[hm]at h
     |row v z rows0=>
      cases hb:effK.backsC m svs outs with
      |none=>simp[hm,hb]at h
      |some w1=>
       simp only[hm,hb]at h
       cases hc:(Nat.beq v ver&&Nat.beq z sz)with
       |false=>simp[hc]at h
       |true=>
        simp only[hc,cond_true,Option.some.injEq]at h
        subst h
        simp only[Bool.and_eq_true]at hc
        obtain rfl:=beqN hc.1
        obtain rfl:=beqN hc.2
        obtain⟨fN,I⟩:=rest w1 hb
        have J:=(back_one (sz0:=0) (hr 0 c _ rfl rfl) hm (ho 0 c _ rfl rfl)).join I (fun id' h1 h2=>by
         simp only[refsL,List.nodup_append]at hn
         exact hn.2.2 id' (by simpa[refs]using h1) id' h2 rfl) (fun b h1 ⟨i,h2⟩=>by have:=hD _ _ b h1 h2;omega)
        exact⟨_,J.weak (fun b h=>by rcases h with h|⟨i,h⟩;exact⟨0,h⟩;exact⟨i+1,h⟩) (fun id h=>by simpa[refsL,refs]using h)⟩
   |_=>exact skip h
  |_=>exact skip (by cases t<;>exact h)
theorem backs_ok{w':World}{n:Nat}:∀(svs:List SV) (outs:List T) (cs:List Value) (G:Nat→Nat→Prop) (mw:List (Nat×Option MO)),effK.backs m svs outs=some mw→cs.length=svs.length→
 (∀(i:Nat) v sv,cs[i]? =some v→svs[i]? =some sv→VRel w Fr m bv hd sv v)→(∀i j b,G i b→G j b→i=j)→(∀(i:Nat) v t,cs[i]? =some v→outs[i]? =some t→Owns w' (G i) v t)→(refsL (refs (n+2)) svs).Nodup→
 ∃fN,BackOK w' m hd (fun b=>∃i,G i b) (refsL (refs (n+2)) svs) mw fN
 |[],outs,cs,G,mw,h,hl,hr,hD,ho,hn=>by
  cases outs with
  |nil=>simp only[effK.backs,Option.some.injEq]at h;subst h;exact⟨_,.nil⟩
  |cons t outs=>simp[effK.backs]at h
 |sv::svs,[],cs,G,mw,h,hl,hr,hD,ho,hn=>by cases sv<;>simp[effK.backs]at h
 |sv::svs,t::outs,[],G,mw,h,hl,hr,hD,ho,hn=>by simp at hl
 |sv::svs,t::outs,c::cs,G,mw,h,hl,hr,hD,ho,hn=>by
  have hn2:(refsL (refs (n+2)) svs).Nodup:=by simp only[refsL,List.nodup_append]at hn;exact hn.2.1
  have rest:=fun mw' h'=>backs_ok (w':=w') (n:=n) svs outs cs (fun i=>G (i+1)) mw' h' (by simpa using hl) (fun i v sv h1 h2=>hr (i+1) v sv h1 h2) (fun i j b h1 h2=>by have:=hD _ _ b h1 h2;omega) (fun i v t h1 h2=>ho (i+1) v t h1 h2) hn2
  have skip:effK.backs m svs outs=some mw→∃fN,BackOK w' m hd (fun b=>∃i,G i b) (refsL (refs (n+2)) (sv::svs)) mw fN:=by
   intro h'
   obtain⟨fN,I⟩:=rest mw h'
   exact⟨fN,I.weak (fun b ⟨i,hi⟩=>⟨i+1,hi⟩) (fun id hid=>by simp only[refsL];exact List.mem_append_right _ hid)⟩
  cases sv with
  |ref id ver=>
   cases t with
   |sl sz rows=>
    simp only[effK.backs]at h
    cases hm:m id with
    |none=>simp[hm]at h
    |some ob=>
     cases ob with
     |var l=>simp[hm]at h
     |rowv ver0 sz0 rows0 q0 l0=>simp[hm]at h
     |row v z rows0=>
      cases hb:effK.backs m svs outs with
      |none=>simp[hm,hb]at h
      |some w1=>
       simp only[hm,hb]at h
       cases hc:(Nat.beq v ver&&Nat.beq z sz)with
       |false=>simp[hc]at h
       |true=>
        simp only[hc,cond_true,Option.some.injEq]at h
        subst h
        simp only[Bool.and_eq_true]at hc
        obtain rfl:=beqN hc.1
        obtain rfl:=beqN hc.2
        obtain⟨fN,I⟩:=rest w1 hb
        have J:=(back_one (sz0:=0) (hr 0 c _ rfl rfl) hm (ho 0 c _ rfl rfl)).join I (fun id' h1 h2=>by
         simp only[refsL,List.nodup_append]at hn
         exact hn.2.2 id' (by simpa[refs]using h1) id' h2 rfl) (fun b h1 ⟨i,h2⟩=>by have:=hD _ _ b h1 h2;omega)
        exact⟨_,J.weak (fun b h=>by rcases h with h|⟨i,h⟩;exact⟨0,h⟩;exact⟨i+1,h⟩) (fun id h=>by simpa[refsL,refs]using h)⟩
   |_=>exact skip h
  |agg l=>
   cases t with
   |agg ts=>
    simp only[effK.backs]at h
    cases ha:effK.backsC m l ts with
    |none=>simp[ha]at h
    |some w1=>
     cases hb:effK.backs m svs outs with
     |none=>simp[ha,hb]at h
     |some w2=>
      simp only[ha,hb,Option.some.injEq]at h
      subst h
      have hv:=hr 0 c _ rfl rfl
      cases hv with
      |agg _ us hlu hru=>
       have ho0:=ho 0 _ _ rfl rfl
       cases ho0 with
       |agg _ _ _ G' hl' hG' hD' hown=>
        obtain⟨f1,I1⟩:=backsC_ok (w':=w') (n:=n) l ts us G' w1 ha hlu hru hD' hown (by simp only[refsL,List.nodup_append,refs]at hn;exact hn.1)
        obtain⟨fN,I⟩:=rest w2 hb
        have J:=(I1.weak (F':=G 0) (fun b ⟨i,hi⟩=>hG' i b hi) (fun id h=>h)).join I (fun id' h1 h2=>by
         simp only[refsL,List.nodup_append]at hn
         exact hn.2.2 id' (by simpa[refs]using h1) id' h2 rfl) (fun b h1 ⟨i,h2⟩=>by have:=hD _ _ b h1 h2;omega)
        exact⟨_,J.weak (fun b h=>by rcases h with h|⟨i,h⟩;exact⟨0,h⟩;exact⟨i+1,h⟩) (fun id h=>by simpa[refsL,refs]using h)⟩
   |_=>exact skip h
  |_=>exact skip (by cases t<;>exact h)
theorem goes_callW(H:CtxOK P C)(hG:∀w,N.gi w→C.gi w)(R:RelE N W base w0 s m bv hd fp Fr a w){o:Oper}(hdst:∀d,o.dst=some d→N.ok d){c:Call}{f:Operand}{g:FuncId}{cap:List SV}{ts outs:List T}{res:T}{mw:List (Nat×Option MO)}{fpl:List Nat}(h:o.op= .call c)(hc:c.callee= .value f)
 (hf:opnd s f= .clo g cap) (ht:all2 (rbo m 4) (c.args.toList.map (opnd s)++cap) ts) (hn:nodupN (refsL (refs 4) (c.args.toList.map (opnd s)++cap))=true) (hw:C.cw g ts res outs) (hb:effK.backs m (c.args.toList.map (opnd s)++cap) outs=some mw) (hs:res.scalar=true)
 (hk:∀id∈refsL (refs 4) (c.args.toList.map (opnd s)++cap),id∈keys mw):Goes P N W base w0 s m o ⟨.t res,mw,fpl,[]⟩ a w:=by
 obtain⟨he,hlo,hcall⟩:=H.cw g ts res outs hw
 have hv:=opnd_rel R f
 rw[hf]at hv
 generalize hev:a.eval f=v at hv
 cases hv with
 |clo _ _ caps hl hr=>
  obtain⟨h1,h2⟩:=args_rel R c hl hr
  obtain⟨h3,h4⟩:=all2_get ht
  have hnd:=nodupN_iff.1 hn
  generalize hsv:c.args.toList.map (opnd s)++cap=svs at*
  generalize hvv:c.args.toList.map a.eval++caps=vs at*
  let G:Nat→Nat→Prop:=fun i b=>∃sv,svs[i]? =some sv∧∃id∈refs 4 sv,m id≠none∧fp id b
  have hGr:∀i b,G i b→∃id∈refsL (refs 4) svs,m id≠none∧fp id b:=fun i b ⟨sv,e1,id,e2,e3,e4⟩=>⟨id,refsL_mem.2 ⟨sv,List.mem_of_getElem? e1,e2⟩,e3,e4⟩
  have hD:∀i j b,G i b→G j b→i=j:=by
   rintro i j b ⟨x,hx,id,e1,e2,e3⟩ ⟨y,hy,id',e4,e5,e6⟩
   have:=R.mem.apart id id' b e2 e5 e3 e6
   subst this
   exact refsL_apart hnd hx hy e1 e4
  have hgi:∀w2,BelowW (fun b=>∃i,G i b) w.heap.size w w2→C.gi w2:=fun w2 hb2=>hG _ (R.inv _ ⟨hb2.os.trans R.below.os,hb2.tape.trans R.below.tape,hb2.output.trans R.below.output,Nat.le_trans R.below.size hb2.size,fun q hq hW=>by
   rw[hb2.block q (Nat.lt_of_lt_of_le hq R.base_le) (fun⟨i,hi⟩=>by
    obtain⟨id,_,e3,e4⟩:=hGr i q hi
    rcases(R.mem.own id q e3 e4).1 with h|h
    ·omega
    ·exact hW h)]
   exact R.below.block q hq hW⟩)
  have hC:=hcall w vs G hgi (by rw[h1,h3]) hD (fun i b hb=>by obtain⟨id,_,e3,e4⟩:=hGr i b hb;exact(R.mem.own id b e3 e4).2.1) (fun i v t e1 e2=>by
   have li:i<svs.length:=by rw[←h1];exact(List.getElem?_eq_some_iff.1 e1).1
   have hx:=List.getElem?_eq_getElem li
   have hrb:=h4 i _ _ hx e2
   exact(rbo_own R.mem 4 _ v t (h2 i v _ e1 hx) hrb (refsL_nodup hnd (List.getElem_mem li))).mono (fun b ⟨id,e3,e4⟩=>⟨_,hx,id,e3,rbo_live 4 _ t hrb id e3,e4⟩) (fun _ _=>rfl))
  intro K Q hK
  unfold Oper.wp
  rw[run_call he h hc hev,Oper.upon_enter]
  rw[hvv]
  intro cs
  obtain⟨e,w',fr,⟨v,rfl,hres,hbel,G',hD',hG',hown⟩,hcomes,hfn,hleave⟩:=hC cs
  refine⟨.returned v,w',fr, ?_,hcomes,hfn,hleave⟩
  obtain⟨fN,I⟩:=backs_ok (w':=w') (n:=2) svs outs vs G' mw hb h1 h2 hD' hown hnd
  have hkeep:∀b,b<w.heap.size→(∀id∈keys mw,m id≠none→¬fp id b)→w'.heap[b]? =w.heap[b]? :=by
   intro b hb hno
   refine hbel.block b hb ?_
   rintro⟨i,hi⟩
   obtain⟨id,e1,e2,e3⟩:=hGr i b hi
   exact hno id (hk id e1) e2 e3
  have hin:∀id,id∈keys mw→∃ver sz rows rows0,updM m mw id=some (.row ver sz rows)∧m id=some (.row ver sz rows0)∧Owns w' (fN id) (hd id) (.sl sz rows):=by
   intro id hid
   obtain⟨ver,sz,rows,r0,e,e2,ho⟩:=I.row id _ (look_mem (d:=m id) hid)
   exact⟨ver,sz,rows,r0,e,e2,ho⟩
  have hout:∀id,id∉keys mw→updM m mw id=m id:=fun id h=>look_not h
  have hfN:∀id b,fN id b→((∃id'∈keys mw,m id'≠none∧fp id' b)∨w.heap.size≤b)∧b<w'.heap.size:=by
   intro id b hb
   obtain⟨i,hi⟩:=I.sub id b hb
   obtain⟨h6,h7⟩:=hG' i b hi
   refine⟨?_,h7⟩
   rcases h6 with⟨j,hj⟩|h6
   ·obtain⟨id',e1,e2,e3⟩:=hGr j b hj
    exact .inl ⟨id',hk id' e1,e2,e3⟩
   ·exact .inr h6
  have k:Keeps w w' Fr Fr m (updM m mw) bv bv hd hd []:=by
   refine⟨fun _ h=>h,fun b hb=>hkeep b (R.mem.fr b hb) (fun id _ e2 e3=>(R.mem.own id b e2 e3).2.2 hb),fun id ver sz rows h=> ?_,fun id l h=> ?_⟩
   ·by_cases hid:id∈keys mw
    ·obtain⟨v',sz',r',r0,e1,e2,_⟩:=hin id hid
     rw[e1]at h;cases h
     exact .inl ⟨r0,asRow_row e2,rfl⟩
    ·rw[hout id hid]at h;exact .inl ⟨rows,h,rfl⟩
   ·by_cases hid:id∈keys mw
    ·obtain⟨v',sz',r',r0,e1,e2,_⟩:=hin id hid
     rw[e1]at h;cases h
    ·rw[hout id hid]at h;exact .inl ⟨l,h,rfl⟩
  let fp':=fun id=>if id∈keys mw then fN id else fp id
  have M':MemOK W base (updM m mw) bv hd fp' Fr w':=by
   refine R.mem.change k (fun _ _ _=> .inl rfl) hbel.size (fun id=>id∈keys mw) (fun id hA=>⟨hout id hA,rfl,rfl,by simp[fp',hA],fun b e2 e3=>hkeep b (R.mem.own id b e2 e3).2.1 (fun id' e4 e5 e6=>hA (R.mem.apart id id' b e2 e5 e3 e6▸e4))⟩) (fun id hA l h=> ?_) (fun id hA ver sz rs h=> ?_) (fun id hA ver sz rs q l h=> ?_) (fun id id' b hA e1 e2 e3 e4=> ?_) (fun id b hA e1 e2=> ?_) (fun id _=>full_of k R.mem (fun _ h=>by cases h) id)
   ·obtain⟨v',sz',r',r0,e1,e2,_⟩:=hin id hA
    rw[e1]at h;cases h
   ·obtain⟨v',sz',r',r0,e1,e2,ho⟩:=hin id hA
    rw[e1]at h;cases h
    simp only[fp',hA,if_true];exact ho
   ·obtain⟨v',sz',r',r0,e1,e2,_⟩:=hin id hA
    rw[e1]at h;cases h
   ·simp only[fp',hA,if_true]at e3
    by_cases hid:id'∈keys mw
    ·simp only[fp',hid,if_true]at e4
     exact I.dis id id' b e3 e4
    ·simp only[fp',hid,if_false]at e4
     rw[hout id' hid]at e2
     rcases(hfN id b e3).1 with⟨id2,e5,e6,e7⟩|e5
     ·exact absurd (R.mem.apart id2 id' b e6 e2 e7 e4▸e5) hid
     ·have:=(R.mem.own id' b e2 e4).2.1;omega
   ·simp only[fp',hA,if_true]at e2
    obtain⟨e4,e8⟩:=hfN id b e2
    rcases e4 with⟨id2,e5,e6,e7⟩|e5
    ·obtain⟨q1,q2,q3⟩:=R.mem.own id2 b e6 e7
     exact⟨q1,e8,q3⟩
    ·exact⟨.inl (Nat.le_trans R.base_le e5),e8,fun hfr=>by have:=R.mem.fr b hfr;omega⟩
  have bel:BelowW W base w0 w':=by
   refine⟨hbel.os.trans R.below.os,hbel.tape.trans R.below.tape,hbel.output.trans R.below.output,Nat.le_trans R.below.size hbel.size,fun q hq hW=> ?_⟩
   rw[hkeep q (Nat.lt_of_lt_of_le hq R.base_le) (fun id _ e2 e3=> ?_)]
   ·exact R.below.block q hq hW
   ·rcases(R.mem.own id q e2 e3).1 with h|h
    ·omega
    ·exact hW h
  exact hK _ _ ⟨bv,hd,fp',Fr,put_rel R k (fun t=> .inl rfl) bel (Nat.le_trans R.base_le hbel.size) M' R.bnd o.dst hdst (.t _ _ ((hres.reads.owns_scalar hs w' Fr).reads))⟩
theorem plain_reads(M:MemOK W base m bv hd fp Fr w):∀(n:Nat) (sv:SV) (v:Value) (t:T),VRel w Fr m bv hd sv v→rb m n sv t→plainS n sv=true→Reads w (fun b=>Fr b∨∃j∈refs n sv,m j≠none∧fp j b) v t
 |0,_,_,_,_,h,_=>h.elim
 |n+1,sv,v,t,hv,h,hp=>by
  cases hv with
  |t x v hr=>
   simp only[rb]at h
   subst h
   exact hr.mono (fun b hb=> .inl hb) (fun _ _=>rfl)
  |fs z r v hr _=>
   cases t<;>simp only[rb]at h
   obtain⟨rfl,rfl⟩:=h
   exact hr.mono (fun b hb=> .inl hb) (fun _ _=>rfl)
  |nil ad=>
   cases t<;>simp only[rb]at h
   subst h
   exact .sl0 _ _ _
  |ref id ver v sh hh=>
   cases t<;>simp only[rb]at h
   rename_i sz rows
   cases hm:m id with
   |none=>simp[hm]at h
   |some ob=>
    cases ob with
    |var l=>simp[hm]at h
    |rowv ver0 sz0 rows0 q0 l0=>simp[hm]at h
    |row ver' sz' rows'=>
     simp only[hm]at h
     obtain⟨h1,rfl,rfl⟩:=bcond_false h
     obtain rfl:=beqN h1
     rw[hh _ _ (asRow_row hm)]
     exact(M.rows id _ _ _ hm).reads.mono (fun b hb=> .inr ⟨id,by simp[refs],by simp[hm],hb⟩) (fun _ _=>rfl)
  |agg l cs hl hr=>
   cases t<;>simp only[rb]at h
   simp only[plainS,List.all_eq_true]at hp
   obtain⟨h3,h4⟩:=all2_get h
   refine .agg cs _ (by omega) fun i v t h5 h6=> ?_
   have li:i<l.length:=by have:=(List.getElem?_eq_some_iff.1 h5).1;omega
   have hx:=List.getElem?_eq_getElem li
   refine(plain_reads M n _ v t (hr i v _ h5 hx) (h4 i _ _ hx h6) (hp _ (List.getElem_mem li))).mono (fun b hb=> ?_) (fun _ _=>rfl)
   rcases hb with hb|⟨j,hj,hb⟩
   ·exact .inl hb
   ·exact .inr ⟨j,by simp only[refs];exact refsL_mem.2 ⟨_,List.getElem_mem li,hj⟩,hb⟩
  |clo f l cs hl hr=>
   cases t<;>simp only[rb]at h
   rename_i g us
   obtain⟨rfl,h⟩:=h
   simp only[plainS,List.all_eq_true]at hp
   obtain⟨h3,h4⟩:=all2_get h
   refine .clo _ cs _ (by omega) fun i v t h5 h6=> ?_
   have li:i<l.length:=by have:=(List.getElem?_eq_some_iff.1 h5).1;omega
   have hx:=List.getElem?_eq_getElem li
   refine(plain_reads M n _ v t (hr i v _ h5 hx) (h4 i _ _ hx h6) (hp _ (List.getElem_mem li))).mono (fun b hb=> ?_) (fun _ _=>rfl)
   rcases hb with hb|⟨j,hj,hb⟩
   ·exact .inl hb
   ·exact .inr ⟨j,by simp only[refs];exact refsL_mem.2 ⟨_,List.getElem_mem li,hj⟩,hb⟩
  |_=>simp[plainS]at hp
theorem plain_args(M:MemOK W base m bv hd fp Fr w){vs:List Value}{svs:List SV}{ts:List T}(h1:vs.length=svs.length)(h2:∀(i:Nat) v sv,vs[i]? =some v→svs[i]? =some sv→VRel w Fr m bv hd sv v)(ht:all2 (rb m 4) svs ts)(hp:svs.all (plainS 4)=true):
 vs.length=ts.length∧∀(i:Nat) v t,vs[i]? =some v→ts[i]? =some t→Reads w (fun b=>Fr b∨∃j∈refsL (refs 4) svs,m j≠none∧fp j b) v t:=by
 obtain⟨h3,h4⟩:=all2_get ht
 refine⟨by omega,fun i v t e1 e2=> ?_⟩
 have li:i<svs.length:=by have:=(List.getElem?_eq_some_iff.1 e1).1;omega
 have hx:=List.getElem?_eq_getElem li
 refine(plain_reads M 4 _ v t (h2 i v _ e1 hx) (h4 i _ _ hx e2) (List.all_eq_true.1 hp _ (List.getElem_mem li))).mono (fun b hb=> ?_) (fun _ _=>rfl)
 rcases hb with hb|⟨j,hj,hb⟩
 ·exact .inl hb
 ·exact .inr ⟨j,refsL_mem.2 ⟨_,List.getElem_mem li,hj⟩,hb⟩
theorem cons_args{vs:List Value}{svs r:List SV}{x:SV}(hl:vs.length=svs.length)(e:svs=x::r)(h:∀(i:Nat) v sv,vs[i]? =some v→svs[i]? =some sv→VRel w Fr m bv hd sv v):
 ∃v0 vs',vs=v0::vs'∧VRel w Fr m bv hd x v0∧vs'.length=r.length∧∀(i:Nat) v sv,vs'[i]? =some v→r[i]? =some sv→VRel w Fr m bv hd sv v:=by
 subst e
 cases vs with
 |nil=>simp at hl
 |cons v0 vs'=>exact⟨v0,vs',rfl,h 0 v0 x rfl rfl,by simpa using hl,fun i v sv h1 h2=>h (i+1) v sv (by simpa using h1) (by simpa using h2)⟩
theorem updM_app{mw mw':List (Nat×Option MO)}(id:Nat):updM m (mw++mw') id=updM (updM m mw') mw id:=by
 unfold updM
 rw[look_app']
where
 look_app' {α:Type} {l r:List (Nat×α)} {k:Nat} {d:α}:look (l++r) k d=look l k (look r k d):=by
  induction l with
  |nil=>rfl
  |cons p l ih=>obtain⟨j,v⟩:=p;simp only[List.cons_append,look,ih]
theorem goes_callP(H:CtxOK P C)(hG:∀w,N.gi w→C.gi w)(R:RelE N W base w0 s m bv hd fp Fr a w){o:Oper}(hdst:∀d,o.dst=some d→N.ok d){c:Call}{f:Operand}{g:FuncId}{cap r l:List SV}{pid:Nat}{l0 ts l1:List T}{res:T}{fpl:List Nat}(h:o.op= .call c)(hc:c.callee= .value f)(hf:opnd s f= .clo g cap)
 (hv:c.args.toList.map (opnd s)++cap= .ptr pid 0::r) (hm:m pid=some (.var l)) (hl:l=l0.map SV.t) (ht:all2 (rb m 4) r ts) (hp:r.all (plainS 4)=true) (hid:pid∉refsL (refs 4) r) (hw:CallP P C.gi g l0 ts res l1) (hi:impOK res=true)
 (hfresh:∀id∈keys (imp (o.dst.getD 0) res).2,m id=none) (hn:(keys (imp (o.dst.getD 0) res).2).Nodup) (cl:Clean s m (toks (imp (o.dst.getD 0) res).2)):
 Goes P N W base w0 s m o ⟨(imp (o.dst.getD 0) res).1,(pid,some (.var (l1.map SV.t)))::((imp (o.dst.getD 0) res).2++(refsL (refs 4) r).map fun j=>(j,none)),fpl,toks (imp (o.dst.getD 0) res).2⟩ a w:=by
 obtain⟨he,hcall⟩:=hw
 have hvf:=opnd_rel R f
 rw[hf]at hvf
 generalize hev:a.eval f=vf at hvf
 cases hvf with
 |clo _ _ caps hlc hrc=>
  obtain⟨h1,h2⟩:=args_rel R c hlc hrc
  obtain⟨v0,vs,hvs,hv0,hvl,hvr⟩:=cons_args h1 hv h2
  obtain⟨htl,htr⟩:=plain_args R.mem hvl hvr ht hp
  have ev0:v0= .pointer (some ⟨bv pid,0,none⟩):=by
   cases hv0 with
   |ptr _ _ _ _ hh=>exact hh _ hm
  obtain⟨hfb,us,el,hh,hlen,hrel⟩:=R.mem.vars pid l hm
  have hpn:m pid≠none:=by simp[hm]
  obtain⟨o1,o2,o3⟩:=R.mem.own pid (bv pid) hpn hfb
  subst ev0
  generalize hgone:refsL (refs 4) r=gone at*
  let Fr1:Nat→Prop:=fun b=>Fr b∨∃j∈gone,m j≠none∧fp j b
  have hb1:¬Fr1 (bv pid):=by
   rintro(h|⟨j,h3,h4,h5⟩)
   ·exact o3 h
   ·exact hid (R.mem.apart j pid _ h4 hpn h5 hfb▸h3)
  have hlt1:∀x,Fr1 x→x<w.heap.size:=by
   rintro x (h|⟨j,h3,h4,h5⟩)
   ·exact R.mem.fr x h
   ·exact(R.mem.own j x h4 h5).2.1
  have hgi:∀w2,BelowW (fun x=>x=bv pid) w.heap.size w w2→C.gi w2:=fun w2 hb2=>hG _ (R.inv _ ⟨hb2.os.trans R.below.os,hb2.tape.trans R.below.tape,hb2.output.trans R.below.output,Nat.le_trans R.below.size hb2.size,fun q hq hW=>by
   rw[hb2.block q (Nat.lt_of_lt_of_le hq R.base_le) (fun e=>by
    rcases o1 with h|h
    ·omega
    ·exact hW (e▸h))]
   exact R.below.block q hq hW⟩)
  have hC:=hcall w (bv pid) vs Fr1 hgi o2 hb1 hlt1 htl ⟨us,el,hh,by rw[hlen,hl];simp,fun i v t e1 e2=>by
   have:=hrel i v (.t t) e1 (by rw[hl,List.getElem?_map,e2];rfl)
   exact this.reads.mono (fun b hb=> .inl hb) (fun _ _=>rfl)⟩ htr
  intro K Q hK
  unfold Oper.wp
  rw[run_call he h hc hev,Oper.upon_enter]
  rw[hvs]
  intro cs
  obtain⟨e,w',fr,⟨v,F,Fr',rfl,hown,hF,hbel,hFr',us',el',hh',hlen',hrd'⟩,hcomes,hfn,hleave⟩:=hC cs
  refine⟨.returned v,w',fr, ?_,hcomes,hfn,hleave⟩
  obtain⟨hN,fN,I,hT⟩:=imp_ok (o.dst.getD 0) hown hi hn
  generalize himp:imp (o.dst.getD 0) res=ip at*
  have hkeep:∀x,x<w.heap.size→x≠bv pid→w'.heap[x]? =w.heap[x]? :=fun x hx hne=>hbel.block x hx hne
  have hnk:pid∉keys ip.2:=fun e=>hpn (hfresh _ e)
  --the new memory
  let m2:=updM m ((pid,some (.var (l1.map SV.t)))::(ip.2++gone.map fun j=>(j,none)))
  let hd2:Nat→Value:=fun id=>if id∈keys ip.2 then hN id else hd id
  let fp2:Nat→Nat→Prop:=fun id=>if id∈keys ip.2 then fN id else if id=pid then fun x=>x=bv pid else fp id
  let Fr2:Nat→Prop:=fun b=>Fr1 b∨Fr' b
  have m2p:m2 pid=some (.var (l1.map SV.t)):=by show updM m (_::_) pid=_;rw[updM_cons];simp
  have m2i:∀id,id∈keys ip.2→id≠pid∧∃sz rows,m2 id=some (.row 0 sz rows)∧Owns w' (fN id) (hN id) (.sl sz rows):=by
   intro id hk
   have hne:id≠pid:=fun e=>hnk (e▸hk)
   refine⟨hne, ?_⟩
   obtain⟨sz,rows,e,ho⟩:=I.row id _ (look_mem (d:=updM m (gone.map fun j=>(j,none)) id) hk)
   exact⟨sz,rows,by show updM m (_::_) id=_;rw[updM_cons,if_neg hne,updM_app];exact e,ho⟩
  have m2o:∀id,id∉keys ip.2→id≠pid→m2 id=if id∈gone then none else m id:=by
   intro id hk hne
   show updM m (_::_) id=_
   rw[updM_cons,if_neg hne,updM_app]
   have:updM (updM m (gone.map fun j=>(j,none))) ip.2 id=updM m (gone.map fun j=>(j,none)) id:=look_not hk
   rw[this,updM_none]
  have live:∀id,m2 id≠none→id∉keys ip.2→id≠pid→id∉gone∧m id≠none∧m2 id=m id:=by
   intro id hne hk hp'
   have:=m2o id hk hp'
   by_cases hg:id∈gone
   ·rw[if_pos hg]at this;exact absurd this hne
   ·rw[if_neg hg]at this;exact⟨hg,this▸hne,this⟩
  have k:Keeps w w' Fr Fr2 m m2 bv bv hd hd2 (toks ip.2):=by
   refine⟨fun b hb=> .inl (.inl hb),fun b hb=>hkeep b (R.mem.fr b hb) (fun e=>o3 (e▸hb)),fun id ver sz rows h=> ?_,fun id l' h=> ?_⟩
   ·by_cases hk:id∈keys ip.2
    ·obtain⟨_,sz',rows',e1,_⟩:=m2i id hk
     rw[e1]at h;cases h
     exact .inr (toks_mem' hk)
    ·by_cases hp':id=pid
     ·rw[hp',m2p]at h;cases h
     ·obtain⟨_,_,e⟩:=live id (asRow_ne h) hk hp'
      exact .inl ⟨rows,by rw[←e];exact h,by simp[hd2,hk]⟩
   ·by_cases hk:id∈keys ip.2
    ·obtain⟨_,sz',rows',e1,_⟩:=m2i id hk
     rw[e1]at h;cases h
    ·by_cases hp':id=pid
     ·exact .inl ⟨l,by rw[hp'];exact hm,rfl⟩
     ·obtain⟨_,_,e⟩:=live id (by rw[h];simp) hk hp'
      exact .inl ⟨l',by rw[←e];exact h,rfl⟩
  have fpn:∀id b,id∈keys ip.2→fp2 id b→F b:=fun id b hk h=>by
   simp only[fp2,hk,if_true]at h;exact I.sub id b h
  have fpo:∀id b,id∉keys ip.2→id≠pid→fp2 id b→fp id b:=fun id b hk hp' h=>by
   simpa[fp2,hk,hp']using h
  have fpp:∀b,fp2 pid b→b=bv pid:=fun b h=>by simpa[fp2,hnk]using h
  have M':MemOK W base m2 bv hd2 fp2 Fr2 w':=by
   refine⟨fun id l' h=> ?_,fun id ver sz rows h=> ?_,fun id ver sz rows q l' h=> ?_,fun id id' b e1 e2 e3 e4=> ?_,fun id b e1 e2=> ?_,fun b hb=> ?_,full_of k R.mem (fun _ h=>toks_no h)⟩
   ·by_cases hk:id∈keys ip.2
    ·obtain⟨_,sz',rows',e1,_⟩:=m2i id hk
     rw[e1]at h;cases h
    ·by_cases hp':id=pid
     ·subst hp'
      rw[m2p]at h;cases h
      refine⟨by simp[fp2,hnk],us',el',hh',by simpa using hlen',fun i v sv e1 e2=> ?_⟩
      rw[List.getElem?_map,Option.map_eq_some_iff]at e2
      obtain⟨t,e2,rfl⟩:=e2
      exact .t _ _ ((hrd' i v t e1 e2).mono (fun b hb=> .inr hb) (fun _ _=>rfl))
     ·obtain⟨_,hne,e⟩:=live id (by rw[h];simp) hk hp'
      rw[e]at h
      obtain⟨q1,cs',el2,q2,q3,q4⟩:=R.mem.vars id l' h
      have hbne:bv id≠bv pid:=fun e=>hp' (R.mem.apart id pid (bv id) hne hpn q1 (e▸hfb))
      exact⟨by simpa[fp2,hk,hp']using q1,cs',el2,by rw[hkeep _ (R.mem.own id _ hne q1).2.1 hbne];exact q2,q3,fun i v sv e1 e2=>(q4 i v sv e1 e2).stepC k (cl.m id sv (by rw[h];exact List.mem_of_getElem? e2))⟩
   ·by_cases hk:id∈keys ip.2
    ·obtain⟨_,sz',rows',e1,ho⟩:=m2i id hk
     rw[e1]at h;cases h
     simp only[fp2,hd2,hk,if_true];exact ho
    ·by_cases hp':id=pid
     ·rw[hp',m2p]at h;cases h
     ·obtain⟨_,hne,e⟩:=live id (by rw[h];simp) hk hp'
      rw[e]at h
      have e1:hd2 id=hd id:=by simp[hd2,hk]
      rw[e1]
      exact(R.mem.rows id ver sz rows h).mono (fun b hb=>by simpa[fp2,hk,hp']using hb) (fun b hb=>hkeep b (R.mem.own id b hne hb).2.1 (fun e=>hp' (R.mem.apart id pid b hne hpn hb (e▸hfb))))
   ·by_cases hk:id∈keys ip.2
    ·obtain⟨_,sz',rows',e1,_⟩:=m2i id hk
     rw[e1]at h;cases h
    ·by_cases hp':id=pid
     ·rw[hp',m2p]at h;cases h
     ·obtain⟨_,hne,e⟩:=live id (by rw[h];simp) hk hp'
      rw[e]at h
      have e1:hd2 id=hd id:=by simp[hd2,hk]
      rw[e1]
      exact(R.mem.rowv id ver sz rows q l' h).keep k (fun b hb=>by simpa[fp2,hk,hp']using hb) (fun b hb=>hkeep b (R.mem.own id b hne hb).2.1 (fun e=>hp' (R.mem.apart id pid b hne hpn hb (e▸hfb)))) (fun s hs=>cl.m id s (by rw[h];exact hs))
   ·have cls:∀id,m2 id≠none→(id∈keys ip.2)∨(id∉keys ip.2∧id=pid)∨(id∉keys ip.2∧id≠pid∧m id≠none):=by
     intro id hne
     by_cases hk:id∈keys ip.2
     ·exact .inl hk
     ·by_cases hp':id=pid
      ·exact .inr (.inl ⟨hk,hp'⟩)
      ·exact .inr (.inr ⟨hk,hp',(live id hne hk hp').2.1⟩)
    rcases cls id e1 with hk|⟨hk,hp'⟩|⟨hk,hp',hl1⟩<;>rcases cls id' e2 with hk'|⟨hk',hp''⟩|⟨hk',hp'',hl2⟩
    ·simp only[fp2,hk,hk',if_true]at e3 e4;exact I.dis id id' b e3 e4
    ·subst hp'';have:=(hF b (fpn id b hk e3)).1;have:=fpp b e4;omega
    ·have:=(hF b (fpn id b hk e3)).1;have:=(R.mem.own id' b hl2 (fpo id' b hk' hp'' e4)).2.1;omega
    ·subst hp';have:=(hF b (fpn id' b hk' e4)).1;have:=fpp b e3;omega
    ·rw[hp',hp'']
    ·subst hp';exact(R.mem.apart id' id b hl2 hpn (fpo id' b hk' hp'' e4) (fpp b e3▸hfb)).symm
    ·have:=(hF b (fpn id' b hk' e4)).1;have:=(R.mem.own id b hl1 (fpo id b hk hp' e3)).2.1;omega
    ·subst hp'';exact R.mem.apart id id' b hl1 hpn (fpo id b hk hp' e3) (fpp b e4▸hfb)
    ·exact R.mem.apart id id' b hl1 hl2 (fpo id b hk hp' e3) (fpo id' b hk' hp'' e4)
   ·by_cases hk:id∈keys ip.2
    ·obtain⟨q1,q2,q3⟩:=hF b (fpn id b hk e2)
     refine⟨.inl (Nat.le_trans R.base_le q1),q2, ?_⟩
     rintro(h|h)
     ·have:=hlt1 b h;omega
     ·exact q3 h
    ·by_cases hp':id=pid
     ·subst hp'
      have:=fpp b e2
      subst this
      refine⟨o1,Nat.lt_of_lt_of_le o2 hbel.size, ?_⟩
      rintro(h|h)
      ·exact hb1 h
      ·exact(hFr' _ h).2.2 rfl
     ·obtain⟨hg,hne,_⟩:=live id e1 hk hp'
      have hb:=fpo id b hk hp' e2
      obtain⟨q1,q2,q3⟩:=R.mem.own id b hne hb
      have hn1:¬Fr1 b:=by
       rintro(h|⟨j,h3,h4,h5⟩)
       ·exact q3 h
       ·exact hg (R.mem.apart j id b h4 hne h5 hb▸h3)
      refine⟨q1,Nat.lt_of_lt_of_le q2 hbel.size, ?_⟩
      rintro(h|h)
      ·exact hn1 h
      ·rcases(hFr' b h).1 with h|h
       ·exact hn1 h
       ·omega
   ·rcases hb with h|h
    ·exact Nat.lt_of_lt_of_le (hlt1 b h) hbel.size
    ·exact(hFr' b h).2.1
  have hbd1:∀b,Fr1 b→N.fr b∨base≤b∨W b:=by
   rintro b (h|⟨j,h3,h4,h5⟩)
   ·exact R.bnd b h
   ·exact .inr (R.mem.own j b h4 h5).1
  have hbd:∀b,Fr2 b→N.fr b∨base≤b∨W b:=by
   rintro b (h|h)
   ·exact hbd1 b h
   ·rcases(hFr' b h).1 with h|h
    ·exact hbd1 b h
    ·exact .inr (.inl (Nat.le_trans R.base_le h))
  have bel:BelowW W base w0 w':=by
   refine⟨hbel.os.trans R.below.os,hbel.tape.trans R.below.tape,hbel.output.trans R.below.output,Nat.le_trans R.below.size hbel.size,fun q hq hW=> ?_⟩
   rw[hkeep q (Nat.lt_of_lt_of_le hq R.base_le) (fun e=>by
    rcases o1 with h|h
    ·omega
    ·exact hW (e▸h))]
   exact R.below.block q hq hW
  exact hK _ _ ⟨bv,hd2,fp2,Fr2,put_rel R k cl.s bel (Nat.le_trans R.base_le hbel.size) M' hbd o.dst hdst (hT Fr2 _ bv hd2 (fun id hk=>by simp[hd2,hk]))⟩
where
 toks_mem' {l:List (Nat×Option MO)} {id:Nat} (h:id∈keys l):(id,0)∈toks l:=by
  obtain⟨p,hp,rfl⟩:=List.mem_map.1 h
  exact List.mem_map.2 ⟨p,hp,rfl⟩
theorem goes_callT(H:CtxOK P C)(hG:∀w,N.gi w→C.gi w)(R:RelE N W base w0 s m bv hd fp Fr a w){o:Oper}(hdst:∀d,o.dst=some d→N.ok d){c:Call}{f:Operand}{g:FuncId}{cap r:List SV}{pid ver sz:Nat}{rows:List (List T)}{ts:List T}{res:T}{out:Option (List (List T))}{fpl:List Nat}(h:o.op= .call c)(hc:c.callee= .value f)(hf:opnd s f= .clo g cap)
 (hv:c.args.toList.map (opnd s)++cap= .ref pid ver::r) (hm:m pid=some (.row ver sz rows)) (ht:all2 (rb m 4) r ts) (hp:r.all (plainS 4)=true) (hid:pid∉refsL (refs 4) r) (hw:C.ct g sz rows ts res out) (hi:impOK res=true)
 (hfresh:∀id∈keys (imp (o.dst.getD 0) res).2,m id=none) (hn:(keys (imp (o.dst.getD 0) res).2).Nodup) (cl:Clean s m (toks (imp (o.dst.getD 0) res).2)):
 Goes P N W base w0 s m o ⟨(imp (o.dst.getD 0) res).1,(pid,out.map fun rs=> .row ver sz rs)::((imp (o.dst.getD 0) res).2++(refsL (refs 4) r).map fun j=>(j,none)),fpl,toks (imp (o.dst.getD 0) res).2⟩ a w:=by
 obtain⟨he,hcall⟩:=H.ct g sz rows ts res out hw
 have hvf:=opnd_rel R f
 rw[hf]at hvf
 generalize hev:a.eval f=vf at hvf
 cases hvf with
 |clo _ _ caps hlc hrc=>
  obtain⟨h1,h2⟩:=args_rel R c hlc hrc
  obtain⟨v0,vs,hvs,hv0,hvl,hvr⟩:=cons_args h1 hv h2
  obtain⟨htl,htr⟩:=plain_args R.mem hvl hvr ht hp
  have ev0:v0=hd pid:=by
   cases hv0 with
   |ref _ _ _ _ hh=>exact hh _ _ (asRow_row hm)
  have hown0:=R.mem.rows pid ver sz rows hm
  have hpn:m pid≠none:=by simp[hm]
  have oP:∀b,fp pid b→(base≤b∨W b)∧b<w.heap.size∧¬Fr b:=fun b hb=>R.mem.own pid b hpn hb
  subst ev0
  generalize hgone:refsL (refs 4) r=gone at*
  let Fr1:Nat→Prop:=fun b=>Fr b∨∃j∈gone,m j≠none∧fp j b
  have hb1:∀b,fp pid b→¬Fr1 b:=by
   rintro b hb (h|⟨j,h3,h4,h5⟩)
   ·exact(oP b hb).2.2 h
   ·exact hid (R.mem.apart j pid _ h4 hpn h5 hb▸h3)
  have hlt1:∀x,Fr1 x→x<w.heap.size:=by
   rintro x (h|⟨j,h3,h4,h5⟩)
   ·exact R.mem.fr x h
   ·exact(R.mem.own j x h4 h5).2.1
  have hgi:∀w2,BelowW (fp pid) w.heap.size w w2→C.gi w2:=fun w2 hb2=>hG _ (R.inv _ ⟨hb2.os.trans R.below.os,hb2.tape.trans R.below.tape,hb2.output.trans R.below.output,Nat.le_trans R.below.size hb2.size,fun q hq hW=>by
   rw[hb2.block q (Nat.lt_of_lt_of_le hq R.base_le) (fun e=>by
    rcases(oP q e).1 with h|h
    ·omega
    ·exact hW h)]
   exact R.below.block q hq hW⟩)
  have hC:=hcall w (hd pid) vs (fp pid) Fr1 hgi (fun b hb=>⟨(oP b hb).2.1,hb1 b hb⟩) hlt1 htl hown0 htr
  intro K Q hK
  unfold Oper.wp
  rw[run_call he h hc hev,Oper.upon_enter]
  rw[hvs]
  intro cs
  obtain⟨e,w',fr,⟨v,F,rfl,hown,hF,hbel,hout⟩,hcomes,hfn,hleave⟩:=hC cs
  refine⟨.returned v,w',fr, ?_,hcomes,hfn,hleave⟩
  obtain⟨hN,fN,I,hT⟩:=imp_ok (o.dst.getD 0) hown hi hn
  generalize himp:imp (o.dst.getD 0) res=ip at*
  have hkeep:∀x,x<w.heap.size→¬fp pid x→w'.heap[x]? =w.heap[x]? :=fun x hx hne=>hbel.block x hx hne
  have hnk:pid∉keys ip.2:=fun e=>hpn (hfresh _ e)
  let m2:=updM m ((pid,out.map fun rs=>MO.row ver sz rs)::(ip.2++gone.map fun j=>(j,none)))
  let hd2:Nat→Value:=fun id=>if id∈keys ip.2 then hN id else hd id
  let fp2:Nat→Nat→Prop:=fun id=>if id∈keys ip.2 then fN id else fp id
  have m2p:m2 pid=out.map fun rs=>MO.row ver sz rs:=by show updM m (_::_) pid=_;rw[updM_cons];simp
  have m2i:∀id,id∈keys ip.2→id≠pid∧∃sz rows,m2 id=some (.row 0 sz rows)∧Owns w' (fN id) (hN id) (.sl sz rows):=by
   intro id hk
   have hne:id≠pid:=fun e=>hnk (e▸hk)
   refine⟨hne, ?_⟩
   obtain⟨sz,rows,e,ho⟩:=I.row id _ (look_mem (d:=updM m (gone.map fun j=>(j,none)) id) hk)
   exact⟨sz,rows,by show updM m (_::_) id=_;rw[updM_cons,if_neg hne,updM_app];exact e,ho⟩
  have m2o:∀id,id∉keys ip.2→id≠pid→m2 id=if id∈gone then none else m id:=by
   intro id hk hne
   show updM m (_::_) id=_
   rw[updM_cons,if_neg hne,updM_app]
   have:updM (updM m (gone.map fun j=>(j,none))) ip.2 id=updM m (gone.map fun j=>(j,none)) id:=look_not hk
   rw[this,updM_none]
  have live:∀id,m2 id≠none→id∉keys ip.2→id≠pid→id∉gone∧m id≠none∧m2 id=m id:=by
   intro id hne hk hp'
   have:=m2o id hk hp'
   by_cases hg:id∈gone
   ·rw[if_pos hg]at this;exact absurd this hne
   ·rw[if_neg hg]at this;exact⟨hg,this▸hne,this⟩
  have pidRow:∀o',asRow (m2 pid)=some o'→∃rs,out=some rs∧o'= .row ver sz rs:=by
   intro o' e
   rw[m2p]at e
   cases ho:out with
   |none=>rw[ho]at e;cases e
   |some rs=>rw[ho]at e;cases e;exact⟨rs,rfl,rfl⟩
  have k:Keeps w w' Fr Fr1 m m2 bv bv hd hd2 (toks ip.2):=by
   refine⟨fun b hb=> .inl hb,fun b hb=>hkeep b (R.mem.fr b hb) (fun e=>(oP b e).2.2 hb),fun id ver' sz' rows' h=> ?_,fun id l' h=> ?_⟩
   ·by_cases hk:id∈keys ip.2
    ·obtain⟨_,sz',rows',e1,_⟩:=m2i id hk
     rw[e1]at h;cases h
     exact .inr (toks_mem' hk)
    ·by_cases hp':id=pid
     ·subst hp'
      obtain⟨rs,_,e⟩:=pidRow _ h
      cases e
      exact .inl ⟨rows,asRow_row hm,by simp[hd2,hk]⟩
     ·obtain⟨_,_,e⟩:=live id (asRow_ne h) hk hp'
      exact .inl ⟨rows',by rw[←e];exact h,by simp[hd2,hk]⟩
   ·by_cases hk:id∈keys ip.2
    ·obtain⟨_,sz',rows',e1,_⟩:=m2i id hk
     rw[e1]at h;cases h
    ·by_cases hp':id=pid
     ·subst hp'
      obtain⟨rs,_,e⟩:=pidRow _ (by rw[h];rfl)
      cases e
     ·obtain⟨_,_,e⟩:=live id (by rw[h];simp) hk hp'
      exact .inl ⟨l',by rw[←e];exact h,rfl⟩
  have fpn:∀id b,id∈keys ip.2→fp2 id b→F b:=fun id b hk h=>by
   simp only[fp2,hk,if_true]at h;exact I.sub id b h
  have fpo:∀id b,id∉keys ip.2→fp2 id b→fp id b:=fun id b hk h=>by
   simpa[fp2,hk]using h
  have M':MemOK W base m2 bv hd2 fp2 Fr1 w':=by
   refine⟨fun id l' h=> ?_,fun id ver' sz' rows' h=> ?_,fun id ver' sz' rows' q l' h=> ?_,fun id id' b e1 e2 e3 e4=> ?_,fun id b e1 e2=> ?_,fun b hb=>Nat.lt_of_lt_of_le (hlt1 b hb) hbel.size,full_of k R.mem (fun _ h=>toks_no h)⟩
   ·by_cases hk:id∈keys ip.2
    ·obtain⟨_,sz',rows',e1,_⟩:=m2i id hk
     rw[e1]at h;cases h
    ·by_cases hp':id=pid
     ·subst hp'
      obtain⟨rs,_,e⟩:=pidRow _ (by rw[h];rfl)
      cases e
     ·obtain⟨_,hne,e⟩:=live id (by rw[h];simp) hk hp'
      rw[e]at h
      obtain⟨q1,cs',el2,q2,q3,q4⟩:=R.mem.vars id l' h
      have hbne:¬fp pid (bv id):=fun e=>hp' (R.mem.apart id pid (bv id) hne hpn q1 e)
      exact⟨by simpa[fp2,hk]using q1,cs',el2,by rw[hkeep _ (R.mem.own id _ hne q1).2.1 hbne];exact q2,q3,fun i v sv e1 e2=>(q4 i v sv e1 e2).stepC k (cl.m id sv (by rw[h];exact List.mem_of_getElem? e2))⟩
   ·by_cases hk:id∈keys ip.2
    ·obtain⟨_,sz',rows',e1,ho⟩:=m2i id hk
     rw[e1]at h;cases h
     simp only[fp2,hd2,hk,if_true];exact ho
    ·have e1:hd2 id=hd id:=by simp[hd2,hk]
     have e2:fp2 id=fp id:=by simp[fp2,hk]
     rw[e1,e2]
     by_cases hp':id=pid
     ·subst hp'
      obtain⟨rs,eo,e⟩:=pidRow _ (asRow_row h)
      cases e
      exact hout _ eo
     ·obtain⟨_,hne,e⟩:=live id (by rw[h];simp) hk hp'
      rw[e]at h
      exact(R.mem.rows id ver' sz' rows' h).mono (fun b hb=>hb) (fun b hb=>hkeep b (R.mem.own id b hne hb).2.1 (fun e=>hp' (R.mem.apart id pid b hne hpn hb e)))
   ·by_cases hk:id∈keys ip.2
    ·obtain⟨_,sz',rows',e1,ho⟩:=m2i id hk
     rw[e1]at h;cases h
    ·have e1:hd2 id=hd id:=by simp[hd2,hk]
     have e2:fp2 id=fp id:=by simp[fp2,hk]
     rw[e1,e2]
     by_cases hp':id=pid
     ·subst hp'
      rw[m2p]at h
      cases ho:out with
      |none=>rw[ho]at h;cases h
      |some rs=>rw[ho]at h;cases h
     ·obtain⟨_,hne,e⟩:=live id (by rw[h];simp) hk hp'
      rw[e]at h
      exact(R.mem.rowv id ver' sz' rows' q l' h).keep k (fun b hb=>hb) (fun b hb=>hkeep b (R.mem.own id b hne hb).2.1 (fun e=>hp' (R.mem.apart id pid b hne hpn hb e))) (fun s hs=>cl.m id s (by rw[h];exact hs))
   ·have cls:∀id,m2 id≠none→(id∈keys ip.2)∨(id∉keys ip.2∧id=pid∧out≠none)∨(id∉keys ip.2∧id≠pid∧m id≠none):=by
     intro id hne
     by_cases hk:id∈keys ip.2
     ·exact .inl hk
     ·by_cases hp':id=pid
      ·refine .inr (.inl ⟨hk,hp',fun e=>hne ?_⟩)
       rw[hp',m2p,e];rfl
      ·exact .inr (.inr ⟨hk,hp',(live id hne hk hp').2.1⟩)
    have newold:∀id id' b,id∈keys ip.2→(id'∉keys ip.2∧id'=pid∧out≠none)∨(id'∉keys ip.2∧id'≠pid∧m id'≠none)→fp2 id b→fp2 id' b→False:=by
     intro id id' b hk h' e3 e4
     rcases(hF b (fpn id b hk e3)).1 with q|⟨q,qo⟩
     ·rcases h' with⟨hk',hp'',_⟩|⟨hk',hp'',hl2⟩
      ·subst hp'';have:=(oP b (fpo id' b hk' e4)).2.1;omega
      ·have:=(R.mem.own id' b hl2 (fpo id' b hk' e4)).2.1;omega
     ·rcases h' with⟨hk',hp'',ho⟩|⟨hk',hp'',hl2⟩
      ·exact ho qo
      ·exact hp'' (R.mem.apart id' pid b hl2 hpn (fpo id' b hk' e4) q)
    rcases cls id e1 with hk|hk<;>rcases cls id' e2 with hk'|hk'
    ·simp only[fp2,hk,hk',if_true]at e3 e4;exact I.dis id id' b e3 e4
    ·exact(newold id id' b hk hk' e3 e4).elim
    ·exact(newold id' id b hk' hk e4 e3).elim
    ·have l1:id∉keys ip.2∧m id≠none:=by
      rcases hk with⟨q1,q2,_⟩|⟨q1,_,q2⟩
      ·exact⟨q1,q2▸hpn⟩
      ·exact⟨q1,q2⟩
     have l2:id'∉keys ip.2∧m id'≠none:=by
      rcases hk' with⟨q1,q2,_⟩|⟨q1,_,q2⟩
      ·exact⟨q1,q2▸hpn⟩
      ·exact⟨q1,q2⟩
     exact R.mem.apart id id' b l1.2 l2.2 (fpo id b l1.1 e3) (fpo id' b l2.1 e4)
   ·by_cases hk:id∈keys ip.2
    ·obtain⟨q1,q2⟩:=hF b (fpn id b hk e2)
     rcases q1 with q1|⟨q1,_⟩
     ·exact⟨.inl (Nat.le_trans R.base_le q1),q2,fun h=>by have:=hlt1 b h;omega⟩
     ·exact⟨(oP b q1).1,q2,hb1 b q1⟩
    ·by_cases hp':id=pid
     ·subst hp'
      have hb:=fpo id b hk e2
      exact⟨(oP b hb).1,Nat.lt_of_lt_of_le (oP b hb).2.1 hbel.size,hb1 b hb⟩
     ·obtain⟨hg,hne,_⟩:=live id e1 hk hp'
      have hb:=fpo id b hk e2
      obtain⟨q1,q2,q3⟩:=R.mem.own id b hne hb
      refine⟨q1,Nat.lt_of_lt_of_le q2 hbel.size, ?_⟩
      rintro(h|⟨j,h3,h4,h5⟩)
      ·exact q3 h
      ·exact hg (R.mem.apart j id b h4 hne h5 hb▸h3)
  have hbd:∀b,Fr1 b→N.fr b∨base≤b∨W b:=by
   rintro b (h|⟨j,h3,h4,h5⟩)
   ·exact R.bnd b h
   ·exact .inr (R.mem.own j b h4 h5).1
  have bel:BelowW W base w0 w':=by
   refine⟨hbel.os.trans R.below.os,hbel.tape.trans R.below.tape,hbel.output.trans R.below.output,Nat.le_trans R.below.size hbel.size,fun q hq hW=> ?_⟩
   rw[hkeep q (Nat.lt_of_lt_of_le hq R.base_le) (fun e=>by
    rcases(oP q e).1 with h|h
    ·omega
    ·exact hW h)]
   exact R.below.block q hq hW
  exact hK _ _ ⟨bv,hd2,fp2,Fr1,put_rel R k cl.s bel (Nat.le_trans R.base_le hbel.size) M' hbd o.dst hdst (hT Fr1 _ bv hd2 (fun id hk=>by simp[hd2,hk]))⟩
where
 toks_mem' {l:List (Nat×Option MO)} {id:Nat} (h:id∈keys l):(id,0)∈toks l:=by
  obtain⟨p,hp,rfl⟩:=List.mem_map.1 h
  exact List.mem_map.2 ⟨p,hp,rfl⟩
theorem goes_callB(H:CtxOK P C)(hG:∀w,N.gi w→C.gi w)(R:RelE N W base w0 s m bv hd fp Fr a w){o:Oper}(hdst:∀d,o.dst=some d→N.ok d){c:Call}{f:Operand}{g:FuncId}{cap:List SV}{ts l1:List T}{fpl:List Nat}(h:o.op= .call c)(hc:c.callee= .value f)(hf:opnd s f= .clo g cap)
 (ht:all2 (rb m 4) (c.args.toList.map (opnd s)++cap) ts) (hp:(c.args.toList.map (opnd s)++cap).all (plainS 4)=true) (hw:C.cb g ts l1) (hfresh:m (o.dst.getD 0)=none) (cl:Clean s m [(o.dst.getD 0,0)]):
 Goes P N W base w0 s m o ⟨.ptr (o.dst.getD 0) 0,(o.dst.getD 0,some (.var (l1.map SV.t)))::(refsL (refs 4) (c.args.toList.map (opnd s)++cap)).map fun j=>(j,none),fpl,[(o.dst.getD 0,0)]⟩ a w:=by
 obtain⟨he,hcall⟩:=H.cb g ts l1 hw
 have hvf:=opnd_rel R f
 rw[hf]at hvf
 generalize hev:a.eval f=vf at hvf
 cases hvf with
 |clo _ _ caps hlc hrc=>
  obtain⟨h1,h2⟩:=args_rel R c hlc hrc
  obtain⟨htl,htr⟩:=plain_args R.mem h1 h2 ht hp
  generalize hgone:refsL (refs 4) (c.args.toList.map (opnd s)++cap)=gone at*
  let Fr1:Nat→Prop:=fun b=>Fr b∨∃j∈gone,m j≠none∧fp j b
  have hlt1:∀x,Fr1 x→x<w.heap.size:=by
   rintro x (h|⟨j,h3,h4,h5⟩)
   ·exact R.mem.fr x h
   ·exact(R.mem.own j x h4 h5).2.1
  have hC:=hcall w _ Fr1 (fun w2 h2=>hG _ (R.inv _ (BelowW.trans0 R.below h2 R.base_le))) hlt1 htl htr
  intro K Q hK
  unfold Oper.wp
  rw[run_call he h hc hev,Oper.upon_enter]
  intro cs
  obtain⟨e,w',fr,⟨b0,Fr',rfl,hb0,hb1,hbel,hFr',us',el',hh',hlen',hrd'⟩,hcomes,hfn,hleave⟩:=hC cs
  refine⟨.returned _,w',fr, ?_,hcomes,hfn,hleave⟩
  generalize hdd:o.dst.getD 0=d at*
  have hkeep:∀x,x<w.heap.size→w'.heap[x]? =w.heap[x]? :=fun x hx=>hbel.block x hx (fun h=>h)
  let m2:=updM m ((d,some (.var (l1.map SV.t)))::gone.map fun j=>(j,none))
  let bv2:Nat→Nat:=fun id=>if id=d then b0 else bv id
  let fp2:Nat→Nat→Prop:=fun id=>if id=d then fun x=>x=b0 else fp id
  let Fr2:Nat→Prop:=fun b=>Fr1 b∨Fr' b
  have m2p:m2 d=some (.var (l1.map SV.t)):=by show updM m (_::_) d=_;rw[updM_cons];simp
  have live:∀id,m2 id≠none→id≠d→id∉gone∧m id≠none∧m2 id=m id:=by
   intro id hne hp'
   have e:m2 id=if id∈gone then none else m id:=by
    show updM m (_::_) id=_
    rw[updM_cons,if_neg hp',updM_none]
   by_cases hg:id∈gone
   ·rw[if_pos hg]at e;exact absurd e hne
   ·rw[if_neg hg]at e;exact⟨hg,e▸hne,e⟩
  have k:Keeps w w' Fr Fr2 m m2 bv bv2 hd hd [(d,0)]:=by
   refine⟨fun b hb=> .inl (.inl hb),fun b hb=>hkeep b (R.mem.fr b hb),fun id ver sz rows h=> ?_,fun id l' h=> ?_⟩
   ·by_cases hp':id=d
    ·rw[hp',m2p]at h;cases h
    ·obtain⟨_,_,e⟩:=live id (asRow_ne h) hp'
     exact .inl ⟨rows,by rw[←e];exact h,rfl⟩
   ·by_cases hp':id=d
    ·exact .inr ⟨0,by simp[hp']⟩
    ·obtain⟨_,_,e⟩:=live id (by rw[h];simp) hp'
     exact .inl ⟨l',by rw[←e];exact h,by simp[bv2,hp']⟩
  have fpo:∀id b,id≠d→fp2 id b→fp id b:=fun id b hp' h=>by simpa[fp2,hp']using h
  have fpp:∀b,fp2 d b→b=b0:=fun b h=>by simpa[fp2]using h
  have M':MemOK W base m2 bv2 hd fp2 Fr2 w':=by
   refine⟨fun id l' h=> ?_,fun id ver sz rows h=> ?_,fun id ver sz rows q l' h=> ?_,fun id id' b e1 e2 e3 e4=> ?_,fun id b e1 e2=> ?_,fun b hb=> ?_,full_of k R.mem (fun _ h=>by simp at h)⟩
   ·by_cases hp':id=d
    ·subst hp'
     rw[m2p]at h;cases h
     refine⟨by simp[fp2,bv2],us',el',by simpa[bv2]using hh',by simpa using hlen',fun i v sv e1 e2=> ?_⟩
     rw[List.getElem?_map,Option.map_eq_some_iff]at e2
     obtain⟨t,e2,rfl⟩:=e2
     exact .t _ _ ((hrd' i v t e1 e2).mono (fun b hb=> .inr hb) (fun _ _=>rfl))
    ·obtain⟨_,hne,e⟩:=live id (by rw[h];simp) hp'
     rw[e]at h
     obtain⟨q1,cs',el2,q2,q3,q4⟩:=R.mem.vars id l' h
     have ebv:bv2 id=bv id:=by simp[bv2,hp']
     rw[ebv]
     exact⟨by simpa[fp2,hp']using q1,cs',el2,by rw[hkeep _ (R.mem.own id _ hne q1).2.1];exact q2,q3,fun i v sv e1 e2=>(q4 i v sv e1 e2).stepC k (cl.m id sv (by rw[h];exact List.mem_of_getElem? e2))⟩
   ·by_cases hp':id=d
    ·rw[hp',m2p]at h;cases h
    ·obtain⟨_,hne,e⟩:=live id (by rw[h];simp) hp'
     rw[e]at h
     exact(R.mem.rows id ver sz rows h).mono (fun b hb=>by simpa[fp2,hp']using hb) (fun b hb=>hkeep b (R.mem.own id b hne hb).2.1)
   ·by_cases hp':id=d
    ·rw[hp',m2p]at h;cases h
    ·obtain⟨_,hne,e⟩:=live id (by rw[h];simp) hp'
     rw[e]at h
     exact(R.mem.rowv id ver sz rows q l' h).keep k (fun b hb=>by simpa[fp2,hp']using hb) (fun b hb=>hkeep b (R.mem.own id b hne hb).2.1) (fun s hs=>cl.m id s (by rw[h];exact hs))
   ·by_cases hp':id=d<;>by_cases hp'':id'=d
    ·rw[hp',hp'']
    ·subst hp'
     have:=(R.mem.own id' b (live id' e2 hp'').2.1 (fpo id' b hp'' e4)).2.1;have:=fpp b e3;omega
    ·subst hp''
     have:=(R.mem.own id b (live id e1 hp').2.1 (fpo id b hp' e3)).2.1;have:=fpp b e4;omega
    ·exact R.mem.apart id id' b (live id e1 hp').2.1 (live id' e2 hp'').2.1 (fpo id b hp' e3) (fpo id' b hp'' e4)
   ·by_cases hp':id=d
    ·subst hp'
     have:=fpp b e2
     subst this
     refine⟨.inl (Nat.le_trans R.base_le hb0),hb1, ?_⟩
     rintro(h|h)
     ·have:=hlt1 _ h;omega
     ·exact(hFr' _ h).2.2 rfl
    ·obtain⟨hg,hne,_⟩:=live id e1 hp'
     have hb:=fpo id b hp' e2
     obtain⟨q1,q2,q3⟩:=R.mem.own id b hne hb
     have hn1:¬Fr1 b:=by
      rintro(h|⟨j,h3,h4,h5⟩)
      ·exact q3 h
      ·exact hg (R.mem.apart j id b h4 hne h5 hb▸h3)
     refine⟨q1,Nat.lt_of_lt_of_le q2 hbel.size, ?_⟩
     rintro(h|h)
     ·exact hn1 h
     ·rcases(hFr' b h).1 with h|h
      ·exact hn1 h
      ·omega
   ·rcases hb with h|h
    ·exact Nat.lt_of_lt_of_le (hlt1 b h) hbel.size
    ·exact(hFr' b h).2.1
  have hbd1:∀b,Fr1 b→N.fr b∨base≤b∨W b:=by
   rintro b (h|⟨j,h3,h4,h5⟩)
   ·exact R.bnd b h
   ·exact .inr (R.mem.own j b h4 h5).1
  have hbd:∀b,Fr2 b→N.fr b∨base≤b∨W b:=by
   rintro b (h|h)
   ·exact hbd1 b h
   ·rcases(hFr' b h).1 with h|h
    ·exact hbd1 b h
    ·exact .inr (.inl (Nat.le_trans R.base_le h))
  have bel:BelowW W base w0 w':=by
   refine⟨hbel.os.trans R.below.os,hbel.tape.trans R.below.tape,hbel.output.trans R.below.output,Nat.le_trans R.below.size hbel.size,fun q hq hW=> ?_⟩
   rw[hkeep q (Nat.lt_of_lt_of_le hq R.base_le)]
   exact R.below.block q hq hW
  exact hK _ _ ⟨bv2,hd,fp2,Fr2,put_rel R k cl.s bel (Nat.le_trans R.base_le hbel.size) M' hbd o.dst hdst (.ptr _ _ _ ⟨_,rfl⟩ fun _ _=>by simp[bv2])⟩
theorem toksQ{l:List (Nat×Option MO)}{id:Nat}(h:id∈keys l):(id,0)∈toks l:=by
 obtain⟨p,hp,rfl⟩:=List.mem_map.1 h
 exact List.mem_map.2 ⟨p,hp,rfl⟩
theorem goes_callQ(H:CtxOK P C)(hG:∀w,N.gi w→C.gi w)(R:RelE N W base w0 s m bv hd fp Fr a w){o:Oper}(hdst:∀d,o.dst=some d→N.ok d){c:Call}{f:Operand}{g:FuncId}{cap svs l:List SV}{pid:Nat}{l0 ts l1:List T}{res:T}{fpl:List Nat}(h:o.op= .call c)(hc:c.callee= .value f)(hf:opnd s f= .clo g cap)
 (hv:c.args.toList.map (opnd s)++cap=[.ptr pid 0,.agg svs]) (hm:m pid=some (.var l)) (hl:l=l0.map SV.t) (ht:all2 (rbo m 4) svs ts) (hnd:(refsL (refs 4) svs).Nodup) (hid:pid∉refsL (refs 4) svs) (hw:CallQ P C.gi g l0 ts res l1) (hi:impOK res=true)
 (hfresh:∀id∈keys (imp (o.dst.getD 0) res).2,m id=none) (hn:(keys (imp (o.dst.getD 0) res).2).Nodup) (cl:Clean s m (toks (imp (o.dst.getD 0) res).2)):
 Goes P N W base w0 s m o ⟨(imp (o.dst.getD 0) res).1,(pid,some (.var (l1.map SV.t)))::((imp (o.dst.getD 0) res).2++(refsL (refs 4) svs).map fun j=>(j,none)),fpl,toks (imp (o.dst.getD 0) res).2⟩ a w:=by
 obtain⟨he,hcall⟩:=hw
 have hvf:=opnd_rel R f
 rw[hf]at hvf
 generalize hev:a.eval f=vf at hvf
 cases hvf with
 |clo _ _ caps hlc hrc=>
  obtain⟨h1,h2⟩:=args_rel R c hlc hrc
  obtain⟨v0,vs,hvs,hv0,hvl,hvr⟩:=cons_args h1 hv h2
  obtain⟨v1,vs1,hvs1,hv1,hvl1,_⟩:=cons_args hvl rfl hvr
  have hnil:vs1=[]:=List.eq_nil_of_length_eq_zero (by simpa using hvl1)
  subst hnil
  have ev0:v0= .pointer (some ⟨bv pid,0,none⟩):=by
   cases hv0 with
   |ptr _ _ _ _ hh=>exact hh _ hm
  obtain⟨hfb,us',el,hh,hlen,hrel⟩:=R.mem.vars pid l hm
  have hpn:m pid≠none:=by simp[hm]
  obtain⟨o1,o2,o3⟩:=R.mem.own pid (bv pid) hpn hfb
  subst ev0
  cases hv1 with
  |agg _ us hul hur=>
  obtain⟨hsl,hsr⟩:=all2_get ht
  let G:Nat→Nat→Prop:=fun i x=>∃sv,svs[i]? =some sv∧∃j∈refs 4 sv,m j≠none∧fp j x
  generalize hgone:refsL (refs 4) svs=gone at*
  have hGg:∀i x,G i x→∃j∈gone,m j≠none∧fp j x:=fun i x ⟨sv,h3,j,h4,h5,h6⟩=>⟨j,hgone▸refsL_mem.2 ⟨sv,List.mem_of_getElem? h3,h4⟩,h5,h6⟩
  have hGx:∀i x,G i x→x<w.heap.size∧¬Fr x∧x≠bv pid:=fun i x hx=>by
   obtain⟨j,h3,h4,h5⟩:=hGg i x hx
   obtain⟨_,q2,q3⟩:=R.mem.own j x h4 h5
   exact⟨q2,q3,fun e=>hid (R.mem.apart j pid x h4 hpn h5 (e▸hfb)▸h3)⟩
  have hD:∀i j x,G i x→G j x→i=j:=fun i j x ⟨sv,h3,id,h4,h5,h6⟩ ⟨sv',h3',id',h4',h5',h6'⟩=>by
   have:=R.mem.apart id id' x h5 h5' h6 h6'
   subst this
   exact refsL_apart (hgone▸hnd) h3 h3' h4 h4'
  have hgi:∀w2,BelowW (fun x=>x=bv pid∨∃i,G i x) w.heap.size w w2→C.gi w2:=fun w2 hb2=>hG _ (R.inv _ ⟨hb2.os.trans R.below.os,hb2.tape.trans R.below.tape,hb2.output.trans R.below.output,Nat.le_trans R.below.size hb2.size,fun q hq hW=>by
   rw[hb2.block q (Nat.lt_of_lt_of_le hq R.base_le) (fun e=>by
    rcases e with e|⟨i,e⟩
    ·rcases o1 with h|h
     ·omega
     ·exact hW (e▸h)
    ·obtain⟨j,_,h4,h5⟩:=hGg i q e
     rcases(R.mem.own j q h4 h5).1 with h|h
     ·omega
     ·exact hW h)]
   exact R.below.block q hq hW⟩)
  have hC:=hcall w (bv pid) us G Fr hgi o2 o3 hGx (fun x hx=>R.mem.fr x hx) hD ⟨us',el,hh,by rw[hlen,hl];simp,fun i v t e1 e2=>by
   have:=hrel i v (.t t) e1 (by rw[hl,List.getElem?_map,e2];rfl)
   exact this.reads⟩ (by rw[hul,hsl]) (fun i v t e1 e2=>by
   have hi2:i<svs.length:=by rw[hsl];exact(List.getElem?_eq_some_iff.1 e2).1
   have e3:=List.getElem?_eq_getElem hi2
   have hrb:=hsr i _ _ e3 e2
   exact(rbo_own R.mem 4 _ _ _ (hur i _ _ e1 e3) hrb (refsL_nodup (hgone▸hnd) (List.getElem_mem hi2))).mono (fun x ⟨id,h4,h5⟩=>⟨_,e3,id,h4,rbo_live 4 _ _ hrb id h4,h5⟩) (fun _ _=>rfl))
  intro K Q hK
  unfold Oper.wp
  rw[run_call he h hc hev,Oper.upon_enter]
  rw[hvs,hvs1]
  intro cs
  obtain⟨e,w',fr,⟨v,F,Fr',rfl,hown,hF,hbel,hFr',us',el',hh',hlen',hrd'⟩,hcomes,hfn,hleave⟩:=hC cs
  refine⟨.returned v,w',fr, ?_,hcomes,hfn,hleave⟩
  obtain⟨hN,fN,I,hT⟩:=imp_ok (o.dst.getD 0) hown hi hn
  generalize himp:imp (o.dst.getD 0) res=ip at*
  have hkeep:∀x,x<w.heap.size→x≠bv pid→(∀i,¬G i x)→w'.heap[x]? =w.heap[x]? :=fun x hx hne hng=>hbel.block x hx (fun e=>e.elim hne fun⟨i,h⟩=>hng i h)
  have hnk:pid∉keys ip.2:=fun e=>hpn (hfresh _ e)
  --the new memory
  let m2:=updM m ((pid,some (.var (l1.map SV.t)))::(ip.2++gone.map fun j=>(j,none)))
  let hd2:Nat→Value:=fun id=>if id∈keys ip.2 then hN id else hd id
  let fp2:Nat→Nat→Prop:=fun id=>if id∈keys ip.2 then fN id else if id=pid then fun x=>x=bv pid else fp id
  let Fr2:Nat→Prop:=fun b=>Fr b∨Fr' b
  have m2p:m2 pid=some (.var (l1.map SV.t)):=by show updM m (_::_) pid=_;rw[updM_cons];simp
  have m2i:∀id,id∈keys ip.2→id≠pid∧∃sz rows,m2 id=some (.row 0 sz rows)∧Owns w' (fN id) (hN id) (.sl sz rows):=by
   intro id hk
   have hne:id≠pid:=fun e=>hnk (e▸hk)
   refine⟨hne, ?_⟩
   obtain⟨sz,rows,e,ho⟩:=I.row id _ (look_mem (d:=updM m (gone.map fun j=>(j,none)) id) hk)
   exact⟨sz,rows,by show updM m (_::_) id=_;rw[updM_cons,if_neg hne,updM_app];exact e,ho⟩
  have m2o:∀id,id∉keys ip.2→id≠pid→m2 id=if id∈gone then none else m id:=by
   intro id hk hne
   show updM m (_::_) id=_
   rw[updM_cons,if_neg hne,updM_app]
   have:updM (updM m (gone.map fun j=>(j,none))) ip.2 id=updM m (gone.map fun j=>(j,none)) id:=look_not hk
   rw[this,updM_none]
  have live:∀id,m2 id≠none→id∉keys ip.2→id≠pid→id∉gone∧m id≠none∧m2 id=m id:=by
   intro id hne hk hp'
   have:=m2o id hk hp'
   by_cases hg:id∈gone
   ·rw[if_pos hg]at this;exact absurd this hne
   ·rw[if_neg hg]at this;exact⟨hg,this▸hne,this⟩
  have ng:∀id b,id∉gone→m id≠none→fp id b→∀i,¬G i b:=fun id b hg hne hb i hgx=>by
   obtain⟨j,h3,h4,h5⟩:=hGg i b hgx
   exact hg (R.mem.apart j id b h4 hne h5 hb▸h3)
  have k:Keeps w w' Fr Fr2 m m2 bv bv hd hd2 (toks ip.2):=by
   refine⟨fun b hb=> .inl hb,fun b hb=>hkeep b (R.mem.fr b hb) (fun e=>o3 (e▸hb)) (fun i hgx=>(hGx i b hgx).2.1 hb),fun id ver sz rows h=> ?_,fun id l' h=> ?_⟩
   ·by_cases hk:id∈keys ip.2
    ·obtain⟨_,sz',rows',e1,_⟩:=m2i id hk
     rw[e1]at h;cases h
     exact .inr (toksQ hk)
    ·by_cases hp':id=pid
     ·rw[hp',m2p]at h;cases h
     ·obtain⟨_,_,e⟩:=live id (asRow_ne h) hk hp'
      exact .inl ⟨rows,by rw[←e];exact h,by simp[hd2,hk]⟩
   ·by_cases hk:id∈keys ip.2
    ·obtain⟨_,sz',rows',e1,_⟩:=m2i id hk
     rw[e1]at h;cases h
    ·by_cases hp':id=pid
     ·exact .inl ⟨l,by rw[hp'];exact hm,rfl⟩
     ·obtain⟨_,_,e⟩:=live id (by rw[h];simp) hk hp'
      exact .inl ⟨l',by rw[←e];exact h,rfl⟩
  have fpn:∀id b,id∈keys ip.2→fp2 id b→F b:=fun id b hk h=>by
   simp only[fp2,hk,if_true]at h;exact I.sub id b h
  have fpo:∀id b,id∉keys ip.2→id≠pid→fp2 id b→fp id b:=fun id b hk hp' h=>by
   simpa[fp2,hk,hp']using h
  have fpp:∀b,fp2 pid b→b=bv pid:=fun b h=>by simpa[fp2,hnk]using h
  have M':MemOK W base m2 bv hd2 fp2 Fr2 w':=by
   refine⟨fun id l' h=> ?_,fun id ver sz rows h=> ?_,fun id ver sz rows q l' h=> ?_,fun id id' b e1 e2 e3 e4=> ?_,fun id b e1 e2=> ?_,fun b hb=> ?_,full_of k R.mem (fun _ h=>toks_no h)⟩
   ·by_cases hk:id∈keys ip.2
    ·obtain⟨_,sz',rows',e1,_⟩:=m2i id hk
     rw[e1]at h;cases h
    ·by_cases hp':id=pid
     ·subst hp'
      rw[m2p]at h;cases h
      refine⟨by simp[fp2,hnk],us',el',hh',by simpa using hlen',fun i v sv e1 e2=> ?_⟩
      rw[List.getElem?_map,Option.map_eq_some_iff]at e2
      obtain⟨t,e2,rfl⟩:=e2
      exact .t _ _ ((hrd' i v t e1 e2).mono (fun b hb=> .inr hb) (fun _ _=>rfl))
     ·obtain⟨hg0,hne,e⟩:=live id (by rw[h];simp) hk hp'
      rw[e]at h
      obtain⟨q1,cs',el2,q2,q3,q4⟩:=R.mem.vars id l' h
      have hbne:bv id≠bv pid:=fun e=>hp' (R.mem.apart id pid (bv id) hne hpn q1 (e▸hfb))
      exact⟨by simpa[fp2,hk,hp']using q1,cs',el2,by rw[hkeep _ (R.mem.own id _ hne q1).2.1 hbne (ng id _ hg0 hne q1)];exact q2,q3,fun i v sv e1 e2=>(q4 i v sv e1 e2).stepC k (cl.m id sv (by rw[h];exact List.mem_of_getElem? e2))⟩
   ·by_cases hk:id∈keys ip.2
    ·obtain⟨_,sz',rows',e1,ho⟩:=m2i id hk
     rw[e1]at h;cases h
     simp only[fp2,hd2,hk,if_true];exact ho
    ·by_cases hp':id=pid
     ·rw[hp',m2p]at h;cases h
     ·obtain⟨hg0,hne,e⟩:=live id (by rw[h];simp) hk hp'
      rw[e]at h
      have e1:hd2 id=hd id:=by simp[hd2,hk]
      rw[e1]
      exact(R.mem.rows id ver sz rows h).mono (fun b hb=>by simpa[fp2,hk,hp']using hb) (fun b hb=>hkeep b (R.mem.own id b hne hb).2.1 (fun e=>hp' (R.mem.apart id pid b hne hpn hb (e▸hfb))) (ng id b hg0 hne hb))
   ·by_cases hk:id∈keys ip.2
    ·obtain⟨_,sz',rows',e1,_⟩:=m2i id hk
     rw[e1]at h;cases h
    ·by_cases hp':id=pid
     ·rw[hp',m2p]at h;cases h
     ·obtain⟨hg0,hne,e⟩:=live id (by rw[h];simp) hk hp'
      rw[e]at h
      have e1:hd2 id=hd id:=by simp[hd2,hk]
      rw[e1]
      exact(R.mem.rowv id ver sz rows q l' h).keep k (fun b hb=>by simpa[fp2,hk,hp']using hb) (fun b hb=>hkeep b (R.mem.own id b hne hb).2.1 (fun e=>hp' (R.mem.apart id pid b hne hpn hb (e▸hfb))) (ng id b hg0 hne hb)) (fun s hs=>cl.m id s (by rw[h];exact hs))
   ·have cls:∀id,m2 id≠none→(id∈keys ip.2)∨(id∉keys ip.2∧id=pid)∨(id∉keys ip.2∧id≠pid∧m id≠none∧id∉gone):=by
     intro id hne
     by_cases hk:id∈keys ip.2
     ·exact .inl hk
     ·by_cases hp':id=pid
      ·exact .inr (.inl ⟨hk,hp'⟩)
      ·exact .inr (.inr ⟨hk,hp',(live id hne hk hp').2.1,(live id hne hk hp').1⟩)
    rcases cls id e1 with hk|⟨hk,hp'⟩|⟨hk,hp',hl1,hg1⟩<;>rcases cls id' e2 with hk'|⟨hk',hp''⟩|⟨hk',hp'',hl2,hg2⟩
    ·simp only[fp2,hk,hk',if_true]at e3 e4;exact I.dis id id' b e3 e4
    ·subst hp'';have e5:=fpp b e4;rcases(hF b (fpn id b hk e3)).1 with h|⟨i,h⟩
     ·omega
     ·exact absurd e5 (hGx i b h).2.2
    ·rcases(hF b (fpn id b hk e3)).1 with h|⟨i,h⟩
     ·have:=(R.mem.own id' b hl2 (fpo id' b hk' hp'' e4)).2.1;omega
     ·exact absurd h (ng id' b hg2 hl2 (fpo id' b hk' hp'' e4) i)
    ·subst hp';have e5:=fpp b e3;rcases(hF b (fpn id' b hk' e4)).1 with h|⟨i,h⟩
     ·omega
     ·exact absurd e5 (hGx i b h).2.2
    ·rw[hp',hp'']
    ·subst hp';exact(R.mem.apart id' id b hl2 hpn (fpo id' b hk' hp'' e4) (fpp b e3▸hfb)).symm
    ·rcases(hF b (fpn id' b hk' e4)).1 with h|⟨i,h⟩
     ·have:=(R.mem.own id b hl1 (fpo id b hk hp' e3)).2.1;omega
     ·exact absurd h (ng id b hg1 hl1 (fpo id b hk hp' e3) i)
    ·subst hp'';exact R.mem.apart id id' b hl1 hpn (fpo id b hk hp' e3) (fpp b e4▸hfb)
    ·exact R.mem.apart id id' b hl1 hl2 (fpo id b hk hp' e3) (fpo id' b hk' hp'' e4)
   ·by_cases hk:id∈keys ip.2
    ·obtain⟨q1,q2,q3⟩:=hF b (fpn id b hk e2)
     refine⟨?_,q2, ?_⟩
     ·rcases q1 with q1|⟨i,q1⟩
      ·exact .inl (Nat.le_trans R.base_le q1)
      ·obtain⟨j,_,h4,h5⟩:=hGg i b q1
       exact(R.mem.own j b h4 h5).1
     ·rintro(h|h)
      ·rcases q1 with q1|⟨i,q1⟩
       ·have:=R.mem.fr b h;omega
       ·exact(hGx i b q1).2.1 h
      ·exact q3 h
    ·by_cases hp':id=pid
     ·subst hp'
      have:=fpp b e2
      subst this
      refine⟨o1,Nat.lt_of_lt_of_le o2 hbel.size, ?_⟩
      rintro(h|h)
      ·exact o3 h
      ·exact(hFr' _ h).2.2 rfl
     ·obtain⟨hg,hne,_⟩:=live id e1 hk hp'
      have hb:=fpo id b hk hp' e2
      obtain⟨q1,q2,q3⟩:=R.mem.own id b hne hb
      refine⟨q1,Nat.lt_of_lt_of_le q2 hbel.size, ?_⟩
      rintro(h|h)
      ·exact q3 h
      ·rcases(hFr' b h).1 with h|h|⟨i,h⟩
       ·exact q3 h
       ·omega
       ·exact ng id b hg hne hb i h
   ·rcases hb with h|h
    ·exact Nat.lt_of_lt_of_le (R.mem.fr b h) hbel.size
    ·exact(hFr' b h).2.1
  have hbd:∀b,Fr2 b→N.fr b∨base≤b∨W b:=by
   rintro b (h|h)
   ·exact R.bnd b h
   ·rcases(hFr' b h).1 with h|h|⟨i,h⟩
    ·exact R.bnd b h
    ·exact .inr (.inl (Nat.le_trans R.base_le h))
    ·obtain⟨j,_,h4,h5⟩:=hGg i b h
     exact .inr (R.mem.own j b h4 h5).1
  have bel:BelowW W base w0 w':=by
   refine⟨hbel.os.trans R.below.os,hbel.tape.trans R.below.tape,hbel.output.trans R.below.output,Nat.le_trans R.below.size hbel.size,fun q hq hW=> ?_⟩
   rw[hkeep q (Nat.lt_of_lt_of_le hq R.base_le) (fun e=>by
    rcases o1 with h|h
    ·omega
    ·exact hW (e▸h)) (fun i h=>by
    obtain⟨j,_,h4,h5⟩:=hGg i q h
    rcases(R.mem.own j q h4 h5).1 with h|h
    ·omega
    ·exact hW h)]
   exact R.below.block q hq hW
  exact hK _ _ ⟨bv,hd2,fp2,Fr2,put_rel R k cl.s bel (Nat.le_trans R.base_le hbel.size) M' hbd o.dst hdst (hT Fr2 _ bv hd2 (fun id hk=>by simp[hd2,hk]))⟩
end
end Go.Pv
