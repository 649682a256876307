/- Plain lemmas and definitions. Nothing is claimed here. -/
import Derived.Test.YtabadclgcgdccaaGreatDoorPv17
set_option linter.unusedSimpArgs false
set_option linter.unusedVariables false
namespace Go.Pv
open Go Go.RowKit
theorem RelE.world{N:FrP}{W:Nat→Prop}{base:Nat}{w0:World}{s:Nat→SV}{m:Nat→Option MO}{bv:Nat→Nat}{hd:Nat→Value}{fp:Nat→Nat→Prop}{Fr:Nat→Prop}{a:Act}{w w':World}
 (R:RelE N W base w0 s m bv hd fp Fr a w) (h:w'.heap=w.heap) (ho:w'.os=w.os) (ht:w'.tape=w.tape) (hp:w'.output=w.output):RelE N W base w0 s m bv hd fp Fr a w':=by
 have k:Keeps w w' Fr Fr m m bv bv hd hd []:=⟨fun _ h=>h,fun _ _=>by rw[h],fun _ _ _ r h=> .inl ⟨r,h,rfl⟩,fun _ l h=> .inl ⟨l,h,rfl⟩⟩
 refine⟨R.defs,R.size,R.pins,R.inv,R.bnd,⟨ho.trans R.below.os,ht.trans R.below.tape,hp.trans R.below.output,by rw[h];exact R.below.size,fun b hb hW=>by rw[h];exact R.below.block b hb hW⟩,by rw[h];exact R.base_le,
  fun t=>(R.slots t).step0 k, ?_⟩
 exact R.mem.change k (fun _ _ _=> .inl rfl) (by rw[h];exact Nat.le_refl _) (fun _=>False) (fun _ _=>⟨rfl,rfl,rfl,fun _=>Iff.rfl,fun _ _ _=>by rw[h]⟩)
  (fun _ h=>h.elim) (fun _ h=>h.elim) (fun _ h=>h.elim) (fun _ _ _ h=>h.elim) (fun _ _ h=>h.elim) (fun _ h=>h.elim)
theorem mentionO_svs(tok:List (Nat×Nat))(o:Option MO):mentionO tok o=mention.mentionL (mention tok 4) (svsOf o):=by
 cases o with
 |none=>rfl
 |some ob=>cases ob<;>rfl
section
variable {L:List (Oper×Eff)} {s0:Nat→SV} {m0:Nat→Option MO}
theorem sep_clean{D:Nat→Bool}{tok:List (Nat×Nat)}(c0:Clean s0 m0 tok)(f0:FreshT m0 tok)(h:∀i y,L[i]? =some y→D i=true→sepE tok y.2=true):
 Clean (fld s0 (L.map wS) D) (fld m0 (L.map wM) D) tok∧FreshT (fld m0 (L.map wM) D) tok:=by
 cases ht:tok with
 |nil=>exact⟨⟨fun _=> .inl rfl,fun _ _ _=> .inl rfl⟩,List.nodup_nil,fun _ h=>by cases h⟩
 |cons p r=>
  rw[←ht]
  have h':∀i y,L[i]? =some y→D i=true→mentionE tok y.2=false∧∀q∈tok,q.2=0→q.1∉keys y.2.mw:=by
   intro i y hy hd
   have:=h i y hy hd
   rw[ht]at this
   simp only[sepE]at this
   rw[←ht]at this
   simp only[Bool.and_eq_true,Bool.not_eq_true',List.all_eq_true,Bool.or_eq_true]at this
   refine⟨this.1,fun q hq h0 hk=> ?_⟩
   rcases this.2 q hq with h1|h1
   ·rw[h0]at h1;cases h1
   ·rw[memN_iff.2 hk]at h1;cases h1
  refine⟨⟨fun t=> ?_,fun id sv hsv=> ?_⟩,f0.1,fun id hid=> ?_⟩
  ·refine fld_prop (p:=fun v=>Cl tok v) _ _ _ _ (c0.s t) (fun i x v hx hd hv=> ?_)
   rw[List.getElem?_map]at hx
   cases hL:L[i]? with
   |none=>rw[hL]at hx;cases hx
   |some y=>
    rw[hL]at hx
    simp only[Option.map_some,Option.some.injEq]at hx
    subst hx
    unfold wS at hv
    split at hv
    ·simp only[Option.some.injEq]at hv
     subst hv
     have:=(h' i y hL hd).1
     simp only[mentionE,Bool.or_eq_false_iff]at this
     exact .inr ⟨4,this.1⟩
    ·cases hv
  ·have key:∀o:Option MO,fld m0 (L.map wM) D id=o→∀sv∈svsOf o,Cl tok sv:=by
    rintro o rfl
    refine fld_prop (p:=fun o:Option MO=>∀sv∈svsOf o,Cl tok sv) _ _ _ _ (fun sv hsv=>c0.m id sv hsv) (fun i x v hx hd hv=> ?_)
    rw[List.getElem?_map]at hx
    cases hL:L[i]? with
    |none=>rw[hL]at hx;cases hx
    |some y=>
     rw[hL]at hx
     simp only[Option.map_some,Option.some.injEq]at hx
     subst hx
     intro sv hsv
     have:=(h' i y hL hd).1
     simp only[mentionE,Bool.or_eq_false_iff,List.any_eq_false]at this
     have h2:=this.2 _ (wM_key hv)
     rw[mentionO_svs]at h2
     exact .inr ⟨4,mentionL_false (by simpa using h2) sv hsv⟩
   exact key _ rfl sv hsv
  ·rw[fld_none _ _ _ _ (fun i x hx hd=> ?_)]
   ·exact f0.2 id hid
   ·rw[List.getElem?_map]at hx
    cases hL:L[i]? with
    |none=>rw[hL]at hx;cases hx
    |some y=>
     rw[hL]at hx
     simp only[Option.map_some,Option.some.injEq]at hx
     subst hx
     exact wM_not ((h' i y hL hd).2 _ hid rfl)
end
theorem look_clean{tok:List (Nat×Nat)}{l:List (Nat×SV)}{t:Nat}(h:∀p∈l,mention tok 4 p.2=false):mention tok 4 (look l t .gone)=false:=by
 rcases look_key (rfl:look l t .gone=look l t .gone)with h1|h1
 ·rw[h1];rfl
 ·exact h _ h1
theorem mention_sub{tok tok':List (Nat×Nat)}(h:∀p∈tok',p∈tok):∀(n:Nat) (v:SV),mention tok n v=false→mention tok' n v=false
 |0,_,hv=>by simp[mention]at hv
 |n+1,.t x,_=>rfl
 |n+1,.nil,_=>rfl
 |n+1,.gone,_=>rfl
 |n+1,.rptr l,_=>rfl
 |n+1,.fs z r,_=>rfl
 |n+1,.ref id ver,hv=>by
  simp only[mention,List.any_eq_false]at hv ⊢
  exact fun p hp=>hv p (h p hp)
 |n+1,.eptr id ver i off,hv=>by
  simp only[mention,List.any_eq_false]at hv ⊢
  exact fun p hp=>hv p (h p hp)
 |n+1,.vw id ver lo,hv=>by
  simp only[mention,List.any_eq_false]at hv ⊢
  exact fun p hp=>hv p (h p hp)
 |n+1,.ptr id off,hv=>by
  simp only[mention,List.any_eq_false]at hv ⊢
  exact fun p hp=>hv p (h p hp)
 |n+1,.agg l,hv=>by simp only[mention]at hv ⊢;exact mentionL_true fun sv hsv=>mention_sub h n sv (mentionL_false hv sv hsv)
 |n+1,.tup l,hv=>by simp only[mention]at hv ⊢;exact mentionL_true fun sv hsv=>mention_sub h n sv (mentionL_false hv sv hsv)
 |n+1,.clo f l,hv=>by simp only[mention]at hv ⊢;exact mentionL_true fun sv hsv=>mention_sub h n sv (mentionL_false hv sv hsv)
theorem cleanS_spec{st:St}{tok tok':List (Nat×Nat)}(h:cleanS st tok=true)(hs:∀p∈tok',p∈tok):Clean st.s st.m tok':=by
 simp only[cleanS,Bool.and_eq_true,List.all_eq_true,Bool.not_eq_true']at h
 refine⟨fun t=> .inr ⟨4,mention_sub hs 4 _ (look_clean h.1)⟩,fun id sv hsv=> ?_⟩
 rcases look_key (rfl:look st.me id none=look st.me id none)with h1|h1
 ·have h1:st.m id=none:=h1
  rw[h1]at hsv;cases hsv
 ·have:=h.2 _ h1
  rw[mentionO_svs]at this
  exact .inr ⟨4,mention_sub hs 4 _ (mentionL_false this sv hsv)⟩
theorem freshAll_spec{st:St}:∀(tok:List (Nat×Nat)),freshAll st tok=true→tok.Nodup∧∀id,(id,0)∈tok→st.m id=none
 |[],_=>⟨List.nodup_nil,fun _ h=>by cases h⟩
 |(id,ver)::r,h=>by
  simp only[freshAll,Bool.and_eq_true]at h
  obtain⟨⟨h1,h2⟩,h3⟩:=h
  obtain⟨i1,i2⟩:=freshAll_spec r h3
  refine⟨List.nodup_cons.2 ⟨fun hm=> ?_,i1⟩,fun i hi=> ?_⟩
  ·simp only[Bool.not_eq_true',List.any_eq_false,Bool.and_eq_true]at h2
   exact h2 _ hm ⟨Nat.beq_refl _,Nat.beq_refl _⟩
  ·rcases List.mem_cons.1 hi with h4|h4
   ·simp only[Prod.mk.injEq]at h4
    obtain⟨rfl,rfl⟩:=h4
    have hb:Nat.beq 0 0=true:=rfl
    rw[hb]at h1
    simp only[cond_true]at h1
    split at h1
    ·assumption
    ·cases h1
   ·exact i2 i h4
theorem toksOf_in{L:List (Oper×Eff)}{x:Oper×Eff}(hx:x∈L):∀p∈x.2.tok,p∈toksOf L:=fun p hp=>List.mem_flatMap.2 ⟨x,hx,hp⟩
theorem toksOf_nodup{L:List (Oper×Eff)}(h:(toksOf L).Nodup){x:Oper×Eff}(hx:x∈L):x.2.tok.Nodup:=by
 induction L with
 |nil=>cases hx
 |cons y L ih=>
  simp only[toksOf,List.flatMap_cons]at h
  cases hx with
  |head=>exact(List.nodup_append.1 h).1
  |tail _ hx=>exact ih (List.nodup_append.1 h).2.1 hx
structure RegOK(P:Program)(C:Ctx)(N:FrP)(ops:List Oper)(L:List (Oper×Eff))(s0:Nat→SV)(m0:Nat→Option MO):Prop where
 H:CtxOK P C
 map:L.map (·.1)=ops
 chain:Chain C ops s0 m0 L
 dst:∀o∈ops,∀d,o.dst=some d→N.ok d
 gi:∀w,N.gi w→C.gi w
 tok:∀(i:Nat) (x:Oper×Eff),L[i]? =some x→Clean s0 m0 x.2.tok∧FreshT m0 x.2.tok
 prior:∀(i j:Nat) (x y:Oper×Eff),i<j→L[i]? =some x→L[j]? =some y→sepE y.2.tok x.2=true
section
variable {P:Program} {C:Ctx} {N:FrP} {ops:List Oper} {L:List (Oper×Eff)} {s0:Nat→SV} {m0:Nat→Option MO} {W:Nat→Prop} {base:Nat} {w0:World} {Q:Exit→Act→World→Prop}
theorem RegOK.oper(X:RegOK P C N ops L s0 m0){j:Nat}{o:Oper}(h:ops[j]? =some o):∃e,L[j]? =some (o,e):=by
 rw[←X.map,List.getElem?_map]at h
 cases hL:L[j]? with
 |none=>rw[hL]at h;cases h
 |some x=>
  rw[hL]at h
  simp only[Option.map_some,Option.some.injEq]at h
  subst h
  exact⟨x.2,rfl⟩
theorem RegOK.oper_of(X:RegOK P C N ops L s0 m0){j:Nat}{x:Oper×Eff}(h:L[j]? =some x):ops[j]? =some x.1:=by
 rw[←X.map,List.getElem?_map,h];rfl
theorem RegOK.len(X:RegOK P C N ops L s0 m0):L.length=ops.length:=by rw[←X.map];simp
structure Free(ops:List Oper)(x y:Oper×Eff):Prop where
 d1:∀d,y.1.dst=some d→d∉tmpsOf x.1 ops
 d2:∀d,y.1.dst=some d→x.1.dst≠some d
 m1:∀id∈keys y.2.mw,id∉x.2.fp
 m2:∀id∈keys y.2.mw,id∉keys x.2.mw
 t1:sepE x.2.tok y.2=true
theorem disj_spec{a b:List Nat}(h:disj a b=true):∀x∈a,x∉b:=by
 intro x hx hb
 simp only[disj,List.all_eq_true]at h
 exact memN_not (h x hx) hb
theorem free_of{x y:Oper×Eff}(h:apartE ops x y=true):Free ops x y∧Free ops y x:=by
 simp only[apartE,Bool.and_eq_true]at h
 obtain⟨⟨⟨⟨⟨⟨⟨h1,h2⟩,h3⟩,h4⟩,h5⟩,h6⟩,h7⟩,h8⟩:=h
 have dm:∀{o:Option Nat} {d:Nat},o=some d→d∈o.toList:=fun h=>by simp[h]
 exact⟨⟨fun d hd=>disj_spec h2 d (dm hd),fun d hd he=>disj_spec h3 d (dm he) (dm hd),fun id hid=>disj_spec h5 id hid,fun id hid hk=>disj_spec h6 id hk hid,h7⟩,
  ⟨fun d hd=>disj_spec h1 d (dm hd),fun d hd he=>disj_spec h3 d (dm hd) (dm he),fun id hid=>disj_spec h4 id hid,fun id hid hk=>disj_spec h6 id hid hk,h8⟩⟩
theorem RegOK.step(X:RegOK P C N ops L s0 m0){D:Nat→Bool}{j:Nat}{x:Oper×Eff}(hx:L[j]? =some x)(hD:D j=false)
 (hfree:∀i y,L[i]? =some y→i≠j→D i≠decide (i<j)→Free ops x y) (hsep:∀i y,L[i]? =some y→D i=true→sepE x.2.tok y.2=true)
 {a:Act} {w:World} (R:Rel N W base w0 (fld s0 (L.map wS) D) (fld m0 (L.map wM) D) a w) {K:Act→World→Prop}
 (hK:∀D':Nat→Bool,D' j=true→(∀i,i≠j→D' i=D i)→∀a' w',Rel N W base w0 (fld s0 (L.map wS) D') (fld m0 (L.map wM) D') a' w'→K a' w'):
 wpOp P ops.toArray Q j K a w:=by
 have hop:=X.oper_of hx
 have hj:(L.map wS)[j]? =some (wS x):=by rw[List.getElem?_map,hx];rfl
 have hjm:(L.map wM)[j]? =some (wM x):=by rw[List.getElem?_map,hx];rfl
 have getS:∀(i:Nat) z,(L.map wS)[i]? =some z→∃y,L[i]? =some y∧z=wS y:=by
  intro i z hz
  rw[List.getElem?_map]at hz
  cases hL:L[i]? with
  |none=>rw[hL]at hz;cases hz
  |some y=>rw[hL]at hz;simp only[Option.map_some,Option.some.injEq]at hz;exact⟨y,rfl,hz.symm⟩
 have getM:∀(i:Nat) z,(L.map wM)[i]? =some z→∃y,L[i]? =some y∧z=wM y:=by
  intro i z hz
  rw[List.getElem?_map]at hz
  cases hL:L[i]? with
  |none=>rw[hL]at hz;cases hz
  |some y=>rw[hL]at hz;simp only[Option.map_some,Option.some.injEq]at hz;exact⟨y,rfl,hz.symm⟩
 have lt0:decide (j<j)=false:=by simp
 --what it looks at is what it looked at in the text's order
 have sameS:∀t∈tmpsOf x.1 ops,fld s0 (L.map wS) D t=fld s0 (L.map wS) (fun i=>decide (i<j)) t:=by
  intro t ht
  refine fld_indep _ _ _ _ _ _ rfl (fun i z hz hd=> ?_)
  obtain⟨y,hy,rfl⟩:=getS i z hz
  have hij:i≠j:=by rintro rfl;rw[hD,lt0]at hd;exact hd rfl
  have F:=hfree i y hy hij hd
  unfold wS
  rw[if_neg]
  exact fun e=>F.d1 t e ht
 have sameM:∀id∈x.2.fp,fld m0 (L.map wM) D id=fld m0 (L.map wM) (fun i=>decide (i<j)) id:=by
  intro id hid
  refine fld_indep _ _ _ _ _ _ rfl (fun i z hz hd=> ?_)
  obtain⟨y,hy,rfl⟩:=getM i z hz
  have hij:i≠j:=by rintro rfl;rw[hD,lt0]at hd;exact hd rfl
  have F:=hfree i y hy hij hd
  exact wM_not fun hk=>F.m1 id hk hid
 have hseen:∀t∈seen x.1,t∈tmpsOf x.1 ops:=fun t ht=>List.mem_append_left _ ht
 have hwant:wantS ops (fld s0 (L.map wS) D) x.1=wantS ops (fld s0 (L.map wS) fun i=>decide (i<j)) x.1:=by
  unfold wantS
  cases hg:x.1.guard with
  |none=>rfl
  |some gw=>
   obtain⟨g,want⟩:=gw
   cases hgo:(ops[g]?).bind (·.dst)with
   |none=>simp[hgo]
   |some t=>
    simp only[hgo]
    rw[sameS t (List.mem_append_right _ (by simp[hg,hgo]))]
 have hok:=chain_at L s0 m0 j x X.chain hx
 obtain⟨cl,fr⟩:=sep_clean (X.tok j x hx).1 (X.tok j x hx).2 hsep
 --and what it turns comes to the same
 let D':Nat→Bool:=fun i=>if i=j then true else D i
 have hD'j:D' j=true:=by simp[D']
 have hD'i:∀i,i≠j→D' i=D i:=fun i h=>by simp[D',h]
 have endS:fld s0 (L.map wS) D'=updS (fld s0 (L.map wS) D) x.1.dst x.2.val:=by
  rw[updS_wS]
  funext t
  refine fld_insert _ _ _ _ _ j _ hj hD hD'j hD'i (fun i z hlt hz hd hn=> ?_)
  obtain⟨y,hy,rfl⟩:=getS i z hz
  have F:=hfree i y hy (by omega) (by rw[hd];simp;omega)
  cases hw:wS y t with
  |none=>rfl
  |some v=>
   unfold wS at hw hn
   split at hw
   ·rename_i e
    exact absurd (if_neg (F.d2 t e)) hn
   ·cases hw
 have endM:fld m0 (L.map wM) D'=updM (fld m0 (L.map wM) D) x.2.mw:=by
  rw[updM_wM]
  funext id
  refine fld_insert _ _ _ _ _ j _ hjm hD hD'j hD'i (fun i z hlt hz hd hn=> ?_)
  obtain⟨y,hy,rfl⟩:=getM i z hz
  have F:=hfree i y hy (by omega) (by rw[hd];simp;omega)
  cases hw:wM y id with
  |none=>rfl
  |some v=>
   exact absurd (wM_not (F.m2 id (List.mem_map.2 ⟨_,wM_key hw,rfl⟩))) hn
 obtain⟨bv,hd,fp,Fr,RE⟩:=R
 have hdst:∀d,x.1.dst=some d→N.ok d:=X.dst x.1 (List.mem_of_getElem? hop)
 have hslot:∀b,wantS ops (fld s0 (L.map wS) D) x.1=some b→Region.wanted x.1 (yielded ops.toArray a.tmps)=b:=by
  intro b hb
  unfold wantS at hb
  unfold Region.wanted
  cases hg:x.1.guard with
  |none=>rw[hg]at hb;simpa using hb
  |some gw=>
   obtain⟨g,want⟩:=gw
   rw[hg]at hb
   simp only at hb ⊢
   cases hgo:(ops[g]?).bind (·.dst)with
   |none=>rw[hgo]at hb;cases hb
   |some t=>
    rw[hgo]at hb
    simp only at hb
    have hr:=RE.slots t
    have hgo':((ops.toArray[g]?).bind (·.dst))=some t:=by simpa using hgo
    unfold yielded
    rw[hgo']
    simp only[Option.bind_some]
    split at hb
    ·rename_i p hp
     rw[hp]at hr
     have hv:=hr.reads.bool_eq
     simp only[Array.getD_eq_getD_getElem?]at hv
     cases ht:a.tmps[t]? with
     |none=>rw[ht]at hv;simp[undef]at hv
     |some v=>
      rw[ht]at hv
      simp only[Option.getD_some]at hv
      subst hv
      simp only
      simpa using hb
    ·rename_i hp
     rw[hp]at hr
     simp only[Option.some.injEq]at hb
     subst hb
     generalize hv:a.tmps.getD t undef=v at hr
     cases hr with
     |tup l cs hl hc=>
      simp only[Array.getD_eq_getD_getElem?]at hv
      cases ht:a.tmps[t]? with
      |none=>simp
      |some v=>
       rw[ht]at hv
       simp only[Option.getD_some]at hv
       subst hv
       simp
    ·cases hb
 unfold wpOp
 have hop':ops.toArray[j]? =some x.1:=by simpa using hop
 simp only[hop']
 rcases hok with⟨hw,he⟩|⟨hw,he⟩
 ·rw[hslot true (by rw[hwant];exact hw),if_pos rfl]
  refine .inl ?_
  have he':EffR C (fld s0 (L.map wS) D) (fld m0 (L.map wM) D) x.1 x.2:=eff_congr (fun t ht=>sameS t (hseen t ht)) sameM he
  refine eff_sound X.H X.gi RE hdst he' cl fr K Q (fun a' w' R'=>hK D' hD'j hD'i a' w' ?_)
  rw[endS,endM]
  exact R'
 ·rw[hslot false (by rw[hwant];exact hw),if_neg (by simp)]
  refine hK D' hD'j hD'i _ w ?_
  rw[endS,endM,he]
  exact⟨bv,hd,fp,Fr,pure_rel RE x.1.dst hdst (val:= .tup []) (v:=undef) (.tup [] [] rfl (fun i v s h=>by simp at h))⟩
theorem RegOK.straight(X:RegOK P C N ops L s0 m0)(hQ:∀a w,Rel N W base w0 (fld s0 (L.map wS) fun _=>true) (fld m0 (L.map wM) fun _=>true) a w→Q .normal a w):
 ∀(k j:Nat) (a:Act) (w:World),j+k=L.length→Rel N W base w0 (fld s0 (L.map wS) fun i=>decide (i<j)) (fld m0 (L.map wM) fun i=>decide (i<j)) a w→wpOps P ops.toArray Q (List.range' j k) a w
 |0,j,a,w,hk,R=>by
  have e1:fld s0 (L.map wS) (fun i=>decide (i<j))=fld s0 (L.map wS) fun _=>true:=by
   funext t
   refine fld_indep _ _ _ _ _ _ rfl (fun i z hz hd=> ?_)
   have:=(List.getElem?_eq_some_iff.1 hz).1
   simp at this
   exact absurd (by simp;omega) hd
  have e2:fld m0 (L.map wM) (fun i=>decide (i<j))=fld m0 (L.map wM) fun _=>true:=by
   funext t
   refine fld_indep _ _ _ _ _ _ rfl (fun i z hz hd=> ?_)
   have:=(List.getElem?_eq_some_iff.1 hz).1
   simp at this
   exact absurd (by simp;omega) hd
  rw[e1,e2]at R
  simpa[wpOps]using hQ a w R
 |k+1,j,a,w,hk,R=>by
  rw[List.range'_succ,wpOps_cons]
  obtain⟨x,hx⟩:∃x,L[j]? =some x:=⟨_,List.getElem?_eq_getElem (by omega)⟩
  refine X.step hx (by simp) (fun i y hy hij hd=>absurd rfl hd) (fun i y hy hd=>X.prior i j y x (by simpa using hd) hy hx) R (fun D' h1 h2 a' w' R'=> ?_)
  have e:D'=fun i=>decide (i<j+1):=by
   funext i
   by_cases h:i=j
   ·subst h;rw[h1];simp
   ·rw[h2 i h]
    by_cases h':i<j
    ·simp[h'];omega
    ·simp[h'];omega
  subst e
  exact X.straight hQ k (j+1) a' w' (by omega) R'
theorem RegOK.any(X:RegOK P C N ops L s0 m0)(hB:Back ops)(hd:drawL ops L.reverse (ancs ops [])=true)
 (hQ:∀a w,Rel N W base w0 (fld s0 (L.map wS) fun _=>true) (fld m0 (L.map wM) fun _=>true) a w→Q .normal a w):
 ∀(fuel:Nat) (listed:Array Bool) (a:Act) (w:World),listed.size=ops.length→((List.range ops.length).countP fun i=> !listed.getD i false)≤fuel→Closed ops (fun i=>listed.getD i false)→
  Rel N W base w0 (fld s0 (L.map wS) fun i=>listed.getD i false) (fld m0 (L.map wM) fun i=>listed.getD i false) a w→wpAny P .any ops.toArray Q fuel listed a w:=by
 have hlen:=X.len
 have anc:=ancs_spec hB
 --when none is ready,all are done
 have least:∀listed:Array Bool,listed.size=ops.length→Region.ready .any ops.toArray listed=[]→∀i,i<ops.length→listed.getD i false=true:=by
  intro listed hsz hr i
  induction i using Nat.strongRecOn with
  |ind i ih=>
   intro hi
   cases hc:listed.getD i false with
   |true=>rfl
   |false=>
    have:i∈Region.ready .any ops.toArray listed:=by
     rw[mem_ready]
     have hli:i<listed.size:=by omega
     refine⟨by simpa[hli]using hc,ops[i],by simp[hi],fun e he hb=> ?_⟩
     have hlt:=hB i ops[i] (List.getElem?_eq_getElem hi) e (by simpa using he) hb
     exact ih e.on hlt (by omega)
    rw[hr]at this
    cases this
 have fin:∀(listed:Array Bool) (a:Act) (w:World),listed.size=ops.length→Region.ready .any ops.toArray listed=[]→
  Rel N W base w0 (fld s0 (L.map wS) fun i=>listed.getD i false) (fld m0 (L.map wM) fun i=>listed.getD i false) a w→Q .normal a w:=by
  intro listed a w hsz hr R
  have all:=least listed hsz hr
  have e1:fld s0 (L.map wS) (fun i=>listed.getD i false)=fld s0 (L.map wS) fun _=>true:=by
   funext t
   refine fld_indep _ _ _ _ _ _ rfl (fun i z hz hd=> ?_)
   have:=(List.getElem?_eq_some_iff.1 hz).1
   simp at this
   exact absurd (all i (by omega)) hd
  have e2:fld m0 (L.map wM) (fun i=>listed.getD i false)=fld m0 (L.map wM) fun _=>true:=by
   funext t
   refine fld_indep _ _ _ _ _ _ rfl (fun i z hz hd=> ?_)
   have:=(List.getElem?_eq_some_iff.1 hz).1
   simp at this
   exact absurd (all i (by omega)) hd
  rw[e1,e2]at R
  exact hQ a w R
 intro fuel
 induction fuel with
 |zero=>
  intro listed a w hsz hcnt hC R
  have hr:Region.ready .any ops.toArray listed=[]:=by
   cases h:Region.ready .any ops.toArray listed with
   |nil=>rfl
   |cons j r=>
    have hj:j∈Region.ready .any ops.toArray listed:=by rw[h];simp
    obtain⟨h1,o,ho,_⟩:=mem_ready.1 hj
    have hlt:j<ops.length:=by simpa using (Array.getElem?_eq_some_iff.1 ho).1
    have:0<(List.range ops.length).countP fun i=> !listed.getD i false:=by
     rw[List.countP_pos_iff]
     refine⟨j,by simpa using hlt, ?_⟩
     have hls:j<listed.size:=by omega
     simp[hls]at h1 ⊢
     exact h1
    omega
  exact⟨hr,fin listed a w hsz hr R⟩
 |succ fuel ih=>
  intro listed a w hsz hcnt hC R
  refine⟨fun hr=>fin listed a w hsz hr R,fun j hj=> ?_⟩
  obtain⟨h1,o,ho,hpre⟩:=mem_ready.1 hj
  have hlt:j<ops.length:=by simpa using (Array.getElem?_eq_some_iff.1 ho).1
  have hls:j<listed.size:=by omega
  have hDj:listed.getD j false=false:=by simpa[hls]using h1
  have ho':ops[j]? =some o:=by simpa using ho
  obtain⟨e,hx⟩:=X.oper ho'
  --two operations:one is before the other in every order,or they have nothing to do with one another
  have pair:∀i k (x y:Oper×Eff),i<k→L[i]? =some x→L[k]? =some y→(∀D,Closed ops D→(∀e∈y.1.after.toList,Region.binds .any e=true→D e.on=true)→D i=true)∨apartE ops y x=true:=by
   intro i k x y hik hxi hyk
   have hlk:=(List.getElem?_eq_some_iff.1 hyk).1
   have hanc:(ancs ops []).length=L.length:=by rw[anc.2,hlen]
   obtain⟨A,hA⟩:∃A,(ancs ops [])[L.length -1 -k]? =some A:=⟨_,List.getElem?_eq_getElem (by omega)⟩
   have:=drawL_at L.reverse (ancs ops []) (L.length -1 -k) (L.length -1 -i) y x A hd (by omega) (rev_at hyk) (rev_at hxi) hA
   rcases this with h|h
   ·refine .inl fun D hDC hDp=> ?_
    have hi:L.reverse.length -1 -(L.length -1 -i)=i:=by simp;omega
    rw[hi]at h
    refine anc.1 _ A hA y.1 ?_ D hDC hDp i h
    have hk':(ancs ops []).length -1 -(L.length -1 -k)=k:=by omega
    rw[hk']
    exact X.oper_of hyk
   ·exact .inr h
  have hpre':∀e∈o.after.toList,Region.binds .any e=true→listed.getD e.on false=true:=fun e he hb=>hpre e (by simpa using he) hb
  have F:∀i y,L[i]? =some y→i≠j→listed.getD i false≠decide (i<j)→Free ops (o,e) y:=by
   intro i y hy hij hdi
   rcases Nat.lt_or_gt_of_ne hij with hlt'|hgt
   ·have hDi:listed.getD i false=false:=by
     simp only[hlt',decide_true]at hdi
     simpa using hdi
    rcases pair i j y (o,e) hlt' hy hx with h|h
    ·have:=h _ hC hpre'
     rw[hDi]at this;cases this
    ·exact(free_of h).1
   ·have hDi:listed.getD i false=true:=by
     have:¬i<j:=by omega
     simp only[this,decide_false]at hdi
     simpa using hdi
    rcases pair j i (o,e) y hgt hx hy with h|h
    ·have:=h _ hC (fun e' he' hb'=>hC i y.1 (X.oper_of hy) hDi e' he' hb')
     rw[hDj]at this;cases this
    ·exact(free_of h).2
  refine X.step hx hDj F (fun i y hy hDi=> ?_) R (fun D' hd1 hd2 a' w' R'=> ?_)
  ·by_cases hij:i=j
   ·subst hij;rw[hDj]at hDi;cases hDi
   ·rcases Nat.lt_or_gt_of_ne hij with hlt'|hgt
    ·exact X.prior i j y (o,e) hlt' hy hx
    ·refine(F i y hy hij ?_).t1
     rw[hDi]
     have:¬i<j:=by omega
     simp[this]
  ·have hset:∀i,(listed.setIfInBounds j true).getD i false=D' i:=by
    intro i
    by_cases hij:i=j
    ·subst hij;rw[hd1];simp[hls]
    ·rw[getD_set_ne false (Ne.symm hij),hd2 i hij]
   have eD:D'=fun i=>(listed.setIfInBounds j true).getD i false:=by funext i;exact(hset i).symm
   rw[eD]at R'
   refine ih (listed.setIfInBounds j true) a' w' (by simpa using hsz) ?_ ?_ R'
   ·have cnt:∀l:List Nat,j∈l→(l.countP fun i=> !(listed.setIfInBounds j true).getD i false)+1≤l.countP fun i=> !listed.getD i false:=by
     have mono:∀l:List Nat,(l.countP fun i=> !(listed.setIfInBounds j true).getD i false)≤l.countP fun i=> !listed.getD i false:=by
      intro l
      refine List.countP_mono_left fun i _ hi=> ?_
      by_cases hij:i=j
      ·subst hij;rw[hDj];rfl
      ·rw[getD_set_ne false (Ne.symm hij)]at hi;exact hi
     intro l
     induction l with
     |nil=>intro h;cases h
     |cons b l ihl=>
      intro hm
      rw[List.countP_cons,List.countP_cons]
      by_cases hb:b=j
      ·subst hb
       have:=mono l
       have e1:(!(listed.setIfInBounds b true).getD b false)=false:=by rw[hset b,hd1];rfl
       have e2:(!listed.getD b false)=true:=by rw[hDj];rfl
       rw[e1,e2]
       simp only[Bool.false_eq_true,if_false,if_true]
       omega
      ·have:=ihl (by cases hm with|head=>exact absurd rfl hb|tail _ h=>exact h)
       rw[getD_set_ne false (Ne.symm hb)]
       omega
    have:=cnt (List.range ops.length) (by simpa using hlt)
    omega
   ·intro i oi hoi hDi e' he' hb'
    by_cases hij:i=j
    ·subst hij
     rw[ho']at hoi
     simp only[Option.some.injEq]at hoi
     subst hoi
     exact getD_set_true (hpre' e' he' hb')
    ·have hDi':listed.getD i false=true:=by rw[←getD_set_ne (i:=j) false (Ne.symm hij)];exact hDi
     exact getD_set_true (hC i oi hoi hDi' e' he' hb')
end
end Go.Pv
