/- Plain lemmas and definitions. Nothing is claimed here. -/
import Derived.Test.YtabadclgcgdccaaGreatDoorPv25
set_option linter.unusedSimpArgs false
set_option linter.unusedVariables false
namespace Go.Pv
open Go Go.RowKit
section
variable {D:Nat→Type}
abbrev Cut (D:Nat→Type):=VSt D→(Ex→VSt D→Prop)→(VR D→Prop)→Prop
structure Cuts(D:Nat→Type) where
 blk:List (Nat×Option (Cut D))
 cnd:List (Nat×Option (Cut D))
def resT(X:CT D)(st:VSt D):ResultVar→VS D
 | .tmp t=>st.s t
 | .cell a t=>
   match st.s a with
   | .ptr id 0=>
     match st.m id with
     |some (.var l)=>bif Nat.ble 1 (X.C.i t).kind&&Nat.ble 1 (X.C.i t).size&&Nat.beq l.length (X.C.i t).size then valT (X.C.i t).agg l else .gone
     |_=> .gone
   |_=> .gone
def retT(X:CT D)(rs:List ResultVar)(tys:List (List Nat))(R:VR D→Prop)(st:VSt D):Prop:=
 match rs with
 |[.cell 0 0,.cell r t]=>(match resT X st (.cell r t)with| .agg vs=>optK (allT vs) fun c=>R (.p (.agg c))|_=>False)
 | .cell 0 t::rs=>(match resT X st (.cell 0 t)with
   | .agg vs=>bcond (nodupN (refs 4 (resOf ((rs.map (resT X st)).map X.eS)))) (optK (allT vs) fun c=>optK (rdPs st.m tys (rs.map (resT X st))) fun ps=>R (.tup (.agg c::ps))) False
   |_=>False)
 |rs=>
 bcond (nodupN (refs 4 (resOf ((rs.map (resT X st)).map X.eS)))) (optK (rdR st.m tys (rs.map (resT X st))) R) False
def wpT(X:CT D)(cl:Calls' D)(pl:Plan)(cu:Cuts D)(rs:List ResultVar)(tys:List (List Nat)):Code→VSt D→(Ex→VSt D→Prop)→(VR D→Prop)→Prop
 | .skip,st,Q,R=>Q .normal st
 | .region id ops draw,st,Q,R=>evRT X cl pl id ops.toList draw st (Q .normal)
 | .seq a b,st,Q,R=>wpT X cl pl cu rs tys a st (fun e st'=>match e with| .normal=>wpT X cl pl cu rs tys b st' Q R|e=>Q e st') R
 | .cond c a b,st,Q,R=>
   match look cu.cnd (condKey c) none with
   |some cut=>cut st Q R
   |none=>
    match opT st.s c with
    | .t (.bool p)=>bcond p (wpT X cl pl cu rs tys a (keepT X (look pl.cnd (condKey c) ([],[])).1 st) Q R) (wpT X cl pl cu rs tys b (keepT X (look pl.cnd (condKey c) ([],[])).2 st) Q R)
    |_=>False
 | .block id c,st,Q,R=>
   match look cu.blk id none with
   |some cut=>cut st Q R
   |none=>wpT X cl pl cu rs tys c st (fun e st'=>
    match e with
    | .normal=>Q .normal (keepT X (look pl.blk id []) st')
    | .exit j=>bcond (Nat.beq j id) (Q .normal (keepT X (look pl.blk id []) st')) (Q (.exit j) st')
    | .ret=>False) R
 | .exit id,st,Q,R=>Q (.exit id) st
 | .ret,st,Q,R=>retT X rs tys R st
 |_,_,_,_=>False
structure Imp(X:CT D)(rs:List ResultVar)(Q:Ex→VSt D→Prop)(R:VR D→Prop)(QQ:Ex→St→Prop):Prop where
 q:∀e st,Q e st→QQ e (X.eSt st)
 r:∀r st,R r→RetOK X.C st rs (X.eR r)→QQ .ret st
def CutFor(X:CT D)(pl:Plan)(k:Nat)(rs:List ResultVar)(cut:Cut D)(c:Code):Prop:=
 ∀st Q R QQ,Imp X rs Q R QQ→cut st Q R→wpc X.C (plE X pl) k c (X.eSt st) QQ
def CutOK(X:CT D)(pl:Plan)(k:Nat)(cu:Cuts D)(rs:List ResultVar):Code→Prop
 | .seq a b=>CutOK X pl k cu rs a∧CutOK X pl k cu rs b
 | .cond c a b=>
   match look cu.cnd (condKey c) none with
   |some cut=>CutFor X pl k rs cut (.cond c a b)
   |none=>CutOK X pl k cu rs a∧CutOK X pl k cu rs b
 | .block id c=>
   match look cu.blk id none with
   |some cut=>CutFor X pl k rs cut (.block id c)
   |none=>CutOK X pl k cu rs c
 |_=>True
variable {X:CT D} {cl:Calls' D}
theorem resT_ok(st:VSt D)(r:ResultVar):X.eS (resT X st r)=resV X.C (X.eSt st) r:=by
 cases r with
 |tmp t=>simp only[resT,resV,eSt_s]
 |cell a t=>
  simp only[resT,resV,eSt_s,eSt_m]
  cases ha:st.s a with
  |ptr id off=>
   cases off with
   |zero=>
    simp only[CT.eS]
    cases hm:st.m id with
    |none=>simp[CT.eS,eO_n]
    |some o=>
     cases o with
     |row v ty l=>simp[CT.eS,eO_r]
     |rowv v ty l i cs=>simp[CT.eO,CT.eM,CT.eS]
     |var l=>
      simp only[eO_v,List.length_map]
      cases (Nat.ble 1 (X.C.i t).kind&&Nat.ble 1 (X.C.i t).size&&Nat.beq l.length (X.C.i t).size)with
      |true=>simp only[cond_true,eS_val,CT.eL_map]
      |false=>simp[CT.eS]
   |succ n=>simp[CT.eS]
  |_=>simp[CT.eS]
theorem rdP_ok{m:Nat→Option (VM D)}{n:Nat}{e:List Nat}{v:VS D}{x:VP D}(h:rdP m e v=some x):rbo (fun id=>X.eO (m id)) (n+2) (X.eS v) (X.eP x):=by
 unfold rdP at h
 split at h
 ·split at h
  ·rename_i h1
   simp only[Option.some.injEq]at h
   subst h
   simp only[CT.eS,CT.eP,rbo]
   exact rdoL_ok h1
  ·cases h
 ·split at h
  ·rename_i h1
   simp only[Option.some.injEq]at h
   subst h
   simp only[CT.eP]
   exact rdo_ok h1
  ·cases h
theorem rdPs_ok{m:Nat→Option (VM D)}{n:Nat}:∀{l:List (VS D)} {e:List (List Nat)} {r:List (VP D)},rdPs m e l=some r→all2 (rbo (fun id=>X.eO (m id)) (n+2)) (l.map X.eS) (r.map X.eP)
 |[],e,r,h=>by simp only[rdPs,Option.some.injEq]at h;subst h;trivial
 |a::l,e,r,h=>by
  simp only[rdPs]at h
  split at h
  ·rename_i x r' h1 h2
   simp only[Option.some.injEq]at h
   subst h
   exact⟨rdP_ok h1,rdPs_ok h2⟩
  ·cases h
theorem rdR_ok{m:Nat→Option (VM D)}{e:List (List Nat)}{l:List (VS D)}{r:VR D}(h:rdR m e l=some r):rbo (fun id=>X.eO (m id)) 4 (resOf (l.map X.eS)) (X.eR r):=by
 unfold rdR at h
 split at h
 ·split at h
  ·rename_i h1
   simp only[Option.some.injEq]at h
   subst h
   exact rdP_ok h1
  ·cases h
 ·rename_i hn
  split at h
  ·rename_i h1
   simp only[Option.some.injEq]at h
   subst h
   have e2:resOf (l.map X.eS)= .tup (l.map X.eS):=by
    match l,hn with
    |[],_=>rfl
    |[v],hn=>exact absurd rfl (hn v)
    |a::b::r,_=>rfl
   rw[e2]
   simp only[CT.eR,rbo]
   exact rdPs_ok h1
  ·cases h
theorem ret_ok{rs:List ResultVar}{tys:List (List Nat)}{R:VR D→Prop}{st:VSt D}(h:retT X rs tys R st):
 ∃r,RetOK X.C (X.eSt st) rs (X.eR r)∧R r:=by
 have em:∀l:List ResultVar,l.map (resV X.C (X.eSt st))=(l.map (resT X st)).map X.eS:=fun l=>by
  rw[List.map_map]
  exact List.map_congr_left fun r _=>(resT_ok st r).symm
 unfold retT at h
 split at h
 ·rename_i r t
  split at h
  ·rename_i vs hvs
   obtain⟨c,hc,h⟩:=optK_some h
   refine⟨_, ?_,h⟩
   show ∃l1,X.eR (.p (.agg c))= .agg l1∧resV X.C (X.eSt st) (.cell r t)= .agg (l1.map SV.t)
   exact⟨c.map X.er,rfl,by rw[←resT_ok,hvs];simp only[CT.eS,allT_ok hc]⟩
  ·exact h.elim
 ·rename_i t rs' hne
  split at h
  ·rename_i vs hvs
   obtain⟨h1,h⟩:=bcond_false h
   obtain⟨c,hc,h⟩:=optK_some h
   obtain⟨ps,hps,h⟩:=optK_some h
   refine⟨_, ?_,h⟩
   have key:∃l1 ts,X.eR (.tup (.agg c::ps))= .tup (.agg l1::ts)∧resV X.C (X.eSt st) (.cell 0 t)= .agg (l1.map SV.t)∧rbo (X.eSt st).m 4 (resOf (rs'.map (resV X.C (X.eSt st)))) (oneT ts)∧nodupN (refs 4 (resOf (rs'.map (resV X.C (X.eSt st)))))=true:=by
    refine⟨c.map X.er,ps.map X.eP,rfl,by rw[←resT_ok,hvs];simp only[CT.eS,allT_ok hc], ?_,by rw[em];exact h1⟩
    rw[em,eSt_m]
    generalize rs'.map (resT X st)=vals at hps
    match vals,ps,hps with
    |[],ps,hps=>simp only[rdPs,Option.some.injEq]at hps;subst hps;simp[resOf,oneT,rbo,all2]
    |[v],ps,hps=>
     simp only[rdPs]at hps
     split at hps
     ·rename_i x r' h2 h3
      simp only[Option.some.injEq]at hps h3
      subst hps h3
      exact rdP_ok h2
     ·cases hps
    |a::b::r,ps,hps=>
     have h3:=rdPs_ok (X:=X) (n:=1) hps
     cases ps with
     |nil=>exact h3.elim
     |cons p ps=>
      cases ps with
      |nil=>exact h3.2.elim
      |cons p2 ps=>exact h3
   unfold RetOK
   split
   ·rename_i e
    simp only[List.cons.injEq,ResultVar.cell.injEq,true_and]at e
    first|exact(hne _ _ e.1 e.2).elim|exact(hne _ _ e.2 e.1).elim|exact(hne _ _ (by rw[e.1]) e.2).elim|exact(hne e.1 _ _ e.2).elim
   ·rename_i e
    simp only[List.cons.injEq,ResultVar.cell.injEq]at e
    obtain⟨⟨_,rfl⟩,rfl⟩:=e
    exact key
   ·rename_i e;exact(e _ _ rfl).elim
  ·exact h.elim
 ·rename_i hn1 hn2
  obtain⟨h1,h2⟩:=bcond_false h
  obtain⟨r,h3,h4⟩:=optK_some h2
  refine⟨r, ?_,h4⟩
  have key:rbo (X.eSt st).m 4 (resOf (rs.map (resV X.C (X.eSt st)))) (X.eR r)∧nodupN (refs 4 (resOf (rs.map (resV X.C (X.eSt st)))))=true:=by
   refine⟨?_,by rw[em];exact h1⟩
   rw[em,eSt_m]
   exact rdR_ok h3
  unfold RetOK
  split
  ·exact(hn1 _ _ rfl).elim
  ·exact(hn2 _ _ rfl).elim
  ·exact key
theorem wpT_sound(ok:CallsOK X cl){pl:Plan}{k:Nat}{cu:Cuts D}{rs:List ResultVar}{tys:List (List Nat)}:∀(c:Code) (st:VSt D) (Q:Ex→VSt D→Prop) (R:VR D→Prop) (QQ:Ex→St→Prop),CutOK X pl k cu rs c→
 Imp X rs Q R QQ→wpT X cl pl cu rs tys c st Q R→wpc X.C (plE X pl) k c (X.eSt st) QQ
 | .skip,st,Q,R,QQ,hc,hI,h=>hI.q _ _ h
 | .region id ops draw,st,Q,R,QQ,hc,hI,h=>evR_sim ok (fun st' h'=>hI.q _ _ h') h
 | .seq a b,st,Q,R,QQ,hc,hI,h=>by
   refine wpT_sound ok a st _ R _ hc.1 ⟨fun e st' h'=> ?_,fun r st' h1 h2=>hI.r r st' h1 h2⟩ h
   cases e with
   |normal=>exact wpT_sound ok b st' Q R QQ hc.2 hI h'
   |ret=>exact hI.q _ _ h'
   |exit j=>exact hI.q _ _ h'
 | .cond c a b,st,Q,R,QQ,hc,hI,h=>by
   unfold wpT at h
   unfold CutOK at hc
   split at h
   ·rename_i cut hcut
    rw[hcut]at hc
    exact hc st Q R QQ hI h
   ·rename_i hcut
    rw[hcut]at hc
    split at h
    ·rename_i p hp
     have e:opnd (X.eSt st).s c= .t (.bool p):=by rw[eSt_s,eS_op,hp];simp[CT.eS,CT.er]
     have e2:look (plE X pl).cnd (condKey c) ([],[])=(kE X (look pl.cnd (condKey c) ([],[])).1,kE X (look pl.cnd (condKey c) ([],[])).2):=
      look_map (fun q:Keep×Keep=>(kE X q.1,kE X q.2)) pl.cnd (condKey c) ([],[])
     simp only[wpc,e,e2,←keep_ok]
     rcases bcond_or h with⟨e,h⟩|⟨e,h⟩
     ·rw[e];exact wpT_sound ok a _ Q R QQ hc.1 hI h
     ·rw[e];exact wpT_sound ok b _ Q R QQ hc.2 hI h
    ·exact h.elim
 | .block id c,st,Q,R,QQ,hc,hI,h=>by
   unfold wpT at h
   unfold CutOK at hc
   split at h
   ·rename_i cut hcut
    rw[hcut]at hc
    exact hc st Q R QQ hI h
   ·rename_i hcut
    rw[hcut]at hc
    have e2:look (plE X pl).blk id []=kE X (look pl.blk id []):=look_map (kE X) pl.blk id []
    refine wpT_sound ok c st _ R _ hc ⟨fun e st' h'=> ?_,fun r st' h1 h2=>hI.r r st' h1 h2⟩ h
    cases e with
    |normal=>simp only[e2,←keep_ok];exact hI.q _ _ h'
    |ret=>exact h'.elim
    |exit j=>
     simp only[e2,←keep_ok]
     rcases bcond_or h' with⟨e,h'⟩|⟨e,h'⟩
     ·rw[e];exact hI.q _ _ h'
     ·rw[e];exact hI.q _ _ h'
 | .exit id,st,Q,R,QQ,hc,hI,h=>hI.q _ _ h
 | .ret,st,Q,R,QQ,hc,hI,h=>by
   obtain⟨r,h1,h2⟩:=ret_ok h
   exact hI.r r _ h2 h1
 | .loop c,st,Q,R,QQ,hc,hI,h=>by simp[wpT]at h
 | .rangeFunc ..,st,Q,R,QQ,hc,hI,h=>by simp[wpT]at h
 | .scope ..,st,Q,R,QQ,hc,hI,h=>by simp[wpT]at h
 | .label ..,st,Q,R,QQ,hc,hI,h=>by simp[wpT]at h
 | .goto ..,st,Q,R,QQ,hc,hI,h=>by simp[wpT]at h
 | .refuse ..,st,Q,R,QQ,hc,hI,h=>by simp[wpT]at h
theorem loop_cut(ok:CallsOK X cl){pl:Plan}{k:Nat}{cu:Cuts D}{rs:List ResultVar}{tys:List (List Nat)}{id:Nat}{c:Code}(hc:CutOK X pl k cu rs c){Q:Ex→VSt D→Prop}{R:VR D→Prop}{QQ:Ex→St→Prop}(hI:Imp X rs Q R QQ)
 (I:Nat→VSt D→Prop) (h0:∀st,¬I 0 st)
 (hs:∀n st,I (n+1) st→wpT X cl pl cu rs tys c st (fun e st'=>
  match e with
  | .normal=>I n st'
  | .exit j=>bcond (Nat.beq j id) (Q .normal (keepT X (look pl.blk id []) st')) (Q (.exit j) st')
  | .ret=>False) R) (st:VSt D) (h:I k st):wpc X.C (plE X pl) k (.block id (.loop c)) (X.eSt st) QQ:=by
 have e2:look (plE X pl).blk id []=kE X (look pl.blk id []):=look_map (kE X) pl.blk id []
 have key:∀(n:Nat) (st:VSt D),I n st→loopN (wpc X.C (plE X pl) k c) n (X.eSt st) fun e st'=>
  match e with
  | .normal=>QQ .normal (keep (look (plE X pl).blk id []) st')
  | .exit j=>bcond (Nat.beq j id) (QQ .normal (keep (look (plE X pl).blk id []) st')) (QQ (.exit j) st')
  | .ret=>QQ .ret st':=by
  intro n
  induction n with
  |zero=>intro st h;exact(h0 st h).elim
  |succ n ih=>
   intro st h
   refine wpT_sound ok c st _ R _ hc ⟨fun e st' h'=> ?_,fun r st' h1 h2=>hI.r r st' h1 h2⟩ (hs n st h)
   cases e with
   |normal=>exact ih st' h'
   |ret=>exact h'.elim
   |exit j=>
    simp only[e2,←keep_ok]
    rcases bcond_or h' with⟨e,h'⟩|⟨e,h'⟩
    ·rw[e];exact hI.q _ _ h'
    ·rw[e];exact hI.q _ _ h'
 exact key k st h
inductive De where
 |hole|nil|gone
 |ref (id:Nat)
 |reff (id:Nat)
 |fsh
 |ptr (id off:Nat)
 |rptr (n:Nat)
 |agg (l:List De)
 |tup (l:List De)
 |clo (f:FuncId) (l:List De)
inductive Do where
 |row
 |rowf
 |var (l:List De)
mutual
def rdD:De→VS D→Option (List (V D))
 | .hole,.t x=>some [x]
 | .nil,.nil=>some []
 | .gone,.gone=>some []
 | .ref i,.ref j v=>bif Nat.beq j i&&Nat.beq v 0 then some []else none
 | .reff i,.ref j v=>bif Nat.beq j i&&Nat.beq v 1 then some []else none
 | .fsh,.fs ty l=>some [.sl ty l]
 | .ptr i o,.ptr j p=>bif Nat.beq j i&&Nat.beq p o then some []else none
 | .rptr n,.rptr l=>bif Nat.beq l.length n then some l else none
 | .agg ds,.agg l=>rdDs ds l
 | .tup ds,.tup l=>rdDs ds l
 | .clo f ds,.clo g l=>bif Nat.beq g f then rdDs ds l else none
 |_,_=>none
def rdDs:List De→List (VS D)→Option (List (V D))
 |[],[]=>some []
 |d::ds,v::l=>match rdD d v,rdDs ds l with
  |some a,some b=>some (a++b)
  |_,_=>none
 |_,_=>none
end
mutual
def mkD:De→List (V D)→VS D×List (V D)
 | .hole,x::r=>(.t x,r)
 | .hole,[]=>(.gone,[])
 | .nil,r=>(.nil,r)
 | .gone,r=>(.gone,r)
 | .ref i,r=>(.ref i 0,r)
 | .reff i,r=>(.ref i 1,r)
 | .fsh,.sl ty l::r=>(.fs ty l,r)
 | .fsh,r=>(.gone,r)
 | .ptr i o,r=>(.ptr i o,r)
 | .rptr n,r=>(.rptr (r.take n),r.drop n)
 | .agg ds,r=>(.agg (mkDs ds r).1,(mkDs ds r).2)
 | .tup ds,r=>(.tup (mkDs ds r).1,(mkDs ds r).2)
 | .clo f ds,r=>(.clo f (mkDs ds r).1,(mkDs ds r).2)
def mkDs:List De→List (V D)→List (VS D)×List (V D)
 |[],r=>([],r)
 |d::ds,r=>((mkD d r).1::(mkDs ds (mkD d r).2).1,(mkDs ds (mkD d r).2).2)
end
mutual
theorem rd_mk:∀(d:De) (v:VS D) (a r:List (V D)),rdD d v=some a→mkD d (a++r)=(v,r)
 | .hole,v,a,r,h=>by cases v<;>simp[rdD]at h;subst h;simp[mkD]
 | .nil,v,a,r,h=>by cases v<;>simp[rdD]at h;subst h;simp[mkD]
 | .gone,v,a,r,h=>by cases v<;>simp[rdD]at h;subst h;simp[mkD]
 | .ref i,v,a,r,h=>by
   cases v<;>simp[rdD]at h
   rename_i j w
   cases hb:(Nat.beq j i&&Nat.beq w 0)with
   |false=>rw[hb]at h;cases h
   |true=>
    rw[hb]at h
    simp only[cond_true,Option.some.injEq]at h
    simp only[Bool.and_eq_true]at hb
    have:=beqN hb.1;subst this
    have:=beqN hb.2;subst this
    subst h;simp[mkD]
 | .reff i,v,a,r,h=>by
   cases v<;>simp[rdD]at h
   rename_i j w
   cases hb:(Nat.beq j i&&Nat.beq w 1)with
   |false=>rw[hb]at h;cases h
   |true=>
    rw[hb]at h
    simp only[cond_true,Option.some.injEq]at h
    simp only[Bool.and_eq_true]at hb
    have:=beqN hb.1;subst this
    have:=beqN hb.2;subst this
    subst h;simp[mkD]
 | .fsh,v,a,r,h=>by cases v<;>simp[rdD]at h;subst h;simp[mkD]
 | .ptr i o,v,a,r,h=>by
   cases v<;>simp[rdD]at h
   rename_i j w
   cases hb:(Nat.beq j i&&Nat.beq w o)with
   |false=>rw[hb]at h;cases h
   |true=>
    rw[hb]at h
    simp only[cond_true,Option.some.injEq]at h
    simp only[Bool.and_eq_true]at hb
    have:=beqN hb.1;subst this
    have:=beqN hb.2;subst this
    subst h;simp[mkD]
 | .rptr n,v,a,r,h=>by
   cases v<;>simp[rdD]at h
   rename_i l
   cases hb:Nat.beq l.length n with
   |false=>rw[hb]at h;cases h
   |true=>
    rw[hb]at h
    simp only[cond_true,Option.some.injEq]at h
    have:=beqN hb;subst this
    subst h;simp[mkD]
 | .agg ds,v,a,r,h=>by
   cases v<;>simp[rdD]at h
   have:=rds_mk ds _ a r h
   simp only[mkD,this]
 | .tup ds,v,a,r,h=>by
   cases v<;>simp[rdD]at h
   have:=rds_mk ds _ a r h
   simp only[mkD,this]
 | .clo f ds,v,a,r,h=>by
   cases v<;>simp[rdD]at h
   rename_i g l
   cases hb:Nat.beq g f with
   |false=>rw[hb]at h;cases h
   |true=>
    rw[hb]at h
    have:=beqN hb;subst this
    have:=rds_mk ds _ a r h
    simp only[mkD,this]
theorem rds_mk:∀(ds:List De) (l:List (VS D)) (a r:List (V D)),rdDs ds l=some a→mkDs ds (a++r)=(l,r)
 |[],[],a,r,h=>by simp[rdDs]at h;subst h;simp[mkDs]
 |[],_::_,a,r,h=>by simp[rdDs]at h
 |_::_,[],a,r,h=>by simp[rdDs]at h
 |d::ds,v::l,a,r,h=>by
  simp only[rdDs]at h
  split at h
  ·rename_i x y h1 h2
   simp only[Option.some.injEq]at h
   subst h
   have e1:=rd_mk d v x (y++r) h1
   have e2:=rds_mk ds l y r h2
   simp only[mkDs,List.append_assoc,e1,e2]
  ·cases h
end
structure Tm where
 sl:List (Nat×De)
 me:List (Nat×Do)
def rdSl:List (Nat×De)→List (Nat×VS D)→Option (List (V D))
 |[],[]=>some []
 |(i,d)::ds,(j,v)::l=>match rdD d v,rdSl ds l with
  |some a,some b=>bif Nat.beq j i then some (a++b)else none
  |_,_=>none
 |_,_=>none
def mkSl:List (Nat×De)→List (V D)→List (Nat×VS D)×List (V D)
 |[],r=>([],r)
 |(i,d)::ds,r=>((i,(mkD d r).1)::(mkSl ds (mkD d r).2).1,(mkSl ds (mkD d r).2).2)
def rdO:Do→Option (VM D)→Option (List (V D))
 | .row,some (.row v ty l)=>bif Nat.beq v 0 then some [.sl ty l]else none
 | .rowf,some (.row v ty l)=>bif Nat.beq v 1 then some [.sl ty l]else none
 | .var ds,some (.var l)=>rdDs ds l
 |_,_=>none
def mkO:Do→List (V D)→Option (VM D)×List (V D)
 | .row,.sl ty l::r=>(some (.row 0 ty l),r)
 | .row,r=>(none,r)
 | .rowf,.sl ty l::r=>(some (.row 1 ty l),r)
 | .rowf,r=>(none,r)
 | .var ds,r=>(some (.var (mkDs ds r).1),(mkDs ds r).2)
def rdMe:List (Nat×Do)→List (Nat×Option (VM D))→Option (List (V D))
 |[],[]=>some []
 |(i,d)::ds,(j,v)::l=>match rdO d v,rdMe ds l with
  |some a,some b=>bif Nat.beq j i then some (a++b)else none
  |_,_=>none
 |_,_=>none
def mkMe:List (Nat×Do)→List (V D)→List (Nat×Option (VM D))
 |[],_=>[]
 |(i,d)::ds,r=>(i,(mkO d r).1)::mkMe ds (mkO d r).2
def rdSt(tm:Tm)(st:VSt D):Option (List (V D)):=
 match rdSl tm.sl st.sl,rdMe tm.me st.me with
 |some a,some b=>some (a++b)
 |_,_=>none
def mkSt(tm:Tm)(l:List (V D)):VSt D:=⟨(mkSl tm.sl l).1,mkMe tm.me (mkSl tm.sl l).2⟩
theorem rdSl_mk:∀(ds:List (Nat×De)) (l:List (Nat×VS D)) (a r:List (V D)),rdSl ds l=some a→mkSl ds (a++r)=(l,r)
 |[],[],a,r,h=>by simp[rdSl]at h;subst h;simp[mkSl]
 |[],_::_,a,r,h=>by simp[rdSl]at h
 |_::_,[],a,r,h=>by simp[rdSl]at h
 |(i,d)::ds,(j,v)::l,a,r,h=>by
  simp only[rdSl]at h
  split at h
  ·rename_i x y h1 h2
   cases hb:Nat.beq j i with
   |false=>rw[hb]at h;cases h
   |true=>
    rw[hb]at h
    simp only[cond_true,Option.some.injEq]at h
    subst h
    have:=beqN hb;subst this
    have e1:=rd_mk d v x (y++r) h1
    have e2:=rdSl_mk ds l y r h2
    simp only[mkSl,List.append_assoc,e1,e2]
  ·cases h
theorem rdO_mk(d:Do)(o:Option (VM D))(a r:List (V D))(h:rdO d o=some a):mkO d (a++r)=(o,r):=by
 unfold rdO at h
 split at h
 ·rename_i v ty l
  cases hb:Nat.beq v 0 with
  |false=>rw[hb]at h;cases h
  |true=>
   rw[hb]at h
   simp only[cond_true,Option.some.injEq]at h
   subst h
   have:=beqN hb;subst this
   simp[mkO]
 ·rename_i v ty l
  cases hb:Nat.beq v 1 with
  |false=>rw[hb]at h;cases h
  |true=>
   rw[hb]at h
   simp only[cond_true,Option.some.injEq]at h
   subst h
   have:=beqN hb;subst this
   simp[mkO]
 ·have:=rds_mk _ _ a r h
  simp only[mkO,this]
 ·cases h
theorem rdMe_mk:∀(ds:List (Nat×Do)) (l:List (Nat×Option (VM D))) (a r:List (V D)),rdMe ds l=some a→mkMe ds (a++r)=l
 |[],[],a,r,h=>by simp[mkMe]
 |[],_::_,a,r,h=>by simp[rdMe]at h
 |_::_,[],a,r,h=>by simp[rdMe]at h
 |(i,d)::ds,(j,v)::l,a,r,h=>by
  simp only[rdMe]at h
  split at h
  ·rename_i x y h1 h2
   cases hb:Nat.beq j i with
   |false=>rw[hb]at h;cases h
   |true=>
    rw[hb]at h
    simp only[cond_true,Option.some.injEq]at h
    subst h
    have:=beqN hb;subst this
    have e1:=rdO_mk d v x (y++r) h1
    have e2:=rdMe_mk ds l y r h2
    simp only[mkMe,List.append_assoc,e1,e2]
  ·cases h
theorem rdSt_mk{tm:Tm}{st:VSt D}{a:List (V D)}(h:rdSt tm st=some a):mkSt tm a=st:=by
 unfold rdSt at h
 split at h
 ·rename_i x y h1 h2
  simp only[Option.some.injEq]at h
  subst h
  have e1:=rdSl_mk tm.sl st.sl x y h1
  have e2:=rdMe_mk tm.me st.me y [] h2
  rw[List.append_nil]at e2
  unfold mkSt
  rw[e1,e2]
 ·cases h
def cutAt(tm:Tm)(F:List (V D)→(Ex→VSt D→Prop)→(VR D→Prop)→Prop):Cut D:=fun st Q R=>optK (rdSt tm st) fun vs=>F vs Q R
theorem cutAt_of{tm:Tm}{F:List (V D)→(Ex→VSt D→Prop)→(VR D→Prop)→Prop}{pl:Plan}{k:Nat}{rs:List ResultVar}{c:Code}
 (h:∀vs Q R QQ,Imp X rs Q R QQ→F vs Q R→wpc X.C (plE X pl) k c (X.eSt (mkSt tm vs)) QQ):CutFor X pl k rs (cutAt tm F) c:=by
 intro st Q R QQ hI hF
 obtain⟨vs,hv,hF⟩:=optK_some hF
 have:=h vs Q R QQ hI hF
 rw[rdSt_mk hv]at this
 exact this
def endQ(X:CT D)(rs:List ResultVar)(tys:List (List Nat))(R:VR D→Prop):Ex→VSt D→Prop
 | .normal,st=>retT X rs tys R st
 |_,_=>False
theorem callT_of{P:Program}(ok:CallsOK X cl)(H:CtxOK P X.C)(hm:P.follows .mixedOrders=true){g:FuncId}{fn:Func}{body:Code}{ts:List T}{r:VR D}{pl:Plan}{k:Nat}{cu:Cuts D}{tys:List (List Nat)}{st:VSt D}
 (hf:P.funcs[g]? =some fn) (hb:fn.body=some body) (hok:fnOK fn body ts.length=true) (ha:X.eSt st=⟨argS 0 ts,[]⟩) (hc:CutOK X pl k cu fn.results.toList body)
 (h:∀R:VR D→Prop,R r→wpT X cl pl cu fn.results.toList tys body st (endQ X fn.results.toList tys R) R):CallOK P X.C.gi g ts (X.eR r):=by
 refine callOK_of H hm (pl:=plE X pl) (k:=k) hf hb hok ?_
 rw[←ha]
 refine wpT_sound ok body st _ (fun r'=>r'=r) _ hc ⟨fun e st' h'=> ?_,fun r' st' h1 h2=> ?_⟩ (h _ rfl)
 ·cases e with
  |normal=>
   obtain⟨r',h1,h2⟩:=ret_ok (X:=X) (rs:=fn.results.toList) (tys:=tys) (R:=fun r'=>r'=r) (st:=st') h'
   subst h2
   exact h1
  |ret=>exact h'.elim
  |exit j=>exact h'.elim
 ·subst h1
  exact h2
inductive Oc(N O:Type) where
 |nrm (v:N)
 |oth (w:O)
def oc{N O α:Type}(x:Oc N O)(f:N→Option α)(g:O→Option α):Option α:=match x with| .nrm v=>f v| .oth w=>g w
def ocP{N O:Type}(x:Oc N O)(f:N→Prop)(g:O→Prop):Prop:=match x with| .nrm v=>f v| .oth w=>g w
theorem oKb{α β:Type}(o:Option α)(f:α→Option β)(K:β→Prop):optK (o.bind f) K=optK o fun a=>optK (f a) K:=by cases o<;>rfl
theorem oKi{α:Type}(c:Bool)(a b:Option α)(K:α→Prop):optK (bif c then a else b) K=bcond c (optK a K) (optK b K):=by cases c<;>rfl
theorem oKp{α:Type}(a:α)(K:α→Prop):optK (some a) K=K a:=rfl
theorem oKn{α:Type}(K:α→Prop):optK none K=False:=rfl
theorem oKo{N O α:Type}(x:Oc N O)(f:N→Option α)(g:O→Option α)(K:α→Prop):optK (oc x f g) K=ocP x (fun v=>optK (f v) K) fun w=>optK (g w) K:=by cases x<;>rfl
end
end Go.Pv
