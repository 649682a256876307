/- Plain lemmas and definitions. Nothing is claimed here. -/
import Derived.Test.YtabadclgcgdccaaGreatDoorPv10
set_option linter.unusedSimpArgs false
set_option linter.unusedVariables false
namespace Go.Pv
open Go Go.RowKit Go.Lib
section
variable {P:Program} {C:Ctx} {N:FrP} {W:Nat→Prop} {base:Nat} {w0:World} {s:Nat→SV} {m:Nat→Option MO} {bv:Nat→Nat} {hd:Nat→Value} {fp:Nat→Nat→Prop} {Fr:Nat→Prop} {a:Act} {w:World}
theorem src_gone{k:Nat}{i:TInfo}{src:SV}{new:List (List T)}{gone:List (Nat×Option MO)}{fpl:List Nat}(hs:SrcR k i m src new gone fpl):
 (∀id,updM m gone id=if id∈keys gone then none else m id)∧∀id∈keys gone,m id≠none:=by
 cases hs with
 |nil=>exact⟨fun id=>by simp[updM,look,keys],fun id h=>by simp[keys]at h⟩
 |sl=>exact⟨fun id=>by simp[updM,look,keys],fun id h=>by simp[keys]at h⟩
 |str=>exact⟨fun id=>by simp[updM,look,keys],fun id h=>by simp[keys]at h⟩
 |ref hk id ver _ hm=>exact⟨fun id'=>by rw[updM_one];simp[keys],fun id' h=>by simp[keys]at h;subst h;simp[hm]⟩
theorem app_some{α:Type}{by':Nat}{x y r:List α}(h:app by' x y=some r):(x.length+y.length)*by'≤140737488355328∧r=x++y:=by
 unfold app at h
 split at h
 ·rename_i hle
  simp only[Option.some.injEq]at h
  exact⟨hle,h.symm⟩
 ·cases h
theorem two_types{ts:Array Nat}{t u:Nat}(h:ts.toList=[t,u]):ts= #[t,u]:=by apply Array.ext';rw[h]
theorem goes_appNil(H:CtxOK P C)(R:RelE N W base w0 s m bv hd fp Fr a w){o:Oper}(hdst:∀d,o.dst=some d→N.ok d){c:Call}{ty ty2:Nat}{src:SV}{new rows:List (List T)}{gone:List (Nat×Option MO)}{fpl:List Nat}(h:o.op= .call c)(hc:c.callee= .builtin .append)
 (ht:c.argTypes.toList=[ty,ty2]) (hargs:c.args.toList.map (opnd s)=[.nil,src]) (hs:SrcR (C.i ty2).kind (C.i (C.i ty).elem) m src new gone fpl) (ok:OkSl C ty) (ha:app (C.i (C.i ty).elem).bytes [] new=some rows)
 (hfresh:m (o.dst.getD 0)=none) (cl:Clean s m [(o.dst.getD 0,0)]):
 Goes P N W base w0 s m o ⟨.ref (o.dst.getD 0) 0,(o.dst.getD 0,some (.row 0 (C.i (C.i ty).elem).size rows))::gone,o.dst.getD 0::fpl,[(o.dst.getD 0,0)]⟩ a w:=by
 obtain⟨x,y,hca,hx,hy⟩:=args_two hargs
 obtain⟨hbd,rfl⟩:=app_some ha
 obtain⟨hg1,hg2⟩:=src_gone hs
 have hrx:=opnd_rel R x
 rw[hx]at hrx
 have hry:=opnd_rel R y
 rw[hy]at hry
 obtain⟨n,news,f2,G2,hS⟩:=srcOK_of H R hs hry ok.z
 generalize hev:a.eval x=v at hrx
 cases hrx with
 |nil ad=>
  have own:Owns w (fun _=>False) (.slice ad 0 0) (.sl (C.i (C.i ty).elem).size []):= .sl0 _ _ _
  obtain⟨v',w',row,hrun,hgr,hrow,hown⟩:=run_app (ty:=o.type) (H.fact (t:=ty) (by rw[ok.k];decide)) ok.k (H.fact ok.e) ok.z ok.b ok.l own hS (fun _ h=>h.elim) (fun _ h=>h.elim) (fun b ⟨id,h1,h2,h3⟩=>(R.mem.own id b h2 h3).2.1) hbd
  have hrow0:row=none:=by
   cases row with
   |none=>rfl
   |some k=>exact(hrow k rfl).elim
  subst hrow0
  have hdne:∀id∈keys gone,id≠o.dst.getD 0:=fun id hid e=>hg2 id hid (e▸hfresh)
  refine goes_one R hdst hgr (d:=o.dst.getD 0) (obj:= .row 0 (C.i (C.i ty).elem).size rows) (.inl rfl) (v:=v') ?_ (by rw[updM_cons];simp) (fun id he=> ?_) cl (fun b=>False∨(∃id∈keys gone,m id≠none∧fp id b)∨(w.heap.size≤b∧b<w'.heap.size)) (fun b hb=> ?_) (fun k hk=>by cases hk) 0 v' (fun ver sz' rows' he=> ?_) (fun l he=>by cases he)
   (fun bv' hd' k e1 e2=> .ref _ _ _ ?_ fun _ _ _=>e2.symm)
  ·simp[execOp,h,resolve,hc,hca,two_types ht,invoke,builtin,hev,hrun]
  ·rw[updM_cons,if_neg he,hg1]
   by_cases hk:id∈keys gone
   ·exact .inr (by simp[hk])
   ·exact .inl (by simp[hk])
  ·rcases hb with hb|⟨id,h1,h2,h3⟩|hb
   ·exact hb.elim
   ·exact .inr ⟨id,.inr (by rw[updM_cons,if_neg (hdne id h1),hg1,if_pos h1]),h2,h3⟩
   ·exact .inl hb
  ·cases he;exact⟨hown,.inl (by simp)⟩
  ·obtain⟨a1,a2,a3,e,_⟩:=hown.slice;exact⟨_,_,_,e⟩
theorem goes_appRef(H:CtxOK P C)(R:RelE N W base w0 s m bv hd fp Fr a w){o:Oper}(hdst:∀d,o.dst=some d→N.ok d){c:Call}{ty ty2 id ver:Nat}{src:SV}{old new rows:List (List T)}{gone:List (Nat×Option MO)}{fpl:List Nat}(h:o.op= .call c)(hc:c.callee= .builtin .append)
 (ht:c.argTypes.toList=[ty,ty2]) (hargs:c.args.toList.map (opnd s)=[.ref id ver,src]) (hs:SrcR (C.i ty2).kind (C.i (C.i ty).elem) m src new gone fpl) (ok:OkSl C ty) (hm:m id=some (.row ver (C.i (C.i ty).elem).size old)) (hg:id∉keys gone)
 (ha:app (C.i (C.i ty).elem).bytes old new=some rows) (cl:Clean s m [(id,o.dst.getD 0+2)]):
 Goes P N W base w0 s m o ⟨.ref id (o.dst.getD 0+2),(id,some (.row (o.dst.getD 0+2) (C.i (C.i ty).elem).size rows))::gone,id::fpl,[(id,o.dst.getD 0+2)]⟩ a w:=by
 obtain⟨x,y,hca,hx,hy⟩:=args_two hargs
 obtain⟨hbd,rfl⟩:=app_some ha
 obtain⟨hg1,hg2⟩:=src_gone hs
 have hrx:=opnd_rel R x
 rw[hx]at hrx
 have hry:=opnd_rel R y
 rw[hy]at hry
 obtain⟨n,news,f2,G2,hS⟩:=srcOK_of H R hs hry ok.z
 generalize hev:a.eval x=v at hrx
 cases hrx with
 |ref _ _ _ _ hh=>
  have:=hh _ _ (asRow_row hm)
  subst this
  have own:=R.mem.rows id _ _ _ hm
  have hid:m id≠none:=by simp[hm]
  obtain⟨v',w',row,hrun,hgr,hrow,hown⟩:=run_app (ty:=o.type) (H.fact (t:=ty) (by rw[ok.k];decide)) ok.k (H.fact ok.e) ok.z ok.b ok.l own hS (fun b hb ⟨id2,h1,h2,h3⟩=>hg (R.mem.apart id id2 b hid h2 hb h3▸h1)) (fun b hb=>(R.mem.own id b hid hb).2.1) (fun b ⟨id,h1,h2,h3⟩=>(R.mem.own id b h2 h3).2.1) hbd
  have hdne:∀j∈keys gone,j≠id:=fun j hj e=>hg (e▸hj)
  refine goes_one R hdst hgr (d:=id) (obj:= .row (o.dst.getD 0+2) (C.i (C.i ty).elem).size (old++new)) (.inl rfl) (v:=v') ?_ (by rw[updM_cons];simp) (fun j he=> ?_) cl (fun b=>fp id b∨(∃id∈keys gone,m id≠none∧fp id b)∨(w.heap.size≤b∧b<w'.heap.size)) (fun b hb=> ?_) (fun k hk=>⟨id,.inl rfl,hid,hrow k hk⟩) 0 v' (fun ver sz' rows' he=> ?_) (fun l he=>by cases he)
   (fun bv' hd' k e1 e2=> .ref _ _ _ ?_ fun _ _ _=>e2.symm)
  ·simp[execOp,h,resolve,hc,hca,two_types ht,invoke,builtin,hev,hrun]
  ·rw[updM_cons,if_neg he,hg1]
   by_cases hk:j∈keys gone
   ·exact .inr (by simp[hk])
   ·exact .inl (by simp[hk])
  ·rcases hb with hb|⟨j,h1,h2,h3⟩|hb
   ·exact .inr ⟨id,.inl rfl,hid,hb⟩
   ·exact .inr ⟨j,.inr (by rw[updM_cons,if_neg (hdne j h1),hg1,if_pos h1]),h2,h3⟩
   ·exact .inl hb
  ·cases he;exact⟨hown,.inl (by simp)⟩
  ·obtain⟨a1,a2,a3,e,_⟩:=hown.slice;exact⟨_,_,_,e⟩
theorem run_appR{t tx ty:Nat}{it:TInfo}{i:TInfo}(ft:TFact P t it)(hk:it.kind=2)(fe:TFact P it.elem i)(hz1:1≤i.size)(hb1:1≤i.bytes)(hzl:i.zero.length=i.size){v x:Value}{old new:List (List T)}{Fr0 S0:Nat→Prop}
 (own:Reads w Fr0 v (.sl i.size old)) (hfull:IsFull v) {n:Nat} {news:List Value} {f2:Nat→Nat→Value} {G0:Nat→Nat→Nat→Prop} (hS0:SrcOK P i.size tx x new w S0 n news f2 G0) (hn1:1≤n) (hso:rowsScal old) (hsn:rowsScal new)
 (hbd:(old.length+new.length)*i.bytes≤140737488355328):∃v' w',(Builtin.append_ #[t,tx] ty #[v,x]).run P w= .ok v' w'∧w.grownBy w' none∧
  Owns w' (fun b=>w.heap.size≤b∧b<w'.heap.size) v' (.sl i.size (old++new)):=by
 have hS:SrcOK P i.size tx x new w noB0 n news f2 (fun _ _ _=>False):=⟨hS0.src,hS0.len,hS0.row,hS0.cell,fun i' r j t e1 e2=>(hS0.own i' r j t e1 e2).reads.owns_scalar (hsn r (List.mem_of_getElem? e1) t (List.mem_of_getElem? e2)) w _,fun _ _ _ h=>h.elim,fun _ _ _ _ _ h=>h.elim⟩
 have hFS:∀b,noB0 b→noB0 b→False:=fun _ h=>h.elim
 have hFl:∀b,noB0 b→b<w.heap.size:=fun _ h=>h.elim
 have hSl:∀b,noB0 b→b<w.heap.size:=fun _ h=>h.elim
 let G2:Nat→Nat→Nat→Prop:=fun _ _ _=>False
 have hu:=ft.slice hk
 obtain⟨d,z,h1,h2,h3,h4,h5,_⟩:=zero_rel (w:=w) (Fr:=fun _=>False) (m:=fun _=>none) (bv:=fun _=>0) (hd:=fun _=>undef) fe
 have hzc:z.cells.size=i.size:=by rw[←Array.length_toList,h5,hzl]
 have hsrc:=hS.src
 rw[←h3]at hsrc
 have hone2:∀(i':Nat) r (j:Nat) t,new[i']? =some r→r[j]? =some t→(f2 i' j).oneCell'=true:=fun i' r j t e1 e2=>hS.src.one _ (List.mem_of_getElem? (hS.cell i' r j t e1 e2))
 have hnl:news.length=n*i.size:=hS.src.newsLen
 have hsmall:old.length+new.length≤140737488355328:=Nat.le_trans (Nat.le_mul_of_pos_right _ hb1) hbd
 --the arm that makes a new row
 have grow:∀(ad:Option Addr) (olds:List Value) (c:Nat) (f1:Nat→Nat→Value) (G1:Nat→Nat→Nat→Prop),v= .slice ad old.length c→(Builtin.firstCells d.size old.length (.slice ad old.length c)).run P w.drew= .ok olds.toArray w.drew→olds.length=old.length*i.size→c<old.length+n→
  (∀(i':Nat) r,old[i']? =some r→r.length=i.size)→(∀(i':Nat) r (j:Nat) t,old[i']? =some r→r[j]? =some t→olds[i'*i.size+j]? =some (f1 i' j))→(∀(i':Nat) r (j:Nat) t,old[i']? =some r→r[j]? =some t→(f1 i' j).oneCell'=true)→
  (∀i j x,G1 i j x→noB0 x)→(∀i j i' j' x,G1 i j x→G1 i' j' x→i=i'∧j=j')→(∀(i':Nat) r (j:Nat) t,old[i']? =some r→r[j]? =some t→Owns w (G1 i' j) (f1 i' j) t)→
  ∃v' w' row,(Builtin.append_ #[t,tx] ty #[v,x]).run P w= .ok v' w'∧w.grownBy w' row∧(∀k,row=some k→noB0 k)∧Owns w' (fun b=>noB0 b∨noB0 b∨(w.heap.size≤b∧b<w'.heap.size)) v' (.sl i.size (old++new)):=by
  intro ad olds c f1 G1 hv hold hol hgr hr1 hc1 ho1 hG1 hd1 hown1
  have hrun:=run_append_grow_src (P:=P) w t tx ty it.elem d z hu h1 h2 ad old.length c olds hold x n news hsrc hgr (by rw[←hS.len];omega) (growslice_fits hgr (by rw[h4,←hS.len];exact hbd))
  rw[hv]
  refine⟨_,_,none,hrun,⟨rfl,rfl,rfl,by simp,fun k hk' _=>by
   show((w.drew.alloc _).heap)[k]? =_
   rw[Below.heap_alloc _ _ _ (by simpa using hk')];rfl⟩,fun k hk'=>by(cases hk'), ?_⟩
  have hge:=grownCap_ge w (old.length+n) c it.elem
  have hnew:((w.drew.alloc (.cells ((olds++news).toArray++Builtin.zeroCells z.cells (grownCap w (old.length+n) c it.elem -(old.length+n))) it.elem)).heap)[w.heap.size]? =
   some (.cells ⟨olds++news++(Builtin.zeroCells z.cells (grownCap w (old.length+n) c it.elem -(old.length+n))).toList⟩ it.elem (0,0)):=by
   have:=heap_new w.drew (.cells ((olds++news).toArray++Builtin.zeroCells z.cells (grownCap w (old.length+n) c it.elem -(old.length+n))) it.elem)
   rw[show w.drew.heap.size=w.heap.size from rfl]at this
   rw[this]
   congr 2
   apply Array.ext'
   simp
  have old_:∀b,b<w.heap.size→((w.drew.alloc (.cells ((olds++news).toArray++Builtin.zeroCells z.cells (grownCap w (old.length+n) c it.elem -(old.length+n))) it.elem)).heap)[b]? =w.heap[b]? :=by
   intro b hb
   rw[Below.heap_alloc _ _ _ (by simpa using hb)];rfl
  refine own_join0 (A:=noB0) (B:=noB0) (D:=_) (f1:=f1) (f2:=f2) (G1:=G1) (G2:=G2) rfl hS.len hge hnew ?_ (.inr (Nat.le_refl _)) (.inr (.inr ⟨Nat.le_refl _,by simp⟩)) (fun y hy=>⟨.inl hy,fun e=>by have:=hFl y hy;omega⟩) (fun y hy=>⟨.inr (.inl hy),fun e=>by have:=hSl y hy;omega⟩)
   hr1 hS.row (fun i' r j t e1 e2=> ?_) (fun i' r j t e1 e2=> ?_) ho1 hone2 hG1 hS.sub hFS hd1 hS.dis (fun i' r j t e1 e2=>(hown1 i' r j t e1 e2).mono (fun _ h=>h) (fun b hb=>old_ b (hFl b (hG1 _ _ _ hb)))) (fun i' r j t e1 e2=>(hS.own i' r j t e1 e2).mono (fun _ h=>h) (fun b hb=>old_ b (hSl b (hS.sub 0 0 _ hb))))
  ·simp only[List.length_append,hol,hnl,Array.length_toList,size_zeroCells,hzc,←Nat.add_mul]
   apply Nat.le_of_eq
   congr 1
   omega
  ·have:=hc1 i' r j t e1 e2
   have hlt:=(List.getElem?_eq_some_iff.1 this).1
   rw[List.append_assoc,List.getElem?_append_left hlt];exact this
  ·have:=hS.cell i' r j t e1 e2
   have hlt:=(List.getElem?_eq_some_iff.1 this).1
   rw[List.append_assoc,List.getElem?_append_right (by rw[hol,Nat.add_mul];omega),hol,Nat.add_mul,show old.length*i.size+i'*i.size+j -old.length*i.size=i'*i.size+j by omega,List.getElem?_append_left hlt];exact this
 suffices h:∃v' w' row,(Builtin.append_ #[t,tx] ty #[v,x]).run P w= .ok v' w'∧w.grownBy w' row∧(∀k,row=some k→noB0 k)∧Owns w' (fun b=>noB0 b∨noB0 b∨(w.heap.size≤b∧b<w'.heap.size)) v' (.sl i.size (old++new))by
  obtain⟨v',w',row,e1,e2,e3,e4⟩:=h
  cases row with
  |some k=>exact(e3 k rfl).elim
  |none=>exact⟨v',w',e1,e2,e4.mono (fun b hb=>by
   rcases hb with hb|hb|hb
   ·exact hb.elim
   ·exact hb.elim
   ·exact hb) (fun _ _=>rfl)⟩
 cases own with
 |sl0 ad c sz=>
  obtain⟨a0,n0,ef⟩:=hfull
  have hc0:c=0:=by cases ef;rfl
  subst hc0
  refine grow ad [] 0 (fun _ _=>undef) (fun _ _ _=>False) rfl ?_ (by simp) (by simp;omega) (fun i' r h=>by simp at h) (fun i' r j t h=>by simp at h) (fun i' r j t h=>by simp at h) (fun _ _ _ h=>h.elim) (fun _ _ _ _ _ h=>h.elim) (fun i' r j t h=>by simp at h)
  cases ad<;>simp[Builtin.firstCells,loadCells,loadCellsFrom]
 |sl b bo len c sz rs f1 hlen hcap hb hrow hcell hrd=>
  obtain⟨a0,n0,ef⟩:=hfull
  have hcl:c=len:=by cases ef;rfl
  have hrowL:∀k,k<len*i.size→∃r t,old[k/i.size]? =some r∧r[k % i.size]? =some t:=by
   intro k hk'
   have e1:k/i.size<old.length:=by rw[hlen,Nat.div_lt_iff_lt_mul (by omega)];exact hk'
   have e2:=List.getElem?_eq_getElem e1
   have e3:k % i.size<(old[k/i.size]).length:=by rw[hrow _ _ e2];exact Nat.mod_lt _ (by omega)
   exact⟨_,_,e2,List.getElem?_eq_getElem e3⟩
  refine grow (some ⟨b,bo,none⟩) (newsOf len i.size f1) c f1 (fun _ _ _=>False) (by rw[hlen]) ?_ (by rw[newsOf_length,hlen]) (by omega) hrow (fun i' r j t e1 e2=>newsOf_get (by rw[←hlen];exact(List.getElem?_eq_some_iff.1 e1).1) (by rw[←hrow _ _ e1];exact(List.getElem?_eq_some_iff.1 e2).1))
   (fun i' r j t e1 e2=>(hrd i' r j t e1 e2).oneCell (hso r (List.mem_of_getElem? e1) t (List.mem_of_getElem? e2)))
   (fun i j x hx=>hx.elim) (fun _ _ _ _ _ h=>h.elim) (fun i' r j t e1 e2=>(hrd i' r j t e1 e2).owns_scalar (hso r (List.mem_of_getElem? e1) t (List.mem_of_getElem? e2)) w _)
  have:=run_firstCells_some (P:=P) w.drew d.size len ⟨b,bo,none⟩ len c (newsOf len i.size f1) (by rw[h3];exact newsOf_length _ _ _) (fun k u hk'=>by
   obtain⟨e1,rfl⟩:=newsOf_all hk'
   obtain⟨r,t,e2,e3⟩:=hrowL k e1
   have:=hcell _ _ _ _ e2 e3
   rw[Addr.add_mid,World.cell?_drew]
   rw[show k/i.size*i.size+k % i.size=k by rw[Nat.mul_comm];exact Nat.div_add_mod _ _]at this
   exact this)
  rw[hlen];exact this
theorem goes_appFs(H:CtxOK P C)(R:RelE N W base w0 s m bv hd fp Fr a w){o:Oper}(hdst:∀d,o.dst=some d→N.ok d){c:Call}{ty ty2:Nat}{old new rows:List (List T)}{fpl':List Nat}(h:o.op= .call c)(hc:c.callee= .builtin .append)
 (ht:c.argTypes.toList=[ty,ty2]) (hargs:c.args.toList.map (opnd s)=[.fs (C.i (C.i ty).elem).size old,.fs (C.i (C.i ty).elem).size new]) (ok:OkSl C ty) (hk2:(C.i ty2).kind=2) (ho:rowsScal old) (hn:rowsScal new) (hne:new≠[])
 (ha:app (C.i (C.i ty).elem).bytes old new=some rows) (hfresh:m (o.dst.getD 0)=none) (cl:Clean s m [(o.dst.getD 0,0)]):
 Goes P N W base w0 s m o ⟨.ref (o.dst.getD 0) 0,[(o.dst.getD 0,some (.row 0 (C.i (C.i ty).elem).size rows))],fpl',[(o.dst.getD 0,0)]⟩ a w:=by
 obtain⟨x,y,hca,hx,hy⟩:=args_two hargs
 obtain⟨hbd,rfl⟩:=app_some ha
 have hrx:=opnd_rel R x
 rw[hx]at hrx
 have hry:=opnd_rel R y
 rw[hy]at hry
 have hry:VRel w Fr m bv hd (.t (.sl (C.i (C.i ty).elem).size new)) (a.eval y):=by
  cases hry with
  |fs _ _ _ h _=>exact .t _ _ h
 obtain⟨n,news,f2,G2,hS⟩:=srcOK_of H R (.sl hk2 new hn) hry ok.z
 have hn1:1≤n:=by
  rw[←hS.len]
  cases new with
  |nil=>exact absurd rfl hne
  |cons _ _=>simp
 generalize hev:a.eval x=v at hrx
 cases hrx with
 |fs _ _ _ hrd hfull=>
  obtain⟨v',w',hrun,hgr,hown⟩:=run_appR (ty:=o.type) (H.fact (t:=ty) (by rw[ok.k];decide)) ok.k (H.fact ok.e) ok.z ok.b ok.l hrd hfull hS hn1 ho hn hbd
  refine goes_one R hdst hgr (d:=o.dst.getD 0) (obj:= .row 0 (C.i (C.i ty).elem).size (old++new)) (.inl rfl) (v:=v') ?_ (by rw[updM_one];simp) (fun j he=> .inl (by rw[updM_one,if_neg he])) cl (fun b=>w.heap.size≤b∧b<w'.heap.size) (fun b hb=> .inl hb) (fun k hk=>by cases hk) 0 v' (fun ver sz' rows' he=> ?_) (fun l he=>by cases he)
   (fun bv' hd' k e1 e2=> .ref _ _ _ ?_ fun _ _ _=>e2.symm)
  ·simp[execOp,h,resolve,hc,hca,two_types ht,invoke,builtin,hev,hrun]
  ·cases he;exact⟨hown,.inl (by simp)⟩
  ·obtain⟨a1,a2,a3,e,_⟩:=hown.slice;exact⟨_,_,_,e⟩
theorem goes_appFull(H:CtxOK P C)(R:RelE N W base w0 s m bv hd fp Fr a w){o:Oper}(hdst:∀d,o.dst=some d→N.ok d){c:Call}{ty ty2 id:Nat}{src:SV}{old new rows:List (List T)}{gone:List (Nat×Option MO)}{fpl fpl':List Nat}(h:o.op= .call c)(hc:c.callee= .builtin .append)
 (ht:c.argTypes.toList=[ty,ty2]) (hargs:c.args.toList.map (opnd s)=[.ref id 1,src]) (hs:SrcR (C.i ty2).kind (C.i (C.i ty).elem) m src new gone fpl) (ok:OkSl C ty) (hm:m id=some (.row 1 (C.i (C.i ty).elem).size old)) (ho:rowsScal old) (hn:rowsScal new) (hne:new≠[])
 (ha:app (C.i (C.i ty).elem).bytes old new=some rows) (hfresh:m (o.dst.getD 0)=none) (cl:Clean s m [(o.dst.getD 0,0)]):
 Goes P N W base w0 s m o ⟨.ref (o.dst.getD 0) 0,[(o.dst.getD 0,some (.row 0 (C.i (C.i ty).elem).size rows))],fpl',[(o.dst.getD 0,0)]⟩ a w:=by
 obtain⟨x,y,hca,hx,hy⟩:=args_two hargs
 obtain⟨hbd,rfl⟩:=app_some ha
 have hrx:=opnd_rel R x
 rw[hx]at hrx
 have hry:=opnd_rel R y
 rw[hy]at hry
 obtain⟨n,news,f2,G2,hS⟩:=srcOK_of H R hs hry ok.z
 have hn1:1≤n:=by
  rw[←hS.len]
  cases new with
  |nil=>exact absurd rfl hne
  |cons _ _=>simp
 generalize hev:a.eval x=v at hrx
 cases hrx with
 |ref _ _ _ _ hh=>
  have:=hh _ _ (asRow_row hm)
  subst this
  have own:=R.mem.rows id _ _ _ hm
  obtain⟨v',w',hrun,hgr,hown⟩:=run_appF (ty:=o.type) (H.fact (t:=ty) (by rw[ok.k];decide)) ok.k (H.fact ok.e) ok.z ok.b ok.l own (R.mem.full id _ _ (asRow_row hm)) hS hn1 ho hn hbd
  refine goes_one R hdst hgr (d:=o.dst.getD 0) (obj:= .row 0 (C.i (C.i ty).elem).size (old++new)) (.inl rfl) (v:=v') ?_ (by rw[updM_one];simp) (fun j he=> .inl (by rw[updM_one,if_neg he])) cl (fun b=>w.heap.size≤b∧b<w'.heap.size) (fun b hb=> .inl hb) (fun k hk=>by cases hk) 0 v' (fun ver sz' rows' he=> ?_) (fun l he=>by cases he)
   (fun bv' hd' k e1 e2=> .ref _ _ _ ?_ fun _ _ _=>e2.symm)
  ·simp[execOp,h,resolve,hc,hca,two_types ht,invoke,builtin,hev,hrun]
  ·cases he;exact⟨hown,.inl (by simp)⟩
  ·obtain⟨a1,a2,a3,e,_⟩:=hown.slice;exact⟨_,_,_,e⟩
theorem kind_ge10{u:TypeDesc}(h:10≤kindCode u):∃k,u= .int k:=by
 cases u<;>first|(simp[kindCode]at h;done)|exact⟨_,rfl⟩
theorem run_part1{t off:Nat}{i:TInfo}(f:TFact P t i)(hk:i.kind=1∨i.kind=5∨10≤i.kind){cs:List Value}{v:Value}(hv:cs[off]? =some v):(part t ⟨cs⟩ off).run P w= .ok v w:=by
 have hagg:i.agg=false:=by
  obtain⟨d,u,z,_,_,_,_,_,ha,hkk,_⟩:=f.ex
  rw[hkk]at hk
  rw[ha]
  cases u<;>first|rfl|(simp[kindCode]at hk;done)
 have:(⟨cs⟩:Array Value)[off]? =some v:=by simpa using hv
 simp[part,f.isAgg,hagg,this]
theorem eqFields_run(H:CtxOK P C){xs ys:List Value}(d:Nat):∀(fs:List Field) (la lb:List SV) (k:Nat) (p:Bool),eqTypes C la (fs.map fun f=>(f.offset,f.type)) k=true→eqCells la lb=some p→(∀f∈fs,f.name≠ "_")→
 (∀(i:Nat) x,la[i]? =some x→∃u,xs[k+i]? =some u∧VRel w Fr m bv hd x u)→(∀(i:Nat) x,lb[i]? =some x→∃u,ys[k+i]? =some u∧VRel w Fr m bv hd x u)→
 (Op.eqFields (d+1) ⟨xs⟩ ⟨ys⟩ fs).run P w= .ok p w
 |[],la,lb,k,p,ht,he,_,_,_=>by
  cases la with
  |nil=>
   cases lb with
   |nil=>simp only[eqCells,Option.some.injEq]at he;subst he;simp[Op.eqFields]
   |cons b lb=>simp[eqCells]at he
  |cons x la=>cases x with
   |t x=>cases x<;>simp[eqTypes]at ht
   |_=>simp[eqTypes]at ht
 |f::fs,la,lb,k,p,ht,he,hn,hx,hy=>by
  cases la with
  |nil=>simp[eqTypes]at ht
  |cons sx la=>
   cases lb with
   |nil=>cases sx<;>simp[eqCells]at he
   |cons sy lb=>
    have hnm:f.name≠ "_" :=hn f (by simp)
    obtain⟨ux,hux,hrx⟩:=hx 0 sx rfl
    obtain⟨uy,huy,hry⟩:=hy 0 sy rfl
    rw[Nat.add_zero]at hux huy
    cases sx with
    |t x=>
     cases sy with
     |t y=>
      --the one field
      have one:∃q,eqT x y=some q∧f.offset=k∧eqTypes C la (fs.map fun f=>(f.offset,f.type)) (k+1)=true∧((C.i f.type).kind=1∨(C.i f.type).kind=5∨10≤(C.i f.type).kind)∧(Op.equalIn (d+1) f.type ux uy).run P w= .ok q w∧∃q',eqCells la lb=some q'∧p=(q&&q'):=by
       have rest:∀q,eqT x y=some q→∃q',eqCells la lb=some q'∧p=(q&&q'):=by
        intro q hq
        cases la with
        |nil=>
         cases lb with
         |nil=>simp only[eqCells,hq,Option.some.injEq]at he;exact⟨true,rfl,by simp[he]⟩
         |cons b lb=>simp only[eqCells,hq]at he;cases he
        |cons a' la=>
         have he':(match eqT x y,eqCells (a'::la) lb with|some p,some q=>some (p&&q)|_,_=>none)=some p:=by
          cases lb<;>exact he
         rw[hq]at he'
         cases hq':eqCells (a'::la) lb with
         |none=>simp[hq']at he'
         |some q'=>simp only[hq',Option.some.injEq]at he';exact⟨q',rfl,he'.symm⟩
       have hqs:∃q,eqT x y=some q:=by
        cases hq:eqT x y with
        |some q=>exact⟨q,rfl⟩
        |none=>
         cases la with
         |nil=>cases lb<;>simp[eqCells,hq]at he
         |cons a' la=>cases lb<;>simp[eqCells,hq]at he
       obtain⟨q,hq⟩:=hqs
       obtain⟨q',h1,h2⟩:=rest q hq
       have hrx':=hrx.reads
       have hry':=hry.reads
       cases x with
       |int kx nx=>
        simp only[List.map_cons,eqTypes,Bool.and_eq_true]at ht
        cases y<;>simp only[eqT,reduceCtorEq]at hq
        rename_i ky ny
        by_cases hkk:kx=ky
        ·subst hkk
         simp only[decide_true,cond_true,Option.some.injEq]at hq
         subst hq
         have h10:=bleN ht.1.2
         obtain⟨_,u,_,_,hu,_,_,_,_,hku,_⟩:=(H.fact (t:=f.type) (by omega)).ex
         rw[hku]at h10
         obtain⟨k',rfl⟩:=kind_ge10 h10
         rw[hrx'.int_eq,hry'.int_eq]
         exact⟨_,by simp[eqT],beqN ht.1.1,ht.2,.inr (.inr (bleN ht.1.2)),run_equalIn_int w d f.type kx k' nx ny hu,q',h1,h2⟩
        ·simp[hkk]at hq
       |bool bx=>
        simp only[List.map_cons,eqTypes,Bool.and_eq_true]at ht
        cases y<;>simp only[eqT,reduceCtorEq,Option.some.injEq]at hq
        rename_i by'
        subst hq
        have h5:=beqN ht.1.2
        rw[hrx'.bool_eq,hry'.bool_eq]
        exact⟨_,rfl,beqN ht.1.1,ht.2,.inr (.inl h5),run_equalIn_bool' w d f.type bx by' ((H.fact (t:=f.type) (by omega)).bool h5),q',h1,h2⟩
       |str lx=>
        simp only[List.map_cons,eqTypes,Bool.and_eq_true]at ht
        cases y<;>simp only[eqT,reduceCtorEq,Option.some.injEq]at hq
        rename_i ly
        subst hq
        have h5:=beqN ht.1.2
        have e1:=hrx'.str_eq
        have e2:=hry'.str_eq
        refine⟨_,rfl,beqN ht.1.1,ht.2,.inl h5, ?_,q',h1,h2⟩
        rw[e1,e2,run_equalIn_string w d f.type _ _ ((H.fact (t:=f.type) (by omega)).string h5),bytesToList,bytesToList]
       |_=>simp[eqTypes]at ht
      obtain⟨q,hq,hoff,ht',hkk,hrun,q',hq',rfl⟩:=one
      have ih:=eqFields_run H d fs la lb (k+1) q' ht' hq' (fun f hf=>hn f (by simp[hf])) (fun i x hi=>by have:=hx (i+1) x hi;rwa [show k+(i+1)=k+1+i by omega]at this) (fun i x hi=>by have:=hy (i+1) x hi;rwa [show k+(i+1)=k+1+i by omega]at this)
      have p1:=run_part1 (w:=w) (H.fact (t:=f.type) (by omega)) hkk (off:=f.offset) (cs:=xs) (v:=ux) (by rw[hoff];exact hux)
      have p2:=run_part1 (w:=w) (H.fact (t:=f.type) (by omega)) hkk (off:=f.offset) (cs:=ys) (v:=uy) (by rw[hoff];exact huy)
      simp only[Op.eqFields,if_pos hnm,Sem.run_bind,p1,p2,Result.andThen_ok,hrun]
      cases q
      ·simp
      ·simpa using ih
     |_=>simp[eqCells]at he
    |_=>simp[eqTypes]at ht
theorem goes_aggEq(H:CtxOK P C)(R:RelE N W base w0 s m bv hd fp Fr a w){o:Oper}(hdst:∀d,o.dst=some d→N.ok d){op:BinOp}{t u:Nat}{x y:Operand}{la lb:List SV}{p q:Bool}(h:o.op= .binOp op t x y u)(hx:opnd s x= .agg la)(hy:opnd s y= .agg lb)(ht:t∈C.eqs)
 (hk:eqTypes C la (C.i t).fields 0=true) (hp:eqCells la lb=some p) (hq:EqK op p q):Goes P N W base w0 s m o (pureE (.t (.bool q))) a w:=by
 obtain⟨hk3,e1,e2,e3⟩:=H.eqs t ht
 obtain⟨_,u',_,_,hu,_,_,_,_,hkk,_,hff,_⟩:=(H.fact (t:=t) (by omega)).ex
 rw[hkk]at hk3
 obtain⟨fs,rfl⟩:=kind_struct hk3
 have hfo:P.fieldsOf t=fs:=by simp[Program.fieldsOf,hu]
 have hrx:=opnd_rel R x
 rw[hx]at hrx
 have hry:=opnd_rel R y
 rw[hy]at hry
 generalize hevx:a.eval x=vx at hrx
 generalize hevy:a.eval y=vy at hry
 rw[hff]at hk
 cases hrx with
 |agg _ cx hlx hx'=>
  cases hry with
  |agg _ cy hly hy'=>
   have hrun:=eqFields_run (w:=w) H (xs:=cx) (ys:=cy) 9998 fs.toList la lb 0 p hk hp (by rw[←hfo];exact e3) (fun i sv hi=>by
    have hl:i<cx.length:=by rw[hlx];exact(List.getElem?_eq_some_iff.1 hi).1
    exact⟨_,by rw[Nat.zero_add];exact List.getElem?_eq_getElem hl,hx' i _ _ (List.getElem?_eq_getElem hl) hi⟩) (fun i sv hi=>by
    have hl:i<cy.length:=by rw[hly];exact(List.getElem?_eq_some_iff.1 hi).1
    exact⟨_,by rw[Nat.zero_add];exact List.getElem?_eq_getElem hl,hy' i _ _ (List.getElem?_eq_getElem hl) hi⟩)
   have heq:(Op.equalIn 10000 t (.agg ⟨cx⟩) (.agg ⟨cy⟩)).run P w= .ok p w:=by
    have:=run_equalIn_agg (P:=P) w 9999 t ⟨cx⟩ ⟨cy⟩ (by rw[hfo];exact hu) e1
    rw[this,hfo];exact hrun
   have hgd:=run_eqGuard_agg (P:=P) w op t x y ⟨cx⟩ ⟨cy⟩ e2
   rcases hq with⟨rfl,rfl⟩|⟨rfl,rfl⟩
   ·exact goes_pure R hdst (by simp only[execOp,h,hevx,hevy,Sem.run_bind,hgd,Result.andThen_ok,run_eql_struct,heq,Sem.run_pure]) (.t _ _ (.bool _))
   ·exact goes_pure R hdst (by simp only[execOp,h,hevx,hevy,Sem.run_bind,hgd,Result.andThen_ok,run_neq_struct,heq,Sem.run_pure]) (.t _ _ (.bool _))
end
end Go.Pv
