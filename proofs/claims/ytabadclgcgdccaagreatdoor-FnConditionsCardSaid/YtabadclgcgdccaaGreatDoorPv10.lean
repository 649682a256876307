/- Plain lemmas and definitions. Nothing is claimed here. -/
import Derived.Test.YtabadclgcgdccaaGreatDoorPv9
set_option linter.unusedSimpArgs false
set_option linter.unusedVariables false
namespace Go.Pv
open Go Go.RowKit Go.Lib
section
variable {P:Program} {C:Ctx} {N:FrP} {W:Nat→Prop} {base:Nat} {w0:World} {s:Nat→SV} {m:Nat→Option MO} {bv:Nat→Nat} {hd:Nat→Value} {fp:Nat→Nat→Prop} {Fr:Nat→Prop} {a:Act} {w:World}
structure SrcOK(P:Program)(sz tx:Nat)(x:Value)(new:List (List T))(w:World)(S:Nat→Prop)(n:Nat)(news:List Value)(f:Nat→Nat→Value)(G:Nat→Nat→Nat→Prop):Prop where
 src:Src P sz tx x n news w
 len:new.length=n
 row:∀(i:Nat) r,new[i]? =some r→r.length=sz
 cell:∀(i:Nat) r (j:Nat) t,new[i]? =some r→r[j]? =some t→news[i*sz+j]? =some (f i j)
 own:∀(i:Nat) r (j:Nat) t,new[i]? =some r→r[j]? =some t→Owns w (G i j) (f i j) t
 sub:∀i j b,G i j b→S b
 dis:∀i j i' j' b,G i j b→G i' j' b→i=i'∧j=j'
def newsOf(n sz:Nat)(f:Nat→Nat→Value):List Value:=(List.range (n*sz)).map fun k=>f (k/sz) (k % sz)
theorem newsOf_length(n sz:Nat)(f:Nat→Nat→Value):(newsOf n sz f).length=n*sz:=by simp[newsOf]
theorem newsOf_get{n sz:Nat}{f:Nat→Nat→Value}{i j:Nat}(hi:i<n)(hj:j<sz):(newsOf n sz f)[i*sz+j]? =some (f i j):=by
 have hlt:i*sz+j<n*sz:=row_lt hi hj rfl
 have h1:(i*sz+j)/sz=i:=by rw[Nat.mul_comm,Nat.mul_add_div (by omega),Nat.div_eq_of_lt hj];omega
 have h2:(i*sz+j) % sz=j:=by rw[Nat.mul_comm,Nat.mul_add_mod,Nat.mod_eq_of_lt hj]
 simp[newsOf,List.getElem?_range hlt,h1,h2]
theorem newsOf_all{n sz:Nat}{f:Nat→Nat→Value}{k:Nat}{u:Value}(h:(newsOf n sz f)[k]? =some u):k<n*sz∧u=f (k/sz) (k % sz):=range_get h
theorem srcOK_of(H:CtxOK P C)(R:RelE N W base w0 s m bv hd fp Fr a w){ty2:Nat}{i:TInfo}{src:SV}{x:Value}{new:List (List T)}{gone:List (Nat×Option MO)}{fpl:List Nat}(hs:SrcR (C.i ty2).kind i m src new gone fpl)(hx:VRel w Fr m bv hd src x)(hz:1≤i.size):
 ∃n news f G,SrcOK P i.size ty2 x new w (fun b=>∃id∈keys gone,m id≠none∧fp id b) n news f G:=by
 cases hs with
 |nil hk=>
  have hu:=(H.fact (t:=ty2) (by omega)).slice hk
  cases hx with
  |nil ad=>
   refine⟨0,[],fun _ _=>undef,fun _ _ _=>False, ?_,rfl,fun i r h=>by simp at h,fun i r j t h=>by simp at h,fun i r j t h=>by simp at h,fun _ _ _ h=>h.elim,fun _ _ _ _ _ h=>h.elim⟩
   cases ad with
   |none=>exact Src.ofNil w hu 0
   |some ad=>exact Src.ofSlice w hu ad 0 0 [] (by simp) (fun j u h=>by simp at h) (fun u h=>by cases h)
 |sl hk _ hsc=>
  have hu:=(H.fact (t:=ty2) (by omega)).slice hk
  have hr:=hx.reads
  cases hr with
  |sl0 ad c sz=>
   refine⟨0,[],fun _ _=>undef,fun _ _ _=>False, ?_,rfl,fun i r h=>by simp at h,fun i r j t h=>by simp at h,fun i r j t h=>by simp at h,fun _ _ _ h=>h.elim,fun _ _ _ _ _ h=>h.elim⟩
   cases ad with
   |none=>exact Src.ofNil w hu c
   |some ad=>exact Src.ofSlice w hu ad 0 c [] (by simp) (fun j u h=>by simp at h) (fun u h=>by cases h)
  |sl b off n c sz rows f hn hc hb hrow hcell hrd=>
   have hrowL:∀k,k<n*i.size→∃r t,new[k/i.size]? =some r∧r[k % i.size]? =some t:=by
    intro k hk'
    have h1:k/i.size<new.length:=by rw[hn,Nat.div_lt_iff_lt_mul (by omega)];exact hk'
    have h2:=List.getElem?_eq_getElem h1
    have h3:k % i.size<(new[k/i.size]).length:=by rw[hrow _ _ h2];exact Nat.mod_lt _ (by omega)
    exact⟨_,_,h2,List.getElem?_eq_getElem h3⟩
   refine⟨n,newsOf n i.size f,f,fun _ _ _=>False,Src.ofSlice w hu ⟨b,off,none⟩ n c _ (newsOf_length _ _ _) (fun k u h=> ?_) (fun u h=> ?_),hn,hrow,fun i' r j t h1 h2=>newsOf_get (by rw[←hn];exact(List.getElem?_eq_some_iff.1 h1).1) (by rw[←hrow _ _ h1];exact(List.getElem?_eq_some_iff.1 h2).1),
    fun i' r j t h1 h2=>(hrd _ _ _ _ h1 h2).owns_scalar (hsc r (List.mem_of_getElem? h1) t (List.mem_of_getElem? h2)) w _,fun _ _ _ h=>h.elim,fun _ _ _ _ _ h=>h.elim⟩
   ·obtain⟨h1,rfl⟩:=newsOf_all h
    obtain⟨r,t,h2,h3⟩:=hrowL k h1
    have:=hcell _ _ _ _ h2 h3
    rw[Addr.add_mid]
    rw[show k/i.size*i.size+k % i.size=k by rw[Nat.mul_comm];exact Nat.div_add_mod _ _]at this
    exact this
   ·obtain⟨k,hk'⟩:=List.mem_iff_getElem?.1 h
    obtain⟨h1,rfl⟩:=newsOf_all hk'
    obtain⟨r,t,h2,h3⟩:=hrowL k h1
    exact(hrd _ _ _ _ h2 h3).oneCell (hsc r (List.mem_of_getElem? h2) t (List.mem_of_getElem? h3))
 |str hk l hsz=>
  have hu:=(H.fact (t:=ty2) (by omega)).string hk
  have:=hx.reads.str_eq
  subst this
  have hget:∀(i':Nat) (r:List T) (j:Nat) (t:T),(rowsI .u8 (intsOf l))[i']? =some r→r[j]? =some t→j=0∧∃b:UInt8,l[i']? =some b∧t=T.int .u8 (b.toNat:Int):=by
   intro i' r j t h1 h2
   simp only[rowsI,intsOf,List.map_map,List.getElem?_map,Option.map_eq_some_iff,Function.comp]at h1
   obtain⟨b,hb,rfl⟩:=h1
   have hj0:j=0:=by have:=(List.getElem?_eq_some_iff.1 h2).1;simp at this;exact this
   subst hj0
   simp at h2
   exact⟨rfl,b,hb,h2.symm⟩
  refine⟨l.length,byteCells ⟨⟨l⟩⟩,fun i' _=> .int .u8 ((l.getD i' 0).toNat:Int),fun _ _ _=>False,by rw[hsz];exact Src.ofString w hu ⟨⟨l⟩⟩,by simp[rowsI,intsOf],fun i' r h=> ?_,fun i' r j t h1 h2=> ?_,fun i' r j t h1 h2=> ?_,fun _ _ _ h=>h.elim,fun _ _ _ _ _ h=>h.elim⟩
  ·simp only[rowsI,intsOf,List.map_map,List.getElem?_map,Option.map_eq_some_iff,Function.comp]at h
   obtain⟨b,hb,rfl⟩:=h
   rw[hsz];rfl
  ·obtain⟨rfl,b,hb,rfl⟩:=hget i' r j t h1 h2
   rw[hsz,Nat.mul_one,Nat.add_zero]
   simp[byteCells,hb,List.getD]
  ·obtain⟨rfl,b,hb,rfl⟩:=hget i' r j t h1 h2
   simp only[List.getD,hb,Option.getD_some]
   exact .int _ _ _
 |ref hk id ver _ hm=>
  have hu:=(H.fact (t:=ty2) (by omega)).slice hk
  cases hx with
  |ref _ _ _ _ hh=>
   have:=hh _ _ (asRow_row hm)
   subst this
   have own:=R.mem.rows id _ _ _ hm
   generalize hhd:hd id=hv at own
   cases own with
   |sl0 F ad=>
    refine⟨0,[],fun _ _=>undef,fun _ _ _=>False, ?_,rfl,fun i r h=>by simp at h,fun i r j t h=>by simp at h,fun i r j t h=>by simp at h,fun _ _ _ h=>h.elim,fun _ _ _ _ _ h=>h.elim⟩
    cases ad with
    |none=>exact Src.ofNil w hu 0
    |some ad=>exact Src.ofSlice w hu ad 0 0 [] (by simp) (fun j u h=>by simp at h) (fun u h=>by cases h)
   |sl _ b bo n c sz rs cells el lo hi f G hn hc hb hsz hz' hF hrow hcell hone hG hD hrd=>
    have hrowL:∀k,k<n*i.size→∃r t,new[k/i.size]? =some r∧r[k % i.size]? =some t:=by
     intro k hk'
     have h1:k/i.size<new.length:=by rw[hn,Nat.div_lt_iff_lt_mul (by omega)];exact hk'
     have h2:=List.getElem?_eq_getElem h1
     have h3:k % i.size<(new[k/i.size]).length:=by rw[hrow _ _ h2];exact Nat.mod_lt _ (by omega)
     exact⟨_,_,h2,List.getElem?_eq_getElem h3⟩
    refine⟨n,newsOf n i.size f,f,G,Src.ofSlice w hu ⟨b,bo,none⟩ n c _ (newsOf_length _ _ _) (fun k u h=> ?_) (fun u h=> ?_),hn,hrow,fun i' r j t h1 h2=>newsOf_get (by rw[←hn];exact(List.getElem?_eq_some_iff.1 h1).1) (by rw[←hrow _ _ h1];exact(List.getElem?_eq_some_iff.1 h2).1),
     fun i' r j t h1 h2=>hrd _ _ _ _ h1 h2,fun i j b hb=>⟨id,by simp[keys],by simp[hm],(hG i j b hb).1⟩,hD⟩
    ·obtain⟨h1,rfl⟩:=newsOf_all h
     obtain⟨r,t,h2,h3⟩:=hrowL k h1
     have:=hcell _ _ _ _ h2 h3
     rw[Addr.add_mid,cell_heap hb]
     rw[show k/i.size*i.size+k % i.size=k by rw[Nat.mul_comm];exact Nat.div_add_mod _ _]at this
     exact this
    ·obtain⟨k,hk'⟩:=List.mem_iff_getElem?.1 h
     obtain⟨h1,rfl⟩:=newsOf_all hk'
     obtain⟨r,t,h2,h3⟩:=hrowL k h1
     exact hone _ _ _ _ h2 h3
theorem own_join{w':World}{sz n k:Nat}{old new:List (List T)}{f1 f2:Nat→Nat→Value}{G1 G2:Nat→Nat→Nat→Prop}{b bo c:Nat}{cells:List Value}{el:Nat}{fz:Nat×Nat}{A B D:Nat→Prop}
 (ho:old.length=n) (hn:new.length=k) (hc:n+k≤c) (hb:w'.heap[b]? =some (.cells ⟨cells⟩ el fz)) (hs:bo+c*sz≤cells.length) (hz:bo+c*sz≤fz.1∨fz.2≤fz.1) (hD:D b) (hAD:∀x,A x→D x∧x≠b) (hBD:∀x,B x→D x∧x≠b)
 (r1:∀(i:Nat) r,old[i]? =some r→r.length=sz) (r2:∀(i:Nat) r,new[i]? =some r→r.length=sz)
 (c1:∀(i:Nat) r (j:Nat) t,old[i]? =some r→r[j]? =some t→cells[bo+(i*sz+j)]? =some (f1 i j)) (c2:∀(i:Nat) r (j:Nat) t,new[i]? =some r→r[j]? =some t→cells[bo+((n+i)*sz+j)]? =some (f2 i j))
 (h1:∀(i:Nat) r (j:Nat) t,old[i]? =some r→r[j]? =some t→(f1 i j).oneCell'=true) (h2:∀(i:Nat) r (j:Nat) t,new[i]? =some r→r[j]? =some t→(f2 i j).oneCell'=true)
 (g1:∀i j x,G1 i j x→A x) (g2:∀i j x,G2 i j x→B x) (hAB:∀x,A x→B x→False) (d1:∀i j i' j' x,G1 i j x→G1 i' j' x→i=i'∧j=j') (d2:∀i j i' j' x,G2 i j x→G2 i' j' x→i=i'∧j=j')
 (o1:∀(i:Nat) r (j:Nat) t,old[i]? =some r→r[j]? =some t→Owns w' (G1 i j) (f1 i j) t) (o2:∀(i:Nat) r (j:Nat) t,new[i]? =some r→r[j]? =some t→Owns w' (G2 i j) (f2 i j) t):
 Owns w' D (.slice (some ⟨b,bo,none⟩) (n+k) c) (.sl sz (old++new)):=by
 have at_:∀(i:Nat) r,(old++new)[i]? =some r→(i<n∧old[i]? =some r)∨(n≤i∧new[i -n]? =some r):=by
  intro i r h
  by_cases hi:i<n
  ·rw[List.getElem?_append_left (by omega)]at h;exact .inl ⟨hi,h⟩
  ·rw[List.getElem?_append_right (by omega),ho]at h;exact .inr ⟨by omega,h⟩
 refine .sl _ b bo _ c sz _ cells el fz.1 fz.2 (fun i j=>if i<n then f1 i j else f2 (i -n) j) (fun i j x=>(i<n∧G1 i j x)∨(n≤i∧G2 (i -n) j x)) (by simp[ho,hn]) hc hb hs hz hD (fun i r h=> ?_) (fun i r j t h hj=> ?_) (fun i r j t h hj=> ?_) (fun i j x h=> ?_) (fun i j i' j' x h h'=> ?_) (fun i r j t h hj=> ?_)
 ·rcases at_ i r h with⟨_,h⟩|⟨_,h⟩
  ·exact r1 _ _ h
  ·exact r2 _ _ h
 ·rcases at_ i r h with⟨hi,h⟩|⟨hi,h⟩
  ·rw[if_pos hi];exact c1 _ _ _ _ h hj
  ·rw[if_neg (by omega)]
   have:=c2 _ _ _ _ h hj
   rw[show n+(i -n)=i by omega]at this
   exact this
 ·rcases at_ i r h with⟨hi,h⟩|⟨hi,h⟩
  ·rw[if_pos hi];exact h1 _ _ _ _ h hj
  ·rw[if_neg (by omega)];exact h2 _ _ _ _ h hj
 ·rcases h with⟨_,h⟩|⟨_,h⟩
  ·exact hAD _ (g1 _ _ _ h)
  ·exact hBD _ (g2 _ _ _ h)
 ·rcases h with⟨hi,h⟩|⟨hi,h⟩<;>rcases h' with⟨hi',h'⟩|⟨hi',h'⟩
  ·exact d1 _ _ _ _ _ h h'
  ·exact(hAB _ (g1 _ _ _ h) (g2 _ _ _ h')).elim
  ·exact(hAB _ (g1 _ _ _ h') (g2 _ _ _ h)).elim
  ·obtain⟨e1,e2⟩:=d2 _ _ _ _ _ h h'
   exact⟨by omega,e2⟩
 ·rcases at_ i r h with⟨hi,h⟩|⟨hi,h⟩
  ·rw[if_pos hi]
   exact(o1 _ _ _ _ h hj).mono (fun x hx=> .inl ⟨hi,hx⟩) (fun _ _=>rfl)
  ·rw[if_neg (by omega)]
   exact(o2 _ _ _ _ h hj).mono (fun x hx=> .inr ⟨hi,hx⟩) (fun _ _=>rfl)
theorem own_join0{w':World}{sz n k:Nat}{old new:List (List T)}{f1 f2:Nat→Nat→Value}{G1 G2:Nat→Nat→Nat→Prop}{b c:Nat}{cells:List Value}{el:Nat}{fz:Nat×Nat}{A B D:Nat→Prop}
 (ho:old.length=n) (hn:new.length=k) (hc:n+k≤c) (hb:w'.heap[b]? =some (.cells ⟨cells⟩ el fz)) (hs:c*sz≤cells.length) (hz:c*sz≤fz.1∨fz.2≤fz.1) (hD:D b) (hAD:∀x,A x→D x∧x≠b) (hBD:∀x,B x→D x∧x≠b)
 (r1:∀(i:Nat) r,old[i]? =some r→r.length=sz) (r2:∀(i:Nat) r,new[i]? =some r→r.length=sz)
 (c1:∀(i:Nat) r (j:Nat) t,old[i]? =some r→r[j]? =some t→cells[i*sz+j]? =some (f1 i j)) (c2:∀(i:Nat) r (j:Nat) t,new[i]? =some r→r[j]? =some t→cells[(n+i)*sz+j]? =some (f2 i j))
 (h1:∀(i:Nat) r (j:Nat) t,old[i]? =some r→r[j]? =some t→(f1 i j).oneCell'=true) (h2:∀(i:Nat) r (j:Nat) t,new[i]? =some r→r[j]? =some t→(f2 i j).oneCell'=true)
 (g1:∀i j x,G1 i j x→A x) (g2:∀i j x,G2 i j x→B x) (hAB:∀x,A x→B x→False) (d1:∀i j i' j' x,G1 i j x→G1 i' j' x→i=i'∧j=j') (d2:∀i j i' j' x,G2 i j x→G2 i' j' x→i=i'∧j=j')
 (o1:∀(i:Nat) r (j:Nat) t,old[i]? =some r→r[j]? =some t→Owns w' (G1 i j) (f1 i j) t) (o2:∀(i:Nat) r (j:Nat) t,new[i]? =some r→r[j]? =some t→Owns w' (G2 i j) (f2 i j) t):
 Owns w' D (.slice (some ⟨b,0,none⟩) (n+k) c) (.sl sz (old++new)):=
 own_join ho hn hc hb (by rw[Nat.zero_add];exact hs) (by rw[Nat.zero_add];exact hz) hD hAD hBD r1 r2 (fun i r j t h h'=>by rw[Nat.zero_add];exact c1 i r j t h h') (fun i r j t h h'=>by rw[Nat.zero_add];exact c2 i r j t h h') h1 h2 g1 g2 hAB d1 d2 o1 o2
theorem run_app{t tx ty:Nat}{it:TInfo}{i:TInfo}(ft:TFact P t it)(hk:it.kind=2)(fe:TFact P it.elem i)(hz1:1≤i.size)(hb1:1≤i.bytes)(hzl:i.zero.length=i.size){v x:Value}{old new:List (List T)}{Fd S:Nat→Prop}
 (own:Owns w Fd v (.sl i.size old)) {n:Nat} {news:List Value} {f2:Nat→Nat→Value} {G2:Nat→Nat→Nat→Prop} (hS:SrcOK P i.size tx x new w S n news f2 G2) (hFS:∀b,Fd b→S b→False) (hFl:∀b,Fd b→b<w.heap.size) (hSl:∀b,S b→b<w.heap.size)
 (hbd:(old.length+new.length)*i.bytes≤140737488355328):∃v' w' row,(Builtin.append_ #[t,tx] ty #[v,x]).run P w= .ok v' w'∧w.grownBy w' row∧(∀k,row=some k→Fd k)∧
  Owns w' (fun b=>Fd b∨S b∨(w.heap.size≤b∧b<w'.heap.size)) v' (.sl i.size (old++new)):=by
 have hu:=ft.slice hk
 obtain⟨d,z,h1,h2,h3,h4,h5,_⟩:=zero_rel (w:=w) (Fr:=fun _=>False) (m:=fun _=>none) (bv:=fun _=>0) (hd:=fun _=>undef) fe
 have hzc:z.cells.size=i.size:=by rw[←Array.length_toList,h5,hzl]
 have hsrc:=hS.src
 rw[←h3]at hsrc
 have hone2:∀(i':Nat) r (j:Nat) t,new[i']? =some r→r[j]? =some t→(f2 i' j).oneCell'=true:=fun i' r j t e1 e2=>hS.src.one _ (List.mem_of_getElem? (hS.cell i' r j t e1 e2))
 have hnl:news.length=n*i.size:=hS.src.newsLen
 have hsmall:old.length+new.length≤140737488355328:=Nat.le_trans (Nat.le_mul_of_pos_right _ hb1) hbd
 --the arm that makes a new row
 have grow:∀(ad:Option Addr) (olds:List Value) (c:Nat) (f1:Nat→Nat→Value) (G1:Nat→Nat→Nat→Prop),v= .slice ad old.length c→(Builtin.firstCells d.size old.length (.slice ad old.length c)).run P w.drew= .ok olds.toArray w.drew→olds.length=old.length*i.size→c<old.length+n→
  (∀(i':Nat) r,old[i']? =some r→r.length=i.size)→(∀(i':Nat) r (j:Nat) t,old[i']? =some r→r[j]? =some t→olds[i'*i.size+j]? =some (f1 i' j))→(∀(i':Nat) r (j:Nat) t,old[i']? =some r→r[j]? =some t→(f1 i' j).oneCell'=true)→
  (∀i j x,G1 i j x→Fd x)→(∀i j i' j' x,G1 i j x→G1 i' j' x→i=i'∧j=j')→(∀(i':Nat) r (j:Nat) t,old[i']? =some r→r[j]? =some t→Owns w (G1 i' j) (f1 i' j) t)→
  ∃v' w' row,(Builtin.append_ #[t,tx] ty #[v,x]).run P w= .ok v' w'∧w.grownBy w' row∧(∀k,row=some k→Fd k)∧Owns w' (fun b=>Fd b∨S b∨(w.heap.size≤b∧b<w'.heap.size)) v' (.sl i.size (old++new)):=by
  intro ad olds c f1 G1 hv hold hol hgr hr1 hc1 ho1 hG1 hd1 hown1
  have hrun:=run_append_grow_src (P:=P) w t tx ty it.elem d z hu h1 h2 ad old.length c olds hold x n news hsrc hgr (by rw[←hS.len];omega) (growslice_fits hgr (by rw[h4,←hS.len];exact hbd))
  rw[hv]
  refine⟨_,_,none,hrun,⟨rfl,rfl,rfl,by simp,fun k hk' _=>by
   show((w.drew.alloc _).heap)[k]? =_
   rw[Below.heap_alloc _ _ _ (by simpa using hk')];rfl⟩,fun k hk'=>by(cases hk'), ?_⟩
  have hge:=grownCap_ge w (old.length+n) c it.elem
  have hnew:((w.drew.alloc (.cells ((olds++news).toArray++Builtin.zeroCells z.cells (grownCap w (old.length+n) c it.elem -(old.length+n))) it.elem)).heap)[w.heap.size]? =
   some (.cells ⟨olds++news++(Builtin.zeroCells z.cells (grownCap w (old.length+n) c it.elem -(old.length+n))).toList⟩ it.elem (0,0)):=by
   have:=heap_new w.drew (.cells ((olds++news).toArray++Builtin.zeroCells z.cells (grownCap w (old.length+n) c it.elem -(old.length+n))) it.elem)
   rw[show w.drew.heap.size=w.heap.size from rfl]at this
   rw[this]
   congr 2
   apply Array.ext'
   simp
  have old_:∀b,b<w.heap.size→((w.drew.alloc (.cells ((olds++news).toArray++Builtin.zeroCells z.cells (grownCap w (old.length+n) c it.elem -(old.length+n))) it.elem)).heap)[b]? =w.heap[b]? :=by
   intro b hb
   rw[Below.heap_alloc _ _ _ (by simpa using hb)];rfl
  refine own_join0 (A:=Fd) (B:=S) (D:=_) (f1:=f1) (f2:=f2) (G1:=G1) (G2:=G2) rfl hS.len hge hnew ?_ (.inr (Nat.le_refl _)) (.inr (.inr ⟨Nat.le_refl _,by simp⟩)) (fun y hy=>⟨.inl hy,fun e=>by have:=hFl y hy;omega⟩) (fun y hy=>⟨.inr (.inl hy),fun e=>by have:=hSl y hy;omega⟩)
   hr1 hS.row (fun i' r j t e1 e2=> ?_) (fun i' r j t e1 e2=> ?_) ho1 hone2 hG1 hS.sub hFS hd1 hS.dis (fun i' r j t e1 e2=>(hown1 i' r j t e1 e2).mono (fun _ h=>h) (fun b hb=>old_ b (hFl b (hG1 _ _ _ hb)))) (fun i' r j t e1 e2=>(hS.own i' r j t e1 e2).mono (fun _ h=>h) (fun b hb=>old_ b (hSl b (hS.sub _ _ _ hb))))
  ·simp only[List.length_append,hol,hnl,Array.length_toList,size_zeroCells,hzc,←Nat.add_mul]
   apply Nat.le_of_eq
   congr 1
   omega
  ·have:=hc1 i' r j t e1 e2
   have hlt:=(List.getElem?_eq_some_iff.1 this).1
   rw[List.append_assoc,List.getElem?_append_left hlt];exact this
  ·have:=hS.cell i' r j t e1 e2
   have hlt:=(List.getElem?_eq_some_iff.1 this).1
   rw[List.append_assoc,List.getElem?_append_right (by rw[hol,Nat.add_mul];omega),hol,Nat.add_mul,show old.length*i.size+i'*i.size+j -old.length*i.size=i'*i.size+j by omega,List.getElem?_append_left hlt];exact this
 cases own with
 |sl0 _ ad=>
  by_cases hn0:n=0
  ·subst hn0
   have hnew0:new=[]:=List.eq_nil_of_length_eq_zero hS.len
   have hnews0:news=[]:=List.eq_nil_of_length_eq_zero (by rw[hnl];simp)
   subst hnews0
   refine⟨.slice ad 0 0,w,none, ?_,⟨rfl,rfl,rfl,Nat.le_refl _,fun _ _ _=>rfl⟩,fun k hk'=>(by cases hk'),by rw[hnew0];exact .sl0 _ _ _⟩
   rcases hS.src.kind with⟨e',hke⟩|hke
   ·cases ad<;>simp[Builtin.append_,run_underlying hu,run_underlying hke,sizeOf,typeInfo,h1,hS.src.len,hsrc.cells,storeCells]
   ·cases ad<;>simp[Builtin.append_,run_underlying hu,run_underlying hke,sizeOf,typeInfo,h1,hS.src.len,hsrc.cells,storeCells]
  ·refine grow ad [] 0 (fun _ _=>undef) (fun _ _ _=>False) rfl ?_ (by simp) (by simp;omega) (fun i' r h=>by simp at h) (fun i' r j t h=>by simp at h) (fun i' r j t h=>by simp at h) (fun _ _ _ h=>h.elim) (fun _ _ _ _ _ h=>h.elim) (fun i' r j t h=>by simp at h)
   cases ad<;>simp[Builtin.firstCells,loadCells,loadCellsFrom]
 |sl _ b bo len c sz rs cells el lo hi f1 G1 hlen hcap hb hsz hzz hF hrow hcell hone hG hD hrd=>
  have hrowL:∀k,k<len*i.size→∃r t,old[k/i.size]? =some r∧r[k % i.size]? =some t:=by
   intro k hk'
   have e1:k/i.size<old.length:=by rw[hlen,Nat.div_lt_iff_lt_mul (by omega)];exact hk'
   have e2:=List.getElem?_eq_getElem e1
   have e3:k % i.size<(old[k/i.size]).length:=by rw[hrow _ _ e2];exact Nat.mod_lt _ (by omega)
   exact⟨_,_,e2,List.getElem?_eq_getElem e3⟩
  by_cases hroom:len+n≤c
  ·have hfit:bo+len*i.size+n*i.size≤cells.length:=by rw[Nat.add_assoc,←Nat.add_mul];exact Nat.le_trans (Nat.add_le_add_left (Nat.mul_le_mul_right _ hroom) _) hsz
   have hrun:=run_append_room_src (P:=P) w t tx ty it.elem d hu h1 b bo len c x n news hsrc hroom (fun j hj=>by
    rw[cell_heap hb,List.getElem?_eq_getElem (by rw[h3];omega)];rfl) (fun j hj=>by
    have e:len*i.size+n*i.size≤c*i.size:=by rw[←Nat.add_mul];exact Nat.mul_le_mul_right _ hroom
    simp only[World.frozen?,hb,h3]
    rcases hzz with hzz|hzz
    ·have:¬lo≤bo+len*i.size+j:=by omega
     simp[this]
    ·by_cases e1:lo≤bo+len*i.size+j
     ·have:¬bo+len*i.size+j<hi:=by omega
      simp[this]
     ·simp[e1])
   rw[h3]at hrun
   have hheap:=setCells_heap b news (bo+len*i.size) w cells el (lo,hi) hb (by rw[hnl];exact hfit)
   have hg:=setCells_grown b news (bo+len*i.size) w
   have same:∀y,y<w.heap.size→y≠b→(w.setCells b (bo+len*i.size) news).heap[y]? =w.heap[y]? :=fun y hy hne=>hg.block y hy (fun e=>hne (by cases e;rfl))
   have hSb:∀y,S y→y≠b:=fun y hy e=>hFS b hF (e▸hy)
   refine⟨_,_,some b,hrun,hg,fun k hk'=>by cases hk';exact hF, ?_⟩
   have hmid:=fun k=>valAt_get cells (bo+len*i.size) news (by rw[hnl];exact hfit) k
   rw[hlen]at hbd
   refine own_join (A:=fun y=>Fd y∧y≠b) (B:=S) (f1:=f1) (f2:=f2) (G1:=G1) (G2:=G2) hlen hS.len hroom hheap (by simp only[List.length_append,List.length_take,List.length_drop];omega) hzz (.inl hF) (fun y hy=>⟨.inl hy.1,hy.2⟩) (fun y hy=>⟨.inr (.inl hy),hSb y hy⟩)
    hrow hS.row (fun i' r j t e1 e2=> ?_) (fun i' r j t e1 e2=> ?_) hone hone2 (fun i j x hx=>hG i j x hx) hS.sub (fun y hy hs=>hFS y hy.1 hs) hD hS.dis (fun i' r j t e1 e2=>(hrd i' r j t e1 e2).mono (fun _ h=>h) (fun y hy=>same y (hFl y (hG _ _ _ hy).1) (hG _ _ _ hy).2))
    (fun i' r j t e1 e2=>(hS.own i' r j t e1 e2).mono (fun _ h=>h) (fun y hy=>same y (hSl y (hS.sub _ _ _ hy)) (hSb y (hS.sub _ _ _ hy))))
   ·rw[hmid]
    have e3:i'<len:=by rw[←hlen];exact(List.getElem?_eq_some_iff.1 e1).1
    have e4:j<i.size:=by rw[←hrow _ _ e1];exact(List.getElem?_eq_some_iff.1 e2).1
    have:=row_lt e3 e4 rfl
    rw[if_neg (by omega)]
    exact hcell _ _ _ _ e1 e2
   ·rw[hmid]
    have:=hS.cell i' r j t e1 e2
    have hlt:=(List.getElem?_eq_some_iff.1 this).1
    rw[if_pos (by rw[Nat.add_mul];omega),Nat.add_mul,show bo+(len*i.size+i'*i.size+j) -(bo+len*i.size)=i'*i.size+j by omega]
    exact this
  ·refine grow (some ⟨b,bo,none⟩) (newsOf len i.size f1) c f1 G1 (by rw[hlen]) ?_ (by rw[newsOf_length,hlen]) (by omega) hrow (fun i' r j t e1 e2=>newsOf_get (by rw[←hlen];exact(List.getElem?_eq_some_iff.1 e1).1) (by rw[←hrow _ _ e1];exact(List.getElem?_eq_some_iff.1 e2).1)) hone
    (fun i j x hx=>(hG i j x hx).1) hD hrd
   have:=run_firstCells_some (P:=P) w.drew d.size len ⟨b,bo,none⟩ len c (newsOf len i.size f1) (by rw[h3];exact newsOf_length _ _ _) (fun k u hk'=>by
    obtain⟨e1,rfl⟩:=newsOf_all hk'
    obtain⟨r,t,e2,e3⟩:=hrowL k e1
    have:=hcell _ _ _ _ e2 e3
    rw[Addr.add_mid,World.cell?_drew,cell_heap hb]
    rw[show k/i.size*i.size+k % i.size=k by rw[Nat.mul_comm];exact Nat.div_add_mod _ _]at this
    exact this)
   rw[hlen];exact this
def noB0:Nat→Prop:=fun _=>False
theorem run_appF{t tx ty:Nat}{it:TInfo}{i:TInfo}(ft:TFact P t it)(hk:it.kind=2)(fe:TFact P it.elem i)(hz1:1≤i.size)(hb1:1≤i.bytes)(hzl:i.zero.length=i.size){v x:Value}{old new:List (List T)}{Fd0 S0:Nat→Prop}
 (own:Owns w Fd0 v (.sl i.size old)) (hfull:IsFull v) {n:Nat} {news:List Value} {f2:Nat→Nat→Value} {G0:Nat→Nat→Nat→Prop} (hS0:SrcOK P i.size tx x new w S0 n news f2 G0) (hn1:1≤n) (hso:rowsScal old) (hsn:rowsScal new)
 (hbd:(old.length+new.length)*i.bytes≤140737488355328):∃v' w',(Builtin.append_ #[t,tx] ty #[v,x]).run P w= .ok v' w'∧w.grownBy w' none∧
  Owns w' (fun b=>w.heap.size≤b∧b<w'.heap.size) v' (.sl i.size (old++new)):=by
 have hS:SrcOK P i.size tx x new w noB0 n news f2 (fun _ _ _=>False):=⟨hS0.src,hS0.len,hS0.row,hS0.cell,fun i' r j t e1 e2=>(hS0.own i' r j t e1 e2).reads.owns_scalar (hsn r (List.mem_of_getElem? e1) t (List.mem_of_getElem? e2)) w _,fun _ _ _ h=>h.elim,fun _ _ _ _ _ h=>h.elim⟩
 have hFS:∀b,noB0 b→noB0 b→False:=fun _ h=>h.elim
 have hFl:∀b,noB0 b→b<w.heap.size:=fun _ h=>h.elim
 have hSl:∀b,noB0 b→b<w.heap.size:=fun _ h=>h.elim
 let G2:Nat→Nat→Nat→Prop:=fun _ _ _=>False
 have hu:=ft.slice hk
 obtain⟨d,z,h1,h2,h3,h4,h5,_⟩:=zero_rel (w:=w) (Fr:=fun _=>False) (m:=fun _=>none) (bv:=fun _=>0) (hd:=fun _=>undef) fe
 have hzc:z.cells.size=i.size:=by rw[←Array.length_toList,h5,hzl]
 have hsrc:=hS.src
 rw[←h3]at hsrc
 have hone2:∀(i':Nat) r (j:Nat) t,new[i']? =some r→r[j]? =some t→(f2 i' j).oneCell'=true:=fun i' r j t e1 e2=>hS.src.one _ (List.mem_of_getElem? (hS.cell i' r j t e1 e2))
 have hnl:news.length=n*i.size:=hS.src.newsLen
 have hsmall:old.length+new.length≤140737488355328:=Nat.le_trans (Nat.le_mul_of_pos_right _ hb1) hbd
 --the arm that makes a new row
 have grow:∀(ad:Option Addr) (olds:List Value) (c:Nat) (f1:Nat→Nat→Value) (G1:Nat→Nat→Nat→Prop),v= .slice ad old.length c→(Builtin.firstCells d.size old.length (.slice ad old.length c)).run P w.drew= .ok olds.toArray w.drew→olds.length=old.length*i.size→c<old.length+n→
  (∀(i':Nat) r,old[i']? =some r→r.length=i.size)→(∀(i':Nat) r (j:Nat) t,old[i']? =some r→r[j]? =some t→olds[i'*i.size+j]? =some (f1 i' j))→(∀(i':Nat) r (j:Nat) t,old[i']? =some r→r[j]? =some t→(f1 i' j).oneCell'=true)→
  (∀i j x,G1 i j x→noB0 x)→(∀i j i' j' x,G1 i j x→G1 i' j' x→i=i'∧j=j')→(∀(i':Nat) r (j:Nat) t,old[i']? =some r→r[j]? =some t→Owns w (G1 i' j) (f1 i' j) t)→
  ∃v' w' row,(Builtin.append_ #[t,tx] ty #[v,x]).run P w= .ok v' w'∧w.grownBy w' row∧(∀k,row=some k→noB0 k)∧Owns w' (fun b=>noB0 b∨noB0 b∨(w.heap.size≤b∧b<w'.heap.size)) v' (.sl i.size (old++new)):=by
  intro ad olds c f1 G1 hv hold hol hgr hr1 hc1 ho1 hG1 hd1 hown1
  have hrun:=run_append_grow_src (P:=P) w t tx ty it.elem d z hu h1 h2 ad old.length c olds hold x n news hsrc hgr (by rw[←hS.len];omega) (growslice_fits hgr (by rw[h4,←hS.len];exact hbd))
  rw[hv]
  refine⟨_,_,none,hrun,⟨rfl,rfl,rfl,by simp,fun k hk' _=>by
   show((w.drew.alloc _).heap)[k]? =_
   rw[Below.heap_alloc _ _ _ (by simpa using hk')];rfl⟩,fun k hk'=>by(cases hk'), ?_⟩
  have hge:=grownCap_ge w (old.length+n) c it.elem
  have hnew:((w.drew.alloc (.cells ((olds++news).toArray++Builtin.zeroCells z.cells (grownCap w (old.length+n) c it.elem -(old.length+n))) it.elem)).heap)[w.heap.size]? =
   some (.cells ⟨olds++news++(Builtin.zeroCells z.cells (grownCap w (old.length+n) c it.elem -(old.length+n))).toList⟩ it.elem (0,0)):=by
   have:=heap_new w.drew (.cells ((olds++news).toArray++Builtin.zeroCells z.cells (grownCap w (old.length+n) c it.elem -(old.length+n))) it.elem)
   rw[show w.drew.heap.size=w.heap.size from rfl]at this
   rw[this]
   congr 2
   apply Array.ext'
   simp
  have old_:∀b,b<w.heap.size→((w.drew.alloc (.cells ((olds++news).toArray++Builtin.zeroCells z.cells (grownCap w (old.length+n) c it.elem -(old.length+n))) it.elem)).heap)[b]? =w.heap[b]? :=by
   intro b hb
   rw[Below.heap_alloc _ _ _ (by simpa using hb)];rfl
  refine own_join0 (A:=noB0) (B:=noB0) (D:=_) (f1:=f1) (f2:=f2) (G1:=G1) (G2:=G2) rfl hS.len hge hnew ?_ (.inr (Nat.le_refl _)) (.inr (.inr ⟨Nat.le_refl _,by simp⟩)) (fun y hy=>⟨.inl hy,fun e=>by have:=hFl y hy;omega⟩) (fun y hy=>⟨.inr (.inl hy),fun e=>by have:=hSl y hy;omega⟩)
   hr1 hS.row (fun i' r j t e1 e2=> ?_) (fun i' r j t e1 e2=> ?_) ho1 hone2 hG1 hS.sub hFS hd1 hS.dis (fun i' r j t e1 e2=>(hown1 i' r j t e1 e2).mono (fun _ h=>h) (fun b hb=>old_ b (hFl b (hG1 _ _ _ hb)))) (fun i' r j t e1 e2=>(hS.own i' r j t e1 e2).mono (fun _ h=>h) (fun b hb=>old_ b (hSl b (hS.sub 0 0 _ hb))))
  ·simp only[List.length_append,hol,hnl,Array.length_toList,size_zeroCells,hzc,←Nat.add_mul]
   apply Nat.le_of_eq
   congr 1
   omega
  ·have:=hc1 i' r j t e1 e2
   have hlt:=(List.getElem?_eq_some_iff.1 this).1
   rw[List.append_assoc,List.getElem?_append_left hlt];exact this
  ·have:=hS.cell i' r j t e1 e2
   have hlt:=(List.getElem?_eq_some_iff.1 this).1
   rw[List.append_assoc,List.getElem?_append_right (by rw[hol,Nat.add_mul];omega),hol,Nat.add_mul,show old.length*i.size+i'*i.size+j -old.length*i.size=i'*i.size+j by omega,List.getElem?_append_left hlt];exact this
 suffices h:∃v' w' row,(Builtin.append_ #[t,tx] ty #[v,x]).run P w= .ok v' w'∧w.grownBy w' row∧(∀k,row=some k→noB0 k)∧Owns w' (fun b=>noB0 b∨noB0 b∨(w.heap.size≤b∧b<w'.heap.size)) v' (.sl i.size (old++new))by
  obtain⟨v',w',row,e1,e2,e3,e4⟩:=h
  cases row with
  |some k=>exact(e3 k rfl).elim
  |none=>exact⟨v',w',e1,e2,e4.mono (fun b hb=>by
   rcases hb with hb|hb|hb
   ·exact hb.elim
   ·exact hb.elim
   ·exact hb) (fun _ _=>rfl)⟩
 cases own with
 |sl0 _ ad=>
  refine grow ad [] 0 (fun _ _=>undef) (fun _ _ _=>False) rfl ?_ (by simp) (by simp;omega) (fun i' r h=>by simp at h) (fun i' r j t h=>by simp at h) (fun i' r j t h=>by simp at h) (fun _ _ _ h=>h.elim) (fun _ _ _ _ _ h=>h.elim) (fun i' r j t h=>by simp at h)
  cases ad<;>simp[Builtin.firstCells,loadCells,loadCellsFrom]
 |sl _ b bo len c sz rs cells el lo hi f1 G1 hlen hcap hb hsz hzz hF hrow hcell hone hG hD hrd=>
  obtain⟨a0,n0,ef⟩:=hfull
  have hcl:c=len:=by cases ef;rfl
  have hrowL:∀k,k<len*i.size→∃r t,old[k/i.size]? =some r∧r[k % i.size]? =some t:=by
   intro k hk'
   have e1:k/i.size<old.length:=by rw[hlen,Nat.div_lt_iff_lt_mul (by omega)];exact hk'
   have e2:=List.getElem?_eq_getElem e1
   have e3:k % i.size<(old[k/i.size]).length:=by rw[hrow _ _ e2];exact Nat.mod_lt _ (by omega)
   exact⟨_,_,e2,List.getElem?_eq_getElem e3⟩
  refine grow (some ⟨b,bo,none⟩) (newsOf len i.size f1) c f1 (fun _ _ _=>False) (by rw[hlen]) ?_ (by rw[newsOf_length,hlen]) (by omega) hrow (fun i' r j t e1 e2=>newsOf_get (by rw[←hlen];exact(List.getElem?_eq_some_iff.1 e1).1) (by rw[←hrow _ _ e1];exact(List.getElem?_eq_some_iff.1 e2).1)) hone
   (fun i j x hx=>hx.elim) (fun _ _ _ _ _ h=>h.elim) (fun i' r j t e1 e2=>(hrd i' r j t e1 e2).reads.owns_scalar (hso r (List.mem_of_getElem? e1) t (List.mem_of_getElem? e2)) w _)
  have:=run_firstCells_some (P:=P) w.drew d.size len ⟨b,bo,none⟩ len c (newsOf len i.size f1) (by rw[h3];exact newsOf_length _ _ _) (fun k u hk'=>by
   obtain⟨e1,rfl⟩:=newsOf_all hk'
   obtain⟨r,t,e2,e3⟩:=hrowL k e1
   have:=hcell _ _ _ _ e2 e3
   rw[Addr.add_mid,World.cell?_drew,cell_heap hb]
   rw[show k/i.size*i.size+k % i.size=k by rw[Nat.mul_comm];exact Nat.div_add_mod _ _]at this
   exact this)
  rw[hlen];exact this
end
end Go.Pv
