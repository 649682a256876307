/- Plain lemmas and definitions. Nothing is claimed here. -/
import Derived.Test.YtabadclgcgdccaaGreatDoorPv5
set_option linter.unusedSimpArgs false
set_option linter.unusedVariables false
namespace Go.Pv
open Go Go.RowKit
def Pw{α:Type}(rel:α→Value→Prop)(cs:List α)(us:List Value):Prop:=us.length=cs.length∧∀(i:Nat) u x,us[i]? =some u→cs[i]? =some x→rel x u
theorem fillAt_get(cs:List SV)(off:Nat)(l:List SV)(h:off+l.length≤cs.length)(k:Nat):(fillAt cs off l)[k]? =if off≤k∧k<off+l.length then l[k -off]? else cs[k]? :=by
 unfold fillAt
 have h1:(cs.take off++l).length=off+l.length:=by simp;omega
 by_cases hk:k<off+l.length
 ·rw[List.getElem?_append_left (by omega)]
  by_cases h2:k<off
  ·rw[List.getElem?_append_left (by simp;omega),List.getElem?_take,if_pos h2,if_neg (by omega)]
  ·rw[List.getElem?_append_right (by simp;omega),if_pos (by omega)]
   simp only[List.length_take]
   congr 1
   omega
 ·rw[List.getElem?_append_right (by omega),if_neg (by omega),List.getElem?_drop,h1]
  congr 1
  omega
theorem fillAt_length(cs:List SV)(off:Nat)(l:List SV)(h:off+l.length≤cs.length):(fillAt cs off l).length=cs.length:=by
 unfold fillAt;simp;omega
theorem fill_rel{rel:SV→Value→Prop}(place:Nat→Option (Nat×Nat)):∀(svs:List (Nat×SV)) (ps:List (Nat×Value)) (cs cs':List SV) (cells:Array Value),ps.length=svs.length→
 (∀(i:Nat) p q,ps[i]? =some p→svs[i]? =some q→p.1=q.1∧(okC q.2=true→Pw rel q.2.cells p.2.cells.toList))→Pw rel cs cells.toList→fillAll place cs svs=some cs'→
 ∃cells',Instr.fill place cells ps=some cells'∧Pw rel cs' cells'.toList
 |[],ps,cs,cs',cells,hl,_,hP,hf=>by
  have:ps=[]:=List.eq_nil_of_length_eq_zero hl
  subst this
  simp only[fillAll,Option.some.injEq]at hf
  subst hf
  exact⟨cells,rfl,hP⟩
 |(i,sv)::svs,[],cs,cs',cells,hl,_,_,_=>by simp at hl
 |(i,sv)::svs,(i',v)::ps,cs,cs',cells,hl,hrel,hP,hf=>by
  obtain⟨h1,h2⟩:=hrel 0 _ _ rfl rfl
  dsimp only at h1 h2
  subst h1
  unfold fillAll at hf
  cases hp:place i' with
  |none=>simp[hp]at hf
  |some q=>
   obtain⟨off,size⟩:=q
   simp only[hp]at hf
   cases hb:(okC sv&&Nat.beq sv.cells.length size&&Nat.ble (off+size) cs.length)with
   |false=>simp[hb]at hf
   |true=>
    simp only[hb,cond_true]at hf
    simp only[Bool.and_eq_true]at hb
    obtain⟨⟨hok,hsz⟩,hle⟩:=hb
    have hsz:=beqN hsz
    have hle:=bleN hle
    obtain⟨hv1,hv2⟩:=h2 hok
    obtain⟨g1,g2⟩:=Go.Great.foldl_set off v.cells.toList 0 cells
    have hvs:v.cells.size=size:=by rw[←Array.length_toList,hv1,hsz]
    have hcs:cells.size=cs.length:=by rw[←Array.length_toList,hP.1]
    have hnew:Pw rel (fillAt cs off sv.cells) ((v.cells.toList.zipIdx 0).foldl (fun cs (x:Value×Nat)=>cs.setIfInBounds (off+x.2) x.1) cells).toList:=by
     refine⟨by rw[Array.length_toList,g1,fillAt_length _ _ _ (by omega),hcs],fun k u x e1 e2=> ?_⟩
     rw[fillAt_get _ _ _ (by omega)]at e2
     rw[Array.getElem?_toList,g2 k]at e1
     simp only[Nat.add_zero,Array.length_toList,hvs]at e1
     by_cases hk:off≤k∧k<off+size
     ·rw[if_pos ⟨hk.1,hk.2,by omega⟩]at e1
      rw[if_pos (by omega)]at e2
      exact hv2 _ _ _ e1 e2
     ·rw[if_neg (by omega)]at e1
      rw[if_neg (by omega)]at e2
      exact hP.2 _ _ _ (by rw[Array.getElem?_toList];exact e1) e2
    obtain⟨cells',hc,hP'⟩:=fill_rel place svs ps _ cs' _ (by simpa using hl) (fun j p q e1 e2=>hrel (j+1) p q e1 e2) hnew hf
    refine⟨cells', ?_,hP'⟩
    unfold Instr.fill
    simp only[hp]
    rw[if_neg (by simp;omega),←hc]
    congr 1
    rw[←Array.foldl_toList,Array.toList_zipIdx]
section
variable {P:Program} {C:Ctx} {N:FrP} {W:Nat→Prop} {base:Nat} {w0:World} {s:Nat→SV} {m:Nat→Option MO} {bv:Nat→Nat} {hd:Nat→Value} {fp:Nat→Nat→Prop} {Fr:Nat→Prop} {a:Act} {w:World}
theorem parts_rel(R:RelE N W base w0 s m bv hd fp Fr a w)(parts:Array (Nat×Operand)):
 ∀(i:Nat) p q,((parts.map fun(i,x)=>(i,a.eval x)).toList)[i]? =some p→(parts.toList.map fun p=>(p.1,opnd s p.2))[i]? =some q→p.1=q.1∧(okC q.2=true→Pw (VRel w Fr m bv hd) q.2.cells p.2.cells.toList):=by
 intro i p q h1 h2
 simp only[Array.toList_map,List.getElem?_map,Option.map_eq_some_iff]at h1 h2
 obtain⟨x,hx,rfl⟩:=h1
 obtain⟨y,hy,rfl⟩:=h2
 rw[hx]at hy
 cases hy
 exact⟨rfl,fun hok=>cells_rel (opnd_rel R x.2) hok⟩
theorem goes_build(H:CtxOK P C)(R:RelE N W base w0 s m bv hd fp Fr a w){o:Oper}(hdst:∀d,o.dst=some d→N.ok d){t:Nat}{parts:Array (Nat×Operand)}{cs:List SV}(h:o.op= .build t parts)(hk:(C.i t).kind=3)
 (hf:∀f∈(C.i t).fields,1≤(C.i f.2).kind) (hc:fillAll (fun k=>((C.i t).fields[k]?).map fun f=>(f.1,(C.i f.2).size)) (C.i t).zero (parts.toList.map fun p=>(p.1,opnd s p.2))=some cs):
 Goes P N W base w0 s m o (pureE (.agg cs)) a w:=by
 obtain⟨d,z,h1,h2,h3,h4,h5,h6⟩:=zero_rel (w:=w) (Fr:=Fr) (m:=m) (bv:=bv) (hd:=hd) (H.fact (t:=t) (by omega))
 obtain⟨_,u,_,_,hu,_,_,_,_,hkk,_,hff,_⟩:=(H.fact (t:=t) (by omega)).ex
 rw[hkk]at hk
 obtain⟨fs,rfl⟩:=kind_struct hk
 obtain⟨cells,hfill,hP⟩:=fill_rel _ _ ((parts.map fun(i,x)=>(i,a.eval x)).toList) _ _ z.cells (by simp) (parts_rel R parts) ⟨h5,h6⟩ hc
 have hplaces:fs.toList.mapM (fun f=>(P.info? f.type).map fun i=>(f.offset,i.size))=some ((C.i t).fields.map fun f=>(f.1,(C.i f.2).size)):=by
  rw[hff]at hf ⊢
  simp only[fieldsD]at hf ⊢
  generalize fs.toList=l at hf ⊢
  induction l with
  |nil=>rfl
  |cons fd l ih=>
   obtain⟨d',e1,e2,_⟩:=(H.fact (t:=fd.type) (hf (fd.offset,fd.type) (by simp))).info
   simp only[List.mapM_cons,e1,Option.map_some,ih (fun f hf'=>hf f (by simp at hf' ⊢;exact .inr hf')),e2,List.map_cons]
   rfl
 have hb:P.built t (parts.map fun(i,x)=>(i,a.eval x)).toList=some cells:=by
  unfold Program.built
  simp only[h1,hu,h2,hplaces]
  rw[←hfill]
  congr 1
  funext k
  simp[List.getElem?_map]
 refine goes_pure R hdst (v:= .agg cells) ?_ ?_
 ·simp only[execOp,h,Sem.run_bind,run_build w t _ cells hb,Result.andThen_ok,Sem.run_pure]
 ·have:VRel w Fr m bv hd (.agg cs) (.agg ⟨cells.toList⟩):= .agg _ _ hP.1 hP.2
  simpa using this
theorem refsL_mem{f:SV→List Nat}{l:List SV}{id:Nat}:id∈refsL f l↔∃x∈l,id∈f x:=by
 induction l with
 |nil=>simp[refsL]
 |cons a r ih=>simp[refsL,ih]
theorem nodupN_iff{l:List Nat}:nodupN l=true↔l.Nodup:=by
 induction l with
 |nil=>simp[nodupN]
 |cons a r ih=>
  simp only[nodupN,List.nodup_cons]
  cases h:memN a r with
  |true=>simp[memN_iff.1 h]
  |false=>
   have:a∉r:=fun hm=>by rw[memN_iff.2 hm]at h;cases h
   simp[this,ih]
theorem refsL_apart{f:SV→List Nat}{l:List SV}(hn:(refsL f l).Nodup){i j:Nat}{x y:SV}{id:Nat}(hi:l[i]? =some x)(hj:l[j]? =some y)(h1:id∈f x)(h2:id∈f y):i=j:=by
 induction l generalizing i j with
 |nil=>simp at hi
 |cons a r ih=>
  simp only[refsL,List.nodup_append]at hn
  cases i with
  |zero=>
   cases j with
   |zero=>rfl
   |succ j=>
    simp at hi hj
    subst hi
    exact absurd rfl (hn.2.2 id h1 id (refsL_mem.2 ⟨y,List.mem_of_getElem? hj,h2⟩))
  |succ i=>
   cases j with
   |zero=>
    simp at hi hj
    subst hj
    exact absurd rfl (hn.2.2 id h2 id (refsL_mem.2 ⟨x,List.mem_of_getElem? hi,h1⟩))
   |succ j=>simp at hi hj;rw[ih hn.2.1 hi hj]
theorem refsL_nodup{f:SV→List Nat}{l:List SV}(hn:(refsL f l).Nodup){x:SV}(hx:x∈l):(f x).Nodup:=by
 induction l with
 |nil=>cases hx
 |cons a r ih=>
  simp only[refsL,List.nodup_append]at hn
  cases hx with
  |head=>exact hn.1
  |tail _ h=>exact ih hn.2.1 h
theorem all2_get{α β:Type}{f:α→β→Prop}:∀{l:List α} {r:List β},all2 f l r→l.length=r.length∧∀(i:Nat) x y,l[i]? =some x→r[i]? =some y→f x y
 |[],[],_=>⟨rfl,fun i x y h=>by simp at h⟩
 |a::l,[],h=>h.elim
 |[],b::r,h=>h.elim
 |a::l,b::r,h=>by
  obtain⟨h1,h2⟩:=all2_get h.2
  refine⟨by simp[h1],fun i x y hx hy=> ?_⟩
  cases i with
  |zero=>simp at hx hy;subst hx;subst hy;exact h.1
  |succ i=>simp at hx hy;exact h2 i x y hx hy
theorem Owns.cut{F:Nat→Prop}{ad:Option Addr}{n c sz:Nat}{rows:List (List T)}(own:Owns w F (.slice ad n c) (.sl sz rows)){l h M:Nat}(h1:l≤h)(h2:h≤rows.length)(h3:h≤M)(h4:M≤c):
 Owns w F (.slice (if M=l then ad else ad.map (·.add (l*sz))) (h -l) (M -l)) (.sl sz ((rows.take h).drop l)):=by
 have hget:∀i,((rows.take h).drop l)[i]? =if l+i<h then rows[l+i]? else none:=by
  intro i;rw[List.getElem?_drop,List.getElem?_take]
 have nil:h=l→(rows.take h).drop l=[]:=fun e=>by subst e;simp
 by_cases hM:M=l
 ·have e:h=l:=by omega
  rw[nil e,if_pos hM,show h -l=0 by omega,show M -l=0 by omega]
  exact .sl0 _ _ _
 ·rw[if_neg hM]
  cases own with
  |sl0=>omega
  |sl _ b bo _ _ _ _ cells el lo hi f G hn hc hb hs hz hF hrow hcell hone hG hD hrd=>
   have hmul:l*sz+(M -l)*sz=M*sz:=by rw[←Nat.add_mul];congr 1;omega
   have hMc:M*sz≤c*sz:=Nat.mul_le_mul_right _ h4
   have e:(⟨b,bo,none⟩:Addr).add (l*sz)=⟨b,bo+l*sz,none⟩:=Addr.add_mid ..
   simp only[Option.map_some,e]
   refine .sl _ b (bo+l*sz) _ _ sz _ cells el lo hi (fun i j=>f (l+i) j) (fun i j=>G (l+i) j) (by simp;omega) (by omega) hb (by omega) (by omega) hF (fun i row hi=> ?_) (fun i row j u hi hj=> ?_) (fun i row j u hi hj=> ?_) (fun i j=>hG (l+i) j) (fun i j i' j' x hx hx'=> ?_) (fun i row j u hi hj=> ?_)
   ·rw[hget]at hi;split at hi
    ·exact hrow _ _ hi
    ·cases hi
   ·rw[hget]at hi;split at hi
    ·have:=hcell _ _ _ _ hi hj
     rw[show bo+l*sz+(i*sz+j)=bo+((l+i)*sz+j)by rw[Nat.add_mul];omega]
     exact this
    ·cases hi
   ·rw[hget]at hi;split at hi
    ·exact hone _ _ _ _ hi hj
    ·cases hi
   ·have:=hD _ _ _ _ _ hx hx'
    omega
   ·rw[hget]at hi;split at hi
    ·exact hrd _ _ _ _ hi hj
    ·cases hi
theorem Owns.tail{F:Nat→Prop}{ad:Option Addr}{n c sz:Nat}{rows:List (List T)}(own:Owns w F (.slice ad n c) (.sl sz rows)){l M:Nat}(h1:l≤n)(h3:n≤M)(h4:M≤c):
 Owns w F (.slice (if M=l then ad else ad.map (·.add (l*sz))) (n -l) (M -l)) (.sl sz (rows.drop l)):=by
 obtain⟨_,_,_,e,hn⟩:=own.slice
 cases e
 have:=own.cut (l:=l) (h:=n) (M:=M) h1 (by omega) h3 h4
 rwa [List.take_of_length_le (by omega)]at this
theorem rbo_live:∀(n:Nat) (sv:SV) (t:T),rbo m n sv t→∀id∈refs n sv,m id≠none
 |0,_,_,h=>h.elim
 |n+1,sv,t,h=>by
  intro id hid
  cases sv with
  |ref id' ver=>
   simp only[refs,List.mem_singleton]at hid
   subst hid
   intro e
   cases t<;>simp[rbo,e]at h
  |agg l=>
   simp only[refs]at hid
   obtain⟨x,hx,hid⟩:=refsL_mem.1 hid
   cases t<;>simp only[rbo]at h
   obtain⟨hl,hp⟩:=all2_get h
   obtain⟨i,hi⟩:=List.mem_iff_getElem?.1 hx
   have hlt:=(List.getElem?_eq_some_iff.1 hi).1
   exact rbo_live n x _ (hp i x _ hi (List.getElem?_eq_getElem (by omega))) id hid
  |tup l=>
   simp only[refs]at hid
   obtain⟨x,hx,hid⟩:=refsL_mem.1 hid
   cases t<;>simp only[rbo]at h
   obtain⟨hl,hp⟩:=all2_get h
   obtain⟨i,hi⟩:=List.mem_iff_getElem?.1 hx
   have hlt:=(List.getElem?_eq_some_iff.1 hi).1
   exact rbo_live n x _ (hp i x _ hi (List.getElem?_eq_getElem (by omega))) id hid
  |clo f l=>cases t<;>simp[rbo]at h
  |ptr id' off=>cases t<;>simp[rbo]at h
  |eptr a b c d=>cases t<;>simp[rbo]at h
  |vw id' ver lo=>
   simp only[refs,List.mem_singleton]at hid
   subst hid
   intro e
   cases t<;>simp[rbo,e]at h
  |t x=>simp[refs]at hid
  |nil=>simp[refs]at hid
  |gone=>simp[refs]at hid
  |rptr l=>simp[refs]at hid
  |fs z r=>simp[refs]at hid
theorem rbo_own(M:MemOK W base m bv hd fp Fr w):∀(n:Nat) (sv:SV) (v:Value) (t:T),VRel w Fr m bv hd sv v→rbo m n sv t→(refs n sv).Nodup→Owns w (fun b=>∃id∈refs n sv,fp id b) v t
 |0,_,_,_,_,h,_=>h.elim
 |n+1,sv,v,t,hv,h,hn=>by
  have lists:∀(l:List SV) (ts:List T) (cs:List Value),all2 (rbo m n) l ts→(refsL (refs n) l).Nodup→cs.length=l.length→(∀(i:Nat) v s,cs[i]? =some v→l[i]? =some s→VRel w Fr m bv hd s v)→
   cs.length=ts.length∧∃G:Nat→Nat→Prop,(∀i b,G i b→∃id∈refsL (refs n) l,fp id b)∧(∀i j b,G i b→G j b→i=j)∧∀(i:Nat) v t,cs[i]? =some v→ts[i]? =some t→Owns w (G i) v t:=by
   intro l ts cs h2 hn2 hl hr
   obtain⟨h3,h4⟩:=all2_get h2
   refine⟨by omega,fun i b=>∃x,l[i]? =some x∧∃id∈refs n x,fp id b,fun i b ⟨x,hx,id,h5,h6⟩=>⟨id,refsL_mem.2 ⟨x,List.mem_of_getElem? hx,h5⟩,h6⟩, ?_, ?_⟩
   ·rintro i j b ⟨x,hx,id,h5,h6⟩ ⟨y,hy,id',h7,h8⟩
    have li:=(List.getElem?_eq_some_iff.1 hx).1
    have lj:=(List.getElem?_eq_some_iff.1 hy).1
    have e1:=rbo_live n x _ (h4 i x _ hx (List.getElem?_eq_getElem (by omega))) id h5
    have e2:=rbo_live n y _ (h4 j y _ hy (List.getElem?_eq_getElem (by omega))) id' h7
    have:=M.apart id id' b e1 e2 h6 h8
    subst this
    exact refsL_apart hn2 hx hy h5 h7
   ·intro i v t h5 h6
    have li:i<l.length:=by have:=(List.getElem?_eq_some_iff.1 h5).1;omega
    have hx:=List.getElem?_eq_getElem li
    exact(rbo_own M n _ v t (hr i v _ h5 hx) (h4 i _ _ hx h6) (refsL_nodup hn2 (List.getElem_mem li))).mono (fun b ⟨id,h7,h8⟩=>⟨_,hx,id,h7,h8⟩) (fun _ _=>rfl)
  cases hv with
  |t x v hr=>
   simp only[rbo]at h
   obtain⟨rfl,hs⟩:=h
   exact hr.owns_scalar hs w _
  |nil ad=>
   cases t<;>simp only[rbo]at h
   subst h
   exact .sl0 _ _ _
  |gone v=>cases t<;>simp[rbo]at h
  |ref id ver v sh hh=>
   cases t<;>simp only[rbo]at h
   rename_i sz rows
   cases hm:m id with
   |none=>simp[hm]at h
   |some ob=>
    cases ob with
    |var l=>simp[hm]at h
    |rowv ver0 sz0 rows0 q0 l0=>simp[hm]at h
    |row ver' sz' rows'=>
     simp only[hm]at h
     obtain⟨h1,rfl,rfl⟩:=bcond_false h
     obtain rfl:=beqN h1
     rw[hh _ _ (asRow_row hm)]
     exact(M.rows id _ _ _ hm).mono (fun b hb=>⟨id,by simp[refs],hb⟩) (fun _ _=>rfl)
  |ptr id off v sh hh=>cases t<;>simp[rbo]at h
  |rptr b off ts f hb hw hrd=>cases t<;>simp[rbo]at h
  |fs z r v hr hf=>cases t<;>simp[rbo]at h
  |eptr id ver i off v sh hh=>cases t<;>simp[rbo]at h
  |vw id ver lo v sh hh=>
   cases t<;>simp only[rbo]at h
   rename_i sz rows
   cases hm:m id with
   |none=>simp[hm]at h
   |some ob=>
    cases ob with
    |var l=>simp[hm]at h
    |rowv ver0 sz0 rows0 q0 l0=>simp[hm]at h
    |row ver' sz' rows'=>
     simp only[hm]at h
     obtain⟨h1,rfl,rfl⟩:=bcond_false h
     obtain rfl:=beqN h1
     obtain⟨_,ad,n,c,M',e,q1,q2,q3,ev⟩:=hh _ _ (asRow_row hm)
     have own:=M.rows id _ _ _ hm
     rw[e]at own
     rw[ev]
     exact(own.tail q1 q2 q3).mono (fun b hb=>⟨id,by simp[refs],hb⟩) (fun _ _=>rfl)
  |agg l cs hl hr=>
   cases t<;>simp only[rbo]at h
   obtain⟨h1,G,h2,h3,h4⟩:=lists l _ cs h (by simpa[refs]using hn) hl hr
   exact .agg _ cs _ G h1 (by simpa[refs]using h2) h3 h4
  |tup l cs hl hr=>
   cases t<;>simp only[rbo]at h
   obtain⟨h1,G,h2,h3,h4⟩:=lists l _ cs h (by simpa[refs]using hn) hl hr
   exact .tup _ cs _ G h1 (by simpa[refs]using h2) h3 h4
  |clo g l cs hl hr=>cases t<;>simp[rbo]at h
end
end Go.Pv
