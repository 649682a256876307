/- Plain lemmas and definitions. Nothing is claimed here. -/
import Derived.Test.YtabadclgcgdccaaGreatDoorPv7
import Derived.Laws.BytesString
set_option linter.unusedSimpArgs false
set_option linter.unusedVariables false
namespace Go.Pv
open Go Go.RowKit Go.Lib
section
variable {P:Program} {C:Ctx} {N:FrP} {W:Nat→Prop} {base:Nat} {w0:World} {s:Nat→SV} {m:Nat→Option MO} {bv:Nat→Nat} {hd:Nat→Value} {fp:Nat→Nat→Prop} {Fr:Nat→Prop} {a:Act} {w:World}
theorem goes_makeSlice(H:CtxOK P C)(R:RelE N W base w0 s m bv hd fp Fr a w){o:Oper}(hdst:∀d,o.dst=some d→N.ok d){t:Nat}{x y:Operand}{n:Int}{rows:List (List T)}(h:o.op= .makeSlice t x y)(ok:OkSl C t)
 (hx:opnd s x= .t (.int .i64 n)) (hy:opnd s y= .t (.int .i64 n)) {zt:List T} (hr:mks (C.i (C.i t).elem).bytes n zt=some rows) (hz:all2 (rbo m 4) (C.i (C.i t).elem).zero zt) (hz1:(C.i (C.i t).elem).zero.all cell1=true) (hz0:refsL (refs 4) (C.i (C.i t).elem).zero=[])
 (hfresh:m (o.dst.getD 0)=none) (cl:Clean s m [(o.dst.getD 0,0)]):Goes P N W base w0 s m o ⟨.ref (o.dst.getD 0) 0,[(o.dst.getD 0,some (.row 0 (C.i (C.i t).elem).size rows))],[o.dst.getD 0],[(o.dst.getD 0,0)]⟩ a w:=by
 have hu:=(H.fact (t:=t) (by rw[ok.k];decide)).slice ok.k
 obtain⟨d,z,h1,h2,h3,h4,h5,h6⟩:=zero_rel (w:=w) (Fr:=Fr) (m:=m) (bv:=bv) (hd:=hd) (H.fact ok.e)
 have hb1:=ok.b
 have hl:=ok.l
 have hzz1:=ok.z
 obtain⟨tl,tg⟩:=all2_get hz
 generalize hsz:(C.i (C.i t).elem).size=size at*
 generalize hzz:(C.i (C.i t).elem).zero=zero at*
 generalize hby:(C.i (C.i t).elem).bytes=bytes at*
 have hzc:z.cells.size=size:=by rw[←Array.length_toList,h5,hl]
 cases n with
 |negSucc n=>simp[mks]at hr
 |ofNat n=>
  simp only[mks]at hr
  split at hr
  ·rename_i hle
   simp only[Option.some.injEq]at hr
   subst hr
   have hn:n≤140737488355328:=Nat.le_trans (Nat.le_mul_of_pos_right _ hb1) hle
   have hrun:=run_make (P:=P) w t (C.i t).elem d z hu h1 h2 .i64 .i64 (n:Int) (n:Int) (by omega) (Int.le_refl _) (by
    have e:((d.bytes*n:Nat):Int)≤281474976710656:=by rw[h4,Nat.mul_comm];omega
    rwa [Int.natCast_mul]at e) (by omega)
   rw[h3]at hrun
   simp only[Int.toNat_natCast]at hrun
   refine goes_allocRow R hdst hfresh cl (grown_alloc w _) (fun b=>b=w.heap.size) (fun b hb=>by subst hb;simp) (v0:= .slice (some ⟨w.heap.size,0,none⟩) n n) (.mk0 _ w.heap.size n n size _ (madeCells z.cells (n*size)).toList (C.i t).elem 0 0
    (fun i j=>z.cells.toList.getD j undef) (fun _ _ _=>False) (by simp) (Nat.le_refl _) (heap_new w _) (by simp[madeCells]) (.inr (Nat.le_refl _)) rfl (fun i row hi=> ?_) (fun i row j u hi hj=> ?_) (fun i row j u hi hj=> ?_) (fun _ _ _ hf=>hf.elim) (fun _ _ _ _ _ hf=>hf.elim) (fun i row j u hi hj=> ?_))
    (by simp only[execOp,h,Sem.run_bind];rw[opnd_int R hx,opnd_int R hy];simp only[Int.ofNat_eq_natCast,hrun,Result.andThen_ok,Sem.run_pure])
   ·rw[List.getElem?_replicate]at hi
    split at hi
    ·simp only[Option.some.injEq]at hi;subst hi;omega
    ·cases hi
   ·rw[List.getElem?_replicate]at hi
    split at hi
    ·rename_i hin
     simp only[Option.some.injEq]at hi
     subst hi
     have hjl:j<size:=by have:=(List.getElem?_eq_some_iff.1 hj).1;omega
     have hlt:i*size+j<n*size:=row_lt hin hjl rfl
     have hm:(i*size+j) % size=j:=by rw[Nat.mul_comm,Nat.mul_add_mod,Nat.mod_eq_of_lt hjl]
     have hjz:j<z.cells.size:=by rw[hzc];exact hjl
     simp only[madeCells,Array.toList_map,List.getElem?_map,Array.toList_range,List.getElem?_range hlt,Option.map_some,Option.some.injEq,hzc,hm]
     rw[getElem!_pos z.cells j hjz,List.getD_eq_getElem?_getD,List.getElem?_eq_getElem (by simpa using hjz)]
     simp
    ·cases hi
   ·rw[List.getElem?_replicate]at hi
    split at hi
    ·simp only[Option.some.injEq]at hi
     subst hi
     have hjl:=(List.getElem?_eq_some_iff.1 hj).1
     have hsv:=List.getElem?_eq_getElem (l:=zero) (i:=j) (by omega)
     have hval:z.cells.toList[j]? =some (z.cells.toList.getD j undef):=by rw[List.getD_eq_getElem?_getD,List.getElem?_eq_getElem (by omega)];rfl
     exact cell1_one (h6 j _ _ hval hsv) (List.all_eq_true.1 hz1 _ (List.mem_of_getElem? hsv))
    ·cases hi
   ·rw[List.getElem?_replicate]at hi
    split at hi
    ·simp only[Option.some.injEq]at hi
     subst hi
     have hjl:=(List.getElem?_eq_some_iff.1 hj).1
     have hsv:=List.getElem?_eq_getElem (l:=zero) (i:=j) (by omega)
     have hval:z.cells.toList[j]? =some (z.cells.toList.getD j undef):=by rw[List.getD_eq_getElem?_getD,List.getElem?_eq_getElem (by omega)];rfl
     have hno:refs 4 (zero[j]'(by omega))=[]:=by
      cases hr:refs 4 (zero[j]'(by omega))with
      |nil=>rfl
      |cons a l=>
       have:a∈refsL (refs 4) zero:=refsL_mem.2 ⟨_,List.mem_of_getElem? hsv,by rw[hr];exact List.mem_cons_self ..⟩
       rw[hz0]at this;cases this
     have own:=rbo_own R.mem 4 _ _ u (h6 j _ _ hval hsv) (tg _ _ _ hsv hj) (by rw[hno];exact List.nodup_nil)
     exact own.mono (fun b ⟨id,hid,_⟩=>by rw[hno]at hid;cases hid) (fun b ⟨id,hid,_⟩=>by rw[hno]at hid;cases hid)
    ·cases hi
  ·cases hr
theorem goes_convBytes(H:CtxOK P C)(R:RelE N W base w0 s m bv hd fp Fr a w){o:Oper}(hdst:∀d,o.dst=some d→N.ok d){src dst:Nat}{x:Operand}{l:List UInt8}(h:o.op= .convert src dst x)(hx:opnd s x= .t (.str l))
 (hk:(C.i dst).kind=2) (hs:(C.i src).kind=1) (he:(C.i (C.i dst).elem).kind=15) (hfresh:m (o.dst.getD 0)=none) (cl:Clean s m [(o.dst.getD 0,0)]):
 Goes P N W base w0 s m o ⟨.ref (o.dst.getD 0) 0,[(o.dst.getD 0,some (.row 0 1 (rowsI .u8 (intsOf l))))],[o.dst.getD 0],[(o.dst.getD 0,0)]⟩ a w:=by
 have hud:=(H.fact (t:=dst) (by omega)).slice hk
 have hus:=(H.fact (t:=src) (by omega)).string hs
 have hue:P.underlying (C.i dst).elem=some (.int .u8):=by
  obtain⟨d,u,z,_,hu,_,_,_,_,hkk,_⟩:=(H.fact (t:=(C.i dst).elem) (by omega)).ex
  rw[hkk]at he
  rw[hu,kind_u8 he]
 have hrun:=Go.Lib.run_convert_string_bytes (P:=P) w src dst (C.i dst).elem ⟨⟨l⟩⟩ hus hud hue
 have hsize:(⟨⟨l⟩⟩:ByteArray).size=l.length:=rfl
 rw[hsize]at hrun
 have hcs:(bytesCells w (C.i dst).elem ⟨⟨l⟩⟩).size=grownCap w l.length 0 (C.i dst).elem:=by
  have:=grownCap_ge w l.length 0 (C.i dst).elem
  simp[bytesCells,hsize];omega
 have g:w.grownBy (bytesWorld w (C.i dst).elem ⟨⟨l⟩⟩) none:=⟨rfl,rfl,rfl,by rw[bytesWorld_size];omega,fun k hk _=>bytesWorld_at_old _ _ _ _ hk⟩
 refine goes_allocRow (w':=bytesWorld w (C.i dst).elem ⟨⟨l⟩⟩) R hdst hfresh cl g (fun b=>b=w.heap.size) (fun b hb=>by subst hb;rw[bytesWorld_size];omega) (v0:= .slice (some ⟨w.heap.size,0,none⟩) l.length (grownCap w l.length 0 (C.i dst).elem))
  (.mk0 _ w.heap.size _ _ 1 _ (bytesCells w (C.i dst).elem ⟨⟨l⟩⟩).toList (C.i dst).elem _ _ (fun i j=> .int .u8 ((l.getD i 0).toNat:Int)) (fun _ _ _=>False) (by simp[rowsI,intsOf]) (grownCap_ge w _ _ _) (bytesWorld_at_new w _ _) (by rw[Array.length_toList];exact Nat.le_of_eq ((Nat.mul_one _).trans hcs.symm)) (.inl (Nat.le_of_eq ((Nat.mul_one _).trans hcs.symm))) rfl
    (fun i row hi=> ?_) (fun i row j u hi hj=> ?_) (fun i row j u hi hj=> ?_) (fun _ _ _ hf=>hf.elim) (fun _ _ _ _ _ hf=>hf.elim) (fun i row j u hi hj=> ?_))
  (by simp only[execOp,h,Sem.run_bind];rw[opnd_str R hx,hrun,Result.andThen_ok,Sem.run_pure])
 all_goals
  simp only[rowsI,intsOf,List.map_map,List.getElem?_map,Option.map_eq_some_iff,Function.comp]at hi
  obtain⟨b,hb,rfl⟩:=hi
 ·rfl
 ·have hj0:j=0:=by have:=(List.getElem?_eq_some_iff.1 hj).1;simp at this;exact this
  subst hj0
  have hil:=(List.getElem?_eq_some_iff.1 hb).1
  simp only[bytesCells,Array.toList_append,Array.toList_map]
  rw[List.getElem?_append_left (by simpa using hil)]
  simp[List.getElem?_map,hb,List.getD]
 ·rfl
 ·have hj0:j=0:=by have:=(List.getElem?_eq_some_iff.1 hj).1;simp at this;exact this
  subst hj0
  simp at hj
  subst hj
  simp only[List.getD,hb,Option.getD_some]
  exact .int _ _ _
theorem valAt_get(cs:List Value)(off:Nat)(l:List Value)(h:off+l.length≤cs.length)(k:Nat):(cs.take off++l++cs.drop (off+l.length))[k]? =if off≤k∧k<off+l.length then l[k -off]? else cs[k]? :=by
 have h1:(cs.take off++l).length=off+l.length:=by simp;omega
 by_cases hk:k<off+l.length
 ·rw[List.getElem?_append_left (by omega)]
  by_cases h2:k<off
  ·rw[List.getElem?_append_left (by simp;omega),List.getElem?_take,if_pos h2,if_neg (by omega)]
  ·rw[List.getElem?_append_right (by simp;omega),if_pos (by omega)]
   simp only[List.length_take]
   congr 1
   omega
 ·rw[List.getElem?_append_right (by omega),if_neg (by omega),List.getElem?_drop,h1]
  congr 1
  omega
theorem setCells_heap(b:Nat):∀(vs:List Value) (o:Nat) (w:World) (cs:List Value) (el:Nat) (fz:Nat×Nat),w.heap[b]? =some (.cells ⟨cs⟩ el fz)→o+vs.length≤cs.length→
 (w.setCells b o vs).heap[b]? =some (.cells ⟨cs.take o++vs++cs.drop (o+vs.length)⟩ el fz)
 |[],o,w,cs,el,fz,h,hl=>by simp only[World.setCells,List.append_nil,List.length_nil,Nat.add_zero,List.take_append_drop];exact h
 |v::r,o,w,cs,el,fz,h,hl=>by
  have h1:(w.setCell ⟨b,o,none⟩ v).heap[b]? =some (.cells ⟨cs.set o v⟩ el fz):=by
   simp only[World.setCell,Array.getElem?_modify,if_true,h,Option.map_some,Option.isSome_none,Bool.false_eq_true,if_false]
   simp
  simp only[World.setCells]
  rw[setCells_heap b r (o+1) _ _ el fz h1 (by simp at hl ⊢;omega)]
  congr 3
  apply List.ext_getElem?
  intro k
  have hl':o+(r.length+1)≤cs.length:=by simpa using hl
  have e2:=valAt_get cs o (v::r) (by simpa using hl') k
  have e1:=valAt_get (cs.set o v) (o+1) r (by simp;omega) k
  rw[e1,e2,List.getElem?_set]
  simp only[List.length_cons]
  by_cases hk:o=k
  ·subst hk
   rw[if_neg (by omega),if_pos rfl,if_pos (by omega),if_pos (by omega)]
   simp
  ·by_cases hk2:o+1≤k∧k<o+1+r.length
   ·rw[if_pos hk2,if_pos (by omega),show k -o=(k -(o+1))+1 by omega,List.getElem?_cons_succ]
   ·rw[if_neg hk2,if_neg hk,if_neg (by omega)]
theorem setCells_grown(b:Nat):∀(vs:List Value) (o:Nat) (w:World),w.grownBy (w.setCells b o vs) (some b)
 |[],o,w=>⟨rfl,rfl,rfl,Nat.le_refl _,fun _ _ _=>rfl⟩
 |v::r,o,w=>by
  have h:=setCells_grown b r (o+1) (w.setCell ⟨b,o,none⟩ v)
  exact⟨h.os,h.tape,h.output,by have:=h.size;simp only[World.size_setCell]at this;exact this,fun k hk hne=>by
   have:=h.block k (by simp only[World.size_setCell];exact hk) hne
   simp only[World.setCells]
   rw[this]
   exact Below.heap_setCell _ _ _ _ (fun e=>hne (by rw[e]))⟩
theorem run_store_cells{t:Nat}{i:TInfo}(f:TFact P t i){b off:Nat}{v:Value}{cs:List Value}{el:Nat}{fz:Nat×Nat}(hb:w.heap[b]? =some (.cells ⟨cs⟩ el fz))(hl:v.cells.toList.length=i.size)(hfit:off+i.size≤cs.length)
 (hz:∀j,j<i.size→¬(fz.1≤off+j∧off+j<fz.2)) (h1:∀u∈v.cells.toList,u.oneCell'=true):
 (Instr.storeAt t (.pointer (some ⟨b,off,none⟩)) v).run P w= .ok () (w.setCells b off v.cells.toList):=by
 have hc:∀j,j<v.cells.toList.length→(w.cell? ⟨b,off+0+j,none⟩).isSome=true:=by
  intro j hj
  rw[cell_heap hb,List.getElem?_eq_getElem (by omega)];rfl
 have hf:∀j,j<v.cells.toList.length→w.frozen? ⟨b,off+0+j,none⟩=false:=by
  intro j hj
  have:=hz j (by omega)
  simp only[World.frozen?,hb]
  simp only[Nat.add_zero]
  by_cases h:fz.1≤off+j
  ·have:¬off+j<fz.2:=fun h'=>this ⟨h,h'⟩
   simp[this]
  ·simp[h]
 have hst:=run_storeCells_cells (P:=P) b off v.cells.toList 0 w hc hf h1
 simp only[Nat.add_zero]at hst
 have hs:v.cells.size=i.size:=by rw[←hl,Array.length_toList]
 simp[Instr.storeAt,Instr.sureAddr,storeVar,f.sizeOf,hs,hst]
theorem goes_storeP(H:CtxOK P C)(R:RelE N W base w0 s m bv hd fp Fr a w){o:Oper}(hdst:∀d,o.dst=some d→N.ok d){t:Nat}{p x:Operand}{id off:Nat}{l:List SV}(h:o.op= .store t p x)(hk:1≤(C.i t).kind)
 (hc:(opnd s x).cells.length=(C.i t).size) (hok:okC (opnd s x)=true) (h1:(opnd s x).cells.all cell1=true) (hp:opnd s p= .ptr id off) (hm:m id=some (.var l)) (hl:off+(C.i t).size≤l.length):
 Goes P N W base w0 s m o ⟨.gone,[(id,some (.var (fillAt l off (opnd s x).cells)))],[id],[]⟩ a w:=by
 have hr:=opnd_rel R p
 rw[hp]at hr
 generalize hev:a.eval p=v at hr
 obtain⟨hfp,cs,el,hh,hlen,hrel⟩:=R.mem.vars id l hm
 obtain⟨g1,g2⟩:=cells_rel (opnd_rel R x) hok
 cases hr with
 |ptr _ _ _ _ hq=>
  have:=hq l hm
  subst this
  have hone:∀u∈(a.eval x).cells.toList,u.oneCell'=true:=by
   intro u hu
   obtain⟨k,hk'⟩:=List.mem_iff_getElem?.1 hu
   have hkl:=(List.getElem?_eq_some_iff.1 hk').1
   have hx:=List.getElem?_eq_getElem (l:=(opnd s x).cells) (i:=k) (by omega)
   exact cell1_one (g2 k u _ hk' hx) (List.all_eq_true.1 h1 _ (List.getElem_mem _))
  have hrun:=run_store_cells (w:=w) (H.fact hk) hh (v:=a.eval x) (off:=off) (by rw[g1,hc]) (by omega) (by intro j _;simp) hone
  refine goes_one R hdst (setCells_grown (bv id) (a.eval x).cells.toList off w) (d:=id) (obj:= .var (fillAt l off (opnd s x).cells)) (nx:= .skip) (v:=undef) (.inr ⟨rfl,rfl⟩)
   (by simp only[execOp,h,hev,Sem.run_bind,hrun,Result.andThen_ok,Sem.run_pure]) (by rw[updM_one];simp) (fun j hj=> .inl (by rw[updM_one];simp[hj])) ⟨fun t=> .inl rfl,fun _ _ _=> .inl rfl⟩ (fp id) (fun b hb=> .inr ⟨id,.inl rfl,by simp[hm],hb⟩)
   (fun k hk=>⟨id,.inl rfl,by simp[hm],by cases hk;exact hfp⟩) (bv id) undef (fun _ _ _ he=>by cases he) (fun l' he=> ?_) (fun _ _ _ _ _=> .gone _)
  ·cases he
   refine⟨hfp,.inr ⟨l,hm,rfl⟩,fun bv' hd' k=>⟨_,el,setCells_heap _ _ _ _ _ _ _ hh (by rw[g1,hc,hlen];exact hl), ?_,fun i u sv e1 e2=> ?_⟩⟩
   ·rw[fillAt_length _ _ _ (by omega)]
    simp only[List.length_append,List.length_take,List.length_drop]
    omega
   ·rw[fillAt_get _ _ _ (by omega)]at e2
    have e1':(if off≤i∧i<off+(opnd s x).cells.length then(a.eval x).cells.toList[i -off]? else cs[i]?)=some u:=by
     rw[←e1,←g1]
     exact(valAt_get cs off _ (by omega) i).symm
    split at e2
    ·rename_i hi
     rw[if_pos hi]at e1'
     exact(g2 _ _ _ e1' e2).step0 k
    ·rename_i hi
     rw[if_neg hi]at e1'
     exact(hrel _ _ _ e1' e2).step0 k
theorem RowvAt.cells{F:Nat→Prop}{v:Value}{sz:Nat}{rows:List (List T)}{l:List SV}{b bo n c q:Nat}{cells:List Value}{el lo hi:Nat}{f:Nat→Nat→Value}{G:Nat→Nat→Nat→Prop}(X:RowvAt w Fr m bv hd F v sz rows l b bo n c q cells el lo hi f G):
 (∀j,j<sz→cells[bo+(q*sz+j)]? =some (f q j))∧(∀i j,i<n→j<sz→i*sz+j<c*sz):=by
 have hqr:q<rows.length:=by have:=X.hn;have:=X.hq;omega
 refine⟨fun j hj=>X.hcell q rows[q] j (rows[q]'hqr)[j]! (List.getElem?_eq_getElem hqr) ?_,fun i j hi hj=> ?_⟩
 ·have hl:=X.hr q _ (List.getElem?_eq_getElem hqr)
  rw[List.getElem?_eq_getElem (by omega),getElem!_pos _ j (by omega)]
 ·have:=X.hc
  have:(i+1)*sz≤c*sz:=Nat.mul_le_mul_right _ (by omega)
  rw[Nat.add_mul]at this;omega
theorem goes_loadV(H:CtxOK P C)(R:RelE N W base w0 s m bv hd fp Fr a w){o:Oper}(hdst:∀d,o.dst=some d→N.ok d){t:Nat}{x:Operand}{id ver off z:Nat}{j:Int}{rows:List (List T)}{l:List SV}(h:o.op= .load t x)(hk:1≤(C.i t).kind)
 (hz:1≤(C.i t).size) (ha:opnd s x= .eptr id ver j off) (hm:m id=some (.rowv ver z rows j l)) (hl:off+(C.i t).size≤l.length):
 Goes P N W base w0 s m o ⟨valOf (C.i t).agg ((l.drop off).take (C.i t).size),[],[id],[]⟩ a w:=by
 have hr:=opnd_rel R x
 rw[ha]at hr
 generalize hev:a.eval x=v at hr
 obtain⟨b,bo,n,c,q0,cells,el,lo,hi,f,G,rfl,X⟩:=R.mem.rowv id _ _ _ _ _ hm
 obtain⟨hcell,_⟩:=X.cells
 have hll:=X.hl
 cases hr with
 |eptr _ _ _ _ _ _ hp=>
  obtain⟨_,b',bo',n',c',hhd,hv⟩:=hp z rows (by rw[hm];rfl)
  rw[X.hv]at hhd
  cases hhd
  subst hv
  simp only[Int.toNat_natCast]at*
  let us:=(List.range (C.i t).size).map fun k=>f q0 (off+k)
  have hus:us.length=(C.i t).size:=by simp[us]
  refine goes_pure R hdst (v:=if(C.i t).agg then .agg ⟨us⟩else us.headD undef) ?_ (valOf_rel (by simp[us];omega) (by simp;omega) (fun i v sv h1 h2=> ?_) _)
  ·simp only[execOp,h,hev,Sem.run_bind,Result.andThen_ok,Sem.run_pure,run_load_cells (H.fact hk) hz (b:=b) (off:=bo+(q0*z+off)) hus (fun j v hj=>by
    obtain⟨h1,rfl⟩:=range_get hj
    rw[cell_heap X.hb,Nat.add_assoc,Nat.add_assoc]
    exact hcell (off+j) (by omega))]
  ·obtain⟨h3,rfl⟩:=range_get h1
   rw[List.getElem?_take,if_pos h3,List.getElem?_drop]at h2
   exact X.ho _ _ h2
theorem goes_storeV(H:CtxOK P C)(R:RelE N W base w0 s m bv hd fp Fr a w){o:Oper}(hdst:∀d,o.dst=some d→N.ok d){t:Nat}{p x:Operand}{id ver off z:Nat}{j:Int}{rows:List (List T)}{l:List SV}(h:o.op= .store t p x)(hk:1≤(C.i t).kind)
 (hc:(opnd s x).cells.length=(C.i t).size) (hok:okC (opnd s x)=true) (h1:(opnd s x).cells.all cell1=true) (hp:opnd s p= .eptr id ver j off) (hm:m id=some (.rowv ver z rows j l)) (hl:off+(C.i t).size≤l.length):
 Goes P N W base w0 s m o ⟨.gone,[(id,some (.rowv ver z rows j (fillAt l off (opnd s x).cells)))],[id],[]⟩ a w:=by
 have hr:=opnd_rel R p
 rw[hp]at hr
 generalize hev:a.eval p=v at hr
 obtain⟨b,bo,n,c,q0,cells,el,lo,hi,f,G,rfl,X⟩:=R.mem.rowv id _ _ _ _ _ hm
 obtain⟨hcell,hin⟩:=X.cells
 have hll:=X.hl
 obtain⟨g1,g2⟩:=cells_rel (opnd_rel R x) hok
 cases hr with
 |eptr _ _ _ _ _ _ hp=>
  obtain⟨_,b',bo',n',c',hhd,hv⟩:=hp z rows (by rw[hm];rfl)
  rw[X.hv]at hhd
  cases hhd
  subst hv
  simp only[Int.toNat_natCast]at*
  generalize hsz:(C.i t).size=size at*
  have hone:∀u∈(a.eval x).cells.toList,u.oneCell'=true:=by
   intro u hu
   obtain⟨k,hk'⟩:=List.mem_iff_getElem?.1 hu
   have hkl:=(List.getElem?_eq_some_iff.1 hk').1
   have hx:=List.getElem?_eq_getElem (l:=(opnd s x).cells) (i:=k) (by omega)
   exact cell1_one (g2 k u _ hk' hx) (List.all_eq_true.1 h1 _ (List.getElem_mem _))
  have hq:=X.hq
  have hs:=X.hs
  have hz0:=X.hz
  have hfit:bo+(q0*z+off)+size≤cells.length:=by
   by_cases h0:size=0
   ·have h2:(q0+1)*z≤c*z:=Nat.mul_le_mul_right _ (by have:=X.hc;omega)
    rw[Nat.add_mul]at h2;omega
   ·have:=hin q0 (off+size -1) hq (by omega);omega
  have hfree:∀k,k<size→¬(lo≤bo+(q0*z+off)+k∧bo+(q0*z+off)+k<hi):=by
   intro k hk'
   have:=hin q0 (off+k) hq (by omega)
   rcases hz0 with hz|hz<;>omega
  have hvl:(a.eval x).cells.toList.length=size:=by rw[g1,hc]
  have hrun:=run_store_cells (w:=w) (H.fact hk) X.hb (v:=a.eval x) (off:=bo+(q0*z+off)) (by rw[hvl,hsz]) (by rw[hsz];omega) (by rw[hsz];exact hfree) hone
  have hheap:=setCells_heap b (a.eval x).cells.toList (bo+(q0*z+off)) w cells el (lo,hi) X.hb (by rw[hvl];omega)
  have hg:=setCells_grown b (a.eval x).cells.toList (bo+(q0*z+off)) w
  refine goes_one R hdst hg (d:=id) (obj:= .rowv ver z rows (q0:Int) (fillAt l off (opnd s x).cells)) (nx:= .skip) (v:=undef) (.inr ⟨rfl,rfl⟩)
   (by simp only[execOp,h,hev,Sem.run_bind,hrun,Result.andThen_ok,Sem.run_pure]) (by rw[updM_one];simp) (fun j hj=> .inl (by rw[updM_one];simp[hj])) ⟨fun t=> .inl rfl,fun _ _ _=> .inl rfl⟩ (fp id) (fun b hb=> .inr ⟨id,.inl rfl,by simp[hm],hb⟩)
   (fun k hk=>⟨id,.inl rfl,by simp[hm],by cases hk;exact X.hF⟩) 0 (hd id) (fun _ _ _ he=>by cases he) (fun _ he=>by cases he) (fun _ _ _ _ _=> .gone _) (fun ver' sz' rows' q' l' he=> ?_)
  cases he
  refine⟨⟨rows,by rw[hm];rfl,rfl⟩,fun bv' hd' k=>⟨b,bo,n,c,q0,_,el,lo,hi,fun i j=>if i=q0∧off≤j∧j<off+size then(a.eval x).cells.toList.getD (j -off) undef else f i j,G,rfl,X.hv,X.hn,X.hq,X.hc,hheap, ?_,X.hz,X.hF,X.hr, ?_,fun i row j u hi' hj=> ?_,fun i row j u hi' hj=> ?_,X.hG,X.hD,fun i row j u hne hi' hj=> ?_,fun j sv hj=> ?_⟩⟩
  ·simp only[List.length_append,List.length_take,List.length_drop];omega
  ·rw[fillAt_length _ _ _ (by omega)];exact hll
  ·have hv:=valAt_get cells (bo+(q0*z+off)) (a.eval x).cells.toList (by rw[hvl];omega) (bo+(i*z+j))
   rw[hv,hvl]
   have hrl:=X.hr i row hi'
   have hjz:j<z:=by have:=(List.getElem?_eq_some_iff.1 hj).1;omega
   by_cases e:i=q0
   ·subst e
    by_cases e2:off≤j∧j<off+size
    ·rw[if_pos (by omega),if_pos ⟨rfl,e2⟩,show bo+(i*z+j) -(bo+(i*z+off))=j -off by omega,List.getElem?_eq_getElem (by omega),List.getD_eq_getElem?_getD,List.getElem?_eq_getElem (by omega)]
     rfl
    ·rw[if_neg (by omega),if_neg (fun h=>e2 h.2)]
     exact X.hcell i row j u hi' hj
   ·rw[if_neg (fun h=> ?_),if_neg (fun h=>e h.1)]
    ·exact X.hcell i row j u hi' hj
    ·rcases Nat.lt_or_gt_of_ne e with e|e
     ·have:(i+1)*z≤q0*z:=Nat.mul_le_mul_right _ e
      rw[Nat.add_mul]at this;omega
     ·have:(q0+1)*z≤i*z:=Nat.mul_le_mul_right _ e
      rw[Nat.add_mul]at this;omega
  ·split
   ·rename_i e
    rw[List.getD_eq_getElem?_getD,List.getElem?_eq_getElem (by omega)]
    exact hone _ (List.getElem_mem _)
   ·exact X.hone i row j u hi' hj
  ·rw[if_neg (fun h=>hne h.1)]
   refine(X.h i row j u hne hi' hj).mono (fun _ hx=>hx) fun y hy=> ?_
   have:=X.hG i j y hy
   exact hg.block y (R.mem.own id y (by simp[hm]) this.1).2.1 (fun e=>this.2 (by cases e;rfl))
  ·rw[fillAt_get _ _ _ (by omega),hc]at hj
   split at hj
   ·rename_i e
    rw[if_pos ⟨rfl,e⟩]
    refine(g2 (j -off) _ _ ?_ hj).step0 k
    rw[List.getD_eq_getElem?_getD,List.getElem?_eq_getElem (by omega)]
    rfl
   ·rename_i e
    rw[if_neg (fun h=>e h.2)]
    exact(X.ho j sv hj).step0 k
end
end Go.Pv
