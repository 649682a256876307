/- Plain lemmas and definitions. Nothing is claimed here. -/
import Derived.Test.YtabadclgcgdccaaGreatDoorPv6
set_option linter.unusedSimpArgs false
set_option linter.unusedVariables false
namespace Go.Pv
open Go Go.RowKit
theorem rowsN_length{α:Type}(size:Nat):∀(n:Nat) (l:List α),(rowsN size n l).length=n
 |0,_=>rfl
 |n+1,l=>by simp[rowsN,rowsN_length size n]
theorem rowsN_get{α:Type}(size:Nat):∀(n:Nat) (l:List α) (i:Nat),i<n→(rowsN size n l)[i]? =some ((l.drop (i*size)).take size)
 |0,_,i,h=>by omega
 |n+1,l,0,h=>by simp[rowsN]
 |n+1,l,i+1,h=>by
  simp only[rowsN,List.getElem?_cons_succ]
  rw[rowsN_get size n _ i (by omega),List.drop_drop,Nat.add_mul,Nat.one_mul,Nat.add_comm size]
theorem flat_get{α:Type}(l:List α):∀(n k:Nat),((List.replicate n l).flatten)[k]? =if k<n*l.length then l[k % l.length]? else none
 |0,k=>by simp
 |n+1,k=>by
  rw[List.replicate_succ,List.flatten_cons]
  by_cases hk:k<l.length
  ·have:k<(n+1)*l.length:=by rw[Nat.add_mul];omega
   rw[List.getElem?_append_left hk,if_pos this,Nat.mod_eq_of_lt hk]
  ·rw[List.getElem?_append_right (by omega),flat_get l n]
   have hpos:k -l.length<n*l.length↔k<(n+1)*l.length:=by rw[Nat.add_mul];omega
   by_cases h:k -l.length<n*l.length
   ·rw[if_pos h,if_pos (hpos.1 h),←Nat.mod_eq_sub_mod (by omega)]
   ·rw[if_neg h,if_neg (fun hh=>h (hpos.2 hh))]
section
variable {P:Program} {C:Ctx} {N:FrP} {W:Nat→Prop} {base:Nat} {w0:World} {s:Nat→SV} {m:Nat→Option MO} {bv:Nat→Nat} {hd:Nat→Value} {fp:Nat→Nat→Prop} {Fr:Nat→Prop} {a:Act} {w:World}
theorem updM_cons{d:Nat}{x:Option MO}{l:List (Nat×Option MO)}(id:Nat):updM m ((d,x)::l) id=if id=d then x else updM m l id:=by
 unfold updM
 rw[look]
 cases h:Nat.beq d id with
 |true=>rw[beqN h];simp
 |false=>
  have:id≠d:=fun e=>by rw[e]at h;simp at h
  simp[this]
theorem updM_none(l:List Nat)(id:Nat):updM m (l.map fun i=>(i,none)) id=if id∈l then none else m id:=by
 induction l with
 |nil=>rfl
 |cons d r ih=>
  rw[List.map_cons,updM_cons,ih]
  by_cases h:id=d
  ·simp[h]
  ·simp[h]
theorem row_lt{size i n j k:Nat}(hi:i<n)(hj:j<size)(hk:n*size=k):i*size+j<k:=by
 have:(i+1)*size≤n*size:=Nat.mul_le_mul_right _ hi
 rw[Nat.add_mul]at this;omega
theorem goes_buildSlice(H:CtxOK P C)(R:RelE N W base w0 s m bv hd fp Fr a w){o:Oper}(hdst:∀d,o.dst=some d→N.ok d){t len:Nat}{parts:Array (Nat×Operand)}{cs:List SV}{rows:List (List T)}(h:o.op= .buildSlice t len parts)(ok:OkSl C t)
 (hl:len*(C.i (C.i t).elem).size≤4096) (hc:fillAll (fun k=>some (k*(C.i (C.i t).elem).size,(C.i (C.i t).elem).size)) ((List.replicate len (C.i (C.i t).elem).zero).flatten) (parts.toList.map fun p=>(p.1,opnd s p.2))=some cs)
 (hr:all2 (all2 (rbo m 4)) (rowsN (C.i (C.i t).elem).size len cs) rows) (hn:nodupN (refsL (refs 4) cs)=true) (hc1:cs.all cell1=true) (hfresh:m (o.dst.getD 0)=none) {vr:Nat} {tok:List (Nat×Nat)} (htok:(o.dst.getD 0,vr)∈tok) (cl:Clean s m tok):
 Goes P N W base w0 s m o ⟨.ref (o.dst.getD 0) vr,(o.dst.getD 0,some (.row vr (C.i (C.i t).elem).size rows))::(refsL (refs 4) cs).map (fun id=>(id,none)),o.dst.getD 0::refsL (refs 4) cs,tok⟩ a w:=by
 have hu:=(H.fact (t:=t) (by rw[ok.k];decide)).slice ok.k
 obtain⟨d,z,h1,h2,h3,h4,h5,h6⟩:=zero_rel (w:=w) (Fr:=Fr) (m:=m) (bv:=bv) (hd:=hd) (H.fact ok.e)
 have hz:=ok.l
 generalize hsz:(C.i (C.i t).elem).size=size at*
 generalize hzz:(C.i (C.i t).elem).zero=zero at*
 have hsz1:=ok.z
 rw[hsz]at hsz1
 have hzc:z.cells.size=size:=by rw[←Array.length_toList,h5,hz]
 --the cells before the parts go in
 have hP0:Pw (VRel w Fr m bv hd) ((List.replicate len zero).flatten) ((Array.range (len*size)).map (z.cells[· % z.cells.size]!)).toList:=by
  refine⟨by simp[hz],fun k u x e1 e2=> ?_⟩
  rw[flat_get,hz]at e2
  split at e2
  ·rename_i hk
   have hlt:k % size<z.cells.size:=by rw[hzc];exact Nat.mod_lt _ (by omega)
   have e3:u=z.cells.toList[k % size]'(by simpa using hlt):=by
    simp[hk]at e1
    rw[←e1,hzc]
    rw[getElem!_pos z.cells (k % size) hlt]
    exact(Array.getElem_toList _).symm
   exact h6 _ u x (by rw[e3];exact List.getElem?_eq_getElem (by simpa using hlt)) e2
  ·cases e2
 obtain⟨cells,hfill,hP⟩:=fill_rel _ _ ((parts.map fun(i,x)=>(i,a.eval x)).toList) _ _ _ (by simp) (parts_rel R parts) hP0 hc
 have hlen0:cs.length=len*size:=by
  have:∀(pl:Nat→Option (Nat×Nat)) (l:List (Nat×SV)) (c c':List SV),fillAll pl c l=some c'→c'.length=c.length:=by
   intro pl l
   induction l with
   |nil=>intro c c' h;simp only[fillAll,Option.some.injEq]at h;rw[h]
   |cons q l ih=>
    intro c c' h
    unfold fillAll at h
    cases hp:pl q.1 with
    |none=>simp[hp]at h
    |some r=>
     simp only[hp]at h
     cases hb:(okC q.2&&Nat.beq q.2.cells.length r.2&&Nat.ble (r.1+r.2) c.length)with
     |false=>simp[hb]at h
     |true=>
      simp only[hb,cond_true]at h
      rw[ih _ _ h]
      simp only[Bool.and_eq_true]at hb
      have e1:=beqN hb.1.2
      have e2:=bleN hb.2
      exact fillAt_length _ _ _ (by omega)
  rw[this _ _ _ _ hc];simp[hz]
 obtain⟨hrl,hrg⟩:=all2_get hr
 rw[rowsN_length]at hrl
 have hnd:=nodupN_iff.1 hn
 have hcells:cells.toList.length=len*size:=by rw[hP.1,hlen0]
 --the datum of each cell
 have cellR:∀(i:Nat) row (j:Nat) t,rows[i]? =some row→row[j]? =some t→i<len∧j<size∧∃x,cs[i*size+j]? =some x∧rbo m 4 x t:=by
  intro i row j t hi hj
  have hil:i<len:=by rw[hrl];exact(List.getElem?_eq_some_iff.1 hi).1
  have hx:=rowsN_get size len cs i hil
  obtain⟨g1,g2⟩:=all2_get (hrg i _ _ hx hi)
  have hjl:j<((cs.drop (i*size)).take size).length:=by rw[g1];exact(List.getElem?_eq_some_iff.1 hj).1
  have hjs:j<size:=by simp only[List.length_take]at hjl;omega
  refine⟨hil,hjs,cs[i*size+j]'(by rw[hlen0];exact row_lt hil hjs rfl),List.getElem?_eq_getElem _,g2 j _ _ ?_ hj⟩
  rw[List.getElem?_take,if_pos hjs,List.getElem?_drop]
  exact List.getElem?_eq_getElem _
 have rowL:∀(i:Nat) row,rows[i]? =some row→row.length=size:=by
  intro i row hi
  have hil:i<len:=by rw[hrl];exact(List.getElem?_eq_some_iff.1 hi).1
  have:=(all2_get (hrg i _ _ (rowsN_get size len cs i hil) hi)).1
  rw[←this]
  simp only[List.length_take,List.length_drop,hlen0]
  have:=row_lt (size:=size) (j:=size -1) hil (by omega) rfl
  omega
 have hrun:(execOp a.eval o).run P w= .ok (.value (.slice (some ⟨w.heap.size,0,none⟩) len len)) (w.alloc (.cells ⟨cells.toList⟩ (C.i t).elem)):=by
  by_cases h0:len*size=0
  ·have hl0:len=0:=by
    rcases Nat.mul_eq_zero.1 h0 with h|h
    ·exact h
    ·omega
   subst hl0
   have hf':∀q:Nat→Value,Instr.fill (fun i=>some (i*size,size)) (Array.map q (Array.range 0)) (List.map (fun x=>(x.fst,a.eval x.snd)) parts.toList)=some cells:=by
    intro q;rw[←hfill];congr 1<;>simp
   simp[execOp,h,Instr.buildSlice,run_underlying hu,sizeOf,typeInfo,h1,h3,hf',newRow]
  ·simp only[execOp,h,Sem.run_bind,run_buildSlice w t (C.i t).elem len _ cells d z hu h1 h2 (by rw[h3];omega) (by rw[h3];exact h0) (by rw[h3];exact hfill),Result.andThen_ok,Sem.run_pure]
 have hnew:∀id∈refsL (refs 4) cs,id≠o.dst.getD 0:=by
  intro id hid e
  obtain⟨x,hx,hid'⟩:=refsL_mem.1 hid
  obtain⟨k,hk⟩:=List.mem_iff_getElem?.1 hx
  have hkl:=(List.getElem?_eq_some_iff.1 hk).1
  have hdm:=Nat.div_add_mod k size
  have hk1:k/size<len:=by
   rw[Nat.div_lt_iff_lt_mul (by omega)];omega
  have hk2:k % size<size:=Nat.mod_lt _ (by omega)
  have hrow:=List.getElem?_eq_getElem (l:=rows) (i:=k/size) (by omega)
  have hcell:=List.getElem?_eq_getElem (l:=rows[k/size]'(by omega)) (i:=k % size) (by rw[rowL _ _ hrow];exact hk2)
  obtain⟨_,_,y,hy,hrb⟩:=cellR _ _ _ _ hrow hcell
  rw[Nat.mul_comm (k/size) size,hdm,hk]at hy
  cases hy
  exact rbo_live 4 x _ hrb id hid' (by rw[e];exact hfresh)
 refine goes_one R hdst (grown_alloc w _) (d:=o.dst.getD 0) (obj:= .row vr size rows) (.inl rfl) hrun (by rw[updM_cons];simp) (fun id he=> ?_) cl (fun b=>b=w.heap.size∨∃id∈refsL (refs 4) cs,fp id b) (fun b hb=> ?_) (fun k hk=>by cases hk) 0
  (.slice (some ⟨w.heap.size,0,none⟩) len len) (fun ver sz' rows' he=> ?_) (fun l he=>by cases he) (fun bv' hd' k e1 e2=> .ref _ _ _ ⟨_,_,_,rfl⟩ fun _ _ _=>e2.symm) (hfl:=fun _=>⟨_,_,rfl⟩)
 ·rw[updM_cons,if_neg he,updM_none]
  by_cases hx:id∈refsL (refs 4) cs
  ·exact .inr (by simp[hx])
  ·exact .inl (by simp[hx])
 ·rcases hb with rfl|⟨id,hid,hb⟩
  ·exact .inl (by simp)
  ·refine .inr ⟨id,.inr ?_, ?_,hb⟩
   ·rw[updM_cons,if_neg (hnew id hid),updM_none,if_pos hid]
   ·obtain⟨x,hx,hid'⟩:=refsL_mem.1 hid
    obtain⟨k,hk⟩:=List.mem_iff_getElem?.1 hx
    have hkl:=(List.getElem?_eq_some_iff.1 hk).1
    have hdm:=Nat.div_add_mod k size
    have hk1:k/size<len:=by rw[Nat.div_lt_iff_lt_mul (by omega)];omega
    have hk2:k % size<size:=Nat.mod_lt _ (by omega)
    have hrow:=List.getElem?_eq_getElem (l:=rows) (i:=k/size) (by omega)
    have hcell:=List.getElem?_eq_getElem (l:=rows[k/size]'(by omega)) (i:=k % size) (by rw[rowL _ _ hrow];exact hk2)
    obtain⟨_,_,y,hy,hrb⟩:=cellR _ _ _ _ hrow hcell
    rw[Nat.mul_comm (k/size) size,hdm,hk]at hy
    cases hy
    exact rbo_live 4 x _ hrb id hid'
 ·cases he
  refine⟨.mk0 _ w.heap.size len len size rows cells.toList _ 0 0 (fun i j=>cells.toList.getD (i*size+j) undef) (fun i j b=>∃x,cs[i*size+j]? =some x∧i<len∧j<size∧∃id∈refs 4 x,fp id b∧m id≠none)
   hrl.symm (Nat.le_refl _) (heap_new w _) (by rw[hcells];exact Nat.le_refl _) (.inr (Nat.le_refl _)) (.inl rfl) rowL (fun i row j t hi hj=> ?_) (fun i row j t hi hj=> ?_) (fun i j x hx=> ?_) (fun i j i' j' x hx hx'=> ?_) (fun i row j t hi hj=> ?_),.inl htok⟩
  ·obtain⟨hil,hjs,x,hx,_⟩:=cellR i row j t hi hj
   have:i*size+j<cells.toList.length:=by rw[hcells];exact row_lt hil hjs rfl
   rw[List.getD_eq_getElem?_getD,List.getElem?_eq_getElem this];rfl
  ·obtain⟨hil,hjs,x,hx,hrb⟩:=cellR i row j t hi hj
   have hlt:i*size+j<cells.toList.length:=by rw[hcells];exact row_lt hil hjs rfl
   have hval:cells.toList[i*size+j]? =some (cells.toList.getD (i*size+j) undef):=by rw[List.getD_eq_getElem?_getD,List.getElem?_eq_getElem hlt];rfl
   exact cell1_one (hP.2 _ _ _ hval hx) (List.all_eq_true.1 hc1 x (List.mem_of_getElem? hx))
  ·obtain⟨y,hy,_,_,id,hid,hb,hlive⟩:=hx
   refine⟨.inr ⟨id,refsL_mem.2 ⟨y,List.mem_of_getElem? hy,hid⟩,hb⟩,fun e=> ?_⟩
   have:=(R.mem.own id x hlive hb).2.1
   omega
  ·obtain⟨y,hy,h7,h8,id,hid,hb,hlive⟩:=hx
   obtain⟨y',hy',h7',h8',id',hid',hb',hlive'⟩:=hx'
   have:=R.mem.apart id id' x hlive hlive' hb hb'
   subst this
   have e:=refsL_apart hnd hy hy' hid hid'
   have e1:i=i':=by
    have a1:(i*size+j)/size=i:=by rw[Nat.mul_comm,Nat.mul_add_div (by omega),Nat.div_eq_of_lt h8];omega
    have a2:(i'*size+j')/size=i':=by rw[Nat.mul_comm,Nat.mul_add_div (by omega),Nat.div_eq_of_lt h8'];omega
    rw[←a1,←a2,e]
   subst e1
   exact⟨rfl,by omega⟩
  ·obtain⟨hil,hjs,x,hx,hrb⟩:=cellR i row j t hi hj
   have hlt:i*size+j<cells.toList.length:=by rw[hcells];exact row_lt hil hjs rfl
   have hval:cells.toList[i*size+j]? =some (cells.toList.getD (i*size+j) undef):=by rw[List.getD_eq_getElem?_getD,List.getElem?_eq_getElem hlt];rfl
   have own:=rbo_own R.mem 4 x _ t (hP.2 _ _ _ hval hx) hrb (refsL_nodup hnd (List.mem_of_getElem? hx))
   refine own.mono (fun b ⟨id,hid,hb⟩=>⟨x,hx,hil,hjs,id,hid,hb,rbo_live 4 x t hrb id hid⟩) (fun b ⟨id,hid,hb⟩=> ?_)
   exact Below.heap_alloc w _ b (R.mem.own id b (rbo_live 4 x t hrb id hid) hb).2.1
end
end Go.Pv
