/- Plain lemmas and definitions. Nothing is claimed here. -/
import Derived.Test.YtabadclgcgdccaaGreatDoorPv8
set_option linter.unusedSimpArgs false
set_option linter.unusedVariables false
namespace Go.Pv
open Go Go.RowKit Go.Lib
theorem mid_get{α:Type}(cs:List α)(off n:Nat)(l:List α)(hn:l.length=n)(h:off+n≤cs.length)(k:Nat):(cs.take off++l++cs.drop (off+n))[k]? =if off≤k∧k<off+n then l[k -off]? else cs[k]? :=by
 subst hn
 have h1:(cs.take off++l).length=off+l.length:=by simp;omega
 by_cases hk:k<off+l.length
 ·rw[List.getElem?_append_left (by omega)]
  by_cases h2:k<off
  ·rw[List.getElem?_append_left (by simp;omega),List.getElem?_take,if_pos h2,if_neg (by omega)]
  ·rw[List.getElem?_append_right (by simp;omega),if_pos (by omega)]
   simp only[List.length_take]
   congr 1
   omega
 ·rw[List.getElem?_append_right (by omega),if_neg (by omega),List.getElem?_drop,h1]
  congr 1
  omega
section
variable {P:Program} {C:Ctx} {N:FrP} {W:Nat→Prop} {base:Nat} {w0:World} {s:Nat→SV} {m:Nat→Option MO} {bv:Nat→Nat} {hd:Nat→Value} {fp:Nat→Nat→Prop} {Fr:Nat→Prop} {a:Act} {w:World}
theorem goes_storeE(H:CtxOK P C)(R:RelE N W base w0 s m bv hd fp Fr a w){o:Oper}(hdst:∀d,o.dst=some d→N.ok d){t:Nat}{p x:Operand}{id ver off z:Nat}{j:Int}{rows:List (List T)}{row:List T}(h:o.op= .store t p x)
 (hk:1≤(C.i t).kind) (hc:(opnd s x).cells.length=(C.i t).size) (hok:okC (opnd s x)=true) (h1:(opnd s x).cells.all cell1=true) (hp:opnd s p= .eptr id ver j off) (hm:m id=some (.row ver z rows))
 {ts:List T} (hs:all2 (rbo m 4) (opnd s x).cells ts) (hnd:nodupN (refsL (refs 4) (opnd s x).cells)=true) (hnot:id∉refsL (refs 4) (opnd s x).cells) (hi:idx rows j=some row) (hl:off+(C.i t).size≤row.length):
 Goes P N W base w0 s m o ⟨.gone,(id,some (.row ver z (rows.set j.toNat (row.take off++ts++row.drop (off+(C.i t).size)))))::(refsL (refs 4) (opnd s x).cells).map (fun id=>(id,none)),id::refsL (refs 4) (opnd s x).cells,[]⟩ a w:=by
 have hnd:=nodupN_iff.1 hnd
 obtain⟨tl,tg⟩:=all2_get hs
 have hr:=opnd_rel R p
 rw[hp]at hr
 obtain⟨q,rfl,hq⟩:=idx_some hi
 generalize hev:a.eval p=v at hr
 obtain⟨g1,g2⟩:=cells_rel (opnd_rel R x) hok
 cases hr with
 |eptr _ _ _ _ _ _ hh=>
  obtain⟨_,b',bo,n',c',hhd,hv⟩:=hh z rows (asRow_row hm)
  subst hv
  have own:=R.mem.rows id _ _ _ hm
  rw[hhd]at own
  simp only[Int.toNat_natCast]at*
  generalize hsz:(C.i t).size=size at*
  cases own with
  |sl0=>simp at hq
  |sl _ b _ n c sz rs cells el lo hi' f G hn hcap hb hsz' hz hF hrow hcell hone hG hD hrd=>
   have hqn:q<rows.length:=(List.getElem?_eq_some_iff.1 hq).1
   have hrl:=hrow q row hq
   have hone':∀u∈(a.eval x).cells.toList,u.oneCell'=true:=by
    intro u hu
    obtain⟨k,hk'⟩:=List.mem_iff_getElem?.1 hu
    have hkl:=(List.getElem?_eq_some_iff.1 hk').1
    have hx:=List.getElem?_eq_getElem (l:=(opnd s x).cells) (i:=k) (by omega)
    exact cell1_one (g2 k u _ hk' hx) (List.all_eq_true.1 h1 _ (List.getElem_mem _))
   have hin:∀i j,i<n'→j<z→i*z+j<c'*z:=by
    intro i j hi hj
    have:(i+1)*z≤c'*z:=Nat.mul_le_mul_right _ (by omega)
    rw[Nat.add_mul]at this;omega
   have hfit:bo+(q*z+off)+size≤cells.length:=by
    by_cases h0:size=0
    ·have:q*z+off≤q*z+z:=by omega
     have h2:(q+1)*z≤c'*z:=Nat.mul_le_mul_right _ (by omega)
     rw[Nat.add_mul]at h2;omega
    ·have:=hin q (off+size -1) (by omega) (by omega);omega
   have hfree:∀k,k<size→¬(lo≤bo+(q*z+off)+k∧bo+(q*z+off)+k<hi'):=by
    intro k hk'
    have:=hin q (off+k) (by omega) (by omega)
    rcases hz with hz|hz<;>omega
   have hvl:(a.eval x).cells.toList.length=size:=by rw[g1,hc]
   have hrun:=run_store_cells (w:=w) (H.fact hk) hb (v:=a.eval x) (off:=bo+(q*z+off)) (by rw[hvl,hsz]) (by rw[hsz];omega) (by rw[hsz];exact hfree) hone'
   have hheap:=setCells_heap b' (a.eval x).cells.toList (bo+(q*z+off)) w cells el (lo,hi') hb (by rw[hvl];omega)
   have hg:=setCells_grown b' (a.eval x).cells.toList (bo+(q*z+off)) w
   have hsame:∀y,fp id y→y≠b'→(w.setCells b' (bo+(q*z+off)) (a.eval x).cells.toList).heap[y]? =w.heap[y]? :=fun y hy hne=>hg.block y (R.mem.own id y (by simp[hm]) hy).2.1 (fun e=>hne (by cases e;rfl))
   have hlive:∀id'∈refsL (refs 4) (opnd s x).cells,m id'≠none:=fun id' hid=>by
    obtain⟨sv,hsv,hid'⟩:=refsL_mem.1 hid
    obtain⟨k,hk⟩:=List.mem_iff_getElem?.1 hsv
    have hkl:=(List.getElem?_eq_some_iff.1 hk).1
    exact rbo_live 4 sv _ (tg k _ _ hk (List.getElem?_eq_getElem (by omega))) id' hid'
   have hout:∀id'∈refsL (refs 4) (opnd s x).cells,∀y,fp id' y→¬fp id y:=fun id' hid y hy hy'=>by
    have:=R.mem.apart id' id y (hlive id' hid) (by simp[hm]) hy hy'
    exact hnot (this▸hid)
   refine goes_one R hdst hg (d:=id) (obj:= .row ver z (rows.set q (row.take off++ts++row.drop (off+size)))) (nx:= .skip) (v:=undef) (.inr ⟨rfl,rfl⟩)
    (by simp only[execOp,h,hev,Sem.run_bind,hrun,Result.andThen_ok,Sem.run_pure]) (by rw[updM_cons];simp) (fun j hj=>(by
     rw[updM_cons,if_neg hj,updM_none]
     by_cases hx:j∈refsL (refs 4) (opnd s x).cells
     ·exact .inr (by simp[hx])
     ·exact .inl (by simp[hx]))) ⟨fun t=> .inl rfl,fun _ _ _=> .inl rfl⟩ (fun b=>fp id b∨∃id'∈refsL (refs 4) (opnd s x).cells,fp id' b) (fun b hb=>(by
     rcases hb with hb|⟨id',hid,hb⟩
     ·exact .inr ⟨id,.inl rfl,by simp[hm],hb⟩
     ·exact .inr ⟨id',.inr (by rw[updM_cons,if_neg (fun e:id'=id=>hnot (e▸hid)),updM_none,if_pos hid]),hlive id' hid,hb⟩))
    (fun k hk=>⟨id,.inl rfl,by simp[hm],by cases hk;exact hF⟩) 0 (hd id) (fun ver' sz' rows' he=> ?_) (fun l' he=>by cases he) (fun _ _ _ _ _=> .gone _)
   cases he
   have hcl:ts.length=size:=by rw[←tl,hc]
   have hgetR:∀j,(row.take off++ts++row.drop (off+size))[j]? =if off≤j∧j<off+size then ts[j -off]? else row[j]? :=fun j=>mid_get row off size _ hcl hl j
   refine⟨?_,.inr ⟨rows,hm,rfl⟩⟩
   rw[hhd]
   refine .sl _ b' bo n' c' z _ _ el lo hi' (fun i j=>if i=q∧off≤j∧j<off+size then(a.eval x).cells.toList.getD (j -off) undef else f i j) (fun i j y=>(G i j y∧¬(i=q∧off≤j∧j<off+size))∨((i=q∧off≤j∧j<off+size)∧∃sv,(opnd s x).cells[j -off]? =some sv∧∃id'∈refs 4 sv,fp id' y)) (by simp[hn]) hcap hheap
    (by simp only[List.length_append,List.length_take,List.length_drop];omega) hz (.inl hF) (fun i r hi=> ?_) (fun i r j u hi hj=> ?_) (fun i r j u hi hj=> ?_) (fun i j y hy=> ?_) (fun i j i' j' y hy hy'=> ?_) (fun i r j u hi hj=> ?_)
   ·rw[List.getElem?_set]at hi
    split at hi
    ·simp only[Option.some.injEq]at hi
     subst hi
     simp only[List.length_append,List.length_take,List.length_drop,hcl];omega
    ·exact hrow _ _ hi
   ·have hv:=mid_get cells (bo+(q*z+off)) size (a.eval x).cells.toList hvl (by omega) (bo+(i*z+j))
    rw[hvl,hv]
    rw[List.getElem?_set]at hi
    split at hi
    ·rename_i e
     subst e
     simp only[Option.some.injEq]at hi
     subst hi
     rw[hgetR]at hj
     by_cases hjj:off≤j∧j<off+size
     ·rw[if_pos (by omega),if_pos ⟨rfl,hjj⟩,List.getD_eq_getElem?_getD,show bo+(q*z+j) -(bo+(q*z+off))=j -off by omega,List.getElem?_eq_getElem (by omega)]
      rfl
     ·rw[if_neg hjj]at hj
      rw[if_neg (by omega),if_neg (fun e=>hjj e.2)]
      exact hcell _ _ _ _ hq hj
    ·rename_i e
     have hil:i<n':=by rw[←hn];exact(List.getElem?_eq_some_iff.1 hi).1
     have hjl:j<z:=by rw[←hrow _ _ hi];exact(List.getElem?_eq_some_iff.1 hj).1
     have hne:¬(bo+(q*z+off)≤bo+(i*z+j)∧bo+(i*z+j)<bo+(q*z+off)+size):=by
      rintro⟨e1,e2⟩
      by_cases hlt:i<q
      ·have:(i+1)*z≤q*z:=Nat.mul_le_mul_right _ (by omega)
       rw[Nat.add_mul]at this;omega
      ·have:(q+1)*z≤i*z:=Nat.mul_le_mul_right _ (by omega)
       rw[Nat.add_mul]at this;omega
     rw[if_neg hne,if_neg (fun e'=>e e'.1.symm)]
     exact hcell _ _ _ _ hi hj
   ·rw[List.getElem?_set]at hi
    by_cases hc':i=q∧off≤j∧j<off+size
    ·rw[if_pos hc',List.getD_eq_getElem?_getD,List.getElem?_eq_getElem (by omega)]
     exact hone' _ (List.getElem_mem _)
    ·rw[if_neg hc']
     split at hi
     ·rename_i e
      subst e
      simp only[Option.some.injEq]at hi
      subst hi
      rw[hgetR,if_neg (fun e=>hc' ⟨rfl,e⟩)]at hj
      exact hone _ _ _ _ hq hj
     ·exact hone _ _ _ _ hi hj
   ·rcases hy with hy|⟨_,sv,hsv,id',hid',hy⟩
    ·exact⟨.inl (hG i j y hy.1).1,(hG i j y hy.1).2⟩
    ·have hin':=refsL_mem.2 ⟨sv,List.mem_of_getElem? hsv,hid'⟩
     exact⟨.inr ⟨id',hin',hy⟩,fun e=>hout id' hin' y hy (e▸hF)⟩
   ·rcases hy with hy|⟨⟨rfl,o1,o2⟩,sv,hsv,id1,hid1,hy⟩
    ·rcases hy' with hy'|⟨_,sv',hsv',id2,hid2,hy'⟩
     ·exact hD i j i' j' y hy.1 hy'.1
     ·exact absurd (hG i j y hy.1).1 (hout id2 (refsL_mem.2 ⟨sv',List.mem_of_getElem? hsv',hid2⟩) y hy')
    ·rcases hy' with hy'|⟨⟨rfl,o3,o4⟩,sv',hsv',id2,hid2,hy'⟩
     ·exact absurd (hG i' j' y hy'.1).1 (hout id1 (refsL_mem.2 ⟨sv,List.mem_of_getElem? hsv,hid1⟩) y hy)
     ·have e:=R.mem.apart id1 id2 y (hlive id1 (refsL_mem.2 ⟨sv,List.mem_of_getElem? hsv,hid1⟩)) (hlive id2 (refsL_mem.2 ⟨sv',List.mem_of_getElem? hsv',hid2⟩)) hy hy'
      subst e
      have e2:=refsL_apart hnd hsv hsv' hid1 hid2
      exact⟨rfl,by omega⟩
   ·have keep:∀i r j u,rows[i]? =some r→r[j]? =some u→¬(i=q∧off≤j∧j<off+size)→Owns (w.setCells b' (bo+(q*z+off)) (a.eval x).cells.toList) (fun y=>(G i j y∧¬(i=q∧off≤j∧j<off+size))∨((i=q∧off≤j∧j<off+size)∧∃sv,(opnd s x).cells[j -off]? =some sv∧∃id'∈refs 4 sv,fp id' y)) (f i j) u:=
     fun i r j u h3 h4 h5=>(hrd i r j u h3 h4).mono (fun y hy=> .inl ⟨hy,h5⟩) (fun y hy=>hsame y (hG i j y hy).1 (hG i j y hy).2)
    rw[List.getElem?_set]at hi
    split at hi
    ·rename_i e
     subst e
     simp only[Option.some.injEq]at hi
     subst hi
     rw[hgetR]at hj
     by_cases hjj:off≤j∧j<off+size
     ·rw[if_pos hjj]at hj
      simp only[hjj,and_self,if_true]
      have hsv:=List.getElem?_eq_getElem (l:=(opnd s x).cells) (i:=j -off) (by omega)
      generalize (opnd s x).cells[j -off]'(by omega)=sv at hsv
      have hval:(a.eval x).cells.toList[j -off]? =some ((a.eval x).cells.toList.getD (j -off) undef):=by rw[List.getD_eq_getElem?_getD,List.getElem?_eq_getElem (by omega)];rfl
      have hrb:=tg _ _ _ hsv hj
      have own:=rbo_own R.mem 4 sv _ u (g2 _ _ _ hval hsv) hrb (refsL_nodup hnd (List.mem_of_getElem? hsv))
      refine own.mono (fun y ⟨id',hid',hy⟩=>(by simp only[hjj,and_self,true_and,not_true_eq_false,and_false,false_or];exact⟨sv,hsv,id',hid',hy⟩)) (fun y ⟨id',hid',hy⟩=> ?_)
      have hin':=refsL_mem.2 ⟨sv,List.mem_of_getElem? hsv,hid'⟩
      exact hg.block y (R.mem.own id' y (hlive id' hin') hy).2.1 (fun e=>hout id' hin' y hy (by cases e;exact hF))
     ·rw[if_neg hjj]at hj
      have hn':¬(q=q∧off≤j∧j<off+size):=fun e=>hjj e.2
      rw[if_neg hn']
      exact keep _ _ _ _ hq hj hn'
    ·rename_i e
     have hn':¬(i=q∧off≤j∧j<off+size):=fun e'=>e e'.1.symm
     rw[if_neg hn']
     exact keep _ _ _ _ hi hj hn'
theorem goes_convText(H:CtxOK P C)(R:RelE N W base w0 s m bv hd fp Fr a w){o:Oper}(hdst:∀d,o.dst=some d→N.ok d){src dst:Nat}{x:Operand}{id ver:Nat}{l:List Int}(h:o.op= .convert src dst x)(hx:opnd s x= .ref id ver)
 (hk:(C.i dst).kind=1) (hs:(C.i src).kind=2) (he:(C.i (C.i src).elem).kind=15) (hm:m id=some (.row ver 1 (rowsI .u8 l))):Goes P N W base w0 s m o ⟨.t (.str (bytesOf l)),[],[id],[]⟩ a w:=by
 have hus:=(H.fact (t:=src) (by omega)).slice hs
 have hud:=(H.fact (t:=dst) (by omega)).string hk
 have hue:P.underlying (C.i src).elem=some (.int .u8):=by
  obtain⟨d,u,z,_,hu,_,_,_,_,hkk,_⟩:=(H.fact (t:=(C.i src).elem) (by omega)).ex
  rw[hkk]at he
  rw[hu,kind_u8 he]
 have hr:=opnd_rel R x
 rw[hx]at hr
 generalize hev:a.eval x=v at hr
 have res:Reads w Fr (.string ⟨⟨bytesOf l⟩⟩) (.str (bytesOf l)):=str_mk _
 cases hr with
 |ref _ _ _ _ hh=>
  have:=hh _ _ (asRow_row hm)
  subst this
  have own:=R.mem.rows id _ _ _ hm
  generalize hhd:hd id=hv at own hev
  generalize hrw:rowsI .u8 l=rows at own
  have push:∀(ns:List Int) (r:ByteArray),ns.foldl (fun r n=>r.push (UInt8.ofNat n.toNat)) r=⟨⟨r.data.toList++bytesOf ns⟩⟩:=by
   intro ns
   induction ns with
   |nil=>intro r;simp[bytesOf]
   |cons n ns ih=>intro r;rw[List.foldl_cons,ih];simp[bytesOf]
  have fin:∀(ad:Addr) (n c:Nat),hv= .slice (some ad) n c→(loadCells ad n).run P w= .ok (l.map (Value.int .u8)).toArray w→Goes P N W base w0 s m o ⟨.t (.str (bytesOf l)),[],[id],[]⟩ a w:=by
   intro ad n c e hld
   subst e
   refine goes_pure R hdst (v:= .string ⟨⟨bytesOf l⟩⟩) ?_ (.t _ _ res)
   have hb:=run_bytesToString (P:=P) w ad n c l hld
   rw[push]at hb
   simp only[execOp,h,hev,Sem.run_bind,convert,run_underlying hus,run_underlying hud,run_underlying hue,Result.andThen_ok,hb,Sem.run_pure]
   rfl
  cases own with
  |sl0 F ad=>
   have hl:l=[]:=by simpa[rowsI]using hrw
   subst hl
   cases ad with
   |none=>exact goes_pure R hdst (v:= .string ⟨⟨[]⟩⟩) (by simp[execOp,h,hev,convert,run_underlying hus,run_underlying hud,run_underlying hue,Conv.bytesToString];rfl) (.t _ _ res)
   |some ad=>exact fin ad 0 0 rfl (by simp[loadCells,loadCellsFrom])
  |sl _ b bo n c sz rs cells el lo hi f G hn hc hb hsz hz hF hrow hcell hone hG hD hrd=>
   have hnl:n=l.length:=by rw[←hn,←hrw];simp[rowsI]
   refine fin _ n c rfl ?_
   have:=run_loadCells_list (P:=P) w ⟨b,bo,none⟩ (l.map (Value.int .u8)) (fun j v hj=>by
    rw[Addr.add_mid,cell_heap hb]
    rw[List.getElem?_map,Option.map_eq_some_iff]at hj
    obtain⟨q,hq,rfl⟩:=hj
    have h1:rows[j]? =some [T.int .u8 q]:=by rw[←hrw];simp[rowsI,hq]
    have h2:=hcell j _ 0 (T.int .u8 q) h1 rfl
    have h3:=hrd j _ 0 (T.int .u8 q) h1 rfl
    rw[show bo+j=bo+(j*1+0)by omega,h2]
    generalize f j 0=u at h3
    cases h3
    rfl)
   simpa[hnl]using this
theorem goes_minmax(R:RelE N W base w0 s m bv hd fp Fr a w){o:Oper}(hdst:∀d,o.dst=some d→N.ok d){c:Call}{b:Builtin}{p q r:T}(h:o.op= .call c)(hb:b= .min∨b= .max)(hc:c.callee= .builtin b)
 (hargs:c.args.toList.map (opnd s)=[.t p,.t q]) (hr:(if b= .min then minT p q else maxT p q)=some r):Goes P N W base w0 s m o (pureE (.t r)) a w:=by
 obtain⟨x,y,hx⟩:∃x y,c.args.toList=[x,y]:=by
  cases e:c.args.toList with
  |nil=>simp[e]at hargs
  |cons x l=>
   cases l with
   |nil=>simp[e]at hargs
   |cons y l=>
    cases l with
    |nil=>exact⟨x,y,rfl⟩
    |cons z l=>simp[e]at hargs
 have hca:c.args= #[x,y]:=by apply Array.ext';rw[hx]
 rw[hx]at hargs
 simp only[List.map_cons,List.map_nil,List.cons.injEq,and_true]at hargs
 obtain⟨h1,h2⟩:=hargs
 rcases hb with rfl|rfl
 ·simp only[if_true]at hr
  cases p<;>cases q<;>simp only[minT,Option.some.injEq,reduceCtorEq]at hr
  subst hr
  refine goes_pure R hdst ?_ (.t _ _ (.int _ _))
  simp[execOp,h,resolve,hc,hca,invoke,builtin,opnd_int R h1,opnd_int R h2,Builtin.min_,Builtin.min2]
 ·simp only[reduceCtorEq,if_false]at hr
  cases p<;>cases q<;>simp only[maxT,Option.some.injEq,reduceCtorEq]at hr
  subst hr
  refine goes_pure R hdst ?_ (.t _ _ (.int _ _))
  simp[execOp,h,resolve,hc,hca,invoke,builtin,opnd_int R h1,opnd_int R h2,Builtin.max_,Builtin.max2]
theorem args_one{c:Call}{sv:SV}(h:c.args.toList.map (opnd s)=[sv]):∃x,c.args= #[x]∧opnd s x=sv:=by
 cases e:c.args.toList with
 |nil=>simp[e]at h
 |cons x l=>
  cases l with
  |nil=>exact⟨x,by apply Array.ext';rw[e],by simpa[e]using h⟩
  |cons y l=>simp[e]at h
theorem args_two{c:Call}{s1 s2:SV}(h:c.args.toList.map (opnd s)=[s1,s2]):∃x y,c.args= #[x,y]∧opnd s x=s1∧opnd s y=s2:=by
 cases e:c.args.toList with
 |nil=>simp[e]at h
 |cons x l=>
  cases l with
  |nil=>simp[e]at h
  |cons y l=>
   cases l with
   |nil=>exact⟨x,y,by apply Array.ext';rw[e],by simpa[e]using h⟩
   |cons z l=>simp[e]at h
theorem ts_head{ts:Array Nat}{t:Nat}(h:ts.toList.headD 0=t)(h0:t≠0):ts[0]? =some t:=by
 cases e:ts.toList with
 |nil=>simp[e]at h;exact absurd h.symm h0
 |cons x l=>
  have:ts=(x::l).toArray:=by apply Array.ext';rw[e]
  subst this
  simpa using h
theorem goes_len(H:CtxOK P C)(R:RelE N W base w0 s m bv hd fp Fr a w){o:Oper}(hdst:∀d,o.dst=some d→N.ok d){c:Call}{sv:SV}{n:Nat}{fpl:List Nat}(h:o.op= .call c)(hc:c.callee= .builtin .len)
 (hargs:c.args.toList.map (opnd s)=[sv]) (hk:((C.i (c.argTypes.toList.headD 0)).kind=1∧∃l,sv= .t (.str l)∧n=l.length)∨((C.i (c.argTypes.toList.headD 0)).kind=2∧∀v,VRel w Fr m bv hd sv v→∃ad cap,v= .slice ad n cap)):
 Goes P N W base w0 s m o ⟨.t (.int .i64 (n:Int)),[],fpl,[]⟩ a w:=by
 obtain⟨x,hca,hx⟩:=args_one hargs
 have hne:c.argTypes.toList.headD 0≠0:=by
  intro e;rw[e]at hk;rcases hk with⟨h1,_⟩|⟨h1,_⟩<;>rw[H.z]at h1<;>cases h1
 have hty:=ts_head rfl hne
 generalize c.argTypes.toList.headD 0=ty at*
 rcases hk with⟨hk,l,rfl,rfl⟩|⟨hk,hv⟩
 ·have hu:=(H.fact (t:=ty) (by omega)).string hk
  refine goes_pure R hdst ?_ (.t _ _ (.int _ _))
  simp[execOp,h,resolve,hc,hca,invoke,builtin,Builtin.len_,hty,run_underlying hu,opnd_str R hx,bytesSize,goInt]
 ·have hu:=(H.fact (t:=ty) (by omega)).slice hk
  obtain⟨ad,cap,e⟩:=hv _ (hx▸opnd_rel R x)
  refine goes_pure R hdst ?_ (.t _ _ (.int _ _))
  simp[execOp,h,resolve,hc,hca,invoke,builtin,Builtin.len_,hty,run_underlying hu,e,goInt]
end
end Go.Pv
