/- Plain lemmas and definitions. Nothing is claimed here. -/
import Derived.Test.YtabadclgcgdccaaGreatDoorPv21
set_option linter.unusedSimpArgs false
set_option linter.unusedVariables false
namespace Go.Pv
open Go Go.RowKit
section
variable {D:Nat→Type} {X:CT D}
theorem eS_const(v:Value):X.eS (constT v)=constSV v:=by
 unfold constT constSV
 split<;>simp[CT.eS,CT.eL,CT.er]
theorem eS_op(s:Nat→VS D)(x:Operand):opnd (fun t=>X.eS (s t)) x=X.eS (opT s x):=by
 cases x with
 |tmp t=>rfl
 |const v=>exact(eS_const v).symm
 |global g=>simp[opnd,opT,CT.eS]
 |func f=>simp[opnd,opT,CT.eS,CT.eL]
theorem eS_cells(v:VS D):(X.eS v).cells=X.eL v.cells:=by
 cases v<;>simp[CT.eS,SV.cells,VS.cells,CT.eL]
theorem eS_ok(v:VS D):okC (X.eS v)=okT v:=by
 cases v with
 |t x=>cases x<;>simp[CT.eS,CT.er,okC,okT]
 |_=>simp[CT.eS,okC,okT]
theorem eS_cell1(v:VS D):cell1 (X.eS v)=cellT v:=by
 cases v with
 |t x=>cases x<;>simp[CT.eS,CT.er,cell1,cellT,okC,okT]
 |_=>simp[CT.eS,cell1,cellT,okC,okT]
theorem eL_cell1(l:List (VS D)):(X.eL l).all cell1=l.all cellT:=by
 rw[CT.eL_map,List.all_map]
 congr 1
 funext v
 exact eS_cell1 v
theorem eL_len(l:List (VS D)):(X.eL l).length=l.length:=by rw[CT.eL_map];simp
theorem eS_val(b:Bool)(l:List (VS D)):X.eS (valT b l)=valOf b (X.eL l):=by
 cases b with
 |true=>simp[valT,valOf,CT.eS]
 |false=>cases l<;>simp[valT,valOf,CT.eS,CT.eL]
theorem eL_take(l:List (VS D))(n:Nat):X.eL (l.take n)=(X.eL l).take n:=by simp[CT.eL_map]
theorem eL_drop(l:List (VS D))(n:Nat):X.eL (l.drop n)=(X.eL l).drop n:=by simp[CT.eL_map]
theorem eL_app(l r:List (VS D)):X.eL (l++r)=X.eL l++X.eL r:=by simp[CT.eL_map]
theorem eL_t(l:List (V D)):X.eL (l.map VS.t)=(l.map X.er).map SV.t:=by simp[CT.eL_map,CT.eS,Function.comp_def]
theorem eL_fill(cs l:List (VS D))(off:Nat):X.eL (fillAtT cs off l)=fillAt (X.eL cs) off (X.eL l):=by
 simp[fillAtT,fillAt,eL_take,eL_drop,eL_app,eL_len]
theorem eL_ops(s:Nat→VS D)(l:List Operand):l.map (opnd fun t=>X.eS (s t))=(l.map (opT s)).map X.eS:=by
 rw[List.map_map]
 exact List.map_congr_left fun x _=>eS_op s x
theorem lift_ok:∀{z:List SV} {zt:List (VS D)},liftL z=some zt→X.eL zt=z
 |[],zt,h=>by simp[liftL]at h;subst h;rfl
 |a::l,zt,h=>by
  unfold liftL at h
  split at h
  ·rename_i b r h1 h2
   simp only[Option.some.injEq]at h
   subst h
   have e:X.eS b=a:=by
    unfold liftT at h1
    split at h1<;>simp at h1<;>subst h1<;>simp[CT.eS,CT.er]
   simp only[CT.eL,e,lift_ok h2]
  ·cases h
theorem fill_ok{pl:Nat→Option (Nat×Nat)}:∀(ps:List (Nat×VS D)) (cs r:List (VS D)),fillT pl cs ps=some r→fillAll pl (X.eL cs) (ps.map fun p=>(p.1,X.eS p.2))=some (X.eL r)
 |[],cs,r,h=>by simp only[fillT,Option.some.injEq]at h;subst h;rfl
 |(i,v)::ps,cs,r,h=>by
  simp only[fillT]at h
  simp only[List.map_cons,fillAll]
  cases hp:pl i with
  |none=>rw[hp]at h;cases h
  |some q=>
   obtain⟨off,size⟩:=q
   rw[hp]at h
   simp only at h ⊢
   simp only[eS_ok,eS_cells,eL_len]
   cases hb:(okT v&&Nat.beq v.cells.length size&&Nat.ble (off+size) cs.length)with
   |false=>rw[hb]at h;cases h
   |true=>
    rw[hb]at h
    simp only[cond_true]at h ⊢
    rw[←eL_fill]
    exact fill_ok ps _ r h
theorem rdo_ok{m:Nat→Option (VM D)}{ety n:Nat}{sv:VS D}{x:V D}(h:rdoT m ety sv=some x):rbo (fun id=>X.eO (m id)) (n+1) (X.eS sv) (X.er x):=by
 unfold rdoT at h
 split at h
 ·simp only[Option.some.injEq]at h;subst h;simp[CT.eS,CT.er,rbo,T.scalar]
 ·simp only[Option.some.injEq]at h;subst h;simp[CT.eS,CT.er,rbo,T.scalar]
 ·simp only[Option.some.injEq]at h;subst h;simp[CT.eS,CT.er,rbo,T.scalar]
 ·simp only[Option.some.injEq]at h;subst h;simp[CT.eS,CT.er,rbo,T.scalar]
 ·simp only[Option.some.injEq]at h;subst h;simp[CT.eS,CT.er,rbo]
 ·split at h
  ·rename_i v ty l hm
   cases hb:Nat.beq v _ with
   |false=>rw[hb]at h;cases h
   |true=>
    rw[hb]at h
    simp only[cond_true,Option.some.injEq]at h
    subst h
    simp[CT.eS,CT.er,rbo,hm,CT.eO,CT.eM,hb,bcond]
  ·cases h
 ·split at h
  ·rename_i v ty l hm
   cases hb:Nat.beq v _ with
   |false=>rw[hb]at h;cases h
   |true=>
    rw[hb]at h
    simp only[cond_true,Option.some.injEq]at h
    subst h
    simp[CT.eS,CT.er,rbo,hm,CT.eO,CT.eM,hb,bcond,List.map_drop]
  ·cases h
 ·cases h
theorem rdoL_ok{m:Nat→Option (VM D)}{n:Nat}:∀{e:List Nat} {l:List (VS D)} {r:List (V D)},rdoL m e l=some r→all2 (rbo (fun id=>X.eO (m id)) (n+1)) (X.eL l) (r.map X.er)
 |e,[],r,h=>by
  simp only[rdoL,Option.some.injEq]at h;subst h;trivial
 |e,a::l,r,h=>by
  simp only[rdoL]at h
  split at h
  ·rename_i x r' h1 h2
   simp only[Option.some.injEq]at h
   subst h
   exact⟨rdo_ok h1,rdoL_ok h2⟩
  ·cases h
theorem rowsN_map{α β:Type}(f:α→β)(size:Nat):∀(n:Nat) (l:List α),rowsN size n (l.map f)=(rowsN size n l).map (List.map f)
 |0,l=>rfl
 |n+1,l=>by simp only[rowsN,List.map_cons,←List.map_take,←List.map_drop,rowsN_map f size n]
theorem decAll_ok(ok:CodOK X){ty:Nat}{m:Nat→Option (VM D)}:∀{css:List (List (VS D))} {r:List (D ty)},decAll X ty m css=some r→
 all2 (all2 (rbo (fun id=>X.eO (m id)) 4)) (css.map X.eL) (r.map (X.R ty))
 |[],r,h=>by simp only[decAll,Option.some.injEq]at h;subst h;trivial
 |cs::l,r,h=>by
  unfold decAll at h
  split at h
  ·rename_i vs h1
   split at h
   ·rename_i x r' h2 h3
    simp only[Option.some.injEq]at h
    subst h
    refine⟨?_,decAll_ok ok h3⟩
    rw[←ok.dec ty vs x h2]
    exact rdoL_ok h1
   ·cases h
  ·cases h
theorem allV_ok:∀{l:List (VS D)} {r:List (V D)},allV l=some r→X.eL l=(r.map X.er).map SV.t∧scal (r.map X.er)
 |[],r,h=>by simp only[allV,Option.some.injEq]at h;subst h;exact⟨rfl,fun t h=>by cases h⟩
 |a::l,r,h=>by
  cases a with
  |t x=>
   cases x with
   |int k n=>
    simp only[allV]at h
    split at h
    ·rename_i r' h1
     simp only[Option.some.injEq]at h
     subst h
     obtain⟨i1,i2⟩:=allV_ok h1
     refine⟨by simp[CT.eL,CT.eS,i1],fun t ht=> ?_⟩
     simp only[List.map_cons,List.mem_cons]at ht
     rcases ht with rfl|ht
     ·rfl
     ·exact i2 t ht
    ·cases h
   |bool b=>
    simp only[allV]at h
    split at h
    ·rename_i r' h1
     simp only[Option.some.injEq]at h
     subst h
     obtain⟨i1,i2⟩:=allV_ok h1
     refine⟨by simp[CT.eL,CT.eS,i1],fun t ht=> ?_⟩
     simp only[List.map_cons,List.mem_cons]at ht
     rcases ht with rfl|ht
     ·rfl
     ·exact i2 t ht
    ·cases h
   |str u=>
    simp only[allV]at h
    split at h
    ·rename_i r' h1
     simp only[Option.some.injEq]at h
     subst h
     obtain⟨i1,i2⟩:=allV_ok h1
     refine⟨by simp[CT.eL,CT.eS,i1],fun t ht=> ?_⟩
     simp only[List.map_cons,List.mem_cons]at ht
     rcases ht with rfl|ht
     ·rfl
     ·exact i2 t ht
    ·cases h
   |err e=>
    simp only[allV]at h
    split at h
    ·rename_i r' h1
     simp only[Option.some.injEq]at h
     subst h
     obtain⟨i1,i2⟩:=allV_ok h1
     refine⟨by simp[CT.eL,CT.eS,i1],fun t ht=> ?_⟩
     simp only[List.map_cons,List.mem_cons]at ht
     rcases ht with rfl|ht
     ·rfl
     ·exact i2 t ht
    ·cases h
   |sl ty l=>simp[allV]at h
  |_=>simp[allV]at h
theorem allT_ok:∀{l:List (VS D)} {c:List (V D)},allT l=some c→X.eL l=(c.map X.er).map SV.t
 |[],c,h=>by simp only[allT,Option.some.injEq]at h;subst h;rfl
 |a::l,c,h=>by
  cases a with
  |t x=>
   simp only[allT]at h
   split at h
   ·rename_i r h1
    simp only[Option.some.injEq]at h
    subst h
    simp only[CT.eL,CT.eS,List.map_cons,allT_ok h1]
   ·cases h
  |_=>simp[allT]at h
theorem idx_map{α β:Type}(f:α→β)(l:List α)(n:Int):idx (l.map f) n=(idx l n).map f:=by
 cases n<;>simp[idx]
theorem ssub_map{α β:Type}(f:α→β)(l:List α)(a b:Int):ssub (l.map f) a b=(ssub l a b).map (List.map f):=by
 simp only[ssub,List.length_map]
 split<;>simp
theorem app_map{α β:Type}(f:α→β)(n:Nat)(a b:List α):app n (a.map f) (b.map f)=(app n a b).map (List.map f):=by
 simp only[app,List.length_map]
 split<;>simp
theorem mks_map{α β:Type}(f:α→β)(b:Nat)(n:Int)(z:α):mks b n (f z)=(mks b n z).map (List.map f):=by
 cases n<;>simp[mks]
theorem tOf_t(l:List T):(l.map SV.t).map tOf=l:=by simp[Function.comp_def,tOf]
theorem eqV_ok(a b:V D){p:Bool}(h:eqV a b=some p):eqT (X.er a) (X.er b)=some p:=by
 unfold eqV at h
 split at h<;>simp_all [CT.er,eqT]
theorem eqVs_ok:∀(a b:List (VS D)) {p:Bool},eqVs a b=some p→eqCells (X.eL a) (X.eL b)=some p
 |[],[],p,h=>by simpa[eqVs,CT.eL,eqCells]using h
 |[],b::r,p,h=>by cases b<;>simp[eqVs]at h
 |a::l,[],p,h=>by cases a<;>simp[eqVs]at h
 |a::l,b::r,p,h=>by
  cases a with
  |t x=>
   cases b with
   |t y=>
    cases l with
    |nil=>
     cases r with
     |nil=>
      simp only[eqVs]at h
      simp only[CT.eL,CT.eS,eqCells]
      exact eqV_ok x y h
     |cons b2 r2=>
      simp only[eqVs]at h
      cases b2<;>simp at h
    |cons a2 l2=>
     cases r with
     |nil=>
      simp only[eqVs]at h
      cases a2<;>simp at h
     |cons b2 r2=>
      simp only[eqVs]at h
      split at h
      ·rename_i p1 p2 h1 h2
       simp only[Option.some.injEq]at h
       subst h
       have i1:=eqV_ok (X:=X) x y h1
       have i2:=eqVs_ok (a2::l2) (b2::r2) (by simpa[eqVs]using h2)
       simp only[CT.eL,CT.eS]at i2 ⊢
       simp only[eqCells,i1,i2]
      ·cases h
   |_=>simp[eqVs]at h
  |_=>simp[eqVs]at h
theorem eO_row{m:Nat→Option (VM D)}{id v z:Nat}{rows:List (D z)}(h:m id=some (.row v z rows)):X.eO (m id)=some (.row v (X.C.i z).size (rows.map (X.R z))):=by rw[h];rfl
theorem eO_var{m:Nat→Option (VM D)}{id:Nat}{l:List (VS D)}(h:m id=some (.var l)):X.eO (m id)=some (.var (X.eL l)):=by rw[h];rfl
theorem eO_rowv{m:Nat→Option (VM D)}{id v z:Nat}{rows:List (D z)}{q:Int}{cs:List (VS D)}(h:m id=some (.rowv v z rows q cs)):X.eO (m id)=some (.rowv v (X.C.i z).size (rows.map (X.R z)) q (X.eL cs)):=by rw[h];rfl
theorem eO_as(o:Option (VM D)):X.eO (asRowT o)=asRow (X.eO o):=by
 cases o with
 |none=>rfl
 |some ob=>cases ob<;>rfl
theorem eO_asRow{m:Nat→Option (VM D)}{id v z:Nat}{rows:List (D z)}(h:asRowT (m id)=some (.row v z rows)):asRow (X.eO (m id))=some (.row v (X.C.i z).size (rows.map (X.R z))):=by rw[←eO_as,h];rfl
theorem impC_ok(base:Nat):∀(l:List (V D)) (k:Nat),impCells base k (l.map X.er)=(X.eL (impCT base k l).1,(impCT base k l).2.map fun p=>(p.1,X.eO p.2))
 |[],k=>by simp[impCells,impCT,CT.eL]
 |x::l,k=>by
  cases x<;>simp[CT.er,impCells,impCT,CT.eL,CT.eS,impC_ok base l,CT.eO,CT.eM]
theorem impP_ok(base k:Nat)(x:VP D):impPart base k (X.eP x)=(X.eS (impPT base k x).1,(impPT base k x).2.map fun p=>(p.1,X.eO p.2)):=by
 cases x with
 |c x=>cases x<;>simp[CT.eP,CT.er,impPart,impPT,CT.eS,CT.eO,CT.eM]
 |agg l=>simp[CT.eP,impPart,impPT,CT.eS,impC_ok]
theorem impPs_ok(base:Nat):∀(l:List (VP D)) (k:Nat),impParts base k (l.map X.eP)=(X.eL (impPsT base k l).1,(impPsT base k l).2.map fun p=>(p.1,X.eO p.2))
 |[],k=>by simp[impParts,impPsT,CT.eL]
 |x::l,k=>by simp[impParts,impPsT,CT.eL,impP_ok,impPs_ok base l]
theorem imp_okT(base:Nat)(r:VR D):imp base (X.eR r)=(X.eS (impT base r).1,(impT base r).2.map fun p=>(p.1,X.eO p.2)):=by
 cases r with
 |p x=>
  have:imp base (X.eP x)=impPart base 1 (X.eP x):=by
   cases x with
   |c x=>cases x<;>rfl
   |agg l=>rfl
  simp only[CT.eR,this,impP_ok,impT]
 |tup l=>simp[CT.eR,imp,impT,CT.eS,impPs_ok]
theorem cell_okT(x:V D):cellOK (X.er x)=true:=by cases x<;>rfl
theorem part_okT(x:VP D):partOK (X.eP x)=true:=by
 cases x with
 |c x=>cases x<;>rfl
 |agg l=>simp[CT.eP,partOK,cell_okT]
theorem impOK_T(r:VR D):impOK (X.eR r)=true:=by
 cases r with
 |p x=>cases x with
  |c x=>cases x<;>rfl
  |agg l=>simp[CT.eR,CT.eP,impOK,partOK,cell_okT]
 |tup l=>simp[CT.eR,impOK,part_okT]
end
end Go.Pv
