/- Plain lemmas and definitions. Nothing is claimed here. -/
import Derived.Test.YtabadclgcgdccaaGreatDoorPv24
set_option linter.unusedSimpArgs false
set_option linter.unusedVariables false
namespace Go.Pv
open Go Go.RowKit
section
variable {D:Nat→Type}
def setT(d:Nat)(v:VS D)(st:VSt D):VSt D:=⟨(d,v)::st.sl,st.me⟩
def applyT(o:Oper)(e:EfT D)(st:VSt D):VSt D:=⟨match o.dst with|some d=>(d,e.val)::st.sl|none=>st.sl,e.mw++st.me⟩
def evOpsT(X:CT D)(cl:Calls' D)(all:List Oper):List Oper→List (Oper×Eff)→VSt D→(List (Oper×Eff)→VSt D→Prop)→Prop
 |[],acc,st,K=>K acc st
 |o::r,acc,st,K=>
  match o.guard with
  |none=>effT X cl st.s st.m o fun e=>evOpsT X cl all r ((o,X.eE e)::acc) (applyT o e st) K
  |some (j,want)=>
   match(all[j]?).bind (·.dst)with
   |none=>False
   |some g=>
    match st.s g with
    | .t (.bool b)=>
      match want with
      |true=>bcond b (effT X cl (setT g (.t (.bool true)) st).s st.m o fun e=>evOpsT X cl all r ((o,X.eE e)::acc) (applyT o e (setT g (.t (.bool true)) st)) K)
       (evOpsT X cl all r ((o,pureE (.tup []))::acc) (applyT o (pureT (.tup [])) (setT g (.t (.bool false)) st)) K)
      |false=>bcond b (evOpsT X cl all r ((o,pureE (.tup []))::acc) (applyT o (pureT (.tup [])) (setT g (.t (.bool true)) st)) K)
       (effT X cl (setT g (.t (.bool false)) st).s st.m o fun e=>evOpsT X cl all r ((o,X.eE e)::acc) (applyT o e (setT g (.t (.bool false)) st)) K)
    | .tup []=>evOpsT X cl all r ((o,pureE (.tup []))::acc) (applyT o (pureT (.tup [])) st) K
    |_=>False
mutual
def normT(m:Nat→Option (VM D))(md:List Nat):Nat→VS D→VS D
 |0,_=> .gone
 |_+1,.t x=> .t x
 |_+1,.nil=> .nil
 |_+1,.rptr l=> .rptr l
 |_+1,.fs ty l=> .fs ty l
 |_+1,.ref id ver=>
  match m id with
  |some (.row v _ _)=>bif Nat.beq v ver&& !memN id md then .ref id (nv v)else .gone
  |_=> .gone
 |_+1,.ptr id off=>
  match m id with
  |some (.var _)=> .ptr id off
  |_=> .gone
 |_+1,.vw id ver lo=>
  match m id with
  |some (.row v _ _)=>bif Nat.beq v ver&& !memN id md then .vw id (nv v) lo else .gone
  |_=> .gone
 |n+1,.agg l=> .agg (l.map (normT m md n))
 |n+1,.tup l=> .tup (l.map (normT m md n))
 |n+1,.clo f l=> .clo f (l.map (normT m md n))
 |_+1,_=> .gone
end
def normOT(m:Nat→Option (VM D))(md:List Nat):Option (VM D)→Option (VM D)
 |some (.row v ty l)=>some (.row (nv v) ty l)
 |some (.var l)=>some (.var (l.map (normT m md 4)))
 |some (.rowv ..)=>none
 |none=>none
def madeT(st:VSt D):Keep→List (Nat×Option (VM D))
 |[]=>[]
 |(t,m)::r=>
  match st.s t,m with
  | .nil,some ty=>(500000+t,some (.row 0 ty []))::madeT st r
  |_,_=>madeT st r
def keptT(st:VSt D)(md:List Nat):Keep→List (Nat×VS D)
 |[]=>[]
 |(t,m)::r=>
  (match st.s t,m with
  | .nil,some _=>(t,VS.ref (500000+t) 0)
  |v,_=>(t,normT st.m md 4 v))::keptT st md r
def kE(X:CT D)(l:Keep):Keep:=l.map fun p=>(p.1,p.2.map fun ty=>(X.C.i ty).size)
def keepT0(X:CT D)(l:Keep)(st:VSt D):VSt D:=⟨keptT st (keys (madeT st l)) l,madeT st l++((keptIds (X.eSt st) (kE X l)).filter fun id=>((X.eSt st).m id).isSome).map fun id=>(id,normOT st.m (keys (madeT st l)) (st.m id))⟩
mutual
def swVT(a b:Nat):VS D→VS D
 | .t x=> .t x
 | .nil=> .nil
 | .gone=> .gone
 | .ref i v=> .ref (swp a b i) v
 | .ptr i o=> .ptr (swp a b i) o
 | .rptr l=> .rptr l
 | .eptr i v j o=> .eptr (swp a b i) v j o
 | .vw i v j=> .vw (swp a b i) v j
 | .fs ty l=> .fs ty l
 | .agg l=> .agg (swLT a b l)
 | .tup l=> .tup (swLT a b l)
 | .clo f l=> .clo f (swLT a b l)
def swLT(a b:Nat):List (VS D)→List (VS D)
 |[]=>[]
 |v::l=>swVT a b v::swLT a b l
end
def swOT(a b:Nat):Option (VM D)→Option (VM D)
 |some (.var l)=>some (.var (swLT a b l))
 |some (.rowv ..)=>none
 |o=>o
def swStT(a b:Nat)(st:VSt D):VSt D:=⟨st.sl.map fun p=>(p.1,swVT a b p.2),st.me.map fun p=>(swp a b p.1,swOT a b p.2)⟩
def swAllT(base:Nat):Nat→Nat→List (VS D)→VSt D→VSt D
 |0,_,_,st=>st
 |n+1,k,l,st=>
  match l with
  |[]=>st
  | .ref id _::r=>swAllT base n (k+1) (bif Nat.beq id (base+k)then r else swLT id (base+k) r) (bif Nat.beq id (base+k)then st else swStT id (base+k) st)
  |_::r=>swAllT base n (k+1) r st
def canonT:Keep→VSt D→VSt D
 |[],st=>st
 |(t,_)::r,st=>canonT r (match st.s t with
  | .ref id ver=>swAllT (500000+t) 1 0 [.ref id ver] st
  | .agg l=>swAllT (600000+100*t) l.length 0 l st
  | .ptr id _=>(match st.m id with|some (.var l)=>swAllT (100000000+100*id) l.length 0 l st|_=>st)
  |_=>st)
def getPT(st:VSt D)(t:Nat):Nat→VS D
 |0=>st.s t
 |j+1=>
  match st.s t with
  | .agg l=>l.getD j .gone
  | .ptr id _=>match st.m id with|some (.var l)=>l.getD j .gone|_=> .gone
  |_=> .gone
def putPT(st:VSt D)(t:Nat)(v:VS D):Nat→VSt D
 |0=>⟨(t,v)::st.sl,st.me⟩
 |j+1=>
  match st.s t with
  | .agg l=>⟨(t,.agg (l.set j v))::st.sl,st.me⟩
  | .ptr id _=>match st.m id with|some (.var l)=>⟨st.sl,(id,some (.var (l.set j v)))::st.me⟩|_=>st
  |_=>st
def mkPT(X:CT D)(t q ty n:Nat)(st:VSt D):VSt D:=
 match getPT st t q with
 | .nil=>bif cleanS (X.eSt st) [(n,0)]&&(match st.m n with|none=>true|some _=>false)then putPT ⟨st.sl,(n,some (.row 0 ty []))::st.me⟩ t (.ref n 0) q else st
 |_=>st
def frPT(t q ty:Nat)(st:VSt D):VSt D:=
 match getPT st t q with
 | .nil=>putPT st t (.t (.sl ty [])) q
 | .ref id ver=>
   match st.m id with
   |some (.row v ty' rows)=>bif Nat.beq v ver then putPT ⟨st.sl,(id,none)::st.me⟩ t (.t (.sl ty' rows)) q else st
   |_=>st
 |_=>st
def fsPT(t:Nat)(st:VSt D):VSt D:=
 match st.s t with
 | .ref id ver=>
   match st.m id with
   |some (.row v ty rows)=>bif Nat.beq v ver&&Nat.beq v 1 then⟨(t,.fs ty rows)::st.sl,(id,none)::st.me⟩else st
   |_=>st
 |_=>st
def prepT(X:CT D):Keep→VSt D→VSt D
 |[],st=>st
 |(c,some z)::r,st=>bif Nat.ble 1000000 c then
    bif Nat.beq (c/1000000) 1 then prepT X r (frPT (c % 1000000) 0 z st)else
    bif Nat.beq (c/1000000) 99 then prepT X r (fsPT (c % 1000000) st)else
    bif Nat.ble 100000000 c then prepT X r (frPT (c % 1000000) (c/1000000 -99) z st)else
    prepT X r (mkPT X (c % 1000000) (c/1000000 -1) z (900000000+100*(c % 1000000)+c/1000000) st)
  else prepT X r st
 |(_,none)::r,st=>prepT X r st
def keepT(X:CT D)(l:Keep)(st:VSt D):VSt D:=canonT l (keepT0 X l (prepT X l st))
def closeV(m:Nat→Option (VM D)):VS D→Option (V D)
 | .t (.sl _ _)=>none
 | .t x=>some x
 | .ref id ver=>match m id with
   |some (.row v ty l)=>bif Nat.beq v ver then some (.sl ty l)else none
   |_=>none
 |_=>none
def closeVs(m:Nat→Option (VM D)):List (VS D)→Option (List (V D))
 |[]=>some []
 |v::l=>match closeV m v,closeVs m l with
  |some t,some r=>some (t::r)
  |_,_=>none
def closeIdT(X:CT D)(id:Nat)(st:VSt D):Option (VSt D):=
 match st.m id with
 |some (.rowv ver ty rows q l)=>(match closeVs st.m l with
  |some vs=>(match X.dec ty vs with
   |some e=>bif nodupN (refsL (refs 4) (X.eL l))&& !memN id (refsL (refs 4) (X.eL l))then some ⟨st.sl,(id,some (.row ver ty (rows.set q.toNat e)))::((refsL (refs 4) (X.eL l)).map (fun id=>(id,none))++st.me)⟩else none
   |none=>none)
  |none=>none)
 |_=>some st
def closeLT(X:CT D)(ids:List Nat):List (Nat×Option (VM D))→VSt D→Option (VSt D)
 |[],st=>some st
 |(id,some (.rowv ..))::r,st=>bif memN id ids then(closeIdT X id st).bind (closeLT X ids r)else closeLT X ids r st
 |_::r,st=>closeLT X ids r st
def plE(X:CT D)(pl:Plan):Plan:=⟨pl.reg.map fun p=>(p.1,kE X p.2),pl.blk.map fun p=>(p.1,kE X p.2),pl.cnd.map fun p=>(p.1,(kE X p.2.1,kE X p.2.2))⟩
def evRT(X:CT D)(cl:Calls' D)(pl:Plan)(id:Nat)(ops:List Oper)(draw:Bool)(st:VSt D)(K:VSt D→Prop):Prop:=
 evOpsT X cl ops ops [] st fun acc st'=>
  bcond (cleanS (X.eSt st) (toksOf acc)&&freshAll (X.eSt st) (toksOf acc)&&priorOK acc&&(bif draw then drawL ops acc (ancs ops [])else true)) (optK (closeLT X (keptIds (X.eSt st') (kE X (look pl.reg id []))) st'.me st') fun st'=>K (keepT X (look pl.reg id []) st')) False
variable {X:CT D} {cl:Calls' D}
theorem look_map{α β:Type}(f:α→β):∀(l:List (Nat×α)) (k:Nat) (d:α),look (l.map fun p=>(p.1,f p.2)) k (f d)=f (look l k d)
 |[],_,_=>rfl
 |p::l,k,d=>by
  simp only[List.map_cons,look,look_map f l]
  cases Nat.beq p.1 k<;>rfl
theorem eSt_s(st:VSt D):(X.eSt st).s=fun t=>X.eS (st.s t):=by
 funext t
 show look _ t SV.gone=_
 have:=look_map X.eS st.sl t VS.gone
 rw[show X.eS (VS.gone:VS D)=SV.gone by simp[CT.eS]]at this
 exact this
theorem eSt_m(st:VSt D):(X.eSt st).m=fun id=>X.eO (st.m id):=by
 funext t
 show look _ t none=_
 exact look_map X.eO st.me t none
theorem eSt_apply(o:Oper)(e:EfT D)(st:VSt D):X.eSt (applyT o e st)=apply o (X.eE e) (X.eSt st):=by
 unfold applyT apply CT.eSt CT.eE
 cases o.dst<;>simp
theorem evOps_sim(ok:CallsOK X cl){all:List Oper}{K:List (Oper×Eff)→St→Prop}{K':List (Oper×Eff)→VSt D→Prop}(hK:∀acc st,K' acc st→K acc (X.eSt st)):
 ∀(r:List Oper) (acc:List (Oper×Eff)) (st:VSt D),evOpsT X cl all r acc st K'→evOps X.C all r acc (X.eSt st) K
 |[],acc,st,h=>hK _ _ h
 |o::r,acc,st,h=>by
  have go:∀(st0:VSt D),(effT X cl st0.s st0.m o fun e=>evOpsT X cl all r ((o,X.eE e)::acc) (applyT o e st0) K')→
   effK X.C (X.eSt st0).s (X.eSt st0).m o fun e=>evOps X.C all r ((o,e)::acc) (apply o e (X.eSt st0)) K:=by
   intro st0 h
   rw[eSt_s,eSt_m]
   refine eff_sim ok (fun e he=> ?_) h
   have:=evOps_sim ok hK r _ _ he
   rw[eSt_apply]at this
   exact this
  have pass:∀(st0:VSt D),evOpsT X cl all r ((o,pureE (.tup []))::acc) (applyT o (pureT (.tup [])) st0) K'→evOps X.C all r ((o,pureE (.tup []))::acc) (apply o (pureE (.tup [])) (X.eSt st0)) K:=by
   intro st0 h
   have:=evOps_sim ok hK r _ _ h
   rw[eSt_apply]at this
   exact this
  unfold evOpsT at h
  unfold evOps
  split at h
  ·rename_i hg
   simp only[hg]
   exact go st h
  ·rename_i j want hg
   simp only[hg]
   split at h
   ·exact h.elim
   ·rename_i g hj
    simp only[hj]
    rw[show(X.eSt st).s g=X.eS (st.s g)by rw[eSt_s]]
    split at h
    ·rename_i b hb
     simp only[hb,CT.eS,CT.er]
     split at h
     ·rcases bcond_or h with⟨e,h⟩|⟨e,h⟩
      ·rw[e]
       exact go (setT g (.t (.bool true)) st) h
      ·rw[e]
       exact pass (setT g (.t (.bool false)) st) h
     ·rcases bcond_or h with⟨e,h⟩|⟨e,h⟩
      ·rw[e]
       exact pass (setT g (.t (.bool true)) st) h
      ·rw[e]
       exact go (setT g (.t (.bool false)) st) h
    ·rename_i hb
     simp only[hb,CT.eS,CT.eL]
     exact pass st h
    ·exact h.elim
theorem norm_ok(m:Nat→Option (VM D))(md:List Nat):∀(n:Nat) (v:VS D),X.eS (normT m md n v)=normV (fun id=>X.eO (m id)) md n (X.eS v)
 |0,v=>by simp[normT,normV,CT.eS]
 |n+1,v=>by
  cases v with
  |t x=>simp[normT,normV,CT.eS]
  |nil=>simp[normT,normV,CT.eS]
  |gone=>simp[normT,normV,CT.eS]
  |fs ty l=>simp[normT,normV,CT.eS]
  |ref id ver=>
   simp only[normT,CT.eS,normV]
   cases hm:m id with
   |none=>simp[CT.eO,CT.eS]
   |some o=>
    cases o with
    |var l=>simp[CT.eO,CT.eM,CT.eS]
    |rowv v ty l i cs=>simp[CT.eO,CT.eM,CT.eS]
    |row v ty l=>
     simp only[CT.eO,CT.eM]
     cases (Nat.beq v ver&& !memN id md)<;>simp[CT.eS]
  |ptr id off=>
   simp only[normT,CT.eS,normV]
   cases hm:m id with
   |none=>simp[CT.eO,CT.eS]
   |some o=>cases o<;>simp[CT.eO,CT.eM,CT.eS]
  |rptr l=>simp[normT,normV,CT.eS]
  |eptr id ver i off=>simp[normT,normV,CT.eS]
  |vw id ver lo=>
   simp only[normT,CT.eS,normV]
   cases hm:m id with
   |none=>simp[CT.eO,CT.eS]
   |some o=>
    cases o with
    |var l=>simp[CT.eO,CT.eM,CT.eS]
    |rowv v ty l i cs=>simp[CT.eO,CT.eM,CT.eS]
    |row v ty l=>
     simp only[CT.eO,CT.eM]
     cases (Nat.beq v ver&& !memN id md)<;>simp[CT.eS]
  |agg l=>
   simp only[normT,CT.eS,normV,CT.eL_map,List.map_map]
   congr 1
   exact List.map_congr_left fun a _=>norm_ok m md n a
  |tup l=>
   simp only[normT,CT.eS,normV,CT.eL_map,List.map_map]
   congr 1
   exact List.map_congr_left fun a _=>norm_ok m md n a
  |clo f l=>
   simp only[normT,CT.eS,normV,CT.eL_map,List.map_map]
   congr 1
   exact List.map_congr_left fun a _=>norm_ok m md n a
theorem eO_n:X.eO none=none:=rfl
theorem eO_r(v ty:Nat)(l:List (D ty)):X.eO (some (.row v ty l))=some (.row v (X.C.i ty).size (l.map (X.R ty))):=rfl
theorem eO_v(l:List (VS D)):X.eO (some (.var l))=some (.var (l.map X.eS)):=by simp only[CT.eO,CT.eM,CT.eL_map]
theorem normO_ok(m:Nat→Option (VM D))(md:List Nat)(o:Option (VM D)):X.eO (normOT m md o)=normO (fun id=>X.eO (m id)) md (X.eO o):=by
 cases o with
 |none=>rfl
 |some o=>
  cases o with
  |row v ty l=>rfl
  |rowv v ty l i cs=>rfl
  |var l=>
   simp only[normOT,normO,eO_v,List.map_map]
   congr 2
   exact List.map_congr_left fun a _=>norm_ok m md 4 a
theorem made_ok(st:VSt D):∀(l:Keep),(madeT st l).map (fun p=>(p.1,X.eO p.2))=madeM (X.eSt st) (kE X l)
 |[]=>rfl
 |(t,m)::r=>by
  have ih:=made_ok st r
  have hs:(X.eSt st).s t=X.eS (st.s t):=by rw[eSt_s]
  simp only[kE,List.map_cons,madeT,madeM,hs]
  simp only[kE]at ih
  cases m with
  |none=>cases hv:st.s t<;>simp[CT.eS,ih]
  |some ty=>cases hv:st.s t<;>simp[CT.eS,ih,eO_r]
theorem made_keys(st:VSt D)(l:Keep):keys (madeT st l)=keys (madeM (X.eSt st) (kE X l)):=by
 rw[←made_ok,keys_map]
theorem kept_ok(st:VSt D)(md:List Nat):∀(l:Keep),(keptT st md l).map (fun p=>(p.1,X.eS p.2))=keptS (X.eSt st) md (kE X l)
 |[]=>rfl
 |(t,m)::r=>by
  have ih:=kept_ok st md r
  have hs:(X.eSt st).s t=X.eS (st.s t):=by rw[eSt_s]
  have hn:=fun v=>norm_ok (X:=X) st.m md 4 v
  simp only[kE,List.map_cons,keptT,keptS,hs,eSt_m]
  simp only[kE]at ih
  rw[←ih]
  congr 1
  cases m with
  |none=>cases hv:st.s t<;>simp[hn,CT.eS]
  |some ty=>cases hv:st.s t<;>simp[hn,CT.eS]
theorem keep0_ok(l:Keep)(st:VSt D):X.eSt (keepT0 X l st)=keep0 (kE X l) (X.eSt st):=by
 unfold keepT0 keep0
 simp only[CT.eSt]
 have h1:=kept_ok (X:=X) st (keys (madeT st l)) l
 have h2:=made_ok (X:=X) st l
 rw[List.map_append,h1,h2,made_keys (X:=X)]
 simp only[CT.eSt]at*
 congr 2
 rw[List.map_map]
 refine List.map_congr_left fun id _=> ?_
 have hm:(X.eSt st).m=fun id=>X.eO (st.m id):=eSt_m st
 simp only[CT.eSt]at hm
 simp only[Function.comp,normO_ok,hm]
mutual
theorem sw_ok(a b:Nat):∀(v:VS D),X.eS (swVT a b v)=swV a b (X.eS v)
 | .t x=>by simp[swVT,CT.eS,swV]
 | .nil=>by simp[swVT,CT.eS,swV]
 | .gone=>by simp[swVT,CT.eS,swV]
 | .ref i v=>by simp[swVT,CT.eS,swV]
 | .ptr i o=>by simp[swVT,CT.eS,swV]
 | .rptr l=>by simp[swVT,CT.eS,swV]
 | .eptr i v j o=>by simp[swVT,CT.eS,swV]
 | .vw i v j=>by simp[swVT,CT.eS,swV]
 | .fs ty l=>by simp[swVT,CT.eS,swV]
 | .agg l=>by simp[swVT,CT.eS,swV,swLs_ok a b l]
 | .tup l=>by simp[swVT,CT.eS,swV,swLs_ok a b l]
 | .clo f l=>by simp[swVT,CT.eS,swV,swLs_ok a b l]
theorem swLs_ok(a b:Nat):∀(l:List (VS D)),X.eL (swLT a b l)=swL a b (X.eL l)
 |[]=>by simp[swLT,CT.eL,swL]
 |v::l=>by simp only[swLT,CT.eL,swL,sw_ok a b v,swLs_ok a b l]
end
theorem swO_ok(a b:Nat)(o:Option (VM D)):X.eO (swOT a b o)=swO a b (X.eO o):=by
 cases o with
 |none=>rfl
 |some o=>
  cases o with
  |row v ty l=>rfl
  |rowv v ty l i cs=>rfl
  |var l=>simp only[swOT,CT.eO,CT.eM,swO,swLs_ok]
theorem swSt_ok(a b:Nat)(st:VSt D):X.eSt (swStT a b st)=swSt a b (X.eSt st):=by
 unfold swStT swSt CT.eSt
 simp only[List.map_map]
 congr 1
 ·exact List.map_congr_left fun p _=>by simp only[Function.comp,sw_ok]
 ·exact List.map_congr_left fun p _=>by simp only[Function.comp,swO_ok]
theorem swAll_ok(base:Nat):∀(n k:Nat) (l:List (VS D)) (st:VSt D),X.eSt (swAllT base n k l st)=swAll base n k (X.eL l) (X.eSt st)
 |0,_,_,_=>rfl
 |n+1,k,l,st=>by
  cases l with
  |nil=>rfl
  |cons v l=>
   cases v with
   |ref id ver=>
    simp only[swAllT,CT.eL,CT.eS,swAll]
    rw[swAll_ok base n]
    cases Nat.beq id (base+k)with
    |true=>rfl
    |false=>simp only[cond_false,swSt_ok,swLs_ok]
   |_=>simp only[swAllT,CT.eL,CT.eS,swAll];exact swAll_ok base n _ _ _
theorem canon_ok:∀(l:Keep) (st:VSt D),X.eSt (canonT l st)=canon (kE X l) (X.eSt st)
 |[],st=>rfl
 |(t,z)::r,st=>by
  have hs:(X.eSt st).s t=X.eS (st.s t):=by rw[eSt_s]
  simp only[canonT,kE,List.map_cons,canon,hs]
  rw[canon_ok r]
  simp only[kE]
  congr 1
  cases hv:st.s t with
  |ref id ver=>simp only[CT.eS,swAll_ok,CT.eL]
  |agg l=>simp only[CT.eS,swAll_ok,eL_len]
  |ptr id off=>
   have hm:(X.eSt st).m id=X.eO (st.m id):=by rw[eSt_m]
   simp only[CT.eS,hm]
   cases ho:st.m id with
   |none=>rfl
   |some o=>
    cases o with
    |row v ty l=>rfl
    |rowv v ty l i cs=>rfl
    |var l=>simp only[CT.eO,CT.eM,swAll_ok,eL_len]
  |_=>simp only[CT.eS]
theorem getP_ok(st:VSt D)(t:Nat):∀(q:Nat),X.eS (getPT st t q)=getP (X.eSt st) t q
 |0=>by simp only[getPT,getP,eSt_s]
 |j+1=>by
  simp only[getPT,getP,eSt_s,eSt_m]
  cases hs:st.s t with
  |agg l=>simp only[CT.eS,CT.eL_map,List.getD_eq_getElem?_getD,List.getElem?_map];cases l[j]? <;>simp[CT.eS]
  |ptr id off=>
   simp only[CT.eS]
   cases hm:st.m id with
   |none=>simp[CT.eO,CT.eS]
   |some o=>
    cases o with
    |row v ty l=>simp[eO_r,CT.eS]
    |rowv v ty l i cs=>simp[CT.eO,CT.eM,CT.eS]
    |var l=>simp only[eO_v,List.getD_eq_getElem?_getD,List.getElem?_map];cases l[j]? <;>simp[CT.eS]
  |_=>simp[CT.eS]
theorem putP_ok(st:VSt D)(t:Nat)(v:VS D):∀(q:Nat),X.eSt (putPT st t v q)=putP (X.eSt st) t (X.eS v) q
 |0=>rfl
 |j+1=>by
  simp only[putPT,putP,eSt_s,eSt_m]
  cases hs:st.s t with
  |agg l=>simp[CT.eS,CT.eSt,CT.eL_map,List.map_set]
  |ptr id off=>
   simp only[CT.eS]
   cases hm:st.m id with
   |none=>simp[CT.eO]
   |some o=>
    cases o with
    |row v ty l=>simp[eO_r]
    |rowv v ty l i cs=>simp[CT.eO,CT.eM]
    |var l=>simp[eO_v,CT.eSt,List.map_set]
  |_=>simp[CT.eS]
theorem mkP_ok(t q ty n:Nat)(st:VSt D):X.eSt (mkPT X t q ty n st)=mkP t q (X.C.i ty).size n (X.eSt st):=by
 unfold mkPT mkP
 rw[←getP_ok]
 cases hg:getPT st t q with
 |nil=>
  have hm:(X.eSt st).m n=X.eO (st.m n):=by rw[eSt_m]
  simp only[CT.eS,hm]
  cases hn:st.m n with
  |some o=>simp only[CT.eO,Bool.and_false,cond_false]
  |none=>
   simp only[CT.eO,Bool.and_true]
   cases cleanS (X.eSt st) [(n,0)]with
   |false=>rfl
   |true=>
    simp only[cond_true,putP_ok,CT.eS]
    rfl
 |_=>simp[CT.eS]
theorem frP_ok(t q ty:Nat)(st:VSt D):X.eSt (frPT t q ty st)=frP t q (X.C.i ty).size (X.eSt st):=by
 unfold frPT frP
 rw[←getP_ok]
 cases hg:getPT st t q with
 |nil=>simp only[CT.eS,putP_ok,CT.er,List.map_nil]
 |ref id ver=>
  simp only[CT.eS,eSt_m]
  cases hm:st.m id with
  |none=>simp[CT.eO]
  |some o=>
   cases o with
   |var l=>simp[eO_v]
   |rowv v ty l i cs=>simp[CT.eO,CT.eM]
   |row v ty' l=>
    simp only[eO_r]
    cases Nat.beq v ver with
    |false=>rfl
    |true=>
     simp only[cond_true,putP_ok,CT.eS,CT.er]
     rfl
 |_=>simp[CT.eS]
theorem fsP_ok(t:Nat)(st:VSt D):X.eSt (fsPT t st)=fsP t (X.eSt st):=by
 unfold fsPT fsP
 have e:(X.eSt st).s t=X.eS (st.s t):=by rw[eSt_s]
 rw[e]
 cases hg:st.s t with
 |ref id ver=>
  simp only[CT.eS,eSt_m]
  cases hm:st.m id with
  |none=>simp[CT.eO]
  |some o=>
   cases o with
   |var l=>simp[eO_v]
   |rowv v ty l i cs=>simp[CT.eO,CT.eM]
   |row v ty' l=>
    simp only[eO_r]
    cases (Nat.beq v ver&&Nat.beq v 1)with
    |false=>rfl
    |true=>simp only[cond_true];simp[CT.eSt,CT.eS,CT.eO]
 |_=>simp[CT.eS]
theorem prep_ok:∀(l:Keep) (st:VSt D),X.eSt (prepT X l st)=prep (kE X l) (X.eSt st)
 |[],st=>rfl
 |(c,some z)::r,st=>by
  have ih:=fun st'=>prep_ok r st'
  simp only[kE]at ih
  simp only[prepT,kE,List.map_cons,Option.map_some,prep]
  cases Nat.ble 1000000 c with
  |false=>exact ih st
  |true=>
   simp only[cond_true]
   cases Nat.beq (c/1000000) 1 with
   |true=>simp only[cond_true,ih,frP_ok]
   |false=>
    simp only[cond_false]
    cases Nat.beq (c/1000000) 99 with
    |true=>simp only[cond_true,ih,fsP_ok]
    |false=>
     simp only[cond_false]
     cases Nat.ble 100000000 c with
     |true=>simp only[cond_true,ih,frP_ok]
     |false=>simp only[cond_false,ih,mkP_ok]
 |(c,none)::r,st=>by
  have ih:=fun st'=>prep_ok r st'
  simp only[kE]at ih
  simp only[prepT,kE,List.map_cons,Option.map_none,prep]
  exact ih st
theorem keep_ok(l:Keep)(st:VSt D):X.eSt (keepT X l st)=keep (kE X l) (X.eSt st):=by
 unfold keepT keep
 rw[canon_ok,keep0_ok,prep_ok]
theorem closeV_ok(m:Nat→Option (VM D))(v:VS D):closeC (fun id=>X.eO (m id)) (X.eS v)=(closeV m v).map X.er:=by
 cases v with
 |t x=>cases x<;>simp[CT.eS,CT.er,closeC,closeV,T.scalar]
 |ref id ver=>
  simp only[CT.eS,closeC,closeV]
  cases hm:m id with
  |none=>rfl
  |some ob=>
   cases ob with
   |var l=>rfl
   |rowv v ty l i cs=>rfl
   |row v ty l=>
    simp only[CT.eO,CT.eM]
    cases Nat.beq v ver<;>rfl
 |_=>simp[CT.eS,closeC,closeV]
theorem closeVs_ok(m:Nat→Option (VM D)):∀l:List (VS D),closeCs (fun id=>X.eO (m id)) (X.eL l)=(closeVs m l).map fun r=>r.map X.er
 |[]=>rfl
 |v::l=>by
  simp only[CT.eL,closeCs,closeVs,closeV_ok,closeVs_ok m l]
  cases closeV m v<;>cases closeVs m l<;>rfl
theorem closeId_ok(ok:CodOK X){id:Nat}{st st':VSt D}(h:closeIdT X id st=some st'):X.eSt st'=closeId id (X.eSt st):=by
 unfold closeIdT at h
 unfold closeId
 rw[eSt_m]
 split at h
 ·rename_i ver ty rows q l hm
  simp only[eO_rowv hm]
  split at h
  ·rename_i vs hv
   split at h
   ·rename_i e he
    rw[closeVs_ok,hv]
    simp only[Option.map_some]
    cases hb:(nodupN (refsL (refs 4) (X.eL l))&& !memN id (refsL (refs 4) (X.eL l)))with
    |false=>rw[hb]at h;cases h
    |true=>
     rw[hb]at h
     simp only[cond_true,Option.some.injEq]at h
     subst h
     have:=ok.dec ty vs e he
     simp[CT.eSt,eO_r,eO_n,List.map_set,this,List.map_map,Function.comp_def]
   ·cases h
  ·cases h
 ·rename_i hn
  cases h
  split
  ·rename_i v z r q l hm
   have hm:X.eO (st.m id)=some (.rowv v z r q l):=hm
   cases hs:st.m id with
   |none=>rw[hs]at hm;cases hm
   |some ob=>
    cases ob with
    |var l=>rw[hs]at hm;cases hm
    |row v ty l=>rw[hs]at hm;cases hm
    |rowv v ty l i cs=>exact absurd hs (hn _ _ _ _ _)
  ·rfl
theorem closeL_ok(ok:CodOK X)(ids:List Nat):∀(ml:List (Nat×Option (VM D))) {st st':VSt D},closeLT X ids ml st=some st'→X.eSt st'=closeL ids (ml.map fun p=>(p.1,X.eO p.2)) (X.eSt st)
 |[],st,st',h=>by cases h;rfl
 |(id,none)::r,st,st',h=>closeL_ok ok ids r h
 |(id,some (.var _))::r,st,st',h=>closeL_ok ok ids r h
 |(id,some (.row ..))::r,st,st',h=>closeL_ok ok ids r h
 |(id,some (.rowv ..))::r,st,st',h=>by
  have h:(bif memN id ids then(closeIdT X id st).bind (closeLT X ids r)else closeLT X ids r st)=some st':=h
  show X.eSt st'=closeL ids (r.map fun p=>(p.1,X.eO p.2)) (bif memN id ids then closeId id (X.eSt st)else X.eSt st)
  cases hb:memN id ids with
  |false=>rw[hb]at h;exact closeL_ok ok ids r h
  |true=>
   rw[hb]at h
   cases hc:closeIdT X id st with
   |none=>rw[hc]at h;cases h
   |some st1=>
    rw[hc]at h
    have h:closeLT X ids r st1=some st':=h
    rw[closeL_ok ok ids r h,closeId_ok ok hc]
    rfl
theorem evR_sim(ok:CallsOK X cl){pl:Plan}{id:Nat}{ops:List Oper}{draw:Bool}{st:VSt D}{K:St→Prop}{K':VSt D→Prop}(hK:∀st,K' st→K (X.eSt st))(h:evRT X cl pl id ops draw st K'):
 evR X.C (plE X pl) id ops draw (X.eSt st) K:=by
 refine evOps_sim ok (fun acc st' h=> ?_) ops [] st h
 obtain⟨h1,h2⟩:=bcond_false h
 refine⟨h1, ?_⟩
 have e:look (plE X pl).reg id []=kE X (look pl.reg id []):=look_map (kE X) pl.reg id []
 obtain⟨st2,h3,h4⟩:=optK_some h2
 have e2:closeL (keptIds (X.eSt st') (kE X (look pl.reg id []))) (X.eSt st').me (X.eSt st')=X.eSt st2:=(closeL_ok ok.cod _ st'.me h3).symm
 rw[e,e2,←keep_ok]
 exact hK _ h4
end
end Go.Pv
