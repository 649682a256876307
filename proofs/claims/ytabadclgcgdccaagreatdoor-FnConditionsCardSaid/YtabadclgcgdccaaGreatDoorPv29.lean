/- Plain lemmas and definitions. Nothing is claimed here. -/
import Derived.Test.YtabadclgcgdccaaGreatDoorPv28
set_option linter.unusedSimpArgs false
set_option linter.unusedVariables false
namespace Go.Pv
open Go Go.RowKit
inductive Sg where
 |ki (k:IntKind)
 |kb
 |ks
 |ke
 |kl (ty:Nat)
@[reducible] def SgT (D:Nat→Type):Sg→Type
  | .ki _=>Int
  | .kb=>Bool
  | .ks=>List UInt8
  | .ke=>Bool
  | .kl ty=>List (D ty)
@[reducible] def Tup (D:Nat→Type):List Sg→Type
  |[]=>Unit
  |a::r=>SgT D a×Tup D r
inductive Ar where
 |c (s:Sg)
 |a (l:List Sg)
 |x (l:List Sg)
 |f (g:Nat) (l:List (List Sg))
@[reducible] def TupB (D:Nat→Type):List (List Sg)→Type
  |[]=>Unit
  |a::r=>Tup D a×TupB D r
@[reducible] def ArT (D:Nat→Type):Ar→Type
  | .c s=>SgT D s
  | .a l=>Tup D l
  | .x l=>Tup D l
  | .f _ l=>TupB D l
@[reducible] def TupA (D:Nat→Type):List Ar→Type
  |[]=>Unit
  |a::r=>ArT D a×TupA D r
section
variable {D:Nat→Type} {X:CT D}
def mkV:(a:Sg)→SgT D a→V D
 | .ki k,n=> .int k n
 | .kb,x=> .bool x
 | .ks,x=> .str x
 | .ke,x=> .err x
 | .kl ty,x=> .sl ty x
def mkTp:(l:List Sg)→Tup D l→List (V D)
 |[],_=>[]
 |a::r,x=>mkV a x.1::mkTp r x.2
def rdV:(a:Sg)→V D→Option (SgT D a)
 | .ki k,.int k' n=>bif decide (k'=k)then some n else none
 | .kb,.bool x=>some x
 | .ks,.str x=>some x
 | .ke,.err x=>some x
 | .kl ty,.sl ty' l=>if h:ty'=ty then some (h▸l)else none
 |_,_=>none
def rdTp:(l:List Sg)→List (V D)→Option (Tup D l)
 |[],[]=>some ()
 |a::r,v::vs=>match rdV a v,rdTp r vs with
  |some x,some y=>some (x,y)
  |_,_=>none
 |_,_=>none
theorem rdV_mk{a:Sg}{v:V D}{x:SgT D a}(h:rdV a v=some x):v=mkV a x:=by
 cases a<;>cases v<;>simp only[rdV]at h<;>try (cases h;done)
 ·rename_i k k' n
  cases hb:decide (k'=k)with
  |false=>rw[hb]at h;cases h
  |true=>
   rw[hb]at h
   simp only[decide_eq_true_eq]at hb
   subst hb
   cases h;rfl
 ·cases h;rfl
 ·cases h;rfl
 ·cases h;rfl
 ·split at h
  ·rename_i hty
   subst hty
   cases h;rfl
  ·cases h
theorem rdTp_mk:∀{l:List Sg} {vs:List (V D)} {x:Tup D l},rdTp l vs=some x→vs=mkTp l x
 |[],[],_,_=>rfl
 |[],_::_,_,h=>by simp[rdTp]at h
 |_::_,[],_,h=>by simp[rdTp]at h
 |a::r,v::vs,x,h=>by
  simp only[rdTp]at h
  split at h
  ·rename_i y z h1 h2
   simp only[Option.some.injEq]at h
   subst h
   simp only[mkTp]
   rw[rdV_mk h1,rdTp_mk h2]
  ·cases h
def guardT{α:Type}(b:Bool)(o:Option α):Option α:=bif b then o else none
theorem oKg{α:Type}(b:Bool)(o:Option α)(K:α→Prop):optK (guardT b o) K=bcond b (optK o K) False:=by cases b<;>rfl
theorem oKm{α β:Type}(o:Option α)(f:α→β)(K:β→Prop):optK (o.map f) K=optK o fun a=>K (f a):=by cases o<;>rfl
structure Hold(p:Prop):Prop where
 out:p
theorem hold_of{a b:Prop}(h:a)(e:a=b):Hold b:=⟨e▸h⟩
def cutS{α:Type}(tm:Tm)(sg:List Sg)(f:Tup D sg→Option α)(L:Tup D sg→α→(Ex→VSt D→Prop)→(VR D→Prop)→Prop):Cut D:=
 cutAt tm fun vs Q R=>optK (rdTp sg vs) fun x=>optK (f x) fun o=>L x o Q R
theorem loopCut_s{α:Type}{pl:Plan}{k:Nat}{cu:Cuts D}{cl:Calls' D}{rs:List ResultVar}{tys:List (List Nat)}{id:Nat}{c:Code}{tm:Tm}{sg:List Sg}{f:Nat→Tup D sg→Option α}{L:Tup D sg→α→(Ex→VSt D→Prop)→(VR D→Prop)→Prop}
 (ok:CallsOK X cl) (hc:CutOK X pl k cu rs c) (h0:∀x,f 0 x=none)
 (hs:∀n x Q R,optK (f (n+1) x) (fun o=>L x o Q R)→Hold (wpT X cl pl cu rs tys c (mkSt tm (mkTp sg x)) (fun e st'=>
  match e with
  | .normal=>cutS tm sg (f n) L st' Q R
  | .exit j=>bcond (Nat.beq j id) (Q .normal (keepT X (look pl.blk id []) st')) (Q (.exit j) st')
  | .ret=>False) R)) {c0:Code} (e:c0= .block id (.loop c)):CutFor X pl k rs (cutS tm sg (f k) L) c0:=by
 subst e
 refine loopCut_of (F:=fun n vs Q R=>optK (rdTp sg vs) fun x=>optK (f n x) fun o=>L x o Q R) (tys:=tys) ok hc (fun vs Q R h=> ?_) (fun n vs Q R h=> ?_)
 ·obtain⟨x,_,h⟩:=optK_some h
  rw[h0]at h;exact h
 ·obtain⟨x,hx,h⟩:=optK_some h
  rw[rdTp_mk hx]
  exact(hs n x Q R h).out
theorem joinCut_s{α:Type}{pl:Plan}{k:Nat}{cu:Cuts D}{cl:Calls' D}{rs:List ResultVar}{tys:List (List Nat)}{c:Code}{tm:Tm}{sg:List Sg}{f:Tup D sg→Option α}{L:Tup D sg→α→(Ex→VSt D→Prop)→(VR D→Prop)→Prop}
 (ok:CallsOK X cl) (hc:CutOK X pl k cu rs c) (hs:∀x Q R,optK (f x) (fun o=>L x o Q R)→Hold (wpT X cl pl cu rs tys c (mkSt tm (mkTp sg x)) Q R)):CutFor X pl k rs (cutS tm sg f L) c:=by
 refine joinCut_of (cl:=cl) (tys:=tys) ok hc fun vs Q R h=> ?_
 obtain⟨x,hx,h⟩:=optK_some h
 rw[rdTp_mk hx]
 exact(hs x Q R h).out
def tsB(X:CT D):(l:List (List Sg))→TupB D l→List T
 |[],_=>[]
 |a::r,x=> .box ((mkTp a x.1).map X.er)::tsB X r x.2
def tA(X:CT D):(a:Ar)→ArT D a→T
 | .c s,x=>X.er (mkV s x)
 | .a l,x=> .agg ((mkTp l x).map X.er)
 | .x l,x=> .box ((mkTp l x).map X.er)
 | .f g l,x=> .clo g (tsB X l x)
def tsOf(X:CT D):(l:List Ar)→TupA D l→List T
 |[],_=>[]
 |a::r,x=>tA X a x.1::tsOf X r x.2
def vsB:(l:List (List Sg))→TupB D l→List (VS D)
 |[],_=>[]
 |a::r,x=> .rptr (mkTp a x.1)::vsB r x.2
def vA:(a:Ar)→ArT D a→VS D
 | .c s,x=> .t (mkV s x)
 | .a l,x=> .agg ((mkTp l x).map VS.t)
 | .x l,x=> .rptr (mkTp l x)
 | .f g l,x=> .clo g (vsB l x)
def stA:Nat→(l:List Ar)→TupA D l→List (Nat×VS D)
 |_,[],_=>[]
 |k,a::r,x=>(k,vA a x.1)::stA (k+1) r x.2
theorem er_arg(v:V D):argV (X.er v)= .t (X.er v):=by cases v<;>rfl
theorem eS_vA(a:Ar)(x:ArT D a):X.eS (vA a x)=argV (tA X a x):=by
 cases a with
 |c s=>simp only[vA,tA,CT.eS];exact(er_arg _).symm
 |a l=>simp only[vA,tA,CT.eS,CT.eL_map,argV,List.map_map];congr 1
 |x l=>simp only[vA,tA,CT.eS,argV]
 |f g l=>
  simp only[vA,tA,CT.eS,CT.eL_map,argV]
  congr 1
  induction l with
  |nil=>rfl
  |cons a r ih=>
   have ih:∀x:TupB D r,(vsB r x).map X.eS=(tsB X r x).map argV.argC:=fun x=>ih x
   simp only[vsB,tsB,List.map_cons,ih,CT.eS,argV.argC]
theorem eSt_stA:∀(k:Nat) (l:List Ar) (x:TupA D l),(stA k l x).map (fun p=>(p.1,X.eS p.2))=argS k (tsOf X l x)
 |_,[],_=>rfl
 |k,a::r,x=>by simp only[stA,List.map_cons,tsOf,argS,eS_vA,eSt_stA (k+1) r x.2]
theorem tsOf_len:∀(l:List Ar) (x:TupA D l),(tsOf X l x).length=l.length
 |[],_=>rfl
 |_::r,x=>by simp only[tsOf,List.length_cons,tsOf_len r x.2]
def rdC(m:Nat→Option (VM D)):(s:Sg)→VS D→Option (SgT D s)
 |s,.t v=>rdV s v
 | .kl _,.nil=>some []
 | .kl ty,.ref id ver=>
   match m id with
   |some (.row v ty' l)=>bif Nat.beq v ver then(if h:ty'=ty then some (h▸l)else none)else none
   |_=>none
 | .kl ty,.vw id ver lo=>
   match m id with
   |some (.row v ty' l)=>bif Nat.beq v ver then(if h:ty'=ty then some ((h▸l:List (D ty)).drop lo.toNat)else none)else none
   |_=>none
 | .kl ty,.fs ty' l=>if h:ty'=ty then some (h▸l)else none
 |_,_=>none
def rdCs(m:Nat→Option (VM D)):(l:List Sg)→List (VS D)→Option (Tup D l)
 |[],[]=>some ()
 |a::r,v::vs=>match rdC m a v,rdCs m r vs with
  |some x,some y=>some (x,y)
  |_,_=>none
 |_,_=>none
def rdX(m:Nat→Option (VM D))(l:List Sg):VS D→Option (Tup D l)
 | .rptr vs=>rdTp l vs
 | .ptr id 0=>match m id with|some (.var vs)=>rdCs m l vs|_=>none
 |_=>none
def rdB(m:Nat→Option (VM D)):(l:List (List Sg))→List (VS D)→Option (TupB D l)
 |[],[]=>some ()
 |a::r,v::vs=>match rdX m a v,rdB m r vs with
  |some x,some y=>some (x,y)
  |_,_=>none
 |_,_=>none
def rdA(m:Nat→Option (VM D)):(a:Ar)→VS D→Option (ArT D a)
 | .c s,v=>rdC m s v
 | .a l,.agg vs=>rdCs m l vs
 | .x l,v=>rdX m l v
 | .f g l,.clo g' vs=>bif Nat.beq g' g then rdB m l vs else none
 |_,_=>none
def rdAs(m:Nat→Option (VM D)):(l:List Ar)→List (VS D)→Option (TupA D l)
 |[],[]=>some ()
 |a::r,v::vs=>match rdA m a v,rdAs m r vs with
  |some x,some y=>some (x,y)
  |_,_=>none
 |_,_=>none
variable {m:Nat→Option (VM D)}
theorem rdC_ok{n:Nat}{s:Sg}{v:VS D}{x:SgT D s}(h:rdC m s v=some x):rb (fun id=>X.eO (m id)) (n+1) (X.eS v) (X.er (mkV s x)):=by
 cases v with
 |t v=>
  have h:rdV s v=some x:=by cases s<;>exact h
  rw[rdV_mk h];simp[CT.eS,rb]
 |nil=>
  cases s with
  |kl ty=>cases h;simp[CT.eS,rb,mkV,CT.er]
  |_=>cases h
 |ref id ver=>
  cases s with
  |kl ty=>
   simp only[rdC]at h
   split at h
   ·rename_i v ty' l hm
    cases hb:Nat.beq v ver with
    |false=>rw[hb]at h;cases h
    |true=>
     rw[hb]at h
     simp only[cond_true]at h
     split at h
     ·rename_i hty
      subst hty
      cases h
      simp[CT.eS,rb,mkV,CT.er,eO_row hm,hb,bcond]
     ·cases h
   ·cases h
  |_=>cases h
 |vw id ver lo=>
  cases s with
  |kl ty=>
   simp only[rdC]at h
   split at h
   ·rename_i v ty' l hm
    cases hb:Nat.beq v ver with
    |false=>rw[hb]at h;cases h
    |true=>
     rw[hb]at h
     simp only[cond_true]at h
     split at h
     ·rename_i hty
      subst hty
      cases h
      simp[CT.eS,rb,mkV,CT.er,eO_row hm,hb,bcond,List.map_drop]
     ·cases h
   ·cases h
  |_=>cases h
 |fs ty' l=>
  cases s with
  |kl ty=>
   simp only[rdC]at h
   split at h
   ·rename_i hty
    subst hty
    cases h
    simp[CT.eS,rb,mkV,CT.er]
   ·cases h
  |_=>cases h
 |_=>cases s<;>cases h
theorem rdCs_ok{n:Nat}:∀{l:List Sg} {vs:List (VS D)} {x:Tup D l},rdCs m l vs=some x→all2 (rb (fun id=>X.eO (m id)) (n+1)) (vs.map X.eS) ((mkTp l x).map X.er)
 |[],[],_,_=>trivial
 |[],_::_,_,h=>by simp[rdCs]at h
 |_::_,[],_,h=>by simp[rdCs]at h
 |a::r,v::vs,x,h=>by
  simp only[rdCs]at h
  split at h
  ·rename_i y z h1 h2
   simp only[Option.some.injEq]at h
   subst h
   exact⟨rdC_ok h1,rdCs_ok h2⟩
  ·cases h
theorem rdX_ok{n:Nat}{l:List Sg}{v:VS D}{x:Tup D l}(h:rdX m l v=some x):rb (fun id=>X.eO (m id)) (n+2) (X.eS v) (.box ((mkTp l x).map X.er)):=by
 unfold rdX at h
 split at h
 ·rw[rdTp_mk h];simp[CT.eS,rb]
 ·split at h
  ·rename_i id vs hm
   simp only[CT.eS,rb,hm,eO_v]
   exact rdCs_ok h
  ·cases h
 ·cases h
theorem rdB_ok{n:Nat}:∀{l:List (List Sg)} {vs:List (VS D)} {x:TupB D l},rdB m l vs=some x→all2 (rb (fun id=>X.eO (m id)) (n+2)) (vs.map X.eS) (tsB X l x)
 |[],[],_,_=>trivial
 |[],_::_,_,h=>by simp[rdB]at h
 |_::_,[],_,h=>by simp[rdB]at h
 |a::r,v::vs,x,h=>by
  simp only[rdB]at h
  split at h
  ·rename_i y z h1 h2
   simp only[Option.some.injEq]at h
   subst h
   exact⟨rdX_ok h1,rdB_ok h2⟩
  ·cases h
theorem rdA_ok{n:Nat}{a:Ar}{v:VS D}{x:ArT D a}(h:rdA m a v=some x):rb (fun id=>X.eO (m id)) (n+3) (X.eS v) (tA X a x):=by
 unfold rdA at h
 split at h
 ·exact rdC_ok h
 ·simp only[tA,CT.eS,rb,CT.eL_map]
  exact rdCs_ok h
 ·exact rdX_ok h
 ·rename_i g l g' vs
  cases hb:Nat.beq g' g with
  |false=>rw[hb]at h;cases h
  |true=>
   rw[hb]at h
   have:=beqN hb;subst this
   simp only[tA,CT.eS,rb,CT.eL_map]
   exact⟨trivial,rdB_ok h⟩
 ·cases h
theorem rdAs_ok:∀{l:List Ar} {vs:List (VS D)} {x:TupA D l},rdAs m l vs=some x→all2 (rb (fun id=>X.eO (m id)) 4) (vs.map X.eS) (tsOf X l x)
 |[],[],_,_=>trivial
 |[],_::_,_,h=>by simp[rdAs]at h
 |_::_,[],_,h=>by simp[rdAs]at h
 |a::r,v::vs,x,h=>by
  simp only[rdAs]at h
  split at h
  ·rename_i y z h1 h2
   simp only[Option.some.injEq]at h
   subst h
   exact⟨rdA_ok (n:=1) h1,rdAs_ok h2⟩
  ·cases h
def Does(P:Program)(X:CT D){α:Type}(g:Nat)(l:List Ar)(f:TupA D l→Option α)(vr:α→VR D):Prop:=∀x r,f x=some r→CallOK P X.C.gi g (tsOf X l x) (X.eR (vr r))
def entS{α:Type}(l:List Ar)(f:TupA D l→Option α)(vr:α→VR D):Entry D:=fun m vs K=>optK (rdAs m l vs) fun x=>optK (f x) fun r=>K (vr r)
theorem Does.en{P:Program}{α:Type}{g:Nat}{l:List Ar}{f:TupA D l→Option α}{vr:α→VR D}(h:Does P X g l f vr)(hc:X.C.cs=CallOK P X.C.gi):EntryOK X g (entS l f vr):=by
 intro m vs K hK
 obtain⟨x,hx,hK⟩:=optK_some hK
 obtain⟨r,hr,hK⟩:=optK_some hK
 exact⟨tsOf X l x,vr r,rdAs_ok hx,by rw[hc];exact h x r hr,hK⟩
theorem does_of{P:Program}{cl:Calls' D}{α:Type}(ok:CallsOK X cl)(H:CtxOK P X.C)(hm:P.follows .mixedOrders=true){g:FuncId}{fn:Func}{body:Code}{l:List Ar}{f:TupA D l→Option α}{vr:α→VR D}{pl:Plan}{k:Nat}{cu:Cuts D}{tys:List (List Nat)}
 (hf:P.funcs[g]? =some fn) (hb:fn.body=some body) (hok:fnOK fn body l.length=true) (hc:CutOK X pl k cu fn.results.toList body)
 (h:∀x (R:VR D→Prop),optK (f x) (fun r=>R (vr r))→Hold (wpT X cl pl cu fn.results.toList tys body ⟨stA 0 l x,[]⟩ (endQ X fn.results.toList tys R) R)):Does P X g l f vr:=by
 intro x r hx
 refine callT_of (pl:=pl) (k:=k) (cu:=cu) (tys:=tys) (st:=⟨stA 0 l x,[]⟩) ok H hm hf hb (by rw[tsOf_len];exact hok) (by simp only[CT.eSt,eSt_stA,List.map_nil]) hc fun R hR=>(h x R ?_).out
 rw[hx];exact hR
def stWC:Nat→(l:List Sg)→Tup D l→List (VS D)×List (Nat×Option (VM D))
 |_,[],_=>([],[])
 |j,.kl ty::r,x=>(.ref (600000+j) 0::(stWC (j+1) r x.2).1,(600000+j,some (.row 0 ty x.1))::(stWC (j+1) r x.2).2)
 |j,s::r,x=>(.t (mkV s x.1)::(stWC (j+1) r x.2).1,(stWC (j+1) r x.2).2)
theorem stWC_ok:∀(j:Nat) (l:List Sg) (x:Tup D l),((stWC j l x).1.map X.eS,(stWC j l x).2.map fun p=>(p.1,X.eO p.2))=argWC j ((mkTp l x).map X.er)
 |_,[],_=>rfl
 |j,s::r,x=>by
  have ih:=stWC_ok (j+1) r x.2
  have i1:=congrArg Prod.fst ih
  have i2:=congrArg Prod.snd ih
  simp only at i1 i2
  cases s<;>simp only[stWC,mkTp,List.map_cons,mkV,CT.er,argWC,i1,i2,CT.eS,eO_r]
def vrOf:List (VP D)→VR D
 |[p]=> .p p
 |l=> .tup l
theorem eR_vrOf(ps:List (VP D)):X.eR (vrOf ps)=oneT (ps.map X.eP):=by
 match ps with
 |[]=>rfl
 |[p]=>rfl
 |a::b::r=>rfl
def DoesP(P:Program)(X:CT D){β:Type}(g:Nat)(sg:List Sg)(l:List Ar)(f:Tup D sg→TupA D l→Option β)(ps:β→List (VP D))(cs:β→Tup D sg):Prop:=
 ∀c x r,f c x=some r→CallP P X.C.gi g ((mkTp sg c).map X.er) (tsOf X l x) (X.eR (vrOf (ps r))) ((mkTp sg (cs r)).map X.er)
def entP{β:Type}(sg:List Sg)(l:List Ar)(f:Tup D sg→TupA D l→Option β)(ps:β→List (VP D))(cs:β→Tup D sg):EntryP D:=
 fun m c r K=>optK (rdTp sg c) fun c=>optK (rdAs m l r) fun x=>optK (f c x) fun r=>K (vrOf (ps r)) (mkTp sg (cs r))
theorem DoesP.en{P:Program}{β:Type}{g:Nat}{sg:List Sg}{l:List Ar}{f:Tup D sg→TupA D l→Option β}{ps:β→List (VP D)}{cs:β→Tup D sg}(h:DoesP P X g sg l f ps cs)(hc:X.C.cp=CallPQ P X.C.gi X.C.kq)(hk:memN g X.C.kq=false):EntryPOK X g (entP sg l f ps cs):=by
 intro m c r K hK
 obtain⟨c',hc',hK⟩:=optK_some hK
 obtain⟨x,hx,hK⟩:=optK_some hK
 obtain⟨o,ho,hK⟩:=optK_some hK
 exact⟨tsOf X l x,_,_,rdAs_ok hx,by
  rw[hc,rdTp_mk hc']
  unfold CallPQ
  rw[hk]
  exact h c' x o ho,hK⟩
def DoesQ(P:Program)(X:CT D){β:Type}(g:Nat)(sg al:List Sg)(f:Tup D sg→TupA D [.a al]→Option β)(ps:β→List (VP D))(cs:β→Tup D sg):Prop:=
 ∀c x r,f c x=some r→CallQ P X.C.gi g ((mkTp sg c).map X.er) ((mkTp al x.1).map X.er) (X.eR (vrOf (ps r))) ((mkTp sg (cs r)).map X.er)
theorem DoesQ.en{P:Program}{β:Type}{g:Nat}{sg al:List Sg}{f:Tup D sg→TupA D [.a al]→Option β}{ps:β→List (VP D)}{cs:β→Tup D sg}(h:DoesQ P X g sg al f ps cs)(hc:X.C.cp=CallPQ P X.C.gi X.C.kq)(hk:memN g X.C.kq=true):EntryPOK X g (entP sg [.a al] f ps cs):=by
 intro m c r K hK
 obtain⟨c',hc',hK⟩:=optK_some hK
 obtain⟨x,hx,hK⟩:=optK_some hK
 obtain⟨o,ho,hK⟩:=optK_some hK
 exact⟨tsOf X [.a al] x,_,_,rdAs_ok hx,by
  rw[hc,rdTp_mk hc']
  unfold CallPQ
  rw[hk]
  exact⟨_,rfl,h c' x o ho⟩,hK⟩
def stQ(sg al:List Sg)(c:Tup D sg)(x:Tup D al):VSt D:=⟨[(0,.ptr 700000 0),(1,.agg (stWC 0 al x).1)],(700000,some (.var ((mkTp sg c).map VS.t)))::(stWC 0 al x).2⟩
def stP(sg:List Sg)(l:List Ar)(c:Tup D sg)(x:TupA D l):VSt D:=⟨(0,.ptr 700000 0)::stA 1 l x,[(700000,some (.var ((mkTp sg c).map VS.t)))]⟩
theorem doesP_of{P:Program}{cl:Calls' D}{β:Type}(ok:CallsOK X cl)(H:CtxOK P X.C)(hm:P.follows .mixedOrders=true){g:FuncId}{fn:Func}{body:Code}{sg:List Sg}{l:List Ar}{f:Tup D sg→TupA D l→Option β}{ps:β→List (VP D)}{cs:β→Tup D sg}{pl:Plan}{k pt:Nat}{cu:Cuts D}{tys:List (List Nat)}
 (hf:P.funcs[g]? =some fn) (hb:fn.body=some body) (hok:fnPOK fn body l.length=true) (hpt:Nat.ble 1 pt=true) (hag:(X.C.i pt).agg=true) (hc:CutOK X pl k cu (.cell 0 pt::fn.results.toList) body)
 (h:∀c x (R:VR D→Prop),optK (f c x) (fun r=>R (.tup (.agg (mkTp sg (cs r))::ps r)))→Hold (wpT X cl pl cu (.cell 0 pt::fn.results.toList) tys body (stP sg l c x) (endQ X (.cell 0 pt::fn.results.toList) tys R) R)):DoesP P X g sg l f ps cs:=by
 intro c x r hx
 rw[eR_vrOf]
 refine callP_of H hm (pl:=plE X pl) (k:=k) (pt:=pt) hf hb (by rw[tsOf_len];exact hok) (by have:=bleN hpt;omega) hag ?_
 have hw:=(h c x (fun r'=>r'= .tup (.agg (mkTp sg (cs r))::ps r)) (by rw[hx];rfl)).out
 have e:X.eSt (stP sg l c x)=argP ((mkTp sg c).map X.er) (tsOf X l x):=by
  simp only[stP,CT.eSt,argP,List.map_cons,eSt_stA,List.map_nil,CT.eS,eO_v,List.map_map]
  congr 1
 rw[←e]
 refine wpT_sound ok body _ _ (fun r'=>r'= .tup (.agg (mkTp sg (cs r))::ps r)) _ hc ⟨fun e st' h'=> ?_,fun r' st' h1 h2=> ?_⟩ hw
 ·cases e with
  |normal=>
   obtain⟨r',h1,h2⟩:=ret_ok (X:=X) (tys:=tys) (R:=fun r'=>r'= .tup (.agg (mkTp sg (cs r))::ps r)) (st:=st') h'
   subst h2
   simpa[retK,CT.eR,CT.eP]using h1
  |ret=>exact h'.elim
  |exit j=>exact h'.elim
 ·subst h1
  simpa[retK,CT.eR,CT.eP]using h2
theorem flatL_ok:∀(l:List Sg) (x:Tup D l),AllP flatC ((mkTp l x).map X.er)
 |[],_=>trivial
 |s::r,x=>by
  refine⟨?_,flatL_ok r x.2⟩
  cases s with
  |kl ty=>exact trivial
  |_=>rfl
theorem mkTp_len:∀(l:List Sg) (x:Tup D l),(mkTp l x).length=l.length
 |[],_=>rfl
 |_::r,x=>by simp only[mkTp,List.length_cons,mkTp_len r x.2]
theorem doesQ_of{P:Program}{cl:Calls' D}{β:Type}(ok:CallsOK X cl)(H:CtxOK P X.C)(hm:P.follows .mixedOrders=true){g:FuncId}{fn:Func}{body:Code}{sg al:List Sg}{f:Tup D sg→TupA D [.a al]→Option β}{ps:β→List (VP D)}{cs:β→Tup D sg}{pl:Plan}{k pt:Nat}{cu:Cuts D}{tys:List (List Nat)}
 (hf:P.funcs[g]? =some fn) (hb:fn.body=some body) (hok:fnPOK fn body 1=true) (hpt:Nat.ble 1 pt=true) (hag:(X.C.i pt).agg=true) (hal:Nat.ble al.length 1000=true) (hc:CutOK X pl k cu (.cell 0 pt::fn.results.toList) body)
 (h:∀c (x:TupA D [.a al]) (R:VR D→Prop),optK (f c x) (fun r=>R (.tup (.agg (mkTp sg (cs r))::ps r)))→Hold (wpT X cl pl cu (.cell 0 pt::fn.results.toList) tys body (stQ sg al c x.1) (endQ X (.cell 0 pt::fn.results.toList) tys R) R)):DoesQ P X g sg al f ps cs:=by
 intro c x r hx
 rw[eR_vrOf]
 refine callQ_of H hm (pl:=plE X pl) (k:=k) (pt:=pt) hf hb hok (by have:=bleN hpt;omega) hag (flatL_ok _ _) (by rw[List.length_map,mkTp_len];exact bleN hal) ?_
 have hw:=(h c x (fun r'=>r'= .tup (.agg (mkTp sg (cs r))::ps r)) (by rw[hx];rfl)).out
 have e:X.eSt (stQ sg al c x.1)=argQ ((mkTp sg c).map X.er) ((mkTp al x.1).map X.er):=by
  have ih:=stWC_ok (X:=X) 0 al x.1
  have i1:=congrArg Prod.fst ih
  have i2:=congrArg Prod.snd ih
  simp only at i1 i2
  simp only[stQ,CT.eSt,argQ,List.map_cons,List.map_nil,CT.eS,CT.eL_map,i1,i2,eO_v,List.map_map]
  congr 1
 rw[←e]
 refine wpT_sound ok body _ _ (fun r'=>r'= .tup (.agg (mkTp sg (cs r))::ps r)) _ hc ⟨fun e st' h'=> ?_,fun r' st' h1 h2=> ?_⟩ hw
 ·cases e with
  |normal=>
   obtain⟨r',h1,h2⟩:=ret_ok (X:=X) (tys:=tys) (R:=fun r'=>r'= .tup (.agg (mkTp sg (cs r))::ps r)) (st:=st') h'
   subst h2
   simpa[retK,CT.eR,CT.eP]using h1
  |ret=>exact h'.elim
  |exit j=>exact h'.elim
 ·subst h1
  simpa[retK,CT.eR,CT.eP]using h2
def DoesB(P:Program)(X:CT D){β:Type}(g:Nat)(sg:List Sg)(l:List Ar)(f:TupA D l→Option β)(cs:β→Tup D sg):Prop:=
 ∀x r,f x=some r→CallB P X.C.gi g (tsOf X l x) ((mkTp sg (cs r)).map X.er)
def entB{β:Type}(sg:List Sg)(l:List Ar)(f:TupA D l→Option β)(cs:β→Tup D sg):EntryB D:=fun m vs K=>optK (rdAs m l vs) fun x=>optK (f x) fun r=>K (mkTp sg (cs r))
theorem DoesB.en{P:Program}{β:Type}{g:Nat}{sg:List Sg}{l:List Ar}{f:TupA D l→Option β}{cs:β→Tup D sg}(h:DoesB P X g sg l f cs)(hc:X.C.cb=CallB P X.C.gi):EntryBOK X g (entB sg l f cs):=by
 intro m vs K hK
 obtain⟨x,hx,hK⟩:=optK_some hK
 obtain⟨o,ho,hK⟩:=optK_some hK
 exact⟨tsOf X l x,_,rdAs_ok hx,by rw[hc];exact h x o ho,hK⟩
theorem doesB_of{P:Program}{cl:Calls' D}{β:Type}(ok:CallsOK X cl)(H:CtxOK P X.C)(hm:P.follows .mixedOrders=true){g:FuncId}{fn:Func}{body:Code}{sg:List Sg}{l:List Ar}{f:TupA D l→Option β}{cs:β→Tup D sg}{pl:Plan}{k r0 pt:Nat}{cu:Cuts D}{tys:List (List Nat)}
 (hf:P.funcs[g]? =some fn) (hb:fn.body=some body) (hr:fn.results= #[.tmp r0]) (hok:fnOK fn body l.length=true) (hag:(X.C.i pt).agg=true) (hc:CutOK X pl k cu [.cell 0 0,.cell r0 pt] body)
 (h:∀x (R:VR D→Prop),optK (f x) (fun r=>R (.p (.agg (mkTp sg (cs r)))))→Hold (wpT X cl pl cu [.cell 0 0,.cell r0 pt] tys body ⟨stA 0 l x,[]⟩ (endQ X [.cell 0 0,.cell r0 pt] tys R) R)):DoesB P X g sg l f cs:=by
 intro x r hx
 refine callB_of H hm (pl:=plE X pl) (k:=k) (pt:=pt) hf hb hr (by rw[tsOf_len];exact hok) hag ?_
 have hw:=(h x (fun r'=>r'= .p (.agg (mkTp sg (cs r)))) (by rw[hx];rfl)).out
 have e:X.eSt ⟨stA 0 l x,[]⟩=⟨argS 0 (tsOf X l x),[]⟩:=by simp only[CT.eSt,eSt_stA,List.map_nil]
 rw[←e]
 refine wpT_sound ok body _ _ (fun r'=>r'= .p (.agg (mkTp sg (cs r)))) _ hc ⟨fun e st' h'=> ?_,fun r' st' h1 h2=> ?_⟩ hw
 ·cases e with
  |normal=>
   obtain⟨r',h1,h2⟩:=ret_ok (X:=X) (rs:=[.cell 0 0,.cell r0 pt]) (tys:=tys) (R:=fun r'=>r'= .p (.agg (mkTp sg (cs r)))) (st:=st') h'
   subst h2
   simpa[retK,CT.eR,CT.eP]using h1
  |ret=>exact h'.elim
  |exit j=>exact h'.elim
 ·subst h1
  simpa[retK,CT.eR,CT.eP]using h2
end
end Go.Pv
