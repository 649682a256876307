/- Plain lemmas and definitions. Nothing is claimed here. -/
import Derived.Test.YtnidlohhndpjdaaGreatDoorPv28
set_option linter.unusedSimpArgs false
set_option linter.unusedVariables false
namespace Go.Pv
open Go Go.RowKit
inductive Sg where
 |ki (k:IntKind)
 |kb
 |ks
 |ke
 |kl (ty:Nat)
@[reducible] def SgT (D:Nat→Type):Sg→Type
  | .ki _=>Int
  | .kb=>Bool
  | .ks=>List UInt8
  | .ke=>Bool
  | .kl ty=>List (D ty)
@[reducible] def Tup (D:Nat→Type):List Sg→Type
  |[]=>Unit
  |a::r=>SgT D a×Tup D r
inductive Ar where
 |c (s:Sg)
 |a (l:List Sg)
 |x (l:List Sg)
 |f (g:Nat) (l:List (List Sg))
@[reducible] def TupB (D:Nat→Type):List (List Sg)→Type
  |[]=>Unit
  |a::r=>Tup D a×TupB D r
@[reducible] def ArT (D:Nat→Type):Ar→Type
  | .c s=>SgT D s
  | .a l=>Tup D l
  | .x l=>Tup D l
  | .f _ l=>TupB D l
@[reducible] def TupA (D:Nat→Type):List Ar→Type
  |[]=>Unit
  |a::r=>ArT D a×TupA D r
section
variable {D:Nat→Type} {X:CT D}
def mkV:(a:Sg)→SgT D a→V D
 | .ki k,n=> .int k n
 | .kb,x=> .bool x
 | .ks,x=> .str x
 | .ke,x=> .err x
 | .kl ty,x=> .sl ty x
def mkTp:(l:List Sg)→Tup D l→List (V D)
 |[],_=>[]
 |a::r,x=>mkV a x.1::mkTp r x.2
def rdV:(a:Sg)→V D→Option (SgT D a)
 | .ki k,.int k' n=>bif decide (k'=k)then some n else none
 | .kb,.bool x=>some x
 | .ks,.str x=>some x
 | .ke,.err x=>some x
 | .kl ty,.sl ty' l=>if h:ty'=ty then some (h▸l)else none
 |_,_=>none
def rdTp:(l:List Sg)→List (V D)→Option (Tup D l)
 |[],[]=>some ()
 |a::r,v::vs=>match rdV a v,rdTp r vs with
  |some x,some y=>some (x,y)
  |_,_=>none
 |_,_=>none
theorem rdV_mk{a:Sg}{v:V D}{x:SgT D a}(h:rdV a v=some x):v=mkV a x:=by
 cases a<;>cases v<;>simp only[rdV]at h<;>try (cases h;done)
 ·rename_i k k' n
  cases hb:decide (k'=k)with
  |false=>rw[hb]at h;cases h
  |true=>
   rw[hb]at h
   simp only[decide_eq_true_eq]at hb
   subst hb
   cases h;rfl
 ·cases h;rfl
 ·cases h;rfl
 ·cases h;rfl
 ·split at h
  ·rename_i hty
   subst hty
   cases h;rfl
  ·cases h
theorem rdTp_mk:∀{l:List Sg} {vs:List (V D)} {x:Tup D l},rdTp l vs=some x→vs=mkTp l x
 |[],[],_,_=>rfl
 |[],_::_,_,h=>by simp[rdTp]at h
 |_::_,[],_,h=>by simp[rdTp]at h
 |a::r,v::vs,x,h=>by
  simp only[rdTp]at h
  split at h
  ·rename_i y z h1 h2
   simp only[Option.some.injEq]at h
   subst h
   simp only[mkTp]
   rw[rdV_mk h1,rdTp_mk h2]
  ·cases h
def guardT{α:Type}(b:Bool)(o:Option α):Option α:=bif b then o else none
theorem oKg{α:Type}(b:Bool)(o:Option α)(K:α→Prop):optK (guardT b o) K=bcond b (optK o K) False:=by cases b<;>rfl
theorem oKm{α β:Type}(o:Option α)(f:α→β)(K:β→Prop):optK (o.map f) K=optK o fun a=>K (f a):=by cases o<;>rfl
structure Hold(p:Prop):Prop where
 out:p
theorem hold_of{a b:Prop}(h:a)(e:a=b):Hold b:=⟨e▸h⟩
def cutS{α:Type}(tm:Tm)(sg:List Sg)(f:Tup D sg→Option α)(L:Tup D sg→α→(Ex→VSt D→Prop)→(VR D→Prop)→Prop):Cut D:=
 cutAt tm fun vs Q R=>optK (rdTp sg vs) fun x=>optK (f x) fun o=>L x o Q R
theorem loopCut_s{α:Type}{pl:Plan}{k:Nat}{cu:Cuts D}{cl:Calls' D}{rs:List ResultVar}{tys:List (List Nat)}{id:Nat}{c:Code}{tm:Tm}{sg:List Sg}{f:Nat→Tup D sg→Option α}{L:Tup D sg→α→(Ex→VSt D→Prop)→(VR D→Prop)→Prop}
 (ok:CallsOK X cl) (hc:CutOK X pl k cu rs c) (h0:∀x,f 0 x=none)
 (hs:∀n x Q R,optK (f (n+1) x) (fun o=>L x o Q R)→Hold (wpT X cl pl cu rs tys c (mkSt tm (mkTp sg x)) (fun e st'=>
  match e with
  | .normal=>cutS tm sg (f n) L st' Q R
  | .exit j=>bcond (Nat.beq j id) (Q .normal (keepT X (look pl.blk id []) st')) (Q (.exit j) st')
  | .ret=>False) R)) {c0:Code} (e:c0= .block id (.loop c)):CutFor X pl k rs (cutS tm sg (f k) L) c0:=by
 subst e
 refine loopCut_of (F:=fun n vs Q R=>optK (rdTp sg vs) fun x=>optK (f n x) fun o=>L x o Q R) (tys:=tys) ok hc (fun vs Q R h=> ?_) (fun n vs Q R h=> ?_)
 ·obtain⟨x,_,h⟩:=optK_some h
  rw[h0]at h;exact h
 ·obtain⟨x,hx,h⟩:=optK_some h
  rw[rdTp_mk hx]
  exact(hs n x Q R h).out
theorem joinCut_s{α:Type}{pl:Plan}{k:Nat}{cu:Cuts D}{cl:Calls' D}{rs:List ResultVar}{tys:List (List Nat)}{c:Code}{tm:Tm}{sg:List Sg}{f:Tup D sg→Option α}{L:Tup D sg→α→(Ex→VSt D→Prop)→(VR D→Prop)→Prop}
 (ok:CallsOK X cl) (hc:CutOK X pl k cu rs c) (hs:∀x Q R,optK (f x) (fun o=>L x o Q R)→Hold (wpT X cl pl cu rs tys c (mkSt tm (mkTp sg x)) Q R)):CutFor X pl k rs (cutS tm sg f L) c:=by
 refine joinCut_of (cl:=cl) (tys:=tys) ok hc fun vs Q R h=> ?_
 obtain⟨x,hx,h⟩:=optK_some h
 rw[rdTp_mk hx]
 exact(hs x Q R h).out
def tsB(X:CT D):(l:List (List Sg))→TupB D l→List T
 |[],_=>[]
 |a::r,x=> .box ((mkTp a x.1).map X.er)::tsB X r x.2
def tA(X:CT D):(a:Ar)→ArT D a→T
 | .c s,x=>X.er (mkV s x)
 | .a l,x=> .agg ((mkTp l x).map X.er)
 | .x l,x=> .box ((mkTp l x).map X.er)
 | .f g l,x=> .clo g (tsB X l x)
def tsOf(X:CT D):(l:List Ar)→TupA D l→List T
 |[],_=>[]
 |a::r,x=>tA X a x.1::tsOf X r x.2
def vsB:(l:List (List Sg))→TupB D l→List (VS D)
 |[],_=>[]
 |a::r,x=> .rptr (mkTp a x.1)::vsB r x.2
def vA:(a:Ar)→ArT D a→VS D
 | .c s,x=> .t (mkV s x)
 | .a l,x=> .agg ((mkTp l x).map VS.t)
 | .x l,x=> .rptr (mkTp l x)
 | .f g l,x=> .clo g (vsB l x)
def stA:Nat→(l:List Ar)→TupA D l→List (Nat×VS D)
 |_,[],_=>[]
 |k,a::r,x=>(k,vA a x.1)::stA (k+1) r x.2
theorem er_arg(v:V D):argV (X.er v)= .t (X.er v):=by cases v<;>rfl
theorem eS_vA(a:Ar)(x:ArT D a):X.eS (vA a x)=argV (tA X a x):=by
 cases a with
 |c s=>simp only[vA,tA,CT.eS];exact(er_arg _).symm
 |a l=>simp only[vA,tA,CT.eS,CT.eL_map,argV,List.map_map];congr 1
 |x l=>simp only[vA,tA,CT.eS,argV]
 |f g l=>
  simp only[vA,tA,CT.eS,CT.eL_map,argV]
  congr 1
  induction l with
  |nil=>rfl
  |cons a r ih=>
   have ih:∀x:TupB D r,(vsB r x).map X.eS=(tsB X r x).map argV.argC:=fun x=>ih x
   simp only[vsB,tsB,List.map_cons,ih,CT.eS,argV.argC]
theorem eSt_stA:∀(k:Nat) (l:List Ar) (x:TupA D l),(stA k l x).map (fun p=>(p.1,X.eS p.2))=argS k (tsOf X l x)
 |_,[],_=>rfl
 |k,a::r,x=>by simp only[stA,List.map_cons,tsOf,argS,eS_vA,eSt_stA (k+1) r x.2]
theorem tsOf_len:∀(l:List Ar) (x:TupA D l),(tsOf X l x).length=l.length
 |[],_=>rfl
 |_::r,x=>by simp only[tsOf,List.length_cons,tsOf_len r x.2]
def rdC(m:Nat→Option (VM D)):(s:Sg)→VS D→Option (SgT D s)
 |s,.t v=>rdV s v
 | .kl _,.nil=>some []
 | .kl ty,.ref id ver=>
   match m id with
   |some (.row v ty' l)=>bif Nat.beq v ver then(if h:ty'=ty then some (h▸l)else none)else none
   |_=>none
 | .kl ty,.vw id ver lo=>
   match m id with
   |some (.row v ty' l)=>bif Nat.beq v ver then(if h:ty'=ty then some ((h▸l:List (D ty)).drop lo.toNat)else none)else none
   |_=>none
 |_,_=>none
def rdCs(m:Nat→Option (VM D)):(l:List Sg)→List (VS D)→Option (Tup D l)
 |[],[]=>some ()
 |a::r,v::vs=>match rdC m a v,rdCs m r vs with
  |some x,some y=>some (x,y)
  |_,_=>none
 |_,_=>none
def rdX(m:Nat→Option (VM D))(l:List Sg):VS D→Option (Tup D l)
 | .rptr vs=>rdTp l vs
 | .ptr id 0=>match m id with|some (.var vs)=>rdCs m l vs|_=>none
 |_=>none
def rdB(m:Nat→Option (VM D)):(l:List (List Sg))→List (VS D)→Option (TupB D l)
 |[],[]=>some ()
 |a::r,v::vs=>match rdX m a v,rdB m r vs with
  |some x,some y=>some (x,y)
  |_,_=>none
 |_,_=>none
def rdA(m:Nat→Option (VM D)):(a:Ar)→VS D→Option (ArT D a)
 | .c s,v=>rdC m s v
 | .a l,.agg vs=>rdCs m l vs
 | .x l,v=>rdX m l v
 | .f g l,.clo g' vs=>bif Nat.beq g' g then rdB m l vs else none
 |_,_=>none
def rdAs(m:Nat→Option (VM D)):(l:List Ar)→List (VS D)→Option (TupA D l)
 |[],[]=>some ()
 |a::r,v::vs=>match rdA m a v,rdAs m r vs with
  |some x,some y=>some (x,y)
  |_,_=>none
 |_,_=>none
variable {m:Nat→Option (VM D)}
theorem rdC_ok{n:Nat}{s:Sg}{v:VS D}{x:SgT D s}(h:rdC m s v=some x):rb (fun id=>X.eO (m id)) (n+1) (X.eS v) (X.er (mkV s x)):=by
 cases v with
 |t v=>
  have h:rdV s v=some x:=by cases s<;>exact h
  rw[rdV_mk h];simp[CT.eS,rb]
 |nil=>
  cases s with
  |kl ty=>cases h;simp[CT.eS,rb,mkV,CT.er]
  |_=>cases h
 |ref id ver=>
  cases s with
  |kl ty=>
   simp only[rdC]at h
   split at h
   ·rename_i v ty' l hm
    cases hb:Nat.beq v ver with
    |false=>rw[hb]at h;cases h
    |true=>
     rw[hb]at h
     simp only[cond_true]at h
     split at h
     ·rename_i hty
      subst hty
      cases h
      simp[CT.eS,rb,mkV,CT.er,eO_row hm,hb,bcond]
     ·cases h
   ·cases h
  |_=>cases h
 |vw id ver lo=>
  cases s with
  |kl ty=>
   simp only[rdC]at h
   split at h
   ·rename_i v ty' l hm
    cases hb:Nat.beq v ver with
    |false=>rw[hb]at h;cases h
    |true=>
     rw[hb]at h
     simp only[cond_true]at h
     split at h
     ·rename_i hty
      subst hty
      cases h
      simp[CT.eS,rb,mkV,CT.er,eO_row hm,hb,bcond,List.map_drop]
     ·cases h
   ·cases h
  |_=>cases h
 |_=>cases s<;>cases h
theorem rdCs_ok{n:Nat}:∀{l:List Sg} {vs:List (VS D)} {x:Tup D l},rdCs m l vs=some x→all2 (rb (fun id=>X.eO (m id)) (n+1)) (vs.map X.eS) ((mkTp l x).map X.er)
 |[],[],_,_=>trivial
 |[],_::_,_,h=>by simp[rdCs]at h
 |_::_,[],_,h=>by simp[rdCs]at h
 |a::r,v::vs,x,h=>by
  simp only[rdCs]at h
  split at h
  ·rename_i y z h1 h2
   simp only[Option.some.injEq]at h
   subst h
   exact⟨rdC_ok h1,rdCs_ok h2⟩
  ·cases h
theorem rdX_ok{n:Nat}{l:List Sg}{v:VS D}{x:Tup D l}(h:rdX m l v=some x):rb (fun id=>X.eO (m id)) (n+2) (X.eS v) (.box ((mkTp l x).map X.er)):=by
 unfold rdX at h
 split at h
 ·rw[rdTp_mk h];simp[CT.eS,rb]
 ·split at h
  ·rename_i id vs hm
   simp only[CT.eS,rb,hm,eO_v]
   exact rdCs_ok h
  ·cases h
 ·cases h
theorem rdB_ok{n:Nat}:∀{l:List (List Sg)} {vs:List (VS D)} {x:TupB D l},rdB m l vs=some x→all2 (rb (fun id=>X.eO (m id)) (n+2)) (vs.map X.eS) (tsB X l x)
 |[],[],_,_=>trivial
 |[],_::_,_,h=>by simp[rdB]at h
 |_::_,[],_,h=>by simp[rdB]at h
 |a::r,v::vs,x,h=>by
  simp only[rdB]at h
  split at h
  ·rename_i y z h1 h2
   simp only[Option.some.injEq]at h
   subst h
   exact⟨rdX_ok h1,rdB_ok h2⟩
  ·cases h
theorem rdA_ok{n:Nat}{a:Ar}{v:VS D}{x:ArT D a}(h:rdA m a v=some x):rb (fun id=>X.eO (m id)) (n+3) (X.eS v) (tA X a x):=by
 unfold rdA at h
 split at h
 ·exact rdC_ok h
 ·simp only[tA,CT.eS,rb,CT.eL_map]
  exact rdCs_ok h
 ·exact rdX_ok h
 ·rename_i g l g' vs
  cases hb:Nat.beq g' g with
  |false=>rw[hb]at h;cases h
  |true=>
   rw[hb]at h
   have:=beqN hb;subst this
   simp only[tA,CT.eS,rb,CT.eL_map]
   exact⟨trivial,rdB_ok h⟩
 ·cases h
theorem rdAs_ok:∀{l:List Ar} {vs:List (VS D)} {x:TupA D l},rdAs m l vs=some x→all2 (rb (fun id=>X.eO (m id)) 4) (vs.map X.eS) (tsOf X l x)
 |[],[],_,_=>trivial
 |[],_::_,_,h=>by simp[rdAs]at h
 |_::_,[],_,h=>by simp[rdAs]at h
 |a::r,v::vs,x,h=>by
  simp only[rdAs]at h
  split at h
  ·rename_i y z h1 h2
   simp only[Option.some.injEq]at h
   subst h
   exact⟨rdA_ok (n:=1) h1,rdAs_ok h2⟩
  ·cases h
def Does(P:Program)(X:CT D){α:Type}(g:Nat)(l:List Ar)(f:TupA D l→Option α)(vr:α→VR D):Prop:=∀x r,f x=some r→CallOK P X.C.gi g (tsOf X l x) (X.eR (vr r))
def entS{α:Type}(l:List Ar)(f:TupA D l→Option α)(vr:α→VR D):Entry D:=fun m vs K=>optK (rdAs m l vs) fun x=>optK (f x) fun r=>K (vr r)
theorem Does.en{P:Program}{α:Type}{g:Nat}{l:List Ar}{f:TupA D l→Option α}{vr:α→VR D}(h:Does P X g l f vr)(hc:X.C.cs=CallOK P X.C.gi):EntryOK X g (entS l f vr):=by
 intro m vs K hK
 obtain⟨x,hx,hK⟩:=optK_some hK
 obtain⟨r,hr,hK⟩:=optK_some hK
 exact⟨tsOf X l x,vr r,rdAs_ok hx,by rw[hc];exact h x r hr,hK⟩
theorem does_of{P:Program}{cl:Calls' D}{α:Type}(ok:CallsOK X cl)(H:CtxOK P X.C)(hm:P.follows .mixedOrders=true){g:FuncId}{fn:Func}{body:Code}{l:List Ar}{f:TupA D l→Option α}{vr:α→VR D}{pl:Plan}{k:Nat}{cu:Cuts D}{tys:List (List Nat)}
 (hf:P.funcs[g]? =some fn) (hb:fn.body=some body) (hok:fnOK fn body l.length=true) (hc:CutOK X pl k cu fn.results.toList body)
 (h:∀x (R:VR D→Prop),optK (f x) (fun r=>R (vr r))→Hold (wpT X cl pl cu fn.results.toList tys body ⟨stA 0 l x,[]⟩ (endQ X fn.results.toList tys R) R)):Does P X g l f vr:=by
 intro x r hx
 refine callT_of (pl:=pl) (k:=k) (cu:=cu) (tys:=tys) (st:=⟨stA 0 l x,[]⟩) ok H hm hf hb (by rw[tsOf_len];exact hok) (by simp only[CT.eSt,eSt_stA,List.map_nil]) hc fun R hR=>(h x R ?_).out
 rw[hx];exact hR
def rdOC(m:Nat→Option (VM D)):(s:Sg)→VS D→Option (SgT D s×(SgT D s→List (Nat×Option (VM D))))
 |s,.t v=>match s with
  | .kl _=>none
  |s=>match rdV s v with|some x=>some (x,fun _=>[])|none=>none
 | .kl _,.nil=>some ([],fun _=>[])
 | .kl ty,.ref id ver=>
   match m id with
   |some (.row v ty' l)=>bif Nat.beq v ver then(if h:ty'=ty then some (h▸l,fun l'=>[(id,some (.row ver ty l'))])else none)else none
   |_=>none
 |_,_=>none
def rdOCs(m:Nat→Option (VM D)):(l:List Sg)→List (VS D)→Option (Tup D l×(Tup D l→List (Nat×Option (VM D))))
 |[],[]=>some ((),fun _=>[])
 |a::r,v::vs=>match rdOC m a v,rdOCs m r vs with
  |some x,some y=>some ((x.1,y.1),fun z=>x.2 z.1++y.2 z.2)
  |_,_=>none
 |_,_=>none
theorem wa_t'{m:Nat→Option MO}{x out:T}(hs:x.scalar=true):WA m (.t x) x out []:=by
 refine⟨fun n=> ?_,fun l r w hw=> ?_,fun l r w hw=> ?_,fun n=>rfl⟩
 ·simp[rbo,hs]
 ·cases x<;>simp[effK.backsC,hw]
 ·cases x<;>simp[effK.backs,hw]
theorem rdOC_ok{s:Sg}{v:VS D}{x:SgT D s×(SgT D s→List (Nat×Option (VM D)))}(h:rdOC m s v=some x)(out:SgT D s):
 WA (fun id=>X.eO (m id)) (X.eS v) (X.er (mkV s x.1)) (X.er (mkV s out)) ((x.2 out).map fun p=>(p.1,X.eO p.2)):=by
 cases v with
 |t v=>
  cases s with
  |kl ty=>cases h
  |_=>
   simp only[rdOC]at h
   split at h
   ·rename_i y hy;cases h;rw[rdV_mk hy];simp only[CT.eS];exact wa_t' rfl
   ·cases h
 |nil=>
  cases s with
  |kl ty=>
   obtain⟨l,b,e,hw⟩:=asO_ok (X:=X) (m:=m) (ty:=ty) (sv:= .nil) (K:=fun l b=>l=[]∧b=fun _=>[]) ⟨rfl,rfl⟩
   obtain⟨rfl,rfl⟩:=e
   cases h
   exact hw out
  |_=>cases h
 |ref id ver=>
  cases s with
  |kl ty=>
   simp only[rdOC]at h
   split at h
   ·rename_i v ty' l hm
    cases hb:Nat.beq v ver with
    |false=>rw[hb]at h;cases h
    |true=>
     rw[hb]at h
     simp only[cond_true]at h
     split at h
     ·rename_i hty
      subst hty
      cases h
      obtain⟨l2,b,e,hw⟩:=asO_ok (X:=X) (m:=m) (ty:=ty') (sv:= .ref id ver) (K:=fun l2 b=>l2=l∧b=fun l'=>[(id,some (.row ver ty' l'))]) (by
       simp[asO,hm,hb,bcond])
      obtain⟨rfl,rfl⟩:=e
      exact hw out
     ·cases h
   ·cases h
  |_=>cases h
 |_=>cases s<;>cases h
theorem rdOCs_ok:∀{l:List Sg} {vs:List (VS D)} {x:Tup D l×(Tup D l→List (Nat×Option (VM D)))},rdOCs m l vs=some x→∀out:Tup D l,
 WAL (fun id=>X.eO (m id)) (vs.map X.eS) ((mkTp l x.1).map X.er) ((mkTp l out).map X.er) ((x.2 out).map fun p=>(p.1,X.eO p.2))
 |[],[],x,h,out=>by simp only[rdOCs,Option.some.injEq]at h;subst h;exact .nil
 |[],_::_,_,h,_=>by simp[rdOCs]at h
 |_::_,[],_,h,_=>by simp[rdOCs]at h
 |a::r,v::vs,x,h,out=>by
  simp only[rdOCs]at h
  split at h
  ·rename_i y z h1 h2
   simp only[Option.some.injEq]at h
   subst h
   have:=WAL.cons (rdOC_ok (X:=X) h1 out.1) (rdOCs_ok h2 out.2)
   simpa[mkTp]using this
  ·cases h
def DoesW(P:Program)(X:CT D)(g:Nat)(a:Ar)(f:ArT D a→Int→Option (Int×ArT D a)):Prop:=
 ∀x n r,f x n=some r→CallW P X.C.gi g [tA X a x,.int .i64 n] (.int .i64 r.1) [tA X a r.2,.int .i64 n]
def entW:(a:Ar)→(ArT D a→Int→Option (Int×ArT D a))→EntryW D
 | .c s,f=>fun m vs K=>match vs with
   |[v,.t (.int .i64 n)]=>optK (rdOC m s v) fun x=>optK (f x.1 n) fun r=>bcond (nodupN (keys (x.2 r.2))) (K (.int .i64 r.1) (x.2 r.2)) False
   |_=>False
 | .a l,f=>fun m vs K=>match vs with
   |[.agg v,.t (.int .i64 n)]=>optK (rdOCs m l v) fun x=>optK (f x.1 n) fun r=>bcond (nodupN (keys (x.2 r.2))) (K (.int .i64 r.1) (x.2 r.2)) False
   |_=>False
 |_,_=>fun _ _ _=>False
theorem DoesW.en{P:Program}{g:Nat}{a:Ar}{f:ArT D a→Int→Option (Int×ArT D a)}(h:DoesW P X g a f)(hc:X.C.cw=CallW P X.C.gi):EntryWOK X g (entW a f):=by
 intro m vs K hK
 cases a with
 |c s=>
  simp only[entW]at hK
  split at hK
  ·rename_i v n
   obtain⟨x,hx,hK⟩:=optK_some hK
   obtain⟨r,hr,hK⟩:=optK_some hK
   obtain⟨hn,hK⟩:=bcond_false hK
   exact entW_one (x:= .int .i64 r.1) (rdOC_ok hx r.2) rfl hn rfl (by rw[hc];exact h x.1 n r hr) hK
  ·exact hK.elim
 |a l=>
  simp only[entW]at hK
  split at hK
  ·rename_i v n
   obtain⟨x,hx,hK⟩:=optK_some hK
   obtain⟨r,hr,hK⟩:=optK_some hK
   obtain⟨hn,hK⟩:=bcond_false hK
   exact entW_agg (x:= .int .i64 r.1) (rdOCs_ok hx r.2) rfl hn rfl (by rw[hc];exact h x.1 n r hr) hK
  ·exact hK.elim
 |x l=>exact hK.elim
 |f g l=>exact hK.elim
def stWC:Nat→(l:List Sg)→Tup D l→List (VS D)×List (Nat×Option (VM D))
 |_,[],_=>([],[])
 |j,.kl ty::r,x=>(.ref (600000+j) 0::(stWC (j+1) r x.2).1,(600000+j,some (.row 0 ty x.1))::(stWC (j+1) r x.2).2)
 |j,s::r,x=>(.t (mkV s x.1)::(stWC (j+1) r x.2).1,(stWC (j+1) r x.2).2)
def stW:(a:Ar)→ArT D a→Int→VSt D
 | .c (.kl ty),x,n=>⟨[(0,.ref 500000 0),(1,.t (.int .i64 n))],[(500000,some (.row 0 ty x))]⟩
 | .a l,x,n=>⟨[(0,.agg (stWC 0 l x).1),(1,.t (.int .i64 n))],(stWC 0 l x).2⟩
 |_,_,_=>⟨[],[]⟩
theorem stWC_ok:∀(j:Nat) (l:List Sg) (x:Tup D l),((stWC j l x).1.map X.eS,(stWC j l x).2.map fun p=>(p.1,X.eO p.2))=argWC j ((mkTp l x).map X.er)
 |_,[],_=>rfl
 |j,s::r,x=>by
  have ih:=stWC_ok (j+1) r x.2
  have i1:=congrArg Prod.fst ih
  have i2:=congrArg Prod.snd ih
  simp only at i1 i2
  cases s<;>simp only[stWC,mkTp,List.map_cons,mkV,CT.er,argWC,i1,i2,CT.eS,eO_r]
def flatA(X:CT D):Ar→Bool
 | .c (.kl ty)=>true
 | .a l=>true
 |_=>false
theorem flatA_ok(c:CodOK X){a:Ar}(h:flatA X a=true)(x:ArT D a):flatT (tA X a x)∧(tA X a x).scalar=false:=by
 cases a with
 |c s=>
  cases s with
  |kl ty=>exact⟨trivial,rfl⟩
  |_=>cases h
 |a l=>
  refine⟨?_,rfl⟩
  have:∀(l:List Sg) (x:Tup D l),AllP flatC ((mkTp l x).map X.er):=by
   intro l
   induction l with
   |nil=>exact fun _=>trivial
   |cons s r ih=>
    intro x
    refine⟨?_,ih x.2⟩
    cases s with
    |kl ty=>exact trivial
    |_=>rfl
  exact this l x
 |x l=>cases h
 |f g l=>cases h
def vrW:(a:Ar)→ArT D a→VP D
 | .c s,x=> .c (mkV s x)
 | .a l,x=> .agg (mkTp l x)
 |_,_=> .c (.err false)
theorem doesW_of{P:Program}{cl:Calls' D}(ok:CallsOK X cl)(H:CtxOK P X.C)(hm:P.follows .mixedOrders=true){g:FuncId}{fn:Func}{body:Code}{a:Ar}{f:ArT D a→Int→Option (Int×ArT D a)}{pl:Plan}{k r0:Nat}{cu:Cuts D}{tys:List (List Nat)}
 (hf:P.funcs[g]? =some fn) (hb:fn.body=some body) (hr:fn.results= #[.tmp r0]) (hok:fnWOK fn body=true) (hfl:flatA X a=true) (hc:CutOK X pl k cu [.tmp r0,.tmp 0] body)
 (h:∀x n (R:VR D→Prop),optK (f x n) (fun r=>R (.tup [.c (.int .i64 r.1),vrW a r.2]))→Hold (wpT X cl pl cu [.tmp r0,.tmp 0] tys body (stW a x n) (endQ X [.tmp r0,.tmp 0] tys R) R)):DoesW P X g a f:=by
 intro x n r hx
 obtain⟨f1,f2⟩:=flatA_ok ok.cod hfl x
 obtain⟨f3,f4⟩:=flatA_ok ok.cod hfl r.2
 have ev:X.eP (vrW a r.2)=tA X a r.2:=by
  cases a with
  |c s=>rfl
  |a l=>rfl
  |x l=>cases hfl
  |f g l=>cases hfl
 have:=callWT_of (t0:=tA X a x) (t1:= .int .i64 n) (x:= .int .i64 r.1) (y:=vrW a r.2) (pl:=pl) (k:=k) (cu:=cu) (tys:=tys) (st:=stW a x n) ok H hm hf hb hr hok (by
  cases a with
  |c s=>
   cases s with
   |kl ty=>rfl
   |_=>cases hfl
  |a l=>
   have e:=stWC_ok (X:=X) 0 l x
   have e1:=congrArg Prod.fst e
   have e2:=congrArg Prod.snd e
   simp only at e1 e2
   simp only[stW,CT.eSt,tA,argW,List.map_cons,List.map_nil,CT.eS,CT.eL_map,e1,e2,CT.er]
  |x l=>cases hfl
  |f g l=>cases hfl) hc f1 (by rw[ev];exact f3) f2 rfl rfl fun R hR=>(h x n R (by rw[hx];exact hR)).out
 rw[ev]at this
 exact this
def DoesT(P:Program)(X:CT D){β:Type}(g el:Nat)(l:List Ar)(f:List (D el)→TupA D l→Option β)(vr:β→VR D)(ot:β→Option (List (D el))):Prop:=
 ∀rows x r,f rows x=some r→CallT P X.C.gi g (X.C.i el).size (rows.map (X.R el)) (tsOf X l x) (X.eR (vr r)) ((ot r).map fun l=>l.map (X.R el))
def castO{el z:Nat}(h:z=el)(o:Option (List (D el))):Option (List (D z)):=h▸o
def entT{β:Type}(el:Nat)(l:List Ar)(f:List (D el)→TupA D l→Option β)(vr:β→VR D)(ot:β→Option (List (D el))):EntryT D:=
 fun m z rows r K=>if h:z=el then optK (rdAs m l r) fun x=>optK (f (h▸rows) x) fun o=>K (vr o) (castO h (ot o))else False
theorem DoesT.en{P:Program}{β:Type}{g el:Nat}{l:List Ar}{f:List (D el)→TupA D l→Option β}{vr:β→VR D}{ot:β→Option (List (D el))}(h:DoesT P X g el l f vr ot)(hc:X.C.ct=CallT P X.C.gi):EntryTOK X g (entT el l f vr ot):=by
 intro m z rows r K hK
 unfold entT at hK
 split at hK
 ·rename_i e
  subst e
  obtain⟨x,hx,hK⟩:=optK_some hK
  obtain⟨o,ho,hK⟩:=optK_some hK
  exact⟨tsOf X l x,vr o,ot o,rdAs_ok hx,by rw[hc];exact h rows x o ho,hK⟩
 ·exact hK.elim
def stT(el:Nat)(l:List Ar)(rows:List (D el))(x:TupA D l):VSt D:=⟨(0,.ref 700000 0)::stA 1 l x,[(700000,some (.row 0 el rows))]⟩
theorem doesT_of{P:Program}{cl:Calls' D}{β:Type}(ok:CallsOK X cl)(H:CtxOK P X.C)(hm:P.follows .mixedOrders=true){g:FuncId}{fn:Func}{body:Code}{el:Nat}{l:List Ar}{f:List (D el)→TupA D l→Option β}{vr:β→VR D}{pl:Plan}{k:Nat}{cu:Cuts D}{tys:List (List Nat)}
 (hf:P.funcs[g]? =some fn) (hb:fn.body=some body) (hok:fnTOK fn body l.length=true) (hc:CutOK X pl k cu fn.results.toList body)
 (h:∀rows x (R:VR D→Prop),optK (f rows x) (fun r=>R (vr r))→Hold (wpT X cl pl cu fn.results.toList tys body (stT el l rows x) (endQ X fn.results.toList tys R) R)):DoesT P X g el l f vr (fun _=>none):=by
 intro rows x r hx
 refine ownCall_of H hm (pl:=plE X pl) (k:=k) hf hb (by rw[tsOf_len];exact hok) ?_
 have hw:=(h rows x (fun r'=>r'=vr r) (by rw[hx];rfl)).out
 have e:X.eSt (stT el l rows x)=argT (X.C.i el).size (rows.map (X.R el)) (tsOf X l x):=by
  simp only[stT,CT.eSt,argT,List.map_cons,eSt_stA,List.map_nil,CT.eS]
  rfl
 rw[←e]
 refine wpT_sound ok body _ _ (fun r'=>r'=vr r) _ hc ⟨fun e st' h'=> ?_,fun r' st' h1 h2=> ?_⟩ hw
 ·cases e with
  |normal=>
   obtain⟨r',h1,h2⟩:=ret_ok (X:=X) (tys:=tys) (R:=fun r'=>r'=vr r) (st:=st') h'
   subst h2
   exact h1
  |ret=>exact h'.elim
  |exit j=>exact h'.elim
 ·subst h1
  exact h2
end
end Go.Pv
