/- Plain lemmas and definitions. Nothing is claimed here. -/
import Derived.Test.YtabadclgcgdccaaGreatDoorPv35
set_option linter.unusedSimpArgs false
set_option linter.unusedVariables false
namespace Go.Pv
open Go Go.RowKit
def numb{α β:Type}(f:α→β):Nat→List α→List (Nat×β)
 |_,[]=>[]
 |i,a::l=>(i,f a)::numb f (i+1) l
def kq(n q:Nat):Nat×Option Nat:=(n % q,match n/q with|0=>none|e+1=>some e)
def kp(l:List Nat):Keep:=l.map fun n=>bif Nat.ble 1000000000 n then kq (n -1000000000) 1000000000 else kq n 10000
def pln(r b:List (List Nat))(c:List (Nat×List Nat×List Nat)):Plan:=⟨numb kp 0 r,numb kp 0 b,c.map fun p=>(p.1,kp p.2.1,kp p.2.2)⟩
def mtMe:List Nat→List (Nat×Do)
 |[]=>[]
 |n::l=>match n/1000 with|0=>mtMe l|_=>(500000+n % 1000,.row)::mtMe l
def mt(l:List Nat):Tm:=⟨l.map fun n=>(n % 1000,match n/1000 with|0=> .hole|_=> .ref (500000+n % 1000)),mtMe l⟩
@[reducible] def ki:Sg:= .ki .i64
def vi{D:Nat→Type}(n:Int):V D:= .int .i64 n
section
variable {D:Nat→Type} {X:CT D}
inductive DE(X:CT D) where
 |p (g:Nat) (e:Entry D) (h:EntryOK X g e)
 |w (g:Nat) (e:EntryW D) (h:EntryWOK X g e)
 |q (g:Nat) (e:EntryP D) (h:EntryPOK X g e)
 |b (g:Nat) (e:EntryB D) (h:EntryBOK X g e)
 |t (g:Nat) (e:EntryT D) (h:EntryTOK X g e)
def clP:List (DE X)→List (Nat×Entry D)
 |[]=>[]
 | .p g e _::l=>(g,e)::clP l
 |_::l=>clP l
def clW:List (DE X)→List (Nat×EntryW D)
 |[]=>[]
 | .w g e _::l=>(g,e)::clW l
 |_::l=>clW l
def clQ:List (DE X)→List (Nat×EntryP D)
 |[]=>[]
 | .q g e _::l=>(g,e)::clQ l
 |_::l=>clQ l
def clB:List (DE X)→List (Nat×EntryB D)
 |[]=>[]
 | .b g e _::l=>(g,e)::clB l
 |_::l=>clB l
def clT:List (DE X)→List (Nat×EntryT D)
 |[]=>[]
 | .t g e _::l=>(g,e)::clT l
 |_::l=>clT l
def cls(l:List (DE X)):Calls' D:=⟨clP l,clW l,clQ l,clB l,clT l⟩
theorem cls_ok(h:CodOK X):∀l:List (DE X),CallsOK X (cls l)
 |[]=> .nil h
 | .p _ _ e::l=> .cons e (cls_ok h l)
 | .w _ _ e::l=> .consW e (cls_ok h l)
 | .q _ _ e::l=> .consP e (cls_ok h l)
 | .b _ _ e::l=> .consB e (cls_ok h l)
 | .t _ _ e::l=> .consT e (cls_ok h l)
structure CO(P:Program)(X:CT D):Prop where
 cod:CodOK X
 ctx:CtxOK P X.C
 mix:P.follows .mixedOrders=true
 cs:X.C.cs=CallOK P X.C.gi
structure CutP(X:CT D)(pl:Plan)(k:Nat)(rs:List ResultVar)(b:Code) where
 cond:Bool
 id:Nat
 pa:List Nat
 c:Cut D
 ok:CutFor X pl k rs c (sub b pa)
variable {pl:Plan} {k:Nat} {rs:List ResultVar} {b:Code} {P:Program}
def cuB:List (CutP X pl k rs b)→List (Nat×Option (Cut D))
 |[]=>[]
 |c::l=>bif c.cond then cuB l else(c.id,some c.c)::cuB l
def cuC:List (CutP X pl k rs b)→List (Nat×Option (Cut D))
 |[]=>[]
 |c::l=>bif c.cond then(c.id,some c.c)::cuC l else cuC l
def cus(l:List (CutP X pl k rs b)):Cuts D:=⟨cuB l,cuC l⟩
def cuL:List (CutP X pl k rs b)→List (Cut D×Code)
 |[]=>[]
 |c::l=>(c.c,sub b c.pa)::cuL l
theorem cuL_ok:∀l:List (CutP X pl k rs b),AllP (fun x:Cut D×Code=>CutFor X pl k rs x.1 x.2) (cuL l)
 |[]=>trivial
 |c::l=>⟨c.ok,cuL_ok l⟩
theorem cus_ok{l:List (CutP X pl k rs b)}{c:Code}(h:cutList (cus l) c=cuL l):CutOK X pl k (cus l) rs c:=cutOK_of h (cuL_ok l)
def lc{α:Type}(co:CO P X)(cl:List (DE X))(tys:List (List Nat))(cu:List (CutP X pl k rs b))(id:Nat)(pa:List Nat)(tm:Tm)(sg:List Sg)(f:Nat→Tup D sg→Option α)(L:Tup D sg→α→(Ex→VSt D→Prop)→(VR D→Prop)→Prop)
    (h0:∀x,f 0 x=none) (h1:cutList (cus cu) (sub b (pa++[0,0]))=cuL cu) (h2:sub b pa= .block id (.loop (sub b (pa++[0,0]))))
    (hs:∀n x Q R,optK (f (n+1) x) (fun o=>L x o Q R)→Hold (wpT X (cls cl) pl (cus cu) rs tys (sub b (pa++[0,0])) (mkSt tm (mkTp sg x)) (fun e st'=>
     match e with
     | .normal=>cutS tm sg (f n) L st' Q R
     | .exit j=>bcond (Nat.beq j id) (Q .normal (keepT X (look pl.blk id []) st')) (Q (.exit j) st')
     | .ret=>False) R)):CutP X pl k rs b:=
 ⟨false,id,pa,cutS tm sg (f k) L,loopCut_s (X:=X) (sg:=sg) (cu:=cus cu) (cl:=cls cl) (tys:=tys) (id:=id) (c:=sub b (pa++[0,0])) (f:=f) (cls_ok co.cod cl) (cus_ok h1) h0 hs h2⟩
def jc{α:Type}(co:CO P X)(cl:List (DE X))(tys:List (List Nat))(cu:List (CutP X pl k rs b))(cond:Bool)(id:Nat)(pa:List Nat)(tm:Tm)(sg:List Sg)(f:Tup D sg→Option α)(L:Tup D sg→α→(Ex→VSt D→Prop)→(VR D→Prop)→Prop)
    (h1:cutList (cus cu) (sub b pa)=cuL cu)
    (hs:∀x Q R,optK (f x) (fun o=>L x o Q R)→Hold (wpT X (cls cl) pl (cus cu) rs tys (sub b pa) (mkSt tm (mkTp sg x)) Q R)):CutP X pl k rs b:=
 ⟨cond,id,pa,cutS tm sg f L,joinCut_s (X:=X) (sg:=sg) (cu:=cus cu) (cl:=cls cl) (tys:=tys) (cls_ok co.cod cl) (cus_ok h1) hs⟩
theorem does_l{α:Type}(co:CO P X){g:Nat}(fn:Func)(hf:P.funcs[g]? =some fn)(pl:Plan)(k:Nat)(tys:List (List Nat))(cl:List (DE X))(cu:List (CutP X pl k fn.results.toList (bodyOf fn)))(l:List Ar)(f:TupA D l→Option α)(vr:α→VR D)
 (hb:fn.body=some (bodyOf fn)) (hok:fnOK fn (bodyOf fn) l.length=true) (h1:cutList (cus cu) (bodyOf fn)=cuL cu)
 (h:∀x (R:VR D→Prop),optK (f x) (fun r=>R (vr r))→Hold (wpT X (cls cl) pl (cus cu) fn.results.toList tys (bodyOf fn) ⟨stA 0 l x,[]⟩ (endQ X fn.results.toList tys R) R)):Does P X g l f vr:=
 does_of (pl:=pl) (k:=k) (cu:=cus cu) (tys:=tys) (cls_ok co.cod cl) co.ctx co.mix hf hb hok (cus_ok h1) h
def fn{α:Type}(co:CO P X){g:Nat}(fn:Func)(hf:P.funcs[g]? =some fn)(pl:Plan)(k:Nat)(tys:List (List Nat))(cl:List (DE X))(cu:List (CutP X pl k fn.results.toList (bodyOf fn)))(l:List Ar)(f:TupA D l→Option α)(vr:α→VR D)
    (hb:fn.body=some (bodyOf fn)) (hok:fnOK fn (bodyOf fn) l.length=true) (h1:cutList (cus cu) (bodyOf fn)=cuL cu)
    (h:∀x (R:VR D→Prop),optK (f x) (fun r=>R (vr r))→Hold (wpT X (cls cl) pl (cus cu) fn.results.toList tys (bodyOf fn) ⟨stA 0 l x,[]⟩ (endQ X fn.results.toList tys R) R)):DE X:=
 .p g (entS l f vr) ((does_l co fn hf pl k tys cl cu l f vr hb hok h1 h).en co.cs)
end
end Go.Pv
