/- Plain lemmas and definitions. Nothing is claimed here. -/
import Derived.Test.YtabadclgcgdccaaGreatDoorPv20
set_option linter.unusedSimpArgs false
set_option linter.unusedVariables false
namespace Go.Pv
open Go Go.RowKit
inductive V(D:Nat→Type) where
 |int (k:IntKind) (n:Int)
 |bool (b:Bool)
 |str (s:List UInt8)
 |err (e:Bool)
 |sl (ty:Nat) (l:List (D ty))
inductive VS(D:Nat→Type) where
 |t (x:V D)
 |nil
 |gone
 |ref (id ver:Nat)
 |ptr (id off:Nat)
 |rptr (l:List (V D))
 |eptr (id ver:Nat) (i:Int) (off:Nat)
 |vw (id ver:Nat) (lo:Int)
 |fs (ty:Nat) (l:List (D ty))
 |agg (l:List (VS D))
 |tup (l:List (VS D))
 |clo (f:FuncId) (l:List (VS D))
inductive VM(D:Nat→Type) where
 |var (l:List (VS D))
 |row (ver ty:Nat) (l:List (D ty))
 |rowv (ver ty:Nat) (l:List (D ty)) (i:Int) (cs:List (VS D))
def asRowT{D:Nat→Type}:Option (VM D)→Option (VM D)
 |some (.rowv v ty l _ _)=>some (.row v ty l)
 |o=>o
structure VSt(D:Nat→Type) where
 sl:List (Nat×VS D)
 me:List (Nat×Option (VM D))
inductive VP(D:Nat→Type) where
 |c (x:V D)
 |agg (l:List (V D))
inductive VR(D:Nat→Type) where
 |p (x:VP D)
 |tup (l:List (VP D))
section
variable {D:Nat→Type}
def VSt.s(st:VSt D)(t:Nat):VS D:=look st.sl t .gone
def VSt.m(st:VSt D)(id:Nat):Option (VM D):=look st.me id none
structure CT(D:Nat→Type) where
 C:Ctx
 R:∀ty,D ty→List T
 E:∀ty,D ty→List (V D)
 dec:∀ty,List (V D)→Option (D ty)
 ofB:∀ty,List Int→Option (List (D ty))
 toB:∀ty,List (D ty)→Option (List Int)
 cel:List (Nat×List Nat)
abbrev Entry (D:Nat→Type):=(Nat→Option (VM D))→List (VS D)→(VR D→Prop)→Prop
abbrev EntryW (D:Nat→Type):=(Nat→Option (VM D))→List (VS D)→(V D→List (Nat×Option (VM D))→Prop)→Prop
abbrev EntryP (D:Nat→Type):=(Nat→Option (VM D))→List (V D)→List (VS D)→(VR D→List (V D)→Prop)→Prop
abbrev EntryB (D:Nat→Type):=(Nat→Option (VM D))→List (VS D)→(List (V D)→Prop)→Prop
abbrev EntryT (D:Nat→Type):=(Nat→Option (VM D))→(el:Nat)→List (D el)→List (VS D)→(VR D→Option (List (D el))→Prop)→Prop
structure Calls'(D:Nat→Type) where
 p:List (Nat×Entry D)
 w:List (Nat×EntryW D)
 q:List (Nat×EntryP D)
 b:List (Nat×EntryB D)
 t:List (Nat×EntryT D)
def CT.er(X:CT D):V D→T
 | .int k n=> .int k n
 | .bool b=> .bool b
 | .str s=> .str s
 | .err e=> .err e
 | .sl ty l=> .sl (X.C.i ty).size (l.map (X.R ty))
mutual
def CT.eS(X:CT D):VS D→SV
 | .t x=> .t (X.er x)
 | .nil=> .nil
 | .gone=> .gone
 | .ref id ver=> .ref id ver
 | .ptr id off=> .ptr id off
 | .rptr l=> .rptr (l.map X.er)
 | .eptr id ver i off=> .eptr id ver i off
 | .vw id ver lo=> .vw id ver lo
 | .fs ty l=> .fs (X.C.i ty).size (l.map (X.R ty))
 | .agg l=> .agg (CT.eL X l)
 | .tup l=> .tup (CT.eL X l)
 | .clo f l=> .clo f (CT.eL X l)
def CT.eL(X:CT D):List (VS D)→List SV
 |[]=>[]
 |a::l=>CT.eS X a::CT.eL X l
end
theorem CT.eL_map(X:CT D)(l:List (VS D)):X.eL l=l.map X.eS:=by
 induction l with
 |nil=>simp[CT.eL]
 |cons a l ih=>simp[CT.eL,ih]
def CT.eM(X:CT D):VM D→MO
 | .var l=> .var (X.eL l)
 | .row ver ty l=> .row ver (X.C.i ty).size (l.map (X.R ty))
 | .rowv ver ty l i cs=> .rowv ver (X.C.i ty).size (l.map (X.R ty)) i (X.eL cs)
def CT.eO(X:CT D)(o:Option (VM D)):Option MO:=match o with|some v=>some (X.eM v)|none=>none
def CT.eSt(X:CT D)(st:VSt D):St:=⟨st.sl.map fun p=>(p.1,X.eS p.2),st.me.map fun p=>(p.1,X.eO p.2)⟩
def CT.eP(X:CT D):VP D→T
 | .c x=>X.er x
 | .agg l=> .agg (l.map X.er)
def CT.eR(X:CT D):VR D→T
 | .p x=>X.eP x
 | .tup l=> .tup (l.map X.eP)
def scalTy(X:CT D)(el:Nat):Bool:=(look X.cel el [1]).all fun e=>Nat.beq e 0
structure CodOK(X:CT D):Prop where
 E:∀ty x,(X.E ty x).map X.er=X.R ty x
 dec:∀ty l x,X.dec ty l=some x→l.map X.er=X.R ty x
 ofB:∀ty l r,X.ofB ty l=some r→r.map (X.R ty)=rowsI .u8 l
 toB:∀ty l r,X.toB ty l=some r→l.map (X.R ty)=rowsI .u8 r
 scal:∀ty,scalTy X ty=true→∀x,∀t∈X.R ty x,t.scalar=true
def constT:Value→VS D
 | .int k n=> .t (.int k n)
 | .bool b=> .t (.bool b)
 | .string s=> .t (.str s.data.toList)
 | .slice none 0 0=> .nil
 | .nilIface=> .t (.err false)
 | .func (.func f) ⟨[]⟩ ⟨[]⟩=> .clo f []
 |_=> .gone
def opT(s:Nat→VS D):Operand→VS D
 | .tmp t=>s t
 | .const v=>constT v
 | .func f=> .clo f []
 | .global _=> .gone
def liftT:SV→Option (VS D)
 | .t (.int k n)=>some (.t (.int k n))
 | .t (.bool b)=>some (.t (.bool b))
 | .t (.str s)=>some (.t (.str s))
 | .t (.err e)=>some (.t (.err e))
 | .nil=>some .nil
 |_=>none
def liftL:List SV→Option (List (VS D))
 |[]=>some []
 |a::l=>match liftT a,liftL l with
  |some b,some r=>some (b::r)
  |_,_=>none
def VS.cells:VS D→List (VS D)
 | .agg l=>l
 |v=>[v]
def valT(agg:Bool)(l:List (VS D)):VS D:=bif agg then .agg l else l.headD .gone
def okT:VS D→Bool
 | .gone=>false
 | .tup _=>false
 |_=>true
def cellT:VS D→Bool
 | .agg _=>false
 |v=>okT v
def fillAtT(cs:List (VS D))(off:Nat)(l:List (VS D)):List (VS D):=cs.take off++l++cs.drop (off+l.length)
def fillT(places:Nat→Option (Nat×Nat)):List (VS D)→List (Nat×VS D)→Option (List (VS D))
 |cs,[]=>some cs
 |cs,(i,v)::r=>
  match places i with
  |none=>none
  |some (off,size)=>bif okT v&&Nat.beq v.cells.length size&&Nat.ble (off+size) cs.length then fillT places (fillAtT cs off v.cells) r else none
def rdoT(m:Nat→Option (VM D))(ety:Nat):VS D→Option (V D)
 | .t (.int k n)=>some (.int k n)
 | .t (.bool b)=>some (.bool b)
 | .t (.str s)=>some (.str s)
 | .t (.err e)=>some (.err e)
 | .nil=>some (.sl ety [])
 | .ref id ver=>
   match m id with
   |some (.row v ty l)=>bif Nat.beq v ver then some (.sl ty l)else none
   |_=>none
 | .vw id ver lo=>
   match m id with
   |some (.row v ty l)=>bif Nat.beq v ver then some (.sl ty (l.drop lo.toNat))else none
   |_=>none
 |_=>none
def rdoL(m:Nat→Option (VM D)):List Nat→List (VS D)→Option (List (V D))
 |_,[]=>some []
 |e,a::l=>match rdoT m (e.headD 0) a,rdoL m e.tail l with
  |some x,some r=>some (x::r)
  |_,_=>none
def rdP(m:Nat→Option (VM D))(e:List Nat):VS D→Option (VP D)
 | .agg l=>match rdoL m e l with|some r=>some (.agg r)|none=>none
 |v=>match rdoT m (e.headD 0) v with|some x=>some (.c x)|none=>none
def rdPs(m:Nat→Option (VM D)):List (List Nat)→List (VS D)→Option (List (VP D))
 |_,[]=>some []
 |e,a::l=>match rdP m (e.headD []) a,rdPs m e.tail l with
  |some x,some r=>some (x::r)
  |_,_=>none
def rdR(m:Nat→Option (VM D))(e:List (List Nat)):List (VS D)→Option (VR D)
 |[v]=>match rdP m (e.headD []) v with|some x=>some (.p x)|none=>none
 |l=>match rdPs m e l with|some r=>some (.tup r)|none=>none
def impCT(base:Nat):Nat→List (V D)→List (VS D)×List (Nat×Option (VM D))
 |_,[]=>([],[])
 |k,.sl ty l::r=>(.ref (base+1000*k) 0::(impCT base (k+1) r).1,(base+1000*k,some (.row 0 ty l))::(impCT base (k+1) r).2)
 |k,x::r=>(.t x::(impCT base k r).1,(impCT base k r).2)
def impPT(base k:Nat):VP D→VS D×List (Nat×Option (VM D))
 | .c (.sl ty l)=>(.ref (base+1000*k) 0,[(base+1000*k,some (.row 0 ty l))])
 | .c x=>(.t x,[])
 | .agg l=>(.agg (impCT base k l).1,(impCT base k l).2)
def impPsT(base:Nat):Nat→List (VP D)→List (VS D)×List (Nat×Option (VM D))
 |_,[]=>([],[])
 |k,x::r=>((impPT base k x).1::(impPsT base (k+100) r).1,(impPT base k x).2++(impPsT base (k+100) r).2)
def impT(base:Nat):VR D→VS D×List (Nat×Option (VM D))
 | .tup l=>(.tup (impPsT base 1 l).1,(impPsT base 1 l).2)
 | .p x=>impPT base 1 x
structure EfT(D:Nat→Type) where
 val:VS D
 mw:List (Nat×Option (VM D))
 fp:List Nat
 tok:List (Nat×Nat)
def CT.eE(X:CT D)(e:EfT D):Eff:=⟨X.eS e.val,e.mw.map fun p=>(p.1,X.eO p.2),e.fp,e.tok⟩
def pureT(v:VS D):EfT D:=⟨v,[],[],[]⟩
def asL(m:Nat→Option (VM D))(ty:Nat)(sv:VS D)(K:List (D ty)→Prop):Prop:=
 match sv with
 | .t (.sl ty' l)=>if h:ty'=ty then K (h▸l)else False
 | .nil=>K []
 | .ref id ver=>
   match m id with
   |some (.row v ty' l)=>bcond (Nat.beq v ver) (if h:ty'=ty then K (h▸l)else False) False
   |_=>False
 |_=>False
def asS(sv:VS D)(K:List UInt8→Prop):Prop:=match sv with| .t (.str s)=>K s|_=>False
def asI(k:IntKind)(sv:VS D)(K:Int→Prop):Prop:=match sv with| .t (.int k' n)=>bcond (decide (k'=k)) (K n) False|_=>False
def asB(sv:VS D)(K:Bool→Prop):Prop:=match sv with| .t (.bool b)=>K b|_=>False
def asE(sv:VS D)(K:Bool→Prop):Prop:=match sv with| .t (.err b)=>K b|_=>False
def dv(a b:Int):Option Int:=if b=0 then none else some (a.tdiv b)
def md(a b:Int):Option Int:=if b=0 then none else some (a.tmod b)
def intBinT(op:BinOp)(k:IntKind)(a b:Int):Option (V D):=
 match op with
 | .add=>some (.int k (k.wrap (a+b)))
 | .sub=>some (.int k (k.wrap (a -b)))
 | .mul=>some (.int k (k.wrap (a*b)))
 | .and=>some (.int k (andI k a b))
 | .or=>some (.int k (orI k a b))
 | .xor=>some (.int k (xorI k a b))
 | .eql=>some (.bool (a==b))
 | .neq=>some (.bool (a !=b))
 | .lss=>some (.bool (decide (a<b)))
 | .leq=>some (.bool (decide (a≤b)))
 | .gtr=>some (.bool (decide (a>b)))
 | .geq=>some (.bool (decide (a≥b)))
 |_=>none
def strBinT(op:BinOp)(a b:List UInt8):Option (V D):=
 match op with
 | .eql=>some (.bool (a==b))
 | .neq=>some (.bool (!(a==b)))
 | .lss=>some (.bool (Op.bytesLess a b))
 | .leq=>some (.bool (Op.bytesLess a b||a==b))
 | .gtr=>some (.bool (!(Op.bytesLess a b||a==b)))
 | .geq=>some (.bool (!(Op.bytesLess a b)))
 |_=>none
def eqV:V D→V D→Option Bool
 | .int k a,.int k' b=>bif decide (k=k')then some (a==b)else none
 | .bool a,.bool b=>some (a==b)
 | .str a,.str b=>some (a==b)
 |_,_=>none
def eqVs:List (VS D)→List (VS D)→Option Bool
 |[],[]=>some true
 | .t a::l,.t b::r=>
   match l,r with
   |[],[]=>eqV a b
   |_,_=>match eqV a b,eqVs l r with
    |some p,some q=>some (p&&q)
    |_,_=>none
 |_,_=>none
def pickT(p:Bool)(a b:VS D)(K:EfT D→Prop):Prop:=
 match a,b with
 | .t (.bool x),.t (.bool y)=>K (pureT (.t (.bool (bif p then x else y))))
 | .t (.int k x),.t (.int k' y)=>bcond (decide (k=k')) (K (pureT (.t (.int k (bif p then x else y))))) False
 | .t (.str x),.t (.str y)=>K (pureT (.t (.str (bif p then x else y))))
 |a,b=>bcond p (K (pureT a)) (K (pureT b))
def okSlB(C:Ctx)(ty:Nat):Bool:=Nat.beq (C.i ty).kind 2&&Nat.ble 1 (C.i (C.i ty).elem).kind&&Nat.ble 1 (C.i (C.i ty).elem).size&&Nat.beq (C.i (C.i ty).elem).zero.length (C.i (C.i ty).elem).size&&Nat.ble 1 (C.i (C.i ty).elem).bytes
def appT(X:CT D)(m:Nat→Option (VM D))(ty d:Nat)(dst:VS D)(el:Nat)(new:List (D el))(gone:List (Nat×Option (VM D)))(fp:List Nat)(K:EfT D→Prop):Prop:=
 match dst with
 | .nil=>bcond (okSlB X.C ty&&Nat.beq (X.C.i ty).elem el) (optK (app (X.C.i el).bytes [] new) fun rows=>K ⟨.ref d 0,(d,some (.row 0 el rows))::gone,d::fp,[(d,0)]⟩) False
 | .ref id ver=>
   match m id with
   |some (.row v z old)=>bcond (Nat.beq ver 1)
    (bcond (okSlB X.C ty&&Nat.beq (X.C.i ty).elem el&&Nat.beq v ver&&scalTy X el)
     (if h:z=el then optK (appF (X.C.i el).bytes (h▸old) new) fun rows=>K ⟨.ref d 0,[(d,some (.row 0 el rows))],d::id::fp,[(d,0)]⟩else False) False)
    (bcond (okSlB X.C ty&&Nat.beq (X.C.i ty).elem el&&Nat.beq v ver&& !memN id (keys gone))
     (if h:z=el then optK (app (X.C.i el).bytes (h▸old) new) fun rows=>K ⟨.ref id (d+2),(id,some (.row (d+2) el rows))::gone,id::fp,[(id,d+2)]⟩else False) False)
   |_=>False
 |_=>False
def builtinT(X:CT D)(m:Nat→Option (VM D))(b:Builtin)(argTypes:List Nat)(d:Nat)(args:List (VS D))(K:EfT D→Prop):Prop:=
 match b,args with
 | .len,[.t (.str l)]=>bcond (Nat.beq (X.C.i (argTypes.headD 0)).kind 1) (K (pureT (.t (.int .i64 (l.length:Int))))) False
 | .len,[.t (.sl _ rows)]=>bcond (Nat.beq (X.C.i (argTypes.headD 0)).kind 2) (K (pureT (.t (.int .i64 (rows.length:Int))))) False
 | .len,[.nil]=>bcond (Nat.beq (X.C.i (argTypes.headD 0)).kind 2) (K (pureT (.t (.int .i64 0)))) False
 | .len,[.ref id ver]=>
   match m id with
   |some (.row v _ rows)=>bcond (Nat.beq v ver&&Nat.beq (X.C.i (argTypes.headD 0)).kind 2) (K ⟨.t (.int .i64 (rows.length:Int)),[],[id],[]⟩) False
   |_=>False
 | .clear,[.vw id ver lo]=>
   match m id with
   |some (.row v z rows)=>bcond (Nat.beq v ver&&Nat.beq (X.C.i (argTypes.headD 0)).kind 2&&Nat.ble 1 (X.C.i (X.C.i (argTypes.headD 0)).elem).kind&&Nat.ble 1 (X.C.i (X.C.i (argTypes.headD 0)).elem).size&&Nat.beq z (X.C.i (argTypes.headD 0)).elem&&
    Nat.beq (X.C.i (X.C.i (argTypes.headD 0)).elem).zero.length (X.C.i (X.C.i (argTypes.headD 0)).elem).size&&(refsL (refs 4) (X.C.i (X.C.i (argTypes.headD 0)).elem).zero).isEmpty&&(X.C.i (X.C.i (argTypes.headD 0)).elem).zero.all cell1)
    (optK (liftL (X.C.i (X.C.i (argTypes.headD 0)).elem).zero) fun y=>optK (rdoL m (look X.cel z []) y) fun y=>optK (X.dec z y) fun y=>K ⟨.gone,[(id,some (.row v z (rows.take lo.toNat++List.replicate (rows.length -lo.toNat) y)))],[id],[]⟩) False
   |_=>False
 | .copy,[.vw id ver lo,.t (.str l)]=>
   match m id with
   |some (.row v z rows)=>bcond (Nat.beq v ver&&Nat.beq (X.C.i z).size 1&&Nat.beq (X.C.i (argTypes.headD 0)).kind 2&&Nat.ble 1 (X.C.i (X.C.i (argTypes.headD 0)).elem).kind&&Nat.beq (X.C.i (X.C.i (argTypes.headD 0)).elem).size 1)
    (optK (X.ofB z (intsOf l)) fun new=>K ⟨.t (.int .i64 ((min l.length (rows.length -lo.toNat):Nat):Int)),[(id,some (.row v z (overR rows lo.toNat new)))],[id],[]⟩) False
   |_=>False
 | .min,[.t (.int k a),.t (.int _ b)]=>K (pureT (.t (.int k (if b<a then b else a))))
 | .max,[.t (.int k a),.t (.int _ b)]=>K (pureT (.t (.int k (if b>a then b else a))))
 | .append,[dst,src]=>
   match argTypes with
   |[ty,ty2]=>
    match src with
    | .nil=>bcond (Nat.beq (X.C.i ty2).kind 2) (appT X m ty d dst (X.C.i ty).elem [] [] [] K) False
    | .t (.sl z rows)=>bcond (Nat.beq (X.C.i ty2).kind 2&&scalTy X z) (appT X m ty d dst z rows [] [] K) False
    | .t (.str l)=>bcond (Nat.beq (X.C.i ty2).kind 1&&Nat.beq (X.C.i (X.C.i ty).elem).size 1) (optK (X.ofB (X.C.i ty).elem (intsOf l)) fun new=>appT X m ty d dst (X.C.i ty).elem new [] [] K) False
    | .ref id ver=>
      match m id with
      |some (.row v z rows)=>bcond (Nat.beq (X.C.i ty2).kind 2&&Nat.beq v ver) (appT X m ty d dst z rows [(id,none)] [id] K) False
      |_=>False
    | .fs z2 new=>
      match dst with
      | .fs z old=>bcond (Nat.beq (X.C.i ty2).kind 2&&okSlB X.C ty&&Nat.beq (X.C.i ty).elem z&&scalTy X z)
        (if h:z2=z then optK (appF (X.C.i z).bytes old (h▸new)) fun rows=>K ⟨.ref d 0,[(d,some (.row 0 z rows))],[d],[(d,0)]⟩else False) False
      |_=>False
    |_=>False
   |_=>False
 |_,_=>False
def decAll(X:CT D)(ty:Nat)(m:Nat→Option (VM D)):List (List (VS D))→Option (List (D ty))
 |[]=>some []
 |cs::l=>match rdoL m (look X.cel ty []) cs with
  |some vs=>match X.dec ty vs,decAll X ty m l with
   |some x,some r=>some (x::r)
   |_,_=>none
  |none=>none
def allT:List (VS D)→Option (List (V D))
 |[]=>some []
 | .t x::l=>match allT l with|some r=>some (x::r)|none=>none
 |_=>none
def refsT:VS D→List Nat
 | .ref id _=>[id]
 |_=>[]
def allV:List (VS D)→Option (List (V D))
 |[]=>some []
 | .t (.int k n)::l=>match allV l with|some r=>some (.int k n::r)|none=>none
 | .t (.bool b)::l=>match allV l with|some r=>some (.bool b::r)|none=>none
 | .t (.str s)::l=>match allV l with|some r=>some (.str s::r)|none=>none
 | .t (.err e)::l=>match allV l with|some r=>some (.err e::r)|none=>none
 |_=>none
def loT(s:Nat→VS D):Option Operand→VS D
 |some l=>opT s l
 |none=> .t (.int .i64 0)
def hiT(s:Nat→VS D)(n:Int):Option Operand→VS D
 |some h=>opT s h
 |none=> .t (.int .i64 n)
def effT(X:CT D)(cl:Calls' D)(s:Nat→VS D)(m:Nat→Option (VM D))(o:Oper)(K:EfT D→Prop):Prop:=
 let d:=o.dst.getD 0
 let C:=X.C
 match o.op with
 | .move x| .assign x=>K (pureT (opT s x))
 | .pick c a b=>
   match opT s c with
   | .t (.bool p)=>pickT p (opT s a) (opT s b) K
   |_=>False
 | .alloc t=>bcond (Nat.ble 1 (C.i t).kind) (optK (liftL (C.i t).zero) fun z=>K ⟨.ptr d 0,[(d,some (.var z))],[d],[(d,0)]⟩) False
 | .box _ x=>bcond (okT (opT s x)) (K ⟨.ptr d 0,[(d,some (.var (opT s x).cells))],[d],[(d,0)]⟩) False
 | .build t parts=>
   bcond (Nat.beq (C.i t).kind 3&&(C.i t).fields.all fun f=>Nat.ble 1 (C.i f.2).kind) (optK (liftL (C.i t).zero) fun z=>
    optK (fillT (fun k=>((C.i t).fields[k]?).map fun f=>(f.1,(C.i f.2).size)) z (parts.toList.map fun p=>(p.1,opT s p.2))) fun cs=>K (pureT (.agg cs))) False
 | .buildSlice t len parts=>
   bcond (okSlB C t&&Nat.ble (len*(C.i (C.i t).elem).size) 4096) (optK (liftL ((List.replicate len (C.i (C.i t).elem).zero).flatten)) fun z=>
    optK (fillT (fun k=>some (k*(C.i (C.i t).elem).size,(C.i (C.i t).elem).size)) z (parts.toList.map fun p=>(p.1,opT s p.2))) fun cs=>
    optK (decAll X (C.i t).elem m (rowsN (C.i (C.i t).elem).size len cs)) fun rows=>
     bcond (nodupN (refsL (refs 4) (X.eL cs))&&(X.eL cs).all cell1) (K ⟨.ref d (fv C t len),(d,some (.row (fv C t len) (C.i t).elem rows))::(refsL (refs 4) (X.eL cs)).map (fun id=>(id,none)),d::refsL (refs 4) (X.eL cs),fvT C t len d⟩) False) False
 | .makeSlice t n c=>
   match opT s n,opT s c with
   | .t (.int .i64 n),.t (.int .i64 c)=>
     bcond (okSlB C t&&(refsL (refs 4) (C.i (C.i t).elem).zero).isEmpty&&(C.i (C.i t).elem).zero.all cell1) (optK (liftL (C.i (C.i t).elem).zero) fun z=>optK (rdoL m (look X.cel (C.i t).elem []) z) fun z=>optK (X.dec (C.i t).elem z) fun z=>
      bcond (n==c) (optK (mks (C.i (C.i t).elem).bytes n z) fun rows=>K ⟨.ref d 0,[(d,some (.row 0 (C.i t).elem rows))],[d],[(d,0)]⟩) False) False
   |_,_=>False
 | .load t a=>
   match opT s a with
   | .ptr id off=>
     match m id with
     |some (.var l)=>bcond (Nat.ble 1 (C.i t).kind&&Nat.ble 1 (C.i t).size&&Nat.ble (off+(C.i t).size) l.length) (K ⟨valT (C.i t).agg ((l.drop off).take (C.i t).size),[],[id],[]⟩) False
     |_=>False
   | .rptr l=>bcond (Nat.ble 1 (C.i t).kind&&Nat.ble 1 (C.i t).size&&Nat.ble (C.i t).size l.length) (K (pureT (valT (C.i t).agg ((l.take (C.i t).size).map VS.t)))) False
   | .eptr id ver j off=>
     match m id with
     |some (.row v z rows)=>bcond (Nat.beq v ver&&Nat.ble 1 (C.i t).kind&&Nat.ble 1 (C.i t).size) (optK (idx rows j) fun x=>bcond ((C.i t).zero.all svScal)
      (optK (allV (((X.E z x).map VS.t|>.drop off).take (C.i t).size)) fun vs=>bcond (Nat.ble (off+(C.i t).size) (X.E z x).length) (K ⟨valT (C.i t).agg (vs.map VS.t),[],[id],[]⟩) False)
      (bcond (Nat.ble (off+(C.i t).size) (X.E z x).length&& !memN id (keys (impCT d 0 (X.E z x)).2))
       (K ⟨valT (C.i t).agg (((impCT d 0 (X.E z x)).1.drop off).take (C.i t).size),(id,some (.rowv ver z rows j (impCT d 0 (X.E z x)).1))::(impCT d 0 (X.E z x)).2,id::keys (impCT d 0 (X.E z x)).2,(impCT d 0 (X.E z x)).2.map fun p=>(p.1,0)⟩) False)) False
     |some (.rowv v _ _ q l)=>bcond (Nat.beq v ver&&Nat.ble 1 (C.i t).kind&&Nat.ble 1 (C.i t).size&&Nat.ble (off+(C.i t).size) l.length) (bcond (q==j) (K ⟨valT (C.i t).agg ((l.drop off).take (C.i t).size),[],[id],[]⟩) False) False
     |_=>False
   |_=>False
 | .store t a x=>
   bcond (Nat.ble 1 (C.i t).kind&&Nat.beq (opT s x).cells.length (C.i t).size&&okT (opT s x)&&(opT s x).cells.all cellT)
    (match opT s a with
    | .ptr id off=>
      match m id with
      |some (.var l)=>bcond (Nat.ble (off+(C.i t).size) l.length) (K ⟨.gone,[(id,some (.var (fillAtT l off (opT s x).cells)))],[id],[]⟩) False
      |_=>False
    | .eptr id ver j off=>
      match m id with
      |some (.row v z rows)=>bcond (Nat.beq v ver) (optK (idx rows j) fun row=>optK (rdoL m ((look X.cel z []).drop off) (opT s x).cells) fun vs=>bcond (Nat.ble (off+(C.i t).size) (X.E z row).length&&nodupN (refsL (refs 4) (X.eL (opT s x).cells))&& !memN id (refsL (refs 4) (X.eL (opT s x).cells)))
       (optK (X.dec z ((X.E z row).take off++vs++(X.E z row).drop (off+(C.i t).size))) fun row'=>K ⟨.gone,(id,some (.row ver z (rows.set j.toNat row')))::(refsL (refs 4) (X.eL (opT s x).cells)).map (fun id=>(id,none)),id::refsL (refs 4) (X.eL (opT s x).cells),[]⟩) False) False
      |some (.rowv v z rows q l)=>bcond (Nat.beq v ver&&Nat.ble (off+(C.i t).size) l.length) (bcond (q==j) (K ⟨.gone,[(id,some (.rowv v z rows q (fillAtT l off (opT s x).cells)))],[id],[]⟩) False) False
      |_=>False
    |_=>False) False
 | .nilCheck x=>
   match opT s x with
   | .ptr id off=>
     match m id with
     |some (.var _)=>K ⟨.ptr id off,[],[id],[]⟩
     |_=>False
   | .rptr l=>K (pureT (.rptr l))
   |_=>False
 | .binOp op t x y _=>
   match opT s x,opT s y with
   | .t (.int k a),.t (.int k' b)=>
     match op with
     | .quo=>bcond (decide (k=k')) (optK (dv a b) fun r=>K (pureT (.t (.int k (k.wrap r))))) False
     | .rem=>bcond (decide (k=k')) (optK (md a b) fun r=>K (pureT (.t (.int k r)))) False
     | .shl=>optK (shlI k a b) fun r=>K (pureT (.t (.int k r)))
     | .shr=>optK (shrI k a b) fun r=>K (pureT (.t (.int k r)))
     |_=>bcond (decide (k=k')) (optK (intBinT op k a b) fun x=>K (pureT (.t x))) False
   | .t (.str a),.t (.str b)=>
     match op with
     | .add=>optK (cat a b) fun u=>K (pureT (.t (.str u)))
     |_=>optK (strBinT op a b) fun x=>K (pureT (.t x))
   | .t (.bool a),.t (.bool b)=>
     bcond (Nat.beq (C.i t).kind 5)
      (match op with
      | .eql=>K (pureT (.t (.bool (a==b))))
      | .neq=>K (pureT (.t (.bool (!(a==b)))))
      |_=>False) False
   | .t (.err a),.t (.err false)=>
     bcond (Nat.beq (C.i t).kind 6&&(match y with| .const _=>true|_=>false))
      (match op with
      | .eql=>K (pureT (.t (.bool (!a))))
      | .neq=>K (pureT (.t (.bool a)))
      |_=>False) False
   | .agg a,.agg b=>
     bcond (memN t C.eqs&&eqTypes C (X.eL a) (C.i t).fields 0)
      (match op with
      | .eql=>optK (eqVs a b) fun p=>K (pureT (.t (.bool p)))
      | .neq=>optK (eqVs a b) fun p=>K (pureT (.t (.bool (!p))))
      |_=>False) False
   |_,_=>False
 | .unOp op _ x=>
   match op,opT s x with
   | .not,.t (.bool b)=>K (pureT (.t (.bool (!b))))
   | .neg,.t (.int k n)=>K (pureT (.t (.int k (k.wrap (0 -n)))))
   |_,_=>False
 | .convert src dst x=>
   match opT s x with
   | .t (.int _ n)=>bcond (Nat.ble 1 (C.i src).kind) (optK (effK.kindOf (C.i dst).kind) fun k=>K (pureT (.t (.int k (k.wrap n))))) False
   | .t (.str l)=>
     match(C.i dst).kind with
     |1=>bcond (Nat.ble 1 (C.i src).kind) (K (pureT (.t (.str l)))) False
     |2=>bcond (Nat.beq (C.i src).kind 1&&Nat.beq (C.i (C.i dst).elem).kind 15&&Nat.beq (C.i (C.i dst).elem).size 1) (optK (X.ofB (C.i dst).elem (intsOf l)) fun r=>K ⟨.ref d 0,[(d,some (.row 0 (C.i dst).elem r))],[d],[(d,0)]⟩) False
     |_=>False
   | .t (.sl z rows)=>bcond (Nat.beq (C.i z).size 1&&Nat.beq (C.i dst).kind 1&&Nat.beq (C.i src).kind 2&&Nat.beq (C.i (C.i src).elem).kind 15) (optK (X.toB z rows) fun l=>K (pureT (.t (.str (bytesOf l))))) False
   | .ref id ver=>
     bcond (Nat.beq (C.i dst).kind 1&&Nat.beq (C.i src).kind 2&&Nat.beq (C.i (C.i src).elem).kind 15)
      (match m id with
      |some (.row v z rows)=>bcond (Nat.beq v ver&&Nat.beq (C.i z).size 1) (optK (X.toB z rows) fun l=>K ⟨.t (.str (bytesOf l)),[],[id],[]⟩) False
      |_=>False) False
   |_=>False
 | .slice t x lo hi mx=>
   match opT s x,mx with
   | .t (.str a),none=>
     match loT s lo,hiT s (a.length:Int) hi with
     | .t (.int _ l),.t (.int _ h)=>bcond (Nat.beq (C.i t).kind 1) (optK (ssub a l h) fun r=>K (pureT (.t (.str r)))) False
     |_,_=>False
   | .t (.sl z rows),none=>
     match loT s lo,hiT s (rows.length:Int) hi with
     | .t (.int _ l),.t (.int _ h)=>bcond (Nat.beq (C.i t).kind 2&&Nat.ble 1 (C.i (C.i t).elem).kind&&Nat.beq z (C.i t).elem) (optK (ssub rows l h) fun r=>K (pureT (.t (.sl z r)))) False
     |_,_=>False
   | .ref id ver,_=>
     match m id with
     |some (.row v z rows)=>
      match loT s lo,hiT s (rows.length:Int) hi with
      | .t (.int _ l),.t (.int _ h)=>bcond (Nat.beq v ver&&Nat.beq (C.i t).kind 2&&Nat.ble 1 (C.i (C.i t).elem).kind&&Nat.beq z (C.i t).elem)
       (optK (ssub rows l h) fun r=>
        match mx,hi,lo with
        |none,none,some _=>K ⟨.vw id ver l,[],[id],[]⟩
        |none,_,_=>K ⟨.ref id (d+2),[(id,some (.row (d+2) z r))],[id],[(id,d+2)]⟩
        |some y,some _,some _=>
         match opT s y with
         | .t (.int _ h')=>bcond (h'==h) (bcond (h==(rows.length:Int)) (K ⟨.vw id ver l,[],[id],[]⟩) False) False
         |_=>False
        |some y,some _,none=>
         match opT s y with
         | .t (.int _ h')=>bcond (h'==h) (K ⟨.ref id (d+2),[(id,some (.row (d+2) z r))],[id],[(id,d+2)]⟩) False
         |_=>False
        |_,_,_=>False) False
      |_,_=>False
     |_=>False
   |_,_=>False
 | .fieldAddr t x k=>
   optK ((C.i t).fields[k]?) fun f=>
    bcond (Nat.beq (C.i t).kind 3&&Nat.ble 1 (C.i f.2).kind&&Nat.ble 1 (C.i f.2).size)
    (match opT s x with
    | .ptr id off=>
      match m id with
      |some (.var _)=>K ⟨.ptr id (off+f.1),[],[id],[]⟩
      |_=>False
    | .rptr l=>K (pureT (.rptr (l.drop f.1)))
    | .eptr id ver j off=>
      match asRowT (m id)with
      |some (.row v _ _)=>bcond (Nat.beq v ver) (K ⟨.eptr id ver j (off+f.1),[],[id],[]⟩) False
      |_=>False
    |_=>False) False
 | .field t x k=>
   optK ((C.i t).fields[k]?) fun f=>
    match opT s x with
    | .agg l=>bcond (Nat.beq (C.i t).kind 3&&Nat.ble 1 (C.i f.2).kind&&Nat.ble 1 (C.i f.2).size&&Nat.ble (f.1+(C.i f.2).size) l.length) (K (pureT (valT (C.i f.2).agg ((l.drop f.1).take (C.i f.2).size)))) False
    |_=>False
 | .indexAddr t x j=>
   match opT s x,opT s j with
   | .t (.sl z rows),.t (.int _ n)=>bcond (Nat.beq (C.i t).kind 2&&Nat.ble 1 (C.i (C.i t).elem).kind&&Nat.beq z (C.i t).elem) (optK (idx rows n) fun x=>K (pureT (.rptr (X.E z x)))) False
   | .ref id ver,.t (.int _ n)=>
     match asRowT (m id)with
     |some (.row v z rows)=>bcond (Nat.beq v ver&&Nat.beq (C.i t).kind 2&&Nat.ble 1 (C.i (C.i t).elem).kind&&Nat.beq z (C.i t).elem) (optK (idx rows n) fun _=>K ⟨.eptr id ver n 0,[],[id],[]⟩) False
     |_=>False
   |_,_=>False
 | .index t x j=>
   match opT s x,opT s j with
   | .t (.str l),.t (.int _ n)=>bcond (Nat.beq (C.i t).kind 1) (optK (idx l n) fun c=>K (pureT (.t (.int .u8 (UInt8.toNat c:Int))))) False
   |_,_=>False
 | .extract x k=>
   match opT s x with
   | .tup l=>optK l[k]? fun v=>K (pureT v)
   |_=>False
 | .makeFunc (.func f) ⟨[]⟩ cap=>K (pureT (.clo f (cap.toList.map (opT s))))
 | .call c=>
   match c.callee with
   | .builtin b=>builtinT X m b c.argTypes.toList d (c.args.toList.map (opT s)) K
   | .value f=>
     match opT s f with
     | .clo g cap=>
       bcond (!memN g C.wr)
        (bcond (memN g C.kp)
         (match c.args.toList.map (opT s)++cap with
         | .ptr id 0::r=>
           match m id with
           |some (.var l)=>optK (allT l) fun l0=>bcond ((r.map X.eS).all (plainS 4)&& !memN id (refsL (refs 4) (r.map X.eS))&&(!memN g C.kq||handR (r.map X.eS)))
            ((look cl.q g fun _ _ _ _=>False) m l0 r fun res l1=>
              K ⟨(impT d res).1,(id,some (.var (l1.map VS.t)))::((impT d res).2++(refsL (refs 4) (r.map X.eS)).map fun j=>(j,none)),id::(keys (impT d res).2++refsL (refs 4) (r.map X.eS)),(impT d res).2.map fun p=>(p.1,0)⟩) False
           |_=>False
         |_=>False)
         (bcond (memN g C.kb)
          (bcond (((c.args.toList.map (opT s)++cap).map X.eS).all (plainS 4))
           ((look cl.b g fun _ _ _=>False) m (c.args.toList.map (opT s)++cap) fun l1=>
             K ⟨.ptr d 0,(d,some (.var (l1.map VS.t)))::(refsL (refs 4) ((c.args.toList.map (opT s)++cap).map X.eS)).map fun j=>(j,none),d::refsL (refs 4) ((c.args.toList.map (opT s)++cap).map X.eS),[(d,0)]⟩) False)
          (bcond (memN g C.kt)
           (match c.args.toList.map (opT s)++cap with
           | .ref id ver::r=>
             match m id with
             |some (.row v z rows)=>bcond (Nat.beq v ver&&(r.map X.eS).all (plainS 4)&& !memN id (refsL (refs 4) (r.map X.eS)))
              ((look cl.t g fun _ _ _ _ _=>False) m z rows r fun res out=>
                K ⟨(impT d res).1,(id,out.map fun rs=> .row ver z rs)::((impT d res).2++(refsL (refs 4) (r.map X.eS)).map fun j=>(j,none)),id::(keys (impT d res).2++refsL (refs 4) (r.map X.eS)),(impT d res).2.map fun p=>(p.1,0)⟩) False
             |_=>False
           |_=>False)
           ((look cl.p g fun _ _ _=>False) m (c.args.toList.map (opT s)++cap) fun r=>
             K ⟨(impT d r).1,(impT d r).2,keys (impT d r).2++((c.args.toList.map (opT s)++cap).map X.eS).flatMap (deepRefs (fun id=>X.eO (m id)) 4),(impT d r).2.map fun p=>(p.1,0)⟩))))
        ((look cl.w g fun _ _ _=>False) m (c.args.toList.map (opT s)++cap) fun x mw=>
          K ⟨.t x,mw,refsL (refs 4) ((c.args.toList.map (opT s)++cap).map X.eS),[]⟩)
     |_=>False
   |_=>False
 |_=>False
end
end Go.Pv
