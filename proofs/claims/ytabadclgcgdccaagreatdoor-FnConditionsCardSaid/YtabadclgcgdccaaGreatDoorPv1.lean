/- Plain lemmas and definitions. Nothing is claimed here. -/
import Derived.Below
import Derived.KernelRfl
import Derived.Orders
namespace Go.Pv
open Go Go.RowKit
inductive T where
 |int (k:IntKind) (n:Int)
 |bool (b:Bool)
 |str (s:List UInt8)
 |err (e:Bool)
 |agg (l:List T)
 |tup (l:List T)
 |sl (sz:Nat) (rows:List (List T))
 |box (l:List T)
 |clo (f:FuncId) (l:List T)
 deriving Inhabited
def T.scalar:T→Bool
 | .int .. | .bool .. | .str .. | .err .. =>true
 |_=>false
inductive SV where
 |t (x:T)
 |nil
 |gone
 |ref (id ver:Nat)
 |ptr (id off:Nat)
 |rptr (l:List T)
 |eptr (id ver:Nat) (i:Int) (off:Nat)
 |vw (id ver:Nat) (lo:Int)
 |fs (sz:Nat) (rows:List (List T))
 |agg (l:List SV)
 |tup (l:List SV)
 |clo (f:FuncId) (l:List SV)
 deriving Inhabited
inductive MO where
 |var (l:List SV)
 |row (ver sz:Nat) (rows:List (List T))
 |rowv (ver sz:Nat) (rows:List (List T)) (i:Int) (l:List SV)
def asRow:Option MO→Option MO
 |some (.rowv v z rows _ _)=>some (.row v z rows)
 |o=>o
def look{α:Type}(l:List (Nat×α))(k:Nat)(d:α):α:=
 match l with
 |[]=>d
 |(j,v)::r=>bif Nat.beq j k then v else look r k d
structure St where
 sl:List (Nat×SV)
 me:List (Nat×Option MO)
def St.s(st:St)(t:Nat):SV:=look st.sl t .gone
def St.m(st:St)(id:Nat):Option MO:=look st.me id none
structure TInfo where
 size:Nat
 bytes:Nat
 agg:Bool
 kind:Nat
 elem:Nat
 fields:List (Nat×Nat)
 zero:List SV
 deriving Inhabited
def kindCode:TypeDesc→Nat
 | .string=>1
 | .slice _=>2
 | .struct _=>3
 | .bool=>5
 | .interface _=>6
 | .pointer _=>7
 | .func .. =>8
 | .tuple _=>9
 | .int .i64=>10
 | .int .i32=>11
 | .int .u64=>12
 | .int .u32=>13
 | .int .i8=>14
 | .int .u8=>15
 | .int .i16=>16
 | .int .u16=>17
 |_=>0
structure Ctx where
 ti:List (Nat×TInfo)
 cs:FuncId→List T→T→Prop
 cw:FuncId→List T→T→List T→Prop
 cp:FuncId→List T→List T→T→List T→Prop
 cb:FuncId→List T→List T→Prop
 ct:FuncId→Nat→List (List T)→List T→T→Option (List (List T))→Prop
 wr:List Nat
 kp:List Nat
 kb:List Nat
 kt:List Nat
 eqs:List Nat
 gi:World→Prop
 kq:List Nat
def Ctx.i(C:Ctx)(t:Nat):TInfo:=look C.ti t default
def bcond(b:Bool)(p q:Prop):Prop:=match b with|true=>p|false=>q
def memN(k:Nat):List Nat→Bool
 |[]=>false
 |a::r=>bif Nat.beq a k then true else memN k r
def constSV:Value→SV
 | .int k n=> .t (.int k n)
 | .bool b=> .t (.bool b)
 | .string s=> .t (.str s.data.toList)
 | .slice none 0 0=> .nil
 | .nilIface=> .t (.err false)
 | .func (.func f) ⟨[]⟩ ⟨[]⟩=> .clo f []
 |_=> .gone
def opnd(s:Nat→SV):Operand→SV
 | .tmp t=>s t
 | .const v=>constSV v
 | .func f=> .clo f []
 | .global _=> .gone
def isAggD:TypeDesc→Bool
 | .struct _=>true
 | .array _ _=>true
 |_=>false
def elemD:TypeDesc→Nat
 | .slice e=>e
 |_=>0
def fieldsD:TypeDesc→List (Nat×Nat)
 | .struct fs=>fs.toList.map fun f=>(f.offset,f.type)
 |_=>[]
def tiOf(P:Program)(t:Nat):Option TInfo:=
 match P.info? t,P.underlying t with
 |some d,some u=>
  match d.zero with
  |some z=>some ⟨d.size,d.bytes,isAggD u,kindCode u,elemD u,fieldsD u,z.cells.toList.map constSV⟩
  |none=>none
 |_,_=>none
def SV.cells:SV→List SV
 | .agg l=>l
 |v=>[v]
def T.cells:T→List T
 | .agg l=>l
 |v=>[v]
def valOf(agg:Bool)(l:List SV):SV:=bif agg then .agg l else l.headD .gone
def idx{α:Type}(l:List α):Int→Option α
 | .ofNat n=>l[n]?
 | .negSucc _=>none
def ssub{α:Type}(l:List α)(lo hi:Int):Option (List α):=
 if 0≤lo∧lo≤hi∧hi≤(l.length:Int)then some ((l.take hi.toNat).drop lo.toNat)else none
def cat(a b:List UInt8):Option (List UInt8):=
 if a.length+b.length≤9223372036854775807 then some (a++b)else none
def app{α:Type}(bytes:Nat)(a b:List α):Option (List α):=
 if(a.length+b.length)*bytes≤140737488355328 then some (a++b)else none
def appF{α:Type}(bytes:Nat)(a b:List α):Option (List α):=
 match b with
 |[]=>none
 |x::r=>app bytes a (x::r)
theorem appF_some{α:Type}{n:Nat}{a b r:List α}(h:appF n a b=some r):b≠[]∧app n a b=some r:=by
 cases b with
 |nil=>cases h
 |cons x l=>exact⟨by simp,h⟩
def mks{α:Type}(bytes:Nat)(n:Int)(z:α):Option (List α):=
 match n with
 | .ofNat n=>if n*bytes≤140737488355328 then some (List.replicate n z)else none
 | .negSucc _=>none
def intsOf(s:List UInt8):List Int:=s.map fun b=>(b.toNat:Int)
def bytesOf(l:List Int):List UInt8:=l.map fun n=>UInt8.ofNat n.toNat
def rowsI(k:IntKind)(l:List Int):List (List T):=l.map fun n=>[T.int k n]
def all2{α β:Type}(f:α→β→Prop):List α→List β→Prop
 |[],[]=>True
 |a::l,b::r=>f a b∧all2 f l r
 |_,_=>False
def rb(m:Nat→Option MO):Nat→SV→T→Prop
 |0,_,_=>False
 |_+1,.t x,y=>x=y
 |_+1,.fs s r,.sl sz rows=>s=sz∧r=rows
 |_+1,.nil,.sl _ rows=>rows=[]
 |_+1,.ref id ver,.sl sz rows=>
  match m id with
  |some (.row v s r)=>bcond (Nat.beq v ver) (s=sz∧r=rows) False
  |_=>False
 |_+1,.vw id ver lo,.sl sz rows=>
  match m id with
  |some (.row v s r)=>bcond (Nat.beq v ver) (s=sz∧r.drop lo.toNat=rows) False
  |_=>False
 |n+1,.agg l,.agg ts=>all2 (rb m n) l ts
 |n+1,.tup l,.tup ts=>all2 (rb m n) l ts
 |_+1,.rptr l,.box ts=>l=ts
 |n+1,.ptr id 0,.box ts=>
  match m id with
  |some (.var l)=>all2 (rb m n) l ts
  |_=>False
 |n+1,.clo f l,.clo g ts=>f=g∧all2 (rb m n) l ts
 |_,_,_=>False
def rbo(m:Nat→Option MO):Nat→SV→T→Prop
 |0,_,_=>False
 |_+1,.t x,y=>x=y∧x.scalar=true
 |_+1,.nil,.sl _ rows=>rows=[]
 |_+1,.ref id ver,.sl sz rows=>
  match m id with
  |some (.row v s r)=>bcond (Nat.beq v ver) (s=sz∧r=rows) False
  |_=>False
 |_+1,.vw id ver lo,.sl sz rows=>
  match m id with
  |some (.row v s r)=>bcond (Nat.beq v ver) (s=sz∧r.drop lo.toNat=rows) False
  |_=>False
 |n+1,.agg l,.agg ts=>all2 (rbo m n) l ts
 |n+1,.tup l,.tup ts=>all2 (rbo m n) l ts
 |_,_,_=>False
def refsL(f:SV→List Nat):List SV→List Nat
 |[]=>[]
 |v::r=>f v++refsL f r
def refs:Nat→SV→List Nat
 |0,_=>[]
 |_+1,.ref id _=>[id]
 |n+1,.agg l=>refsL (refs n) l
 |n+1,.tup l=>refsL (refs n) l
 |n+1,.clo _ l=>refsL (refs n) l
 |_+1,.ptr id _=>[id]
 |_+1,.eptr id _ _ _=>[id]
 |_+1,.vw id _ _=>[id]
 |_,_=>[]
def plainS:Nat→SV→Bool
 |0,_=>false
 |_+1,.t _=>true
 |_+1,.nil=>true
 |_+1,.ref _ _=>true
 |_+1,.fs _ _=>true
 |n+1,.agg l=>l.all (plainS n)
 |n+1,.clo _ l=>l.all (plainS n)
 |_+1,_=>false
def nodupN:List Nat→Bool
 |[]=>true
 |a::r=>bif memN a r then false else nodupN r
def handC:SV→Bool
 | .t x=>x.scalar
 | .nil=>true
 | .ref _ _=>true
 |_=>false
def handR:List SV→Bool
 |[.agg svs]=>svs.all handC&&nodupN (refsL (refs 4) svs)
 |_=>false
def deepRefs(m:Nat→Option MO):Nat→SV→List Nat
 |0,_=>[]
 |_+1,.ref id _=>[id]
 |n+1,.agg l=>refsL (deepRefs m n) l
 |n+1,.tup l=>refsL (deepRefs m n) l
 |n+1,.clo _ l=>refsL (deepRefs m n) l
 |n+1,.ptr id _=>id::(match m id with|some (.var l)=>refsL (deepRefs m n) l|_=>[])
 |_+1,.eptr id _ _ _=>[id]
 |_+1,.vw id _ _=>[id]
 |_,_=>[]
structure Eff where
 val:SV
 mw:List (Nat×Option MO)
 fp:List Nat
 tok:List (Nat×Nat)
def impCells(base:Nat):Nat→List T→List SV×List (Nat×Option MO)
 |_,[]=>([],[])
 |k,.sl sz rows::r=>let (a,b):=impCells base (k+1) r;(.ref (base+1000*k) 0::a,(base+1000*k,some (.row 0 sz rows))::b)
 |k,x::r=>let (a,b):=impCells base k r;(.t x::a,b)
def impPart(base k:Nat):T→SV×List (Nat×Option MO)
 | .sl sz rows=>(.ref (base+1000*k) 0,[(base+1000*k,some (.row 0 sz rows))])
 | .agg l=>let (a,b):=impCells base k l;(.agg a,b)
 |x=>(.t x,[])
def impParts(base:Nat):Nat→List T→List SV×List (Nat×Option MO)
 |_,[]=>([],[])
 |k,x::r=>let (a,b):=impPart base k x;let (c,d):=impParts base (k+100) r;(a::c,b++d)
def imp(base:Nat):T→SV×List (Nat×Option MO)
 | .tup l=>let (a,b):=impParts base 1 l;(.tup a,b)
 |x=>impPart base 1 x
def cellOK:T→Bool
 | .sl .. =>true
 |x=>x.scalar
def partOK:T→Bool
 | .agg l=>l.all cellOK
 |x=>cellOK x
def impOK:T→Bool
 | .tup l=>l.all partOK
 |x=>partOK x
def keys{α:Type}(l:List (Nat×α)):List Nat:=l.map (·.1)
def toks(l:List (Nat×Option MO)):List (Nat×Nat):=l.map fun p=>(p.1,0)
def okC:SV→Bool
 | .gone=>false
 | .t (.agg _)=>false
 | .t (.tup _)=>false
 | .tup _=>false
 |_=>true
def cell1:SV→Bool
 | .agg _=>false
 |v=>okC v
def fillAt(cs:List SV)(off:Nat)(l:List SV):List SV:=cs.take off++l++cs.drop (off+l.length)
def fillAll(places:Nat→Option (Nat×Nat)):List SV→List (Nat×SV)→Option (List SV)
 |cs,[]=>some cs
 |cs,(i,v)::r=>
  match places i with
  |none=>none
  |some (off,size)=>bif okC v&&Nat.beq v.cells.length size&&Nat.ble (off+size) cs.length then fillAll places (fillAt cs off v.cells) r else none
def rowsN{α:Type}(size:Nat):Nat→List α→List (List α)
 |0,_=>[]
 |n+1,l=>l.take size::rowsN size n (l.drop size)
def scal(l:List T):Prop:=∀t∈l,t.scalar=true
def rowsScal(rows:List (List T)):Prop:=∀r∈rows,scal r
def svScal:SV→Bool
 | .t x=>x.scalar
 |_=>false
def tOf:SV→T
 | .t x=>x
 |_=> .err false
def eqT:T→T→Option Bool
 | .int k a,.int k' b=>bif decide (k=k')then some (a==b)else none
 | .bool a,.bool b=>some (a==b)
 | .str a,.str b=>some (a==b)
 |_,_=>none
def eqCells:List SV→List SV→Option Bool
 |[],[]=>some true
 | .t a::l,.t b::r=>
   match l,r with
   |[],[]=>eqT a b
   |_,_=>match eqT a b,eqCells l r with
    |some p,some q=>some (p&&q)
    |_,_=>none
 |_,_=>none
def eqTypes(C:Ctx):List SV→List (Nat×Nat)→Nat→Bool
 |[],[],_=>true
 | .t (.int ..)::l,(o,t)::r,k=>Nat.beq o k&&Nat.ble 10 (C.i t).kind&&eqTypes C l r (k+1)
 | .t (.bool _)::l,(o,t)::r,k=>Nat.beq o k&&Nat.beq (C.i t).kind 5&&eqTypes C l r (k+1)
 | .t (.str _)::l,(o,t)::r,k=>Nat.beq o k&&Nat.beq (C.i t).kind 1&&eqTypes C l r (k+1)
 |_,_,_=>false
def andI(k:IntKind)(a b:Int):Int:=k.wrap ((BitVec.ofInt k.bits a&&&BitVec.ofInt k.bits b).toNat:Int)
def orI(k:IntKind)(a b:Int):Int:=k.wrap ((BitVec.ofInt k.bits a|||BitVec.ofInt k.bits b).toNat:Int)
def xorI(k:IntKind)(a b:Int):Int:=k.wrap ((BitVec.ofInt k.bits a^^^BitVec.ofInt k.bits b).toNat:Int)
def shlI(k:IntKind)(a b:Int):Option Int:=match b with
 | .ofNat n=>some (k.wrap (a*2^(min n k.bits)))
 | .negSucc _=>none
def shrI(k:IntKind)(a b:Int):Option Int:=match b with
 | .ofNat n=>some (a.fdiv (2^(min n k.bits)))
 | .negSucc _=>none
def intBin(op:BinOp)(k:IntKind)(a b:Int):Option T:=
 match op with
 | .add=>some (.int k (k.wrap (a+b)))
 | .sub=>some (.int k (k.wrap (a -b)))
 | .mul=>some (.int k (k.wrap (a*b)))
 | .and=>some (.int k (andI k a b))
 | .or=>some (.int k (orI k a b))
 | .xor=>some (.int k (xorI k a b))
 | .eql=>some (.bool (a==b))
 | .neq=>some (.bool (a !=b))
 | .lss=>some (.bool (decide (a<b)))
 | .leq=>some (.bool (decide (a≤b)))
 | .gtr=>some (.bool (decide (a>b)))
 | .geq=>some (.bool (decide (a≥b)))
 |_=>none
def strBin(op:BinOp)(a b:List UInt8):Option T:=
 match op with
 | .eql=>some (.bool (a==b))
 | .neq=>some (.bool (!(a==b)))
 | .lss=>some (.bool (Op.bytesLess a b))
 | .leq=>some (.bool (Op.bytesLess a b||a==b))
 | .gtr=>some (.bool (!(Op.bytesLess a b||a==b)))
 | .geq=>some (.bool (!(Op.bytesLess a b)))
 |_=>none
def pureE(v:SV):Eff:=⟨v,[],[],[]⟩
def optK{α:Type}(o:Option α)(K:α→Prop):Prop:=match o with|some a=>K a|none=>False
def minT:T→T→Option T
 | .int k a,.int _ b=>some (.int k (if b<a then b else a))
 |_,_=>none
def maxT:T→T→Option T
 | .int k a,.int _ b=>some (.int k (if b>a then b else a))
 |_,_=>none
def fv(C:Ctx)(t len:Nat):Nat:=bif Nat.beq (C.i (C.i t).elem).kind 1&&Nat.ble 2 len then 1 else 0
def fvT(C:Ctx)(t len d:Nat):List (Nat×Nat):=bif Nat.beq (C.i (C.i t).elem).kind 1&&Nat.ble 2 len then [(d,0),(d,1)]else [(d,0)]
theorem fvT_0{C:Ctx}{t len d:Nat}:(d,0)∈fvT C t len d:=by unfold fvT;cases (Nat.beq (C.i (C.i t).elem).kind 1&&Nat.ble 2 len)<;>simp
theorem fvT_v{C:Ctx}{t len d:Nat}:(d,fv C t len)∈fvT C t len d:=by unfold fvT fv;cases (Nat.beq (C.i (C.i t).elem).kind 1&&Nat.ble 2 len)<;>simp
def appK(C:Ctx)(m:Nat→Option MO)(ty d:Nat)(dst:SV)(new:List (List T))(gone:List (Nat×Option MO))(fp:List Nat)(K:Eff→Prop):Prop:=
 match dst with
 | .nil=>bcond (Nat.beq (C.i ty).kind 2&&Nat.ble 1 (C.i (C.i ty).elem).kind&&Nat.ble 1 (C.i (C.i ty).elem).size&&Nat.beq (C.i (C.i ty).elem).zero.length (C.i (C.i ty).elem).size&&Nat.ble 1 (C.i (C.i ty).elem).bytes)
  (∃rows,app (C.i (C.i ty).elem).bytes [] new=some rows∧K ⟨.ref d 0,(d,some (.row 0 (C.i (C.i ty).elem).size rows))::gone,d::fp,[(d,0)]⟩) False
 | .ref id ver=>
   match m id with
   |some (.row v z old)=>bcond (Nat.beq ver 1)
    (bcond (Nat.beq (C.i ty).kind 2&&Nat.ble 1 (C.i (C.i ty).elem).kind&&Nat.ble 1 (C.i (C.i ty).elem).size&&Nat.beq (C.i (C.i ty).elem).zero.length (C.i (C.i ty).elem).size&&Nat.ble 1 (C.i (C.i ty).elem).bytes&&Nat.beq v ver&&Nat.beq z (C.i (C.i ty).elem).size)
     (∃rows,rowsScal old∧rowsScal new∧new≠[]∧app (C.i (C.i ty).elem).bytes old new=some rows∧K ⟨.ref d 0,[(d,some (.row 0 z rows))],d::id::fp,[(d,0)]⟩) False)
    (bcond (Nat.beq (C.i ty).kind 2&&Nat.ble 1 (C.i (C.i ty).elem).kind&&Nat.ble 1 (C.i (C.i ty).elem).size&&Nat.beq (C.i (C.i ty).elem).zero.length (C.i (C.i ty).elem).size&&Nat.ble 1 (C.i (C.i ty).elem).bytes&&Nat.beq v ver&&Nat.beq z (C.i (C.i ty).elem).size&& !memN id (keys gone))
     (∃rows,app (C.i (C.i ty).elem).bytes old new=some rows∧K ⟨.ref id (d+2),(id,some (.row (d+2) z rows))::gone,id::fp,[(id,d+2)]⟩) False)
   |_=>False
 |_=>False
def overR{α:Type}(rows:List α)(lo:Nat)(new:List α):List α:=rows.take lo++new.take (rows.length -lo)++rows.drop (lo+new.length)
def builtinK(C:Ctx)(m:Nat→Option MO)(b:Builtin)(argTypes:List Nat)(d:Nat)(args:List SV)(K:Eff→Prop):Prop:=
 match b,args with
 | .len,[.t (.str l)]=>bcond (Nat.beq (C.i (argTypes.headD 0)).kind 1) (K (pureE (.t (.int .i64 (l.length:Int))))) False
 | .len,[.t (.sl _ rows)]=>bcond (Nat.beq (C.i (argTypes.headD 0)).kind 2) (K (pureE (.t (.int .i64 (rows.length:Int))))) False
 | .len,[.nil]=>bcond (Nat.beq (C.i (argTypes.headD 0)).kind 2) (K (pureE (.t (.int .i64 0)))) False
 | .len,[.ref id ver]=>
   match m id with
   |some (.row v _ rows)=>bcond (Nat.beq v ver&&Nat.beq (C.i (argTypes.headD 0)).kind 2) (K ⟨.t (.int .i64 (rows.length:Int)),[],[id],[]⟩) False
   |_=>False
 | .clear,[.vw id ver lo]=>
   match m id with
   |some (.row v z rows)=>bcond (Nat.beq v ver&&Nat.beq (C.i (argTypes.headD 0)).kind 2&&Nat.ble 1 (C.i (C.i (argTypes.headD 0)).elem).kind&&Nat.ble 1 (C.i (C.i (argTypes.headD 0)).elem).size&&Nat.beq z (C.i (C.i (argTypes.headD 0)).elem).size&&
    Nat.beq (C.i (C.i (argTypes.headD 0)).elem).zero.length z&&(refsL (refs 4) (C.i (C.i (argTypes.headD 0)).elem).zero).isEmpty&&(C.i (C.i (argTypes.headD 0)).elem).zero.all cell1)
    (∃zt,all2 (rbo m 4) (C.i (C.i (argTypes.headD 0)).elem).zero zt∧K ⟨.gone,[(id,some (.row v z (rows.take lo.toNat++List.replicate (rows.length -lo.toNat) zt)))],[id],[]⟩) False
   |_=>False
 | .copy,[.vw id ver lo,.t (.str l)]=>
   match m id with
   |some (.row v z rows)=>bcond (Nat.beq v ver&&Nat.beq z 1&&Nat.beq (C.i (argTypes.headD 0)).kind 2&&Nat.ble 1 (C.i (C.i (argTypes.headD 0)).elem).kind&&Nat.beq (C.i (C.i (argTypes.headD 0)).elem).size 1)
    (K ⟨.t (.int .i64 ((min l.length (rows.length -lo.toNat):Nat):Int)),[(id,some (.row v z (overR rows lo.toNat (rowsI .u8 (intsOf l)))))],[id],[]⟩) False
   |_=>False
 | .min,[.t a,.t b]=>optK (minT a b) fun x=>K (pureE (.t x))
 | .max,[.t a,.t b]=>optK (maxT a b) fun x=>K (pureE (.t x))
 | .append,[dst,src]=>
   match argTypes with
   |[ty,ty2]=>
    match src with
    | .nil=>bcond (Nat.beq (C.i ty2).kind 2) (appK C m ty d dst [] [] [] K) False
    | .t (.sl z rows)=>bcond (Nat.beq (C.i ty2).kind 2&&Nat.beq z (C.i (C.i ty).elem).size) (rowsScal rows∧appK C m ty d dst rows [] [] K) False
    | .t (.str l)=>bcond (Nat.beq (C.i ty2).kind 1&&Nat.beq (C.i (C.i ty).elem).size 1) (appK C m ty d dst (rowsI .u8 (intsOf l)) [] [] K) False
    | .ref id ver=>
      match m id with
      |some (.row v z rows)=>bcond (Nat.beq (C.i ty2).kind 2&&Nat.beq v ver&&Nat.beq z (C.i (C.i ty).elem).size) (appK C m ty d dst rows [(id,none)] [id] K) False
      |_=>False
    | .fs z2 new=>
      match dst with
      | .fs z old=>bcond (Nat.beq (C.i ty2).kind 2&&Nat.beq (C.i ty).kind 2&&Nat.ble 1 (C.i (C.i ty).elem).kind&&Nat.ble 1 (C.i (C.i ty).elem).size&&Nat.beq (C.i (C.i ty).elem).zero.length (C.i (C.i ty).elem).size&&Nat.ble 1 (C.i (C.i ty).elem).bytes&&Nat.beq z (C.i (C.i ty).elem).size&&Nat.beq z2 (C.i (C.i ty).elem).size)
        (∃rows,rowsScal old∧rowsScal new∧new≠[]∧app (C.i (C.i ty).elem).bytes old new=some rows∧K ⟨.ref d 0,[(d,some (.row 0 (C.i (C.i ty).elem).size rows))],[d],[(d,0)]⟩) False
      |_=>False
    |_=>False
   |_=>False
 |_,_=>False
def loS(s:Nat→SV):Option Operand→SV
 |some l=>opnd s l
 |none=> .t (.int .i64 0)
def hiS(s:Nat→SV)(n:Int):Option Operand→SV
 |some h=>opnd s h
 |none=> .t (.int .i64 n)
def effK(C:Ctx)(s:Nat→SV)(m:Nat→Option MO)(o:Oper)(K:Eff→Prop):Prop:=
 let d:=o.dst.getD 0
 match o.op with
 | .move x| .assign x=>K (pureE (opnd s x))
 | .pick c a b=>
   match opnd s c with
   | .t (.bool p)=>bcond p (K (pureE (opnd s a))) (K (pureE (opnd s b)))
   |_=>False
 | .alloc t=>bcond (Nat.ble 1 (C.i t).kind) (K ⟨.ptr d 0,[(d,some (.var (C.i t).zero))],[d],[(d,0)]⟩) False
 | .box _ x=>bcond (okC (opnd s x)) (K ⟨.ptr d 0,[(d,some (.var (opnd s x).cells))],[d],[(d,0)]⟩) False
 | .build t parts=>
   let i:=C.i t
   bcond (Nat.beq i.kind 3&&i.fields.all fun f=>Nat.ble 1 (C.i f.2).kind) (optK (fillAll (fun k=>(i.fields[k]?).map fun f=>(f.1,(C.i f.2).size)) i.zero (parts.toList.map fun p=>(p.1,opnd s p.2))) fun cs=>K (pureE (.agg cs))) False
 | .buildSlice t len parts=>
   let i:=C.i (C.i t).elem
   let vs:=parts.toList.map fun p=>(p.1,opnd s p.2)
   bcond (Nat.beq (C.i t).kind 2&&Nat.ble 1 i.kind&&Nat.ble 1 i.size&&Nat.beq i.zero.length i.size&&Nat.ble 1 i.bytes&&Nat.ble (len*i.size) 4096) (optK (fillAll (fun k=>some (k*i.size,i.size)) ((List.replicate len i.zero).flatten) vs) fun cs=>
    ∃rows,all2 (all2 (rbo m 4)) (rowsN i.size len cs) rows∧(nodupN (refsL (refs 4) cs)&&cs.all cell1)=true∧
     K ⟨.ref d (fv C t len),(d,some (.row (fv C t len) i.size rows))::(refsL (refs 4) cs).map (fun id=>(id,none)),d::refsL (refs 4) cs,fvT C t len d⟩) False
 | .makeSlice t n c=>
   let i:=C.i (C.i t).elem
   match opnd s n,opnd s c with
   | .t (.int .i64 n),.t (.int .i64 c)=>
     bcond (n==c&&Nat.beq (C.i t).kind 2&&Nat.ble 1 i.kind&&Nat.ble 1 i.size&&Nat.beq i.zero.length i.size&&Nat.ble 1 i.bytes&&(refsL (refs 4) i.zero).isEmpty&&i.zero.all cell1) (∃rows zt,all2 (rbo m 4) i.zero zt∧mks i.bytes n zt=some rows∧K ⟨.ref d 0,[(d,some (.row 0 i.size rows))],[d],[(d,0)]⟩) False
   |_,_=>False
 | .load t a=>
   let i:=C.i t
   match opnd s a with
   | .ptr id off=>
     match m id with
     |some (.var l)=>bcond (Nat.ble 1 i.kind&&Nat.ble 1 i.size&&Nat.ble (off+i.size) l.length) (K ⟨valOf i.agg ((l.drop off).take i.size),[],[id],[]⟩) False
     |_=>False
   | .rptr l=>bcond (Nat.ble 1 i.kind&&Nat.ble 1 i.size&&Nat.ble i.size l.length) (K (pureE (valOf i.agg ((l.take i.size).map SV.t)))) False
   | .eptr id ver j off=>
     match m id with
     |some (.row v z rows)=>bcond (Nat.beq v ver&&Nat.ble 1 i.kind&&Nat.ble 1 i.size) (bcond (i.zero.all svScal)
      (∃row,idx rows j=some row∧Nat.ble (off+i.size) row.length=true∧scal ((row.drop off).take i.size)∧
       K ⟨valOf i.agg (((row.drop off).take i.size).map SV.t),[],[id],[]⟩)
      (∃row,idx rows j=some row∧Nat.ble (off+i.size) row.length=true∧row.all cellOK=true∧memN id (keys (impCells d 0 row).2)=false∧
       K ⟨valOf i.agg (((impCells d 0 row).1.drop off).take i.size),(id,some (.rowv ver z rows j (impCells d 0 row).1))::(impCells d 0 row).2,id::keys (impCells d 0 row).2,toks (impCells d 0 row).2⟩)) False
     |some (.rowv v _ _ q l)=>bcond (Nat.beq v ver&&Nat.ble 1 i.kind&&Nat.ble 1 i.size&&Nat.ble (off+i.size) l.length) (bcond (q==j) (K ⟨valOf i.agg ((l.drop off).take i.size),[],[id],[]⟩) False) False
     |_=>False
   |_=>False
 | .store t a x=>
   let i:=C.i t
   let cs:=(opnd s x).cells
   bcond (Nat.ble 1 i.kind&&Nat.beq cs.length i.size&&okC (opnd s x)&&cs.all cell1)
    (match opnd s a with
    | .ptr id off=>
      match m id with
      |some (.var l)=>bcond (Nat.ble (off+i.size) l.length) (K ⟨.gone,[(id,some (.var (fillAt l off cs)))],[id],[]⟩) False
      |_=>False
    | .eptr id ver j off=>
      match m id with
      |some (.row v z rows)=>bcond (Nat.beq v ver&&nodupN (refsL (refs 4) cs)&& !memN id (refsL (refs 4) cs)) (∃row ts,idx rows j=some row∧Nat.ble (off+i.size) row.length=true∧all2 (rbo m 4) cs ts∧
       K ⟨.gone,(id,some (.row v z (rows.set j.toNat (row.take off++ts++row.drop (off+i.size)))))::(refsL (refs 4) cs).map (fun id=>(id,none)),id::refsL (refs 4) cs,[]⟩) False
      |some (.rowv v z rows q l)=>bcond (Nat.beq v ver&&Nat.ble (off+i.size) l.length) (bcond (q==j) (K ⟨.gone,[(id,some (.rowv v z rows q (fillAt l off cs)))],[id],[]⟩) False) False
      |_=>False
    |_=>False) False
 | .nilCheck x=>
   match opnd s x with
   | .ptr id off=>
     match m id with
     |some (.var _)=>K ⟨.ptr id off,[],[id],[]⟩
     |_=>False
   | .rptr l=>K (pureE (.rptr l))
   |_=>False
 | .binOp op t x y _=>
   match opnd s x,opnd s y with
   | .t (.int k a),.t (.int k' b)=>
     match op with
     | .quo=>bcond (decide (k=k')) (bcond (b==0) False (K (pureE (.t (.int k (k.wrap (a.tdiv b))))))) False
     | .rem=>bcond (decide (k=k')) (bcond (b==0) False (K (pureE (.t (.int k (a.tmod b)))))) False
     | .shl=>optK (shlI k a b) fun r=>K (pureE (.t (.int k r)))
     | .shr=>optK (shrI k a b) fun r=>K (pureE (.t (.int k r)))
     |_=>bcond (decide (k=k')) (optK (intBin op k a b) fun x=>K (pureE (.t x))) False
   | .t (.str a),.t (.str b)=>
     match op with
     | .add=>∃u,cat a b=some u∧K (pureE (.t (.str u)))
     |_=>optK (strBin op a b) fun x=>K (pureE (.t x))
   | .t (.bool a),.t (.bool b)=>
     bcond (Nat.beq (C.i t).kind 5)
      (match op with
      | .eql=>K (pureE (.t (.bool (a==b))))
      | .neq=>K (pureE (.t (.bool (!(a==b)))))
      |_=>False) False
   | .t (.err a),.t (.err false)=>
     bcond (Nat.beq (C.i t).kind 6&&(match y with| .const _=>true|_=>false))
      (match op with
      | .eql=>K (pureE (.t (.bool (!a))))
      | .neq=>K (pureE (.t (.bool a)))
      |_=>False) False
   | .agg a,.agg b=>
     bcond (memN t C.eqs&&eqTypes C a (C.i t).fields 0)
      (match op with
      | .eql=>optK (eqCells a b) fun p=>K (pureE (.t (.bool p)))
      | .neq=>optK (eqCells a b) fun p=>K (pureE (.t (.bool (!p))))
      |_=>False) False
   |_,_=>False
 | .unOp op _ x=>
   match op,opnd s x with
   | .not,.t (.bool b)=>K (pureE (.t (.bool (!b))))
   | .neg,.t (.int k n)=>K (pureE (.t (.int k (k.wrap (0 -n)))))
   |_,_=>False
 | .convert src dst x=>
   let u:=C.i src
   let i:=C.i dst
   match opnd s x with
   | .t (.int _ n)=>bcond (Nat.ble 1 u.kind) (optK (kindOf i.kind) fun k=>K (pureE (.t (.int k (k.wrap n))))) False
   | .t (.str l)=>
     match i.kind with
     |1=>bcond (Nat.ble 1 u.kind) (K (pureE (.t (.str l)))) False
     |2=>bcond (Nat.ble 1 u.kind&&Nat.beq u.kind 1&&Nat.beq (C.i i.elem).kind 15) (K ⟨.ref d 0,[(d,some (.row 0 1 (rowsI .u8 (intsOf l))))],[d],[(d,0)]⟩) False
     |_=>False
   | .t (.sl 1 rows)=>bcond (Nat.beq i.kind 1&&Nat.beq u.kind 2&&Nat.beq (C.i u.elem).kind 15) (∃l,rows=rowsI .u8 l∧K (pureE (.t (.str (bytesOf l))))) False
   | .ref id ver=>
     bcond (Nat.beq i.kind 1&&Nat.beq u.kind 2&&Nat.beq (C.i u.elem).kind 15)
      (match m id with
      |some (.row v 1 rows)=>bcond (Nat.beq v ver) (∃l,rows=rowsI .u8 l∧K ⟨.t (.str (bytesOf l)),[],[id],[]⟩) False
      |_=>False) False
   |_=>False
 | .slice t x lo hi mx=>
   match opnd s x,mx with
   | .t (.str a),none=>
     match loS s lo,hiS s (a.length:Int) hi with
     | .t (.int _ l),.t (.int _ h)=>bcond (Nat.beq (C.i t).kind 1) (∃r,ssub a l h=some r∧K (pureE (.t (.str r)))) False
     |_,_=>False
   | .t (.sl z rows),none=>
     match loS s lo,hiS s (rows.length:Int) hi with
     | .t (.int _ l),.t (.int _ h)=>bcond (Nat.beq (C.i t).kind 2&&Nat.ble 1 (C.i (C.i t).elem).kind&&Nat.beq z (C.i (C.i t).elem).size) (∃r,ssub rows l h=some r∧K (pureE (.t (.sl z r)))) False
     |_,_=>False
   | .ref id ver,_=>
     match m id with
     |some (.row v z rows)=>
      match loS s lo,hiS s (rows.length:Int) hi with
      | .t (.int _ l),.t (.int _ h)=>bcond (Nat.beq v ver&&Nat.beq (C.i t).kind 2&&Nat.ble 1 (C.i (C.i t).elem).kind&&Nat.beq z (C.i (C.i t).elem).size)
       (∃r,ssub rows l h=some r∧
        match mx,hi,lo with
        |none,none,some _=>K ⟨.vw id ver l,[],[id],[]⟩
        |none,_,_=>K ⟨.ref id (d+2),[(id,some (.row (d+2) z r))],[id],[(id,d+2)]⟩
        |some y,some _,some _=>
         match opnd s y with
         | .t (.int _ h')=>bcond (h'==h) (bcond (h==(rows.length:Int)) (K ⟨.vw id ver l,[],[id],[]⟩) False) False
         |_=>False
        |some y,some _,none=>
         match opnd s y with
         | .t (.int _ h')=>bcond (h'==h) (K ⟨.ref id (d+2),[(id,some (.row (d+2) z r))],[id],[(id,d+2)]⟩) False
         |_=>False
        |_,_,_=>False) False
      |_,_=>False
     |_=>False
   |_,_=>False
 | .fieldAddr t x k=>
   optK ((C.i t).fields[k]?) fun f=>
    match opnd s x with
    | .ptr id off=>
      match m id with
      |some (.var _)=>bcond (Nat.beq (C.i t).kind 3&&Nat.ble 1 (C.i f.2).kind&&Nat.ble 1 (C.i f.2).size) (K ⟨.ptr id (off+f.1),[],[id],[]⟩) False
      |_=>False
    | .rptr l=>bcond (Nat.beq (C.i t).kind 3&&Nat.ble 1 (C.i f.2).kind&&Nat.ble 1 (C.i f.2).size) (K (pureE (.rptr (l.drop f.1)))) False
    | .eptr id ver j off=>
      match asRow (m id)with
      |some (.row v _ _)=>bcond (Nat.beq v ver&&Nat.beq (C.i t).kind 3&&Nat.ble 1 (C.i f.2).kind&&Nat.ble 1 (C.i f.2).size) (K ⟨.eptr id ver j (off+f.1),[],[id],[]⟩) False
      |_=>False
    |_=>False
 | .field t x k=>
   optK ((C.i t).fields[k]?) fun f=>
    match opnd s x with
    | .agg l=>bcond (Nat.beq (C.i t).kind 3&&Nat.ble 1 (C.i f.2).kind&&Nat.ble 1 (C.i f.2).size&&Nat.ble (f.1+(C.i f.2).size) l.length) (K (pureE (valOf (C.i f.2).agg ((l.drop f.1).take (C.i f.2).size)))) False
    |_=>False
 | .indexAddr t x j=>
   let u:=C.i t
   match opnd s x,opnd s j with
   | .t (.sl z rows),.t (.int _ n)=>bcond (Nat.beq u.kind 2&&Nat.ble 1 (C.i u.elem).kind&&Nat.beq z (C.i u.elem).size) (∃row,idx rows n=some row∧K (pureE (.rptr row))) False
   | .ref id ver,.t (.int _ n)=>
     match asRow (m id)with
     |some (.row v z rows)=>bcond (Nat.beq v ver&&Nat.beq u.kind 2&&Nat.ble 1 (C.i u.elem).kind&&Nat.beq z (C.i u.elem).size) (∃row,idx rows n=some row∧K ⟨.eptr id ver n 0,[],[id],[]⟩) False
     |_=>False
   |_,_=>False
 | .index t x j=>
   match opnd s x,opnd s j with
   | .t (.str l),.t (.int _ n)=>bcond (Nat.beq (C.i t).kind 1) (∃c,idx l n=some c∧K (pureE (.t (.int .u8 (UInt8.toNat c:Int))))) False
   |_,_=>False
 | .extract x k=>
   match opnd s x with
   | .tup l=>optK l[k]? fun v=>K (pureE v)
   |_=>False
 | .makeFunc (.func f) ⟨[]⟩ cap=>K (pureE (.clo f (cap.toList.map (opnd s))))
 | .call c=>
   match c.callee with
   | .builtin b=>builtinK C m b c.argTypes.toList d (c.args.toList.map (opnd s)) K
   | .value f=>
     match opnd s f with
     | .clo g cap=>
       let vs:=c.args.toList.map (opnd s)++cap
       bcond (memN g C.wr)
        (∃ts res outs,all2 (rbo m 4) vs ts∧nodupN (refsL (refs 4) vs)=true∧C.cw g ts res outs∧optK (backs m vs outs) fun mw=>(res.scalar&&(refsL (refs 4) vs).all fun id=>memN id (keys mw))=true∧
         K ⟨.t res,mw,refsL (refs 4) vs,[]⟩)
        (bcond (memN g C.kp)
         (match vs with
         | .ptr id 0::r=>
           match m id with
           |some (.var l)=>∃l0 ts res l1,l=l0.map SV.t∧all2 (rb m 4) r ts∧(r.all (plainS 4)&& !memN id (refsL (refs 4) r)&&(!memN g C.kq||handR r))=true∧C.cp g l0 ts res l1∧impOK res=true∧
            K ⟨(imp d res).1,(id,some (.var (l1.map SV.t)))::((imp d res).2++(refsL (refs 4) r).map fun j=>(j,none)),id::(keys (imp d res).2++refsL (refs 4) r),toks (imp d res).2⟩
           |_=>False
         |_=>False)
         (bcond (memN g C.kb)
          (∃ts l1,all2 (rb m 4) vs ts∧vs.all (plainS 4)=true∧C.cb g ts l1∧K ⟨.ptr d 0,(d,some (.var (l1.map SV.t)))::(refsL (refs 4) vs).map fun j=>(j,none),d::refsL (refs 4) vs,[(d,0)]⟩)
          (bcond (memN g C.kt)
           (match vs with
           | .ref id ver::r=>
             match m id with
             |some (.row v sz rows)=>∃ts res out,all2 (rb m 4) r ts∧(Nat.beq v ver&&r.all (plainS 4)&& !memN id (refsL (refs 4) r))=true∧C.ct g sz rows ts res out∧impOK res=true∧
              K ⟨(imp d res).1,(id,out.map fun rs=> .row ver sz rs)::((imp d res).2++(refsL (refs 4) r).map fun j=>(j,none)),id::(keys (imp d res).2++refsL (refs 4) r),toks (imp d res).2⟩
             |_=>False
           |_=>False)
           (∃ts res,all2 (rb m 4) vs ts∧C.cs g ts res∧impOK res=true∧
            K ⟨(imp d res).1,(imp d res).2,keys (imp d res).2++vs.flatMap (deepRefs m 4),toks (imp d res).2⟩))))
     |_=>False
   |_=>False
 |_=>False
where
 kindOf:Nat→Option IntKind
  |10=>some .i64|11=>some .i32|12=>some .u64|13=>some .u32|14=>some .i8|15=>some .u8|_=>none
 backs (m:Nat→Option MO):List SV→List T→Option (List (Nat×Option MO))
  |[],[]=>some []
  | .ref id ver::l,.sl sz rows::r=>
    match m id,backs m l r with
    |some (.row v z _),some w=>bif Nat.beq v ver&&Nat.beq z sz then some ((id,some (.row ver sz rows))::w)else none
    |_,_=>none
  | .agg cs::l,.agg ts::r=>
    match backsC m cs ts,backs m l r with
    |some a,some w=>some (a++w)
    |_,_=>none
  |_::l,_::r=>backs m l r
  |_,_=>none
 backsC (m:Nat→Option MO):List SV→List T→Option (List (Nat×Option MO))
  |[],[]=>some []
  | .ref id ver::l,.sl sz rows::r=>
    match m id,backsC m l r with
    |some (.row v z _),some w=>bif Nat.beq v ver&&Nat.beq z sz then some ((id,some (.row ver sz rows))::w)else none
    |_,_=>none
  |_::l,_::r=>backsC m l r
  |_,_=>none
def setS(d:Nat)(v:SV)(st:St):St:=⟨(d,v)::st.sl,st.me⟩
def apply(o:Oper)(e:Eff)(st:St):St:=⟨match o.dst with|some d=>(d,e.val)::st.sl|none=>st.sl,e.mw++st.me⟩
def evOps(C:Ctx)(all:List Oper):List Oper→List (Oper×Eff)→St→(List (Oper×Eff)→St→Prop)→Prop
 |[],acc,st,K=>K acc st
 |o::r,acc,st,K=>
  match o.guard with
  |none=>effK C st.s st.m o fun e=>evOps C all r ((o,e)::acc) (apply o e st) K
  |some (j,want)=>
   match(all[j]?).bind (·.dst)with
   |none=>False
   |some g=>
    match st.s g with
    | .t (.bool b)=>
      let perform (st:St):Prop:=effK C st.s st.m o fun e=>evOps C all r ((o,e)::acc) (apply o e st) K
      let pass (st:St):Prop:=evOps C all r ((o,pureE (.tup []))::acc) (apply o (pureE (.tup [])) st) K
      match want with
      |true=>bcond b (perform (setS g (.t (.bool true)) st)) (pass (setS g (.t (.bool false)) st))
      |false=>bcond b (pass (setS g (.t (.bool true)) st)) (perform (setS g (.t (.bool false)) st))
    | .tup []=>evOps C all r ((o,pureE (.tup []))::acc) (apply o (pureE (.tup [])) st) K
    |_=>False
def tmpsOf(o:Oper)(all:List Oper):List Nat:=
 (o.op.operands.toList.filterMap fun| .tmp t=>some t|_=>none)++
  (match o.guard with|some (j,_)=>((all[j]?).bind (·.dst)).toList|none=>[])
def disj(a b:List Nat):Bool:=a.all fun x=> !memN x b
def ins(a:Nat)(l:List Nat):List Nat:=bif memN a l then l else a::l
def union(a b:List Nat):List Nat:=a.foldr ins b
def ancs:List Oper→List (List Nat)→List (List Nat)
 |[],acc=>acc
 |o::r,acc=>
  ancs r ((o.after.toList.foldl (fun s e=>bif Region.binds .any e then ins e.on (union ((acc[acc.length -1 -e.on]?).getD []) s)else s) [])::acc)
def mention(tok:List (Nat×Nat)):Nat→SV→Bool
 |0,_=>true
 |_+1,.ref id ver=>tok.any fun p=>Nat.beq p.1 id&&Nat.beq p.2 ver
 |_+1,.eptr id ver _ _=>tok.any fun p=>Nat.beq p.1 id&&Nat.beq p.2 ver
 |_+1,.vw id ver _=>tok.any fun p=>Nat.beq p.1 id&&Nat.beq p.2 ver
 |_+1,.ptr id _=>tok.any fun p=>Nat.beq p.1 id
 |n+1,.agg l=>mentionL (mention tok n) l
 |n+1,.tup l=>mentionL (mention tok n) l
 |n+1,.clo _ l=>mentionL (mention tok n) l
 |_+1,_=>false
where
 mentionL (f:SV→Bool):List SV→Bool
  |[]=>false
  |v::r=>f v||mentionL f r
def mentionO(tok:List (Nat×Nat)):Option MO→Bool
 |some (.var l)=>mention.mentionL (mention tok 4) l
 |some (.rowv _ _ _ _ l)=>mention.mentionL (mention tok 4) l
 |_=>false
def mentionE(tok:List (Nat×Nat))(e:Eff):Bool:=mention tok 4 e.val||e.mw.any fun p=>mentionO tok p.2
def sepE(tok:List (Nat×Nat))(y:Eff):Bool:=
 match tok with
 |[]=>true
 |tok=> !mentionE tok y&&tok.all fun p=> !Nat.beq p.2 0|| !memN p.1 (keys y.mw)
def apartE(all:List Oper)(x y:Oper×Eff):Bool:=
 let dx:=x.1.dst.toList
 let dy:=y.1.dst.toList
 disj dx (tmpsOf y.1 all)&&disj dy (tmpsOf x.1 all)&&disj dx dy&&disj (keys x.2.mw) y.2.fp&&disj (keys y.2.mw) x.2.fp&&
  disj (keys x.2.mw) (keys y.2.mw)&&sepE x.2.tok y.2&&sepE y.2.tok x.2
def priorOK:List (Oper×Eff)→Bool
 |[]=>true
 |x::l=>(l.all fun y=>sepE x.2.tok y.2)&&priorOK l
def drawL(all:List Oper):List (Oper×Eff)→List (List Nat)→Bool
 |x::l,a::r=>(apartAll x a l l.length)&&drawL all l r
 |_,_=>true
where
 apartAll (x:Oper×Eff) (a:List Nat):List (Oper×Eff)→Nat→Bool
  |y::l,n+1=>(memN n a||apartE all x y)&&apartAll x a l n
  |_,_=>true
def cleanS(st:St)(tok:List (Nat×Nat)):Bool:=
 st.sl.all (fun p=> !mention tok 4 p.2)&&st.me.all fun p=> !mentionO tok p.2
def freshAll(st:St):List (Nat×Nat)→Bool
 |[]=>true
 |(id,ver)::r=>(bif Nat.beq ver 0 then(match st.m id with|none=>true|_=>false)else true)&& !(r.any fun q=>Nat.beq q.1 id&&Nat.beq q.2 ver)&&freshAll st r
def toksOf(l:List (Oper×Eff)):List (Nat×Nat):=l.flatMap fun p=>p.2.tok
def nv(v:Nat):Nat:=bif Nat.beq v 1 then 1 else 0
def normV(m:Nat→Option MO)(md:List Nat):Nat→SV→SV
 |0,_=> .gone
 |_+1,.t x=> .t x
 |_+1,.nil=> .nil
 |_+1,.rptr l=> .rptr l
 |_+1,.fs z r=> .fs z r
 |_+1,.ref id ver=>
  match m id with
  |some (.row v _ _)=>bif Nat.beq v ver&& !memN id md then .ref id (nv v)else .gone
  |_=> .gone
 |_+1,.ptr id off=>
  match m id with
  |some (.var _)=> .ptr id off
  |_=> .gone
 |_+1,.vw id ver lo=>
  match m id with
  |some (.row v _ _)=>bif Nat.beq v ver&& !memN id md then .vw id (nv v) lo else .gone
  |_=> .gone
 |n+1,.agg l=> .agg (l.map (normV m md n))
 |n+1,.tup l=> .tup (l.map (normV m md n))
 |n+1,.clo f l=> .clo f (l.map (normV m md n))
 |_+1,_=> .gone
def normO(m:Nat→Option MO)(md:List Nat):Option MO→Option MO
 |some (.row v sz rows)=>some (.row (nv v) sz rows)
 |some (.var l)=>some (.var (l.map (normV m md 4)))
 |some (.rowv ..)=>none
 |none=>none
abbrev Keep:=List (Nat×Option Nat)
def madeM(st:St):Keep→List (Nat×Option MO)
 |[]=>[]
 |(t,m)::r=>
  match st.s t,m with
  | .nil,some z=>(500000+t,some (.row 0 z []))::madeM st r
  |_,_=>madeM st r
def keptS(st:St)(md:List Nat):Keep→List (Nat×SV)
 |[]=>[]
 |(t,m)::r=>
  (match st.s t,m with
  | .nil,some _=>(t,SV.ref (500000+t) 0)
  |v,_=>(t,normV st.m md 4 v))::keptS st md r
def keptIds(st:St):Keep→List Nat
 |[]=>[]
 |(t,_)::r=>union (deepRefs st.m 4 (st.s t)) (keptIds st r)
def keep0(l:Keep)(st:St):St:=⟨keptS st (keys (madeM st l)) l,madeM st l++((keptIds st l).filter fun id=>(st.m id).isSome).map fun id=>(id,normO st.m (keys (madeM st l)) (st.m id))⟩
def swp(a b i:Nat):Nat:=bif Nat.beq i a then b else bif Nat.beq i b then a else i
mutual
def swV(a b:Nat):SV→SV
 | .t x=> .t x
 | .nil=> .nil
 | .gone=> .gone
 | .ref i v=> .ref (swp a b i) v
 | .ptr i o=> .ptr (swp a b i) o
 | .rptr l=> .rptr l
 | .eptr i v j o=> .eptr (swp a b i) v j o
 | .vw i v j=> .vw (swp a b i) v j
 | .fs z r=> .fs z r
 | .agg l=> .agg (swL a b l)
 | .tup l=> .tup (swL a b l)
 | .clo f l=> .clo f (swL a b l)
def swL(a b:Nat):List SV→List SV
 |[]=>[]
 |v::l=>swV a b v::swL a b l
end
def swO(a b:Nat):Option MO→Option MO
 |some (.var l)=>some (.var (swL a b l))
 |some (.rowv ..)=>none
 |o=>o
def swSt(a b:Nat)(st:St):St:=⟨st.sl.map fun p=>(p.1,swV a b p.2),st.me.map fun p=>(swp a b p.1,swO a b p.2)⟩
def swAll(base:Nat):Nat→Nat→List SV→St→St
 |0,_,_,st=>st
 |n+1,k,l,st=>
  match l with
  |[]=>st
  | .ref id _::r=>swAll base n (k+1) (bif Nat.beq id (base+k)then r else swL id (base+k) r) (bif Nat.beq id (base+k)then st else swSt id (base+k) st)
  |_::r=>swAll base n (k+1) r st
def canon:Keep→St→St
 |[],st=>st
 |(t,_)::r,st=>canon r (match st.s t with
  | .ref id ver=>swAll (500000+t) 1 0 [.ref id ver] st
  | .agg l=>swAll (600000+100*t) l.length 0 l st
  | .ptr id _=>(match st.m id with|some (.var l)=>swAll (100000000+100*id) l.length 0 l st|_=>st)
  |_=>st)
def getP(st:St)(t:Nat):Nat→SV
 |0=>st.s t
 |j+1=>
  match st.s t with
  | .agg l=>l.getD j .gone
  | .ptr id _=>match st.m id with|some (.var l)=>l.getD j .gone|_=> .gone
  |_=> .gone
def putP(st:St)(t:Nat)(v:SV):Nat→St
 |0=>⟨(t,v)::st.sl,st.me⟩
 |j+1=>
  match st.s t with
  | .agg l=>⟨(t,.agg (l.set j v))::st.sl,st.me⟩
  | .ptr id _=>match st.m id with|some (.var l)=>⟨st.sl,(id,some (.var (l.set j v)))::st.me⟩|_=>st
  |_=>st
def mkP(t q z n:Nat)(st:St):St:=
 match getP st t q with
 | .nil=>bif cleanS st [(n,0)]&&(match st.m n with|none=>true|some _=>false)then putP ⟨st.sl,(n,some (.row 0 z []))::st.me⟩ t (.ref n 0) q else st
 |_=>st
def frP(t q z:Nat)(st:St):St:=
 match getP st t q with
 | .nil=>putP st t (.t (.sl z [])) q
 | .ref id ver=>
   match st.m id with
   |some (.row v sz rows)=>bif Nat.beq v ver then putP ⟨st.sl,(id,none)::st.me⟩ t (.t (.sl sz rows)) q else st
   |_=>st
 |_=>st
def fsP(t:Nat)(st:St):St:=
 match st.s t with
 | .ref id ver=>
   match st.m id with
   |some (.row v sz rows)=>bif Nat.beq v ver&&Nat.beq v 1 then⟨(t,.fs sz rows)::st.sl,(id,none)::st.me⟩else st
   |_=>st
 |_=>st
def prep:Keep→St→St
 |[],st=>st
 |(c,some z)::r,st=>bif Nat.ble 1000000 c then
    bif Nat.beq (c/1000000) 1 then prep r (frP (c % 1000000) 0 z st)else
    bif Nat.beq (c/1000000) 99 then prep r (fsP (c % 1000000) st)else
    bif Nat.ble 100000000 c then prep r (frP (c % 1000000) (c/1000000 -99) z st)else
    prep r (mkP (c % 1000000) (c/1000000 -1) z (900000000+100*(c % 1000000)+c/1000000) st)
  else prep r st
 |(_,none)::r,st=>prep r st
def closeC(m:Nat→Option MO):SV→Option T
 | .t x=>bif x.scalar then some x else none
 | .ref id ver=>match m id with
   |some (.row v sz rows)=>bif Nat.beq v ver then some (.sl sz rows)else none
   |_=>none
 |_=>none
def closeCs(m:Nat→Option MO):List SV→Option (List T)
 |[]=>some []
 |v::l=>match closeC m v,closeCs m l with
  |some t,some r=>some (t::r)
  |_,_=>none
def closeId(id:Nat)(st:St):St:=
 match st.m id with
 |some (.rowv ver sz rows q l)=>(match closeCs st.m l with
  |some ts=>bif nodupN (refsL (refs 4) l)&& !memN id (refsL (refs 4) l)then⟨st.sl,(id,some (.row ver sz (rows.set q.toNat ts)))::((refsL (refs 4) l).map (fun id=>(id,none))++st.me)⟩else st
  |none=>st)
 |_=>st
def closeL(ids:List Nat):List (Nat×Option MO)→St→St
 |[],st=>st
 |(id,some (.rowv ..))::r,st=>closeL ids r (bif memN id ids then closeId id st else st)
 |_::r,st=>closeL ids r st
def keep(l:Keep)(st:St):St:=canon l (keep0 l (prep l st))
structure Plan where
 reg:List (Nat×Keep)
 blk:List (Nat×Keep)
 cnd:List (Nat×(Keep×Keep))
def condKey:Operand→Nat
 | .tmp t=>t
 |_=>0
def evR(C:Ctx)(pl:Plan)(id:Nat)(ops:List Oper)(draw:Bool)(st:St)(K:St→Prop):Prop:=
 evOps C ops ops [] st fun acc st'=>
  (cleanS st (toksOf acc)&&freshAll st (toksOf acc)&&priorOK acc&&(bif draw then drawL ops acc (ancs ops [])else true))=true∧K (keep (look pl.reg id []) (closeL (keptIds st' (look pl.reg id [])) st'.me st'))
inductive Ex where
 |normal
 |ret
 |exit (id:Nat)
def loopN(F:St→(Ex→St→Prop)→Prop):Nat→St→(Ex→St→Prop)→Prop
 |0,_,_=>False
 |k+1,st,Q=>F st fun e st'=>match e with| .normal=>loopN F k st' Q|e=>Q e st'
def wpc(C:Ctx)(pl:Plan)(k:Nat):Code→St→(Ex→St→Prop)→Prop
 | .skip,st,Q=>Q .normal st
 | .region id ops draw,st,Q=>evR C pl id ops.toList draw st (Q .normal)
 | .seq a b,st,Q=>wpc C pl k a st fun e st'=>match e with| .normal=>wpc C pl k b st' Q|e=>Q e st'
 | .cond c a b,st,Q=>
   match opnd st.s c with
   | .t (.bool p)=>bcond p (wpc C pl k a (keep (look pl.cnd (condKey c) ([],[])).1 st) Q) (wpc C pl k b (keep (look pl.cnd (condKey c) ([],[])).2 st) Q)
   |_=>False
 | .block id c,st,Q=>wpc C pl k c st fun e st'=>
   match e with
   | .normal=>Q .normal (keep (look pl.blk id []) st')
   | .exit j=>bcond (Nat.beq j id) (Q .normal (keep (look pl.blk id []) st')) (Q (.exit j) st')
   | .ret=>Q .ret st'
 | .loop c,st,Q=>loopN (wpc C pl k c) k st Q
 | .exit id,st,Q=>Q (.exit id) st
 | .ret,st,Q=>Q .ret st
 |_,_,_=>False
def resV(C:Ctx)(st:St):ResultVar→SV
 | .tmp t=>st.s t
 | .cell a t=>
   match st.s a with
   | .ptr id 0=>
     match st.m id with
     |some (.var l)=>bif Nat.ble 1 (C.i t).kind&&Nat.ble 1 (C.i t).size&&Nat.beq l.length (C.i t).size then valOf (C.i t).agg l else .gone
     |_=> .gone
   |_=> .gone
def resOf:List SV→SV
 |[v]=>v
 |l=> .tup l
def oneT:List T→T
 |[t]=>t
 |l=> .tup l
def RetOK(C:Ctx)(st:St)(rs:List ResultVar)(res:T):Prop:=
 match rs with
 |[.cell 0 0,.cell r t]=>∃l1,res= .agg l1∧resV C st (.cell r t)= .agg (l1.map SV.t)
 | .cell 0 t::rs=>∃l1 ts,res= .tup (.agg l1::ts)∧resV C st (.cell 0 t)= .agg (l1.map SV.t)∧rbo st.m 4 (resOf (rs.map (resV C st))) (oneT ts)∧nodupN (refs 4 (resOf (rs.map (resV C st))))=true
 |rs=>rbo st.m 4 (resOf (rs.map (resV C st))) res∧nodupN (refs 4 (resOf (rs.map (resV C st))))=true
def notP:List ResultVar→Bool
 | .cell 0 _::_=>false
 |_=>true
def retK(C:Ctx)(rs:List ResultVar)(res:T):Ex→St→Prop
 | .exit _,_=>False
 |_,st=>RetOK C st rs res
def argV:T→SV
 | .agg l=> .agg (l.map SV.t)
 | .box l=> .rptr l
 | .clo f l=> .clo f (l.map argC)
 |x=> .t x
where
 argC:T→SV
  | .box l=> .rptr l
  |x=> .t x
def argS:Nat→List T→List (Nat×SV)
 |_,[]=>[]
 |k,x::r=>(k,argV x)::argS (k+1) r
end Go.Pv
