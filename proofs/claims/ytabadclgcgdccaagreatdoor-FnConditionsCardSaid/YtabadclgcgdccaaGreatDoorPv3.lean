/- Plain lemmas and definitions. Nothing is claimed here. -/
import Derived.Test.YtabadclgcgdccaaGreatDoorPv2
namespace Go.Pv
open Go Go.RowKit
inductive SrcR(k:Nat)(i:TInfo)(m:Nat→Option MO):SV→List (List T)→List (Nat×Option MO)→List Nat→Prop
 |nil (hk:k=2):SrcR k i m .nil [] [] []
 |sl (hk:k=2) (rows:List (List T)) (h:rowsScal rows):SrcR k i m (.t (.sl i.size rows)) rows [] []
 |str (hk:k=1) (l:List UInt8) (h:i.size=1):SrcR k i m (.t (.str l)) (rowsI .u8 (intsOf l)) [] []
 |ref (hk:k=2) (id ver:Nat) (rows:List (List T)) (h:m id=some (.row ver i.size rows)):SrcR k i m (.ref id ver) rows [(id,none)] [id]
structure OkSl(C:Ctx)(t:Nat):Prop where
 k:(C.i t).kind=2
 e:1≤(C.i (C.i t).elem).kind
 z:1≤(C.i (C.i t).elem).size
 l:(C.i (C.i t).elem).zero.length=(C.i (C.i t).elem).size
 b:1≤(C.i (C.i t).elem).bytes
inductive BuiltR(C:Ctx)(m:Nat→Option MO)(ts:List Nat)(d:Nat):Builtin→List SV→Eff→Prop
 |lenStr (l:List UInt8) (h:(C.i (ts.headD 0)).kind=1):BuiltR C m ts d .len [.t (.str l)] (pureE (.t (.int .i64 (l.length:Int))))
 |lenSl (z:Nat) (rows:List (List T)) (h:(C.i (ts.headD 0)).kind=2):BuiltR C m ts d .len [.t (.sl z rows)] (pureE (.t (.int .i64 (rows.length:Int))))
 |lenNil (h:(C.i (ts.headD 0)).kind=2):BuiltR C m ts d .len [.nil] (pureE (.t (.int .i64 0)))
 |lenRef (id ver z:Nat) (rows:List (List T)) (hm:m id=some (.row ver z rows)) (h:(C.i (ts.headD 0)).kind=2):
  BuiltR C m ts d .len [.ref id ver] ⟨.t (.int .i64 (rows.length:Int)),[],[id],[]⟩
 |clear (id ver:Nat) (lo:Int) (rows:List (List T)) (zt:List T) (hm:m id=some (.row ver (C.i (C.i (ts.headD 0)).elem).size rows)) (hk:(C.i (ts.headD 0)).kind=2) (he:1≤(C.i (C.i (ts.headD 0)).elem).kind) (hz:1≤(C.i (C.i (ts.headD 0)).elem).size)
  (hl:(C.i (C.i (ts.headD 0)).elem).zero.length=(C.i (C.i (ts.headD 0)).elem).size) (hz0:refsL (refs 4) (C.i (C.i (ts.headD 0)).elem).zero=[]) (hz1:(C.i (C.i (ts.headD 0)).elem).zero.all cell1=true) (hzt:all2 (rbo m 4) (C.i (C.i (ts.headD 0)).elem).zero zt):
  BuiltR C m ts d .clear [.vw id ver lo] ⟨.gone,[(id,some (.row ver (C.i (C.i (ts.headD 0)).elem).size (rows.take lo.toNat++List.replicate (rows.length -lo.toNat) zt)))],[id],[]⟩
 |copy (id ver:Nat) (lo:Int) (l:List UInt8) (rows:List (List T)) (hm:m id=some (.row ver 1 rows)) (hk:(C.i (ts.headD 0)).kind=2) (he:1≤(C.i (C.i (ts.headD 0)).elem).kind) (hz:(C.i (C.i (ts.headD 0)).elem).size=1):
  BuiltR C m ts d .copy [.vw id ver lo,.t (.str l)] ⟨.t (.int .i64 ((min l.length (rows.length -lo.toNat):Nat):Int)),[(id,some (.row ver 1 (overR rows lo.toNat (rowsI .u8 (intsOf l)))))],[id],[]⟩
 |min (a b x:T) (h:minT a b=some x):BuiltR C m ts d .min [.t a,.t b] (pureE (.t x))
 |max (a b x:T) (h:maxT a b=some x):BuiltR C m ts d .max [.t a,.t b] (pureE (.t x))
 |appNil (ty ty2:Nat) (src:SV) (new rows:List (List T)) (gone:List (Nat×Option MO)) (fp:List Nat) (ht:ts=[ty,ty2]) (hs:SrcR (C.i ty2).kind (C.i (C.i ty).elem) m src new gone fp) (ok:OkSl C ty)
  (h:app (C.i (C.i ty).elem).bytes [] new=some rows):
  BuiltR C m ts d .append [.nil,src] ⟨.ref d 0,(d,some (.row 0 (C.i (C.i ty).elem).size rows))::gone,d::fp,[(d,0)]⟩
 |appRef (ty ty2:Nat) (id ver:Nat) (src:SV) (old new rows:List (List T)) (gone:List (Nat×Option MO)) (fp:List Nat) (ht:ts=[ty,ty2]) (hs:SrcR (C.i ty2).kind (C.i (C.i ty).elem) m src new gone fp) (ok:OkSl C ty)
  (hm:m id=some (.row ver (C.i (C.i ty).elem).size old)) (hg:id∉keys gone) (h:app (C.i (C.i ty).elem).bytes old new=some rows):
  BuiltR C m ts d .append [.ref id ver,src] ⟨.ref id (d+2),(id,some (.row (d+2) (C.i (C.i ty).elem).size rows))::gone,id::fp,[(id,d+2)]⟩
 |appFull (ty ty2:Nat) (id:Nat) (src:SV) (old new rows:List (List T)) (gone:List (Nat×Option MO)) (fp:List Nat) (ht:ts=[ty,ty2]) (hs:SrcR (C.i ty2).kind (C.i (C.i ty).elem) m src new gone fp) (ok:OkSl C ty)
  (hm:m id=some (.row 1 (C.i (C.i ty).elem).size old)) (ho:rowsScal old) (hn:rowsScal new) (hne:new≠[]) (h:app (C.i (C.i ty).elem).bytes old new=some rows):
  BuiltR C m ts d .append [.ref id 1,src] ⟨.ref d 0,[(d,some (.row 0 (C.i (C.i ty).elem).size rows))],d::id::fp,[(d,0)]⟩
 |appFs (ty ty2:Nat) (old new rows:List (List T)) (ht:ts=[ty,ty2]) (ok:OkSl C ty) (hk2:(C.i ty2).kind=2) (ho:rowsScal old) (hn:rowsScal new) (hne:new≠[]) (h:app (C.i (C.i ty).elem).bytes old new=some rows):
  BuiltR C m ts d .append [.fs (C.i (C.i ty).elem).size old,.fs (C.i (C.i ty).elem).size new] ⟨.ref d 0,[(d,some (.row 0 (C.i (C.i ty).elem).size rows))],[d],[(d,0)]⟩
def EqK(op:BinOp)(p:Bool)(q:Bool):Prop:=(op= .eql∧q=p)∨(op= .neq∧q= !p)
inductive EffR(C:Ctx)(s:Nat→SV)(m:Nat→Option MO)(o:Oper):Eff→Prop
 |move (x:Operand) (h:o.op= .move x∨o.op= .assign x):EffR C s m o (pureE (opnd s x))
 |pick (c a b:Operand) (p:Bool) (h:o.op= .pick c a b) (hc:opnd s c= .t (.bool p)):EffR C s m o (pureE (opnd s (if p then a else b)))
 |alloc (t:Nat) (h:o.op= .alloc t) (hk:1≤(C.i t).kind):EffR C s m o ⟨.ptr (o.dst.getD 0) 0,[(o.dst.getD 0,some (.var (C.i t).zero))],[o.dst.getD 0],[(o.dst.getD 0,0)]⟩
 |box (t:Nat) (x:Operand) (h:o.op= .box t x) (hx:okC (opnd s x)=true):EffR C s m o ⟨.ptr (o.dst.getD 0) 0,[(o.dst.getD 0,some (.var (opnd s x).cells))],[o.dst.getD 0],[(o.dst.getD 0,0)]⟩
 |build (t:Nat) (parts:Array (Nat×Operand)) (cs:List SV) (h:o.op= .build t parts) (hk:(C.i t).kind=3) (hf:∀f∈(C.i t).fields,1≤(C.i f.2).kind)
  (hc:fillAll (fun k=>((C.i t).fields[k]?).map fun f=>(f.1,(C.i f.2).size)) (C.i t).zero (parts.toList.map fun p=>(p.1,opnd s p.2))=some cs):EffR C s m o (pureE (.agg cs))
 |buildSlice (t len:Nat) (parts:Array (Nat×Operand)) (cs:List SV) (rows:List (List T)) (h:o.op= .buildSlice t len parts) (ok:OkSl C t) (hl:len*(C.i (C.i t).elem).size≤4096)
  (hc:fillAll (fun k=>some (k*(C.i (C.i t).elem).size,(C.i (C.i t).elem).size)) ((List.replicate len (C.i (C.i t).elem).zero).flatten) (parts.toList.map fun p=>(p.1,opnd s p.2))=some cs)
  (hr:all2 (all2 (rbo m 4)) (rowsN (C.i (C.i t).elem).size len cs) rows) (hn:nodupN (refsL (refs 4) cs)=true) (h1:cs.all cell1=true):
  EffR C s m o ⟨.ref (o.dst.getD 0) (fv C t len),(o.dst.getD 0,some (.row (fv C t len) (C.i (C.i t).elem).size rows))::(refsL (refs 4) cs).map (fun id=>(id,none)),o.dst.getD 0::refsL (refs 4) cs,fvT C t len (o.dst.getD 0)⟩
 |makeSlice (t:Nat) (x y:Operand) (n:Int) (rows:List (List T)) (h:o.op= .makeSlice t x y) (ok:OkSl C t) (hx:opnd s x= .t (.int .i64 n)) (hy:opnd s y= .t (.int .i64 n))
  (zt:List T) (hr:mks (C.i (C.i t).elem).bytes n zt=some rows) (hz:all2 (rbo m 4) (C.i (C.i t).elem).zero zt) (hz1:(C.i (C.i t).elem).zero.all cell1=true) (hz0:refsL (refs 4) (C.i (C.i t).elem).zero=[]):
  EffR C s m o ⟨.ref (o.dst.getD 0) 0,[(o.dst.getD 0,some (.row 0 (C.i (C.i t).elem).size rows))],[o.dst.getD 0],[(o.dst.getD 0,0)]⟩
 |loadP (t:Nat) (a:Operand) (id off:Nat) (l:List SV) (h:o.op= .load t a) (hk:1≤(C.i t).kind) (hz:1≤(C.i t).size) (ha:opnd s a= .ptr id off) (hm:m id=some (.var l))
  (hl:off+(C.i t).size≤l.length):EffR C s m o ⟨valOf (C.i t).agg ((l.drop off).take (C.i t).size),[],[id],[]⟩
 |loadR (t:Nat) (a:Operand) (l:List T) (h:o.op= .load t a) (hk:1≤(C.i t).kind) (hz:1≤(C.i t).size) (ha:opnd s a= .rptr l)
  (hl:(C.i t).size≤l.length):EffR C s m o (pureE (valOf (C.i t).agg ((l.take (C.i t).size).map SV.t)))
 |loadE (t:Nat) (a:Operand) (id ver off z:Nat) (j:Int) (rows:List (List T)) (row:List T) (h:o.op= .load t a) (hk:1≤(C.i t).kind) (hz:1≤(C.i t).size)
  (ha:opnd s a= .eptr id ver j off) (hm:m id=some (.row ver z rows)) (hi:idx rows j=some row) (hl:off+(C.i t).size≤row.length) (hs:scal ((row.drop off).take (C.i t).size)):
  EffR C s m o ⟨valOf (C.i t).agg (((row.drop off).take (C.i t).size).map SV.t),[],[id],[]⟩
 |loadO (t:Nat) (a:Operand) (id ver off z:Nat) (j:Int) (rows:List (List T)) (row:List T) (h:o.op= .load t a) (hk:1≤(C.i t).kind) (hz:1≤(C.i t).size)
  (ha:opnd s a= .eptr id ver j off) (hm:m id=some (.row ver z rows)) (hi:idx rows j=some row) (hl:off+(C.i t).size≤row.length) (hc:row.all cellOK=true) (hn:id∉keys (impCells (o.dst.getD 0) 0 row).2):
  EffR C s m o ⟨valOf (C.i t).agg (((impCells (o.dst.getD 0) 0 row).1.drop off).take (C.i t).size),(id,some (.rowv ver z rows j (impCells (o.dst.getD 0) 0 row).1))::(impCells (o.dst.getD 0) 0 row).2,id::keys (impCells (o.dst.getD 0) 0 row).2,toks (impCells (o.dst.getD 0) 0 row).2⟩
 |loadV (t:Nat) (a:Operand) (id ver off z:Nat) (j:Int) (rows:List (List T)) (l:List SV) (h:o.op= .load t a) (hk:1≤(C.i t).kind) (hz:1≤(C.i t).size)
  (ha:opnd s a= .eptr id ver j off) (hm:m id=some (.rowv ver z rows j l)) (hl:off+(C.i t).size≤l.length):EffR C s m o ⟨valOf (C.i t).agg ((l.drop off).take (C.i t).size),[],[id],[]⟩
 |storeV (t:Nat) (a x:Operand) (id ver off z:Nat) (j:Int) (rows:List (List T)) (l:List SV) (h:o.op= .store t a x) (hk:1≤(C.i t).kind) (hc:(opnd s x).cells.length=(C.i t).size) (hok:okC (opnd s x)=true) (h1:(opnd s x).cells.all cell1=true)
  (ha:opnd s a= .eptr id ver j off) (hm:m id=some (.rowv ver z rows j l)) (hl:off+(C.i t).size≤l.length):EffR C s m o ⟨.gone,[(id,some (.rowv ver z rows j (fillAt l off (opnd s x).cells)))],[id],[]⟩
 |storeP (t:Nat) (a x:Operand) (id off:Nat) (l:List SV) (h:o.op= .store t a x) (hk:1≤(C.i t).kind) (hc:(opnd s x).cells.length=(C.i t).size) (hok:okC (opnd s x)=true) (h1:(opnd s x).cells.all cell1=true) (ha:opnd s a= .ptr id off)
  (hm:m id=some (.var l)) (hl:off+(C.i t).size≤l.length):EffR C s m o ⟨.gone,[(id,some (.var (fillAt l off (opnd s x).cells)))],[id],[]⟩
 |storeE (t:Nat) (a x:Operand) (id ver off z:Nat) (j:Int) (rows:List (List T)) (row:List T) (h:o.op= .store t a x) (hk:1≤(C.i t).kind) (hc:(opnd s x).cells.length=(C.i t).size) (hok:okC (opnd s x)=true) (h1:(opnd s x).cells.all cell1=true)
  (ha:opnd s a= .eptr id ver j off) (hm:m id=some (.row ver z rows)) (ts:List T) (hs:all2 (rbo m 4) (opnd s x).cells ts) (hn:nodupN (refsL (refs 4) (opnd s x).cells)=true) (hnot:id∉refsL (refs 4) (opnd s x).cells) (hi:idx rows j=some row) (hl:off+(C.i t).size≤row.length):
  EffR C s m o ⟨.gone,(id,some (.row ver z (rows.set j.toNat (row.take off++ts++row.drop (off+(C.i t).size)))))::(refsL (refs 4) (opnd s x).cells).map (fun id=>(id,none)),id::refsL (refs 4) (opnd s x).cells,[]⟩
 |nilCheckP (x:Operand) (id off:Nat) (l:List SV) (h:o.op= .nilCheck x) (hx:opnd s x= .ptr id off) (hm:m id=some (.var l)):EffR C s m o ⟨.ptr id off,[],[id],[]⟩
 |nilCheckR (x:Operand) (l:List T) (h:o.op= .nilCheck x) (hx:opnd s x= .rptr l):EffR C s m o (pureE (.rptr l))
 |int (op:BinOp) (t u:Nat) (x y:Operand) (k:IntKind) (a b:Int) (r:T) (h:o.op= .binOp op t x y u) (hx:opnd s x= .t (.int k a)) (hy:opnd s y= .t (.int k b)) (hr:intBin op k a b=some r):
  EffR C s m o (pureE (.t r))
 |quo (t u:Nat) (x y:Operand) (k:IntKind) (a b:Int) (h:o.op= .binOp .quo t x y u) (hx:opnd s x= .t (.int k a)) (hy:opnd s y= .t (.int k b)) (hb:b≠0):
  EffR C s m o (pureE (.t (.int k (k.wrap (a.tdiv b)))))
 |rem (t u:Nat) (x y:Operand) (k:IntKind) (a b:Int) (h:o.op= .binOp .rem t x y u) (hx:opnd s x= .t (.int k a)) (hy:opnd s y= .t (.int k b)) (hb:b≠0):
  EffR C s m o (pureE (.t (.int k (a.tmod b))))
 |shl (t u:Nat) (x y:Operand) (k k':IntKind) (a b r:Int) (h:o.op= .binOp .shl t x y u) (hx:opnd s x= .t (.int k a)) (hy:opnd s y= .t (.int k' b)) (hr:shlI k a b=some r):EffR C s m o (pureE (.t (.int k r)))
 |shr (t u:Nat) (x y:Operand) (k k':IntKind) (a b r:Int) (h:o.op= .binOp .shr t x y u) (hx:opnd s x= .t (.int k a)) (hy:opnd s y= .t (.int k' b)) (hr:shrI k a b=some r):EffR C s m o (pureE (.t (.int k r)))
 |strAdd (t u:Nat) (x y:Operand) (a b r:List UInt8) (h:o.op= .binOp .add t x y u) (hx:opnd s x= .t (.str a)) (hy:opnd s y= .t (.str b)) (hr:cat a b=some r):EffR C s m o (pureE (.t (.str r)))
 |strBin (op:BinOp) (t u:Nat) (x y:Operand) (a b:List UInt8) (r:T) (h:o.op= .binOp op t x y u) (hx:opnd s x= .t (.str a)) (hy:opnd s y= .t (.str b)) (hr:Pv.strBin op a b=some r):
  EffR C s m o (pureE (.t r))
 |boolEq (op:BinOp) (t u:Nat) (x y:Operand) (a b q:Bool) (h:o.op= .binOp op t x y u) (hx:opnd s x= .t (.bool a)) (hy:opnd s y= .t (.bool b)) (hk:(C.i t).kind=5) (hq:EqK op (a==b) q):
  EffR C s m o (pureE (.t (.bool q)))
 |errEq (op:BinOp) (t u:Nat) (x:Operand) (c:Value) (a q:Bool) (h:o.op= .binOp op t x (.const c) u) (hx:opnd s x= .t (.err a)) (hy:opnd s (.const c)= .t (.err false)) (hk:(C.i t).kind=6) (hq:EqK op (!a) q):
  EffR C s m o (pureE (.t (.bool q)))
 |aggEq (op:BinOp) (t u:Nat) (x y:Operand) (a b:List SV) (p q:Bool) (h:o.op= .binOp op t x y u) (hx:opnd s x= .agg a) (hy:opnd s y= .agg b) (ht:t∈C.eqs) (hk:eqTypes C a (C.i t).fields 0=true)
  (hp:eqCells a b=some p) (hq:EqK op p q):EffR C s m o (pureE (.t (.bool q)))
 |not (t:Nat) (x:Operand) (b:Bool) (h:o.op= .unOp .not t x) (hx:opnd s x= .t (.bool b)):EffR C s m o (pureE (.t (.bool (!b))))
 |neg (t:Nat) (x:Operand) (k:IntKind) (n:Int) (h:o.op= .unOp .neg t x) (hx:opnd s x= .t (.int k n)):EffR C s m o (pureE (.t (.int k (k.wrap (0 -n)))))
 |convInt (src dst:Nat) (x:Operand) (k k':IntKind) (n:Int) (h:o.op= .convert src dst x) (hx:opnd s x= .t (.int k' n)) (hk:effK.kindOf (C.i dst).kind=some k) (hs:1≤(C.i src).kind):EffR C s m o (pureE (.t (.int k (k.wrap n))))
 |convStr (src dst:Nat) (x:Operand) (l:List UInt8) (h:o.op= .convert src dst x) (hx:opnd s x= .t (.str l)) (hk:(C.i dst).kind=1) (hs:1≤(C.i src).kind):EffR C s m o (pureE (.t (.str l)))
 |convBytes (src dst:Nat) (x:Operand) (l:List UInt8) (h:o.op= .convert src dst x) (hx:opnd s x= .t (.str l)) (hk:(C.i dst).kind=2) (hs:(C.i src).kind=1) (he:(C.i (C.i dst).elem).kind=15):
  EffR C s m o ⟨.ref (o.dst.getD 0) 0,[(o.dst.getD 0,some (.row 0 1 (rowsI .u8 (intsOf l))))],[o.dst.getD 0],[(o.dst.getD 0,0)]⟩
 |convText (src dst:Nat) (x:Operand) (id ver:Nat) (l:List Int) (h:o.op= .convert src dst x) (hx:opnd s x= .ref id ver) (hk:(C.i dst).kind=1) (hs:(C.i src).kind=2) (he:(C.i (C.i src).elem).kind=15)
  (hm:m id=some (.row ver 1 (rowsI .u8 l))):EffR C s m o ⟨.t (.str (bytesOf l)),[],[id],[]⟩
 |convFz (src dst:Nat) (x:Operand) (l:List Int) (h:o.op= .convert src dst x) (hx:opnd s x= .t (.sl 1 (rowsI .u8 l))) (hk:(C.i dst).kind=1) (hs:(C.i src).kind=2) (he:(C.i (C.i src).elem).kind=15):EffR C s m o (pureE (.t (.str (bytesOf l))))
 |cutStr (t:Nat) (x:Operand) (lo hi:Option Operand) (a r:List UInt8) (l h':Int) (k k':IntKind) (h:o.op= .slice t x lo hi none) (hx:opnd s x= .t (.str a)) (hk:(C.i t).kind=1)
  (hl:loS s lo= .t (.int k l)) (hh:hiS s (a.length:Int) hi= .t (.int k' h')) (hr:ssub a l h'=some r):
  EffR C s m o (pureE (.t (.str r)))
 |cutSl (t:Nat) (x:Operand) (lo hi:Option Operand) (rows r:List (List T)) (l h':Int) (k k':IntKind) (h:o.op= .slice t x lo hi none) (hx:opnd s x= .t (.sl (C.i (C.i t).elem).size rows)) (hk:(C.i t).kind=2) (he:1≤(C.i (C.i t).elem).kind)
  (hl:loS s lo= .t (.int k l)) (hh:hiS s (rows.length:Int) hi= .t (.int k' h')) (hr:ssub rows l h'=some r):
  EffR C s m o (pureE (.t (.sl (C.i (C.i t).elem).size r)))
 |cutE (t:Nat) (x:Operand) (lo hi mx:Option Operand) (id ver:Nat) (rows r:List (List T)) (l h':Int) (k k':IntKind) (h:o.op= .slice t x lo hi mx) (hx:opnd s x= .ref id ver) (hm:m id=some (.row ver (C.i (C.i t).elem).size rows)) (hk:(C.i t).kind=2) (he:1≤(C.i (C.i t).elem).kind)
  (hl:loS s lo= .t (.int k l)) (hh:hiS s (rows.length:Int) hi= .t (.int k' h')) (hr:ssub rows l h'=some r) (hmx:mx=none∨∃y z k2,mx=some y∧hi=some z∧opnd s y= .t (.int k2 h')):
  EffR C s m o ⟨.ref id (o.dst.getD 0+2),[(id,some (.row (o.dst.getD 0+2) (C.i (C.i t).elem).size r))],[id],[(id,o.dst.getD 0+2)]⟩
 |cutV (t:Nat) (x:Operand) (lo:Operand) (id ver:Nat) (rows r:List (List T)) (l:Int) (k:IntKind) (h:o.op= .slice t x (some lo) none none) (hx:opnd s x= .ref id ver) (hm:m id=some (.row ver (C.i (C.i t).elem).size rows)) (hk:(C.i t).kind=2) (he:1≤(C.i (C.i t).elem).kind)
  (hl:opnd s lo= .t (.int k l)) (hr:ssub rows l (rows.length:Int)=some r):EffR C s m o ⟨.vw id ver l,[],[id],[]⟩
 |cutW (t:Nat) (x lo q y:Operand) (id ver:Nat) (rows r:List (List T)) (l:Int) (k k' k2:IntKind) (h:o.op= .slice t x (some lo) (some q) (some y)) (hx:opnd s x= .ref id ver) (hm:m id=some (.row ver (C.i (C.i t).elem).size rows)) (hk:(C.i t).kind=2) (he:1≤(C.i (C.i t).elem).kind)
  (hl:opnd s lo= .t (.int k l)) (hq:opnd s q= .t (.int k' (rows.length:Int))) (hy:opnd s y= .t (.int k2 (rows.length:Int))) (hr:ssub rows l (rows.length:Int)=some r):EffR C s m o ⟨.vw id ver l,[],[id],[]⟩
 |fieldP (t k:Nat) (x:Operand) (f:Nat×Nat) (id off:Nat) (h:o.op= .fieldAddr t x k) (hf:(C.i t).fields[k]? =some f) (hk:(C.i t).kind=3) (hfk:1≤(C.i f.2).kind) (hfz:1≤(C.i f.2).size)
  (hx:opnd s x= .ptr id off) (l:List SV) (hm:m id=some (.var l)):EffR C s m o ⟨.ptr id (off+f.1),[],[id],[]⟩
 |fieldR (t k:Nat) (x:Operand) (f:Nat×Nat) (l:List T) (h:o.op= .fieldAddr t x k) (hf:(C.i t).fields[k]? =some f) (hk:(C.i t).kind=3) (hfk:1≤(C.i f.2).kind) (hfz:1≤(C.i f.2).size)
  (hx:opnd s x= .rptr l):EffR C s m o (pureE (.rptr (l.drop f.1)))
 |fieldE (t k:Nat) (x:Operand) (f:Nat×Nat) (id ver off:Nat) (j:Int) (h:o.op= .fieldAddr t x k) (hf:(C.i t).fields[k]? =some f) (hk:(C.i t).kind=3) (hfk:1≤(C.i f.2).kind) (hfz:1≤(C.i f.2).size)
  (hx:opnd s x= .eptr id ver j off) (z:Nat) (rows:List (List T)) (hm:asRow (m id)=some (.row ver z rows)):EffR C s m o ⟨.eptr id ver j (off+f.1),[],[id],[]⟩
 |field (t k:Nat) (x:Operand) (f:Nat×Nat) (l:List SV) (h:o.op= .field t x k) (hf:(C.i t).fields[k]? =some f) (hk:(C.i t).kind=3) (hfk:1≤(C.i f.2).kind) (hfz:1≤(C.i f.2).size)
  (hx:opnd s x= .agg l) (hl:f.1+(C.i f.2).size≤l.length):EffR C s m o (pureE (valOf (C.i f.2).agg ((l.drop f.1).take (C.i f.2).size)))
 |idxR (t:Nat) (x j:Operand) (k:IntKind) (n:Int) (rows:List (List T)) (row:List T) (h:o.op= .indexAddr t x j) (hk:(C.i t).kind=2) (he:1≤(C.i (C.i t).elem).kind) (hx:opnd s x= .t (.sl (C.i (C.i t).elem).size rows))
  (hj:opnd s j= .t (.int k n)) (hi:idx rows n=some row):EffR C s m o (pureE (.rptr row))
 |idxE (t:Nat) (x j:Operand) (k:IntKind) (n:Int) (id ver:Nat) (rows:List (List T)) (row:List T) (h:o.op= .indexAddr t x j) (hk:(C.i t).kind=2) (he:1≤(C.i (C.i t).elem).kind) (hx:opnd s x= .ref id ver)
  (hm:asRow (m id)=some (.row ver (C.i (C.i t).elem).size rows)) (hj:opnd s j= .t (.int k n)) (hi:idx rows n=some row):EffR C s m o ⟨.eptr id ver n 0,[],[id],[]⟩
 |index (t:Nat) (x j:Operand) (k:IntKind) (n:Int) (l:List UInt8) (c:UInt8) (h:o.op= .index t x j) (hk:(C.i t).kind=1) (hx:opnd s x= .t (.str l)) (hj:opnd s j= .t (.int k n))
  (hi:idx l n=some c):EffR C s m o (pureE (.t (.int .u8 (c.toNat:Int))))
 |extract (x:Operand) (k:Nat) (l:List SV) (v:SV) (h:o.op= .extract x k) (hx:opnd s x= .tup l) (hv:l[k]? =some v):EffR C s m o (pureE v)
 |makeFunc (f:FuncId) (cap:Array Operand) (h:o.op= .makeFunc (.func f) #[] cap):EffR C s m o (pureE (.clo f (cap.toList.map (opnd s))))
 |builtin (c:Call) (b:Builtin) (e:Eff) (h:o.op= .call c) (hc:c.callee= .builtin b) (hb:BuiltR C m c.argTypes.toList (o.dst.getD 0) b (c.args.toList.map (opnd s)) e):EffR C s m o e
 |callP (c:Call) (f:Operand) (g:FuncId) (cap:List SV) (id:Nat) (r l:List SV) (l0 ts l1:List T) (res:T) (h:o.op= .call c) (hc:c.callee= .value f) (hf:opnd s f= .clo g cap) (hv:c.args.toList.map (opnd s)++cap= .ptr id 0::r) (hm:m id=some (.var l)) (hl:l=l0.map SV.t)
  (ht:all2 (rb m 4) r ts) (hp:r.all (plainS 4)=true) (hid:id∉refsL (refs 4) r) (hq:memN g C.kq=true→handR r=true) (hw:C.cp g l0 ts res l1) (hi:impOK res=true):
  EffR C s m o ⟨(imp (o.dst.getD 0) res).1,(id,some (.var (l1.map SV.t)))::((imp (o.dst.getD 0) res).2++(refsL (refs 4) r).map fun j=>(j,none)),id::(keys (imp (o.dst.getD 0) res).2++refsL (refs 4) r),toks (imp (o.dst.getD 0) res).2⟩
 |callT (c:Call) (f:Operand) (g:FuncId) (cap:List SV) (id ver sz:Nat) (r:List SV) (rows:List (List T)) (ts:List T) (res:T) (out:Option (List (List T))) (h:o.op= .call c) (hc:c.callee= .value f) (hf:opnd s f= .clo g cap) (hv:c.args.toList.map (opnd s)++cap= .ref id ver::r) (hm:m id=some (.row ver sz rows))
  (ht:all2 (rb m 4) r ts) (hp:r.all (plainS 4)=true) (hid:id∉refsL (refs 4) r) (hw:C.ct g sz rows ts res out) (hi:impOK res=true):
  EffR C s m o ⟨(imp (o.dst.getD 0) res).1,(id,out.map fun rs=> .row ver sz rs)::((imp (o.dst.getD 0) res).2++(refsL (refs 4) r).map fun j=>(j,none)),id::(keys (imp (o.dst.getD 0) res).2++refsL (refs 4) r),toks (imp (o.dst.getD 0) res).2⟩
 |callB (c:Call) (f:Operand) (g:FuncId) (cap:List SV) (ts l1:List T) (h:o.op= .call c) (hc:c.callee= .value f) (hf:opnd s f= .clo g cap)
  (ht:all2 (rb m 4) (c.args.toList.map (opnd s)++cap) ts) (hp:(c.args.toList.map (opnd s)++cap).all (plainS 4)=true) (hw:C.cb g ts l1):
  EffR C s m o ⟨.ptr (o.dst.getD 0) 0,(o.dst.getD 0,some (.var (l1.map SV.t)))::(refsL (refs 4) (c.args.toList.map (opnd s)++cap)).map fun j=>(j,none),o.dst.getD 0::refsL (refs 4) (c.args.toList.map (opnd s)++cap),[(o.dst.getD 0,0)]⟩
 |callW (c:Call) (f:Operand) (g:FuncId) (cap:List SV) (ts outs:List T) (res:T) (mw:List (Nat×Option MO)) (h:o.op= .call c) (hc:c.callee= .value f) (hf:opnd s f= .clo g cap)
  (ht:all2 (rbo m 4) (c.args.toList.map (opnd s)++cap) ts) (hn:nodupN (refsL (refs 4) (c.args.toList.map (opnd s)++cap))=true) (hw:C.cw g ts res outs)
  (hb:effK.backs m (c.args.toList.map (opnd s)++cap) outs=some mw) (hs:res.scalar=true) (hk:∀id∈refsL (refs 4) (c.args.toList.map (opnd s)++cap),id∈keys mw):EffR C s m o ⟨.t res,mw,refsL (refs 4) (c.args.toList.map (opnd s)++cap),[]⟩
 |call (c:Call) (f:Operand) (g:FuncId) (cap:List SV) (ts:List T) (res:T) (h:o.op= .call c) (hc:c.callee= .value f) (hf:opnd s f= .clo g cap)
  (ht:all2 (rb m 4) (c.args.toList.map (opnd s)++cap) ts) (hw:C.cs g ts res) (hi:impOK res=true):
  EffR C s m o ⟨(imp (o.dst.getD 0) res).1,(imp (o.dst.getD 0) res).2,keys (imp (o.dst.getD 0) res).2++(c.args.toList.map (opnd s)++cap).flatMap (deepRefs m 4),toks (imp (o.dst.getD 0) res).2⟩
theorem bcond_false{b:Bool}{p:Prop}(h:bcond b p False):b=true∧p:=by
 cases b
 ·exact h.elim
 ·exact⟨rfl,h⟩
theorem optK_some{α:Type}{o:Option α}{K:α→Prop}(h:optK o K):∃a,o=some a∧K a:=by
 cases o
 ·exact h.elim
 ·exact⟨_,rfl,h⟩
theorem beqN{a b:Nat}(h:Nat.beq a b=true):a=b:=Nat.eq_of_beq_eq_true h
theorem bleN{a b:Nat}(h:Nat.ble a b=true):a≤b:=Nat.le_of_ble_eq_true h
theorem memN_iff{k:Nat}{l:List Nat}:memN k l=true↔k∈l:=by
 induction l with
 |nil=>simp[memN]
 |cons a r ih=>
  cases h:Nat.beq a k with
  |true=>simp[memN,beqN h]
  |false=>
   have:a≠k:=fun e=>by rw[e]at h;simp at h
   simp only[memN,h,cond_false,ih,List.mem_cons]
   constructor
   ·exact Or.inr
   ·rintro(rfl|h)
    ·exact absurd rfl this
    ·exact h
theorem memN_not{k:Nat}{l:List Nat}(h:(!memN k l)=true):k∉l:=fun hm=>by rw[memN_iff.2 hm]at h;simp at h
theorem app_of{C:Ctx}{m:Nat→Option MO}{ty ty2 d:Nat}{dst src:SV}{new:List (List T)}{gone:List (Nat×Option MO)}{fp:List Nat}{K:Eff→Prop}
 (hs:SrcR (C.i ty2).kind (C.i (C.i ty).elem) m src new gone fp) (h:appK C m ty d dst new gone fp K):∃e,BuiltR C m [ty,ty2] d .append [dst,src] e∧K e:=by
 unfold appK at h
 split at h
 ·obtain⟨hb,rows,hr,hK⟩:=bcond_false h
  simp only[Bool.and_eq_true]at hb
  exact⟨_,.appNil _ _ _ _ _ _ _ rfl hs ⟨beqN hb.1.1.1.1,bleN hb.1.1.1.2,bleN hb.1.1.2,beqN hb.1.2,bleN hb.2⟩ hr,hK⟩
 ·split at h
  ·rename_i id ver _ v z old hm
   cases hv:Nat.beq ver 1 with
   |true=>
    rw[hv]at h
    obtain⟨hb,rows,ho,hn,hne,hr,hK⟩:=bcond_false h
    clear h
    simp only[Bool.and_eq_true]at hb
    obtain⟨⟨⟨⟨⟨⟨h1,h2⟩,h3⟩,h7⟩,h8⟩,h4⟩,h5⟩:=hb
    obtain rfl:=beqN hv
    obtain rfl:=beqN h4
    obtain rfl:=beqN h5
    exact⟨_,.appFull _ _ _ _ _ _ _ _ _ rfl hs ⟨beqN h1,bleN h2,bleN h3,beqN h7,bleN h8⟩ hm ho hn hne hr,hK⟩
   |false=>
   rw[hv]at h
   obtain⟨hb,rows,hr,hK⟩:=bcond_false h
   clear h
   simp only[Bool.and_eq_true]at hb
   obtain⟨⟨⟨⟨⟨⟨⟨h1,h2⟩,h3⟩,h7⟩,h8⟩,h4⟩,h5⟩,h6⟩:=hb
   obtain rfl:=beqN h4
   obtain rfl:=beqN h5
   exact⟨_,.appRef _ _ _ _ _ _ _ _ _ _ rfl hs ⟨beqN h1,bleN h2,bleN h3,beqN h7,bleN h8⟩ hm (memN_not h6) hr,hK⟩
  ·exact h.elim
 ·exact h.elim
theorem built_of{C:Ctx}{m:Nat→Option MO}{b:Builtin}{ts:List Nat}{d:Nat}{args:List SV}{K:Eff→Prop}(h:builtinK C m b ts d args K):∃e,BuiltR C m ts d b args e∧K e:=by
 unfold builtinK at h
 split at h
 ·obtain⟨hb,hK⟩:=bcond_false h
  exact⟨_,.lenStr _ (beqN hb),hK⟩
 ·obtain⟨hb,hK⟩:=bcond_false h
  exact⟨_,.lenSl _ _ (beqN hb),hK⟩
 ·obtain⟨hb,hK⟩:=bcond_false h
  exact⟨_,.lenNil (beqN hb),hK⟩
 ·split at h
  ·rename_i hm
   obtain⟨hb,hK⟩:=bcond_false h
   clear h
   simp only[Bool.and_eq_true]at hb
   obtain rfl:=beqN hb.1
   exact⟨_,.lenRef _ _ _ _ hm (beqN hb.2),hK⟩
  ·exact h.elim
 ·split at h
  ·rename_i hm
   obtain⟨hb,zt,hzt,hK⟩:=bcond_false h
   clear h
   simp only[Bool.and_eq_true]at hb
   obtain⟨⟨⟨⟨⟨⟨⟨b1,b2⟩,b3⟩,b4⟩,b5⟩,b6⟩,b7⟩,b8⟩:=hb
   obtain rfl:=beqN b1
   obtain rfl:=beqN b5
   exact⟨_,.clear _ _ _ _ _ hm (beqN b2) (bleN b3) (bleN b4) (beqN b6) (List.isEmpty_iff.1 b7) b8 hzt,hK⟩
  ·exact h.elim
 ·split at h
  ·rename_i hm
   obtain⟨hb,hK⟩:=bcond_false h
   clear h
   simp only[Bool.and_eq_true]at hb
   obtain⟨⟨⟨⟨b1,b2⟩,b3⟩,b4⟩,b5⟩:=hb
   obtain rfl:=beqN b1
   obtain rfl:=beqN b2
   exact⟨_,.copy _ _ _ _ _ hm (beqN b3) (bleN b4) (beqN b5),hK⟩
  ·exact h.elim
 ·obtain⟨x,hx,hK⟩:=optK_some h
  exact⟨_,.min _ _ _ hx,hK⟩
 ·obtain⟨x,hx,hK⟩:=optK_some h
  exact⟨_,.max _ _ _ hx,hK⟩
 ·split at h
  ·split at h
   ·obtain⟨hb,hK⟩:=bcond_false h
    exact app_of (.nil (beqN hb)) hK
   ·obtain⟨hb,hs,hK⟩:=bcond_false h
    clear h
    simp only[Bool.and_eq_true]at hb
    obtain rfl:=beqN hb.2
    exact app_of (.sl (beqN hb.1) _ hs) hK
   ·obtain⟨hb,hK⟩:=bcond_false h
    simp only[Bool.and_eq_true]at hb
    exact app_of (.str (beqN hb.1) _ (beqN hb.2)) hK
   ·split at h
    ·rename_i hm
     obtain⟨hb,hK⟩:=bcond_false h
     clear h
     simp only[Bool.and_eq_true]at hb
     obtain rfl:=beqN hb.1.2
     obtain rfl:=beqN hb.2
     exact app_of (.ref (beqN hb.1.1) _ _ _ hm) hK
    ·exact h.elim
   ·split at h
    ·obtain⟨hb,rows,ho,hn,hne,hr,hK⟩:=bcond_false h
     clear h
     simp only[Bool.and_eq_true]at hb
     obtain⟨⟨⟨⟨⟨⟨⟨h0,h1⟩,h2⟩,h3⟩,h4⟩,h5⟩,h6⟩,h7⟩:=hb
     obtain rfl:=beqN h6
     obtain rfl:=beqN h7
     exact⟨_,.appFs _ _ _ _ _ rfl ⟨beqN h1,bleN h2,bleN h3,beqN h4,bleN h5⟩ (beqN h0) ho hn hne hr,hK⟩
    ·exact h.elim
   ·exact h.elim
  ·exact h.elim
 ·exact h.elim
set_option maxHeartbeats 1000000 in
theorem eff_of{C:Ctx}{s:Nat→SV}{m:Nat→Option MO}{o:Oper}{K:Eff→Prop}(h:effK C s m o K):∃e,EffR C s m o e∧K e:=by
 unfold effK at h
 dsimp only at h
 split at h
 ·rename_i hop
  exact⟨_,.move _ (.inl hop),h⟩
 ·rename_i hop
  exact⟨_,.move _ (.inr hop),h⟩
 ·rename_i hop --pick
  split at h
  ·rename_i p hc
   refine⟨_,.pick _ _ _ p hop hc, ?_⟩
   cases p<;>exact h
  ·exact h.elim
 ·rename_i hop --alloc
  obtain⟨hb,hK⟩:=bcond_false h
  exact⟨_,.alloc _ hop (bleN hb),hK⟩
 ·rename_i hop --box
  obtain⟨hb,hK⟩:=bcond_false h
  exact⟨_,.box _ _ hop hb,hK⟩
 ·rename_i hop --build
  obtain⟨hb,hK⟩:=bcond_false h
  obtain⟨cs,hc,hK⟩:=optK_some hK
  simp only[Bool.and_eq_true,List.all_eq_true]at hb
  exact⟨_,.build _ _ _ hop (beqN hb.1) (fun f hf=>bleN (hb.2 f hf)) hc,hK⟩
 ·rename_i hop --buildSlice
  obtain⟨hb,hK⟩:=bcond_false h
  obtain⟨cs,hc,rows,hr,hn,hK⟩:=optK_some hK
  simp only[Bool.and_eq_true]at hb hn
  exact⟨_,.buildSlice _ _ _ _ _ hop ⟨beqN hb.1.1.1.1.1,bleN hb.1.1.1.1.2,bleN hb.1.1.1.2,beqN hb.1.1.2,bleN hb.1.2⟩ (bleN hb.2) hc hr hn.1 hn.2,hK⟩
 ·rename_i hop --makeSlice
  split at h
  ·rename_i hx hy
   obtain⟨hb,rows,zt,hz,hr,hK⟩:=bcond_false h
   clear h
   simp only[Bool.and_eq_true,beq_iff_eq]at hb
   obtain⟨⟨⟨⟨⟨⟨⟨h1,h2⟩,h3⟩,h4⟩,h5⟩,h6⟩,h7⟩,h8⟩:=hb
   subst h1
   exact⟨_,.makeSlice _ _ _ _ _ hop ⟨beqN h2,bleN h3,bleN h4,beqN h5,bleN h6⟩ hx hy zt hr hz h8 (List.isEmpty_iff.1 h7),hK⟩
  ·exact h.elim
 ·rename_i hop --load
  split at h
  ·rename_i ha
   split at h
   ·rename_i hm
    obtain⟨hb,hK⟩:=bcond_false h
    simp only[Bool.and_eq_true]at hb
    exact⟨_,.loadP _ _ _ _ _ hop (bleN hb.1.1) (bleN hb.1.2) ha hm (bleN hb.2),hK⟩
   ·exact h.elim
  ·rename_i ha
   obtain⟨hb,hK⟩:=bcond_false h
   simp only[Bool.and_eq_true]at hb
   exact⟨_,.loadR _ _ _ hop (bleN hb.1.1) (bleN hb.1.2) ha (bleN hb.2),hK⟩
  ·rename_i ha
   split at h
   ·rename_i hm
    obtain⟨hb,h2⟩:=bcond_false h
    clear h
    simp only[Bool.and_eq_true]at hb
    obtain rfl:=beqN hb.1.1
    unfold bcond at h2
    split at h2
    ·obtain⟨row,hi,hl,hs,hK⟩:=h2
     exact⟨_,.loadE _ _ _ _ _ _ _ _ _ hop (bleN hb.1.2) (bleN hb.2) ha hm hi (bleN hl) hs,hK⟩
    ·obtain⟨row,hi,hl,hc,hn,hK⟩:=h2
     exact⟨_,.loadO _ _ _ _ _ _ _ _ _ hop (bleN hb.1.2) (bleN hb.2) ha hm hi (bleN hl) hc (fun h=>by rw[memN_iff.2 h]at hn;cases hn),hK⟩
   ·rename_i hm
    obtain⟨hb,h2⟩:=bcond_false h
    clear h
    obtain⟨hq,hK⟩:=bcond_false h2
    clear h2
    simp only[Bool.and_eq_true]at hb
    obtain rfl:=beqN hb.1.1.1
    obtain rfl:=eq_of_beq hq
    exact⟨_,.loadV _ _ _ _ _ _ _ _ _ hop (bleN hb.1.1.2) (bleN hb.1.2) ha hm (bleN hb.2),hK⟩
   ·exact h.elim
  ·exact h.elim
 ·rename_i hop --store
  obtain⟨hb,hK⟩:=bcond_false h
  clear h
  simp only[Bool.and_eq_true]at hb
  obtain⟨⟨hb,hok⟩,h1⟩:=hb
  split at hK
  ·rename_i ha
   split at hK
   ·rename_i hm
    obtain⟨hb2,hK⟩:=bcond_false hK
    exact⟨_,.storeP _ _ _ _ _ _ hop (bleN hb.1) (beqN hb.2) hok h1 ha hm (bleN hb2),hK⟩
   ·exact hK.elim
  ·rename_i ha
   split at hK
   ·rename_i hm
    obtain⟨hb2,row,ts,hi,hl,hts,hK2⟩:=bcond_false hK
    clear hK
    simp only[Bool.and_eq_true,Bool.not_eq_true']at hb2
    obtain rfl:=beqN hb2.1.1
    exact⟨_,.storeE _ _ _ _ _ _ _ _ _ _ hop (bleN hb.1) (beqN hb.2) hok h1 ha hm ts hts hb2.1.2 (fun h=>by rw[memN_iff.2 h]at hb2;exact absurd hb2.2 (by simp)) hi (bleN hl),hK2⟩
   ·rename_i hm
    obtain⟨hb2,h2⟩:=bcond_false hK
    clear hK
    obtain⟨hq,hK⟩:=bcond_false h2
    clear h2
    simp only[Bool.and_eq_true]at hb2
    obtain rfl:=beqN hb2.1
    obtain rfl:=eq_of_beq hq
    exact⟨_,.storeV _ _ _ _ _ _ _ _ _ _ hop (bleN hb.1) (beqN hb.2) hok h1 ha hm (bleN hb2.2),hK⟩
   ·exact hK.elim
  ·exact hK.elim
 ·rename_i hop --nilCheck
  split at h
  ·rename_i hx
   split at h
   ·rename_i hm
    exact⟨_,.nilCheckP _ _ _ _ hop hx hm,h⟩
   ·exact h.elim
  ·rename_i hx
   exact⟨_,.nilCheckR _ _ hop hx,h⟩
  ·exact h.elim
 ·rename_i hop --binOp
  split at h
  ·rename_i k a k' b hx hy
   split at h
   ·obtain⟨hb,hK⟩:=bcond_false h
    clear h
    simp only[decide_eq_true_eq]at hb
    subst hb
    by_cases hb0:b=0
    ·subst hb0;exact hK.elim
    ·have hf:(b==0)=false:=by simpa using hb0
     rw[hf]at hK
     exact⟨_,.quo _ _ _ _ _ _ _ hop hx hy hb0,hK⟩
   ·obtain⟨hb,hK⟩:=bcond_false h
    clear h
    simp only[decide_eq_true_eq]at hb
    subst hb
    by_cases hb0:b=0
    ·subst hb0;exact hK.elim
    ·have hf:(b==0)=false:=by simpa using hb0
     rw[hf]at hK
     exact⟨_,.rem _ _ _ _ _ _ _ hop hx hy hb0,hK⟩
   ·obtain⟨r,hr,hK⟩:=optK_some h
    exact⟨_,.shl _ _ _ _ _ _ _ _ _ hop hx hy hr,hK⟩
   ·obtain⟨r,hr,hK⟩:=optK_some h
    exact⟨_,.shr _ _ _ _ _ _ _ _ _ hop hx hy hr,hK⟩
   ·obtain⟨hb,hK⟩:=bcond_false h
    clear h
    simp only[decide_eq_true_eq]at hb
    subst hb
    obtain⟨r,hr,hK⟩:=optK_some hK
    exact⟨_,.int _ _ _ _ _ _ _ _ _ hop hx hy hr,hK⟩
  ·rename_i hx hy
   split at h
   ·obtain⟨r,hr,hK⟩:=h
    exact⟨_,.strAdd _ _ _ _ _ _ _ hop hx hy hr,hK⟩
   ·obtain⟨r,hr,hK⟩:=optK_some h
    exact⟨_,.strBin _ _ _ _ _ _ _ _ hop hx hy hr,hK⟩
  ·rename_i hx hy
   obtain⟨hb,hK⟩:=bcond_false h
   clear h
   split at hK
   ·exact⟨_,.boolEq _ _ _ _ _ _ _ _ hop hx hy (beqN hb) (.inl ⟨rfl,rfl⟩),hK⟩
   ·exact⟨_,.boolEq _ _ _ _ _ _ _ _ hop hx hy (beqN hb) (.inr ⟨rfl,rfl⟩),hK⟩
   ·exact hK.elim
  ·rename_i y _ _ _ hx hy
   obtain⟨hb,hK⟩:=bcond_false h
   clear h
   simp only[Bool.and_eq_true]at hb
   obtain⟨hb,hc⟩:=hb
   split at hc
   ·split at hK
    ·exact⟨_,.errEq _ _ _ _ _ _ _ hop hx hy (beqN hb) (.inl ⟨rfl,rfl⟩),hK⟩
    ·exact⟨_,.errEq _ _ _ _ _ _ _ hop hx hy (beqN hb) (.inr ⟨rfl,by simp⟩),hK⟩
    ·exact hK.elim
   ·cases hc
  ·rename_i hx hy
   obtain⟨hb,hK⟩:=bcond_false h
   clear h
   simp only[Bool.and_eq_true]at hb
   split at hK
   ·obtain⟨p,hp,hK⟩:=optK_some hK
    exact⟨_,.aggEq _ _ _ _ _ _ _ _ _ hop hx hy (memN_iff.1 hb.1) hb.2 hp (.inl ⟨rfl,rfl⟩),hK⟩
   ·obtain⟨p,hp,hK⟩:=optK_some hK
    exact⟨_,.aggEq _ _ _ _ _ _ _ _ _ hop hx hy (memN_iff.1 hb.1) hb.2 hp (.inr ⟨rfl,rfl⟩),hK⟩
   ·exact hK.elim
  ·exact h.elim
 ·rename_i hop --unOp
  split at h
  ·rename_i hx
   exact⟨_,.not _ _ _ hop hx,h⟩
  ·rename_i hx
   exact⟨_,.neg _ _ _ _ hop hx,h⟩
  ·exact h.elim
 ·rename_i hop --convert
  split at h
  ·rename_i hx
   obtain⟨hb,hK⟩:=bcond_false h
   obtain⟨k,hk,hK⟩:=optK_some hK
   exact⟨_,.convInt _ _ _ _ _ _ hop hx hk (bleN hb),hK⟩
  ·rename_i hx
   split at h
   ·rename_i hk
    obtain⟨hb,hK⟩:=bcond_false h
    exact⟨_,.convStr _ _ _ _ hop hx hk (bleN hb),hK⟩
   ·rename_i hk
    obtain⟨hb,hK⟩:=bcond_false h
    simp only[Bool.and_eq_true]at hb
    exact⟨_,.convBytes _ _ _ _ hop hx hk (beqN hb.1.2) (beqN hb.2),hK⟩
   ·exact h.elim
  ·rename_i hx
   obtain⟨hb,l,hl,hK⟩:=bcond_false h
   clear h
   simp only[Bool.and_eq_true]at hb
   subst hl
   exact⟨_,.convFz _ _ _ _ hop hx (beqN hb.1.1) (beqN hb.1.2) (beqN hb.2),hK⟩
  ·rename_i hx
   obtain⟨hb,hK⟩:=bcond_false h
   clear h
   simp only[Bool.and_eq_true]at hb
   split at hK
   ·rename_i hm
    obtain⟨hv,l,hl,hK2⟩:=bcond_false hK
    clear hK
    obtain rfl:=beqN hv
    subst hl
    exact⟨_,.convText _ _ _ _ _ _ hop hx (beqN hb.1.1) (beqN hb.1.2) (beqN hb.2) hm,hK2⟩
   ·exact hK.elim
  ·exact h.elim
 ·rename_i hop --slice
  split at h
  ·rename_i hx
   split at h
   ·rename_i hl hh
    obtain⟨hb,r,hr,hK⟩:=bcond_false h
    exact⟨_,.cutStr _ _ _ _ _ _ _ _ _ _ hop hx (beqN hb) hl hh hr,hK⟩
   ·exact h.elim
  ·rename_i hx
   split at h
   ·rename_i hl hh
    obtain⟨hb,r,hr,hK⟩:=bcond_false h
    clear h
    simp only[Bool.and_eq_true]at hb
    obtain rfl:=beqN hb.2
    exact⟨_,.cutSl _ _ _ _ _ _ _ _ _ _ hop hx (beqN hb.1.1) (bleN hb.1.2) hl hh hr,hK⟩
   ·exact h.elim
  ·rename_i hx
   split at h
   ·rename_i hm
    split at h
    ·rename_i hl hh
     obtain⟨hb,r,hr,hK⟩:=bcond_false h
     clear h
     simp only[Bool.and_eq_true]at hb
     obtain⟨⟨⟨b1,b2⟩,b3⟩,b4⟩:=hb
     obtain rfl:=beqN b1
     obtain rfl:=beqN b4
     split at hK
     ·simp only[hiS,SV.t.injEq,T.int.injEq]at hh
      simp only[loS]at hl
      refine⟨_,.cutV _ _ _ _ _ _ r _ _ hop hx hm (beqN b2) (bleN b3) hl ?_,hK⟩
      rw[hh.2];exact hr
     ·exact⟨_,.cutE _ _ _ _ _ _ _ _ _ _ _ _ _ hop hx hm (beqN b2) (bleN b3) hl hh hr (.inl rfl),hK⟩
     ·split at hK
      ·rename_i hy
       obtain⟨hb2,hK1⟩:=bcond_false hK
       clear hK
       obtain⟨hb3,hK2⟩:=bcond_false hK1
       clear hK1
       have:=eq_of_beq hb2
       subst this
       have:=eq_of_beq hb3
       subst this
       simp only[hiS]at hh
       simp only[loS]at hl
       exact⟨_,.cutW _ _ _ _ _ _ _ _ r _ _ _ _ hop hx hm (beqN b2) (bleN b3) hl hh hy hr,hK2⟩
      ·exact hK.elim
     ·split at hK
      ·rename_i hy
       obtain⟨hb2,hK2⟩:=bcond_false hK
       clear hK
       have:=eq_of_beq hb2
       subst this
       exact⟨_,.cutE _ _ _ _ _ _ _ _ _ _ _ _ _ hop hx hm (beqN b2) (bleN b3) hl hh hr (.inr ⟨_,_,_,rfl,rfl,hy⟩),hK2⟩
      ·exact hK.elim
     ·exact hK.elim
    ·exact h.elim
   ·exact h.elim
  ·exact h.elim
 ·rename_i hop --fieldAddr
  obtain⟨f,hf,hK⟩:=optK_some h
  clear h
  split at hK
  ·rename_i hx
   split at hK
   ·rename_i hm
    obtain⟨hb,hK⟩:=bcond_false hK
    simp only[Bool.and_eq_true]at hb
    exact⟨_,.fieldP _ _ _ _ _ _ hop hf (beqN hb.1.1) (bleN hb.1.2) (bleN hb.2) hx _ hm,hK⟩
   ·exact hK.elim
  ·rename_i hx
   obtain⟨hb,hK⟩:=bcond_false hK
   simp only[Bool.and_eq_true]at hb
   exact⟨_,.fieldR _ _ _ _ _ hop hf (beqN hb.1.1) (bleN hb.1.2) (bleN hb.2) hx,hK⟩
  ·rename_i hx
   split at hK
   ·rename_i hm
    obtain⟨hb,hK2⟩:=bcond_false hK
    clear hK
    simp only[Bool.and_eq_true]at hb
    obtain rfl:=beqN hb.1.1.1
    exact⟨_,.fieldE _ _ _ _ _ _ _ _ hop hf (beqN hb.1.1.2) (bleN hb.1.2) (bleN hb.2) hx _ _ hm,hK2⟩
   ·exact hK.elim
  ·exact hK.elim
 ·rename_i hop --field
  obtain⟨f,hf,hK⟩:=optK_some h
  clear h
  split at hK
  ·rename_i hx
   obtain⟨hb,hK⟩:=bcond_false hK
   simp only[Bool.and_eq_true]at hb
   exact⟨_,.field _ _ _ _ _ hop hf (beqN hb.1.1.1) (bleN hb.1.1.2) (bleN hb.1.2) hx (bleN hb.2),hK⟩
  ·exact hK.elim
 ·rename_i hop --indexAddr
  split at h
  ·rename_i hx hj
   obtain⟨hb,row,hi,hK⟩:=bcond_false h
   clear h
   simp only[Bool.and_eq_true]at hb
   obtain rfl:=beqN hb.2
   exact⟨_,.idxR _ _ _ _ _ _ _ hop (beqN hb.1.1) (bleN hb.1.2) hx hj hi,hK⟩
  ·rename_i hx hj
   split at h
   ·rename_i hm
    obtain⟨hb,row,hi,hK⟩:=bcond_false h
    clear h
    simp only[Bool.and_eq_true]at hb
    obtain rfl:=beqN hb.1.1.1
    obtain rfl:=beqN hb.2
    exact⟨_,.idxE _ _ _ _ _ _ _ _ _ hop (beqN hb.1.1.2) (bleN hb.1.2) hx hm hj hi,hK⟩
   ·exact h.elim
  ·exact h.elim
 ·rename_i hop --index
  split at h
  ·rename_i hx hj
   obtain⟨hb,c,hi,hK⟩:=bcond_false h
   exact⟨_,.index _ _ _ _ _ _ _ hop (beqN hb) hx hj hi,hK⟩
  ·exact h.elim
 ·rename_i hop --extract
  split at h
  ·rename_i hx
   obtain⟨v,hv,hK⟩:=optK_some h
   exact⟨_,.extract _ _ _ _ hop hx hv,hK⟩
  ·exact h.elim
 ·rename_i hop --makeFunc
  exact⟨_,.makeFunc _ _ hop,h⟩
 ·rename_i hop --call
  split at h
  ·rename_i hc
   obtain⟨e,he,hK⟩:=built_of h
   exact⟨_,.builtin _ _ _ hop hc he,hK⟩
  ·rename_i hc
   split at h
   ·rename_i hf
    revert h
    generalize hw:memN _ C.wr=b
    intro h
    cases b with
    |true=>
     obtain⟨ts,res,outs,ht,hn,hcw,hK⟩:=h
     obtain⟨mw,hb,hs,hK⟩:=optK_some hK
     simp only[Bool.and_eq_true,List.all_eq_true]at hs
     exact⟨_,.callW _ _ _ _ _ _ _ _ hop hc hf ht hn hcw hb hs.1 (fun id hid=>memN_iff.1 (hs.2 id hid)),hK⟩
    |false=>
     have h:bcond (memN _ C.kp) _ _:=h
     revert h
     generalize memN _ C.kp=b
     intro h
     cases b with
     |true=>
      simp only[bcond]at h
      split at h
      ·rename_i hv
       split at h
       ·rename_i hm
        obtain⟨l0,ts,res,l1,hl,ht,hb,hcp,hi,hK⟩:=h
        simp only[Bool.and_eq_true,Bool.not_eq_true']at hb
        exact⟨_,.callP _ _ _ _ _ _ _ _ _ _ _ hop hc hf hv hm hl ht hb.1.1 (fun e=>by rw[memN_iff.2 e]at hb;cases hb.1.2) (fun e=>by have:=hb.2;rw[e]at this;simpa using this) hcp hi,hK⟩
       ·exact h.elim
      ·exact h.elim
     |false=>
      have h:bcond (memN _ C.kb) _ _:=h
      revert h
      generalize memN _ C.kb=b
      intro h
      cases b with
      |true=>
       obtain⟨ts,l1,ht,hp,hcb,hK⟩:=h
       exact⟨_,.callB _ _ _ _ _ _ hop hc hf ht hp hcb,hK⟩
      |false=>
       have h:bcond (memN _ C.kt) _ _:=h
       revert h
       generalize memN _ C.kt=b
       intro h
       cases b with
       |true=>
        simp only[bcond]at h
        split at h
        ·rename_i hv
         split at h
         ·rename_i hm
          obtain⟨ts,res,out,ht,hb,hct,hi,hK⟩:=h
          simp only[Bool.and_eq_true,Bool.not_eq_true']at hb
          obtain rfl:=beqN hb.1.1
          exact⟨_,.callT _ _ _ _ _ _ _ _ _ _ _ _ hop hc hf hv hm ht hb.1.2 (fun e=>by rw[memN_iff.2 e]at hb;cases hb.2) hct hi,hK⟩
         ·exact h.elim
        ·exact h.elim
       |false=>
        obtain⟨ts,res,ht,hcs,hi,hK⟩:=h
        exact⟨_,.call _ _ _ _ _ _ hop hc hf ht hcs hi,hK⟩
   ·exact h.elim
  ·exact h.elim
 ·exact h.elim
end Go.Pv
