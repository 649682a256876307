/- The types, as Lean has them. Nothing is claimed here. -/
import Derived.Test.YtabadclgcgdccaaGreatDoorPv36
import Derived.Test.YtabadclgcgdccaaGreatDoorProg
set_option linter.unusedVariables false
set_option linter.unusedSimpArgs false
set_option maxRecDepth 100000
namespace Go.YtabadclgcgdccaaGreatDoor
open Go Go.RowKit Go.Pv
noncomputable section
structure Sl1Cur where
 b:List Int
 i:Int
 h:Int
 deriving DecidableEq,Inhabited
structure IVersion where
 At:Int
 Text:List UInt8
 Gone:Bool
 deriving DecidableEq,Inhabited
structure IResource where
 Target:List UInt8
 Control:List UInt8
 Keys:List UInt8
 Private:Bool
 Langs:List (List UInt8)
 Versions:List IVersion
 deriving DecidableEq,Inhabited
structure IOrigin where
 Host:List UInt8
 Resources:List IResource
 deriving DecidableEq,Inhabited
structure IField where
 Name:List UInt8
 Value:List UInt8
 deriving DecidableEq,Inhabited
structure IRequest where
 Method:List UInt8
 Host:List UInt8
 Target:List UInt8
 Fields:List IField
 deriving DecidableEq,Inhabited
structure IResponse where
 Code:Int
 Fields:List IField
 Body:List UInt8
 deriving DecidableEq,Inhabited
structure IQuality where
 Name:List UInt8
 Q:Int
 deriving DecidableEq,Inhabited
structure ITag where
 Weak:Bool
 Text:List UInt8
 deriving DecidableEq,Inhabited
@[reducible] def D (ty:Nat):Type:=
  match ty with
  |5=>Int
  |9=>List UInt8
  |72=>IVersion
  |70=>IResource
  |34=>IField
  |3=>Int
  |144=>IQuality
  |53=>ITag
  |_=>Unit
def tis:List (Nat×TInfo):=[
 (3,⟨1,8,false,10,0,[],[.t (.int .i64 0)]⟩),
 (4,⟨1,1,false,5,0,[],[.t (.bool false)]⟩),
 (5,⟨1,1,false,15,0,[],[.t (.int .u8 0)]⟩),
 (9,⟨1,16,false,1,0,[],[.t (.str [])]⟩),
 (22,⟨1,24,false,2,5,[],[.nil]⟩),
 (24,⟨1,24,false,2,34,[],[.nil]⟩),
 (26,⟨4,72,true,3,0,[(0,9),(1,9),(2,9),(3,24)],[.t (.str []),.t (.str []),.t (.str []),.nil]⟩),
 (28,⟨3,48,true,3,0,[(0,3),(1,24),(2,9)],[.t (.int .i64 0),.nil,.t (.str [])]⟩),
 (34,⟨2,32,true,3,0,[(0,9),(1,9)],[.t (.str []),.t (.str [])]⟩),
 (37,⟨1,8,false,7,0,[],[.gone]⟩),
 (39,⟨1,24,false,2,70,[],[.nil]⟩),
 (41,⟨2,40,true,3,0,[(0,9),(1,39)],[.t (.str []),.nil]⟩),
 (49,⟨1,24,false,2,9,[],[.nil]⟩),
 (53,⟨2,24,true,3,0,[(0,4),(1,9)],[.t (.bool false),.t (.str [])]⟩),
 (58,⟨1,24,false,2,53,[],[.nil]⟩),
 (63,⟨1,8,false,8,0,[],[.gone]⟩),
 (67,⟨3,40,true,3,0,[(0,22),(1,3),(2,3)],[.nil,.t (.int .i64 0),.t (.int .i64 0)]⟩),
 (68,⟨1,24,false,2,72,[],[.nil]⟩),
 (70,⟨6,104,true,3,0,[(0,9),(1,9),(2,9),(3,4),(4,49),(5,68)],[.t (.str []),.t (.str []),.t (.str []),.t (.bool false),.nil,.nil]⟩),
 (72,⟨3,32,true,3,0,[(0,3),(1,9),(2,4)],[.t (.int .i64 0),.t (.str []),.t (.bool false)]⟩),
 (110,⟨1,16,false,6,0,[],[.t (.err false)]⟩),
 (130,⟨1,24,false,2,144,[],[.nil]⟩),
 (144,⟨2,24,true,3,0,[(0,9),(1,3)],[.t (.str []),.t (.int .i64 0)]⟩),
 (151,⟨1,24,false,2,3,[],[.nil]⟩)]
def szOf(t:Nat):Nat:=(Pv.look tis t default).size
def R_5(x:Int):List T:=[.int .u8 x]
def R_9(x:List UInt8):List T:=[.str x]
def R_72(x:IVersion):List T:=[.int .i64 x.At,.str x.Text,.bool x.Gone]
def R_70(x:IResource):List T:=[.str x.Target,.str x.Control,.str x.Keys,.bool x.Private,.sl (szOf 9) (x.Langs.map R_9),.sl (szOf 72) (x.Versions.map R_72)]
def R_34(x:IField):List T:=[.str x.Name,.str x.Value]
def R_3(x:Int):List T:=[.int .i64 x]
def R_144(x:IQuality):List T:=[.str x.Name,.int .i64 x.Q]
def R_53(x:ITag):List T:=[.bool x.Weak,.str x.Text]
def Rw(ty:Nat):D ty→List T:=
 match ty with
 |5=>R_5
 |9=>R_9
 |72=>R_72
 |70=>R_70
 |34=>R_34
 |3=>R_3
 |144=>R_144
 |53=>R_53
 |_=>fun _=>[]
def E_5(x:Int):List (V D):=[.int .u8 x]
def E_9(x:List UInt8):List (V D):=[.str x]
def E_72(x:IVersion):List (V D):=[.int .i64 x.At,.str x.Text,.bool x.Gone]
def E_70(x:IResource):List (V D):=[.str x.Target,.str x.Control,.str x.Keys,.bool x.Private,.sl 9 x.Langs,.sl 72 x.Versions]
def E_34(x:IField):List (V D):=[.str x.Name,.str x.Value]
def E_3(x:Int):List (V D):=[.int .i64 x]
def E_144(x:IQuality):List (V D):=[.str x.Name,.int .i64 x.Q]
def E_53(x:ITag):List (V D):=[.bool x.Weak,.str x.Text]
def Ew(ty:Nat):D ty→List (V D):=
 match ty with
 |5=>E_5
 |9=>E_9
 |72=>E_72
 |70=>E_70
 |34=>E_34
 |3=>E_3
 |144=>E_144
 |53=>E_53
 |_=>fun _=>[]
def D_5(l:List (V D)):Option (Int):=oC l fun v0 l=>oI .u8 v0 fun x0=>oN l (some x0)
def D_9(l:List (V D)):Option (List UInt8):=oC l fun v0 l=>oS v0 fun x0=>oN l (some x0)
def D_72(l:List (V D)):Option (IVersion):=oC l fun v0 l=>oI .i64 v0 fun x0=>oC l fun v1 l=>oS v1 fun x1=>oC l fun v2 l=>oB v2 fun x2=>oN l (some (⟨x0,x1,x2⟩:IVersion))
def D_70(l:List (V D)):Option (IResource):=oC l fun v0 l=>oS v0 fun x0=>oC l fun v1 l=>oS v1 fun x1=>oC l fun v2 l=>oS v2 fun x2=>oC l fun v3 l=>oB v3 fun x3=>oC l fun v4 l=>oL 9 v4 fun x4=>oC l fun v5 l=>oL 72 v5 fun x5=>oN l (some (⟨x0,x1,x2,x3,x4,x5⟩:IResource))
def D_34(l:List (V D)):Option (IField):=oC l fun v0 l=>oS v0 fun x0=>oC l fun v1 l=>oS v1 fun x1=>oN l (some (⟨x0,x1⟩:IField))
def D_3(l:List (V D)):Option (Int):=oC l fun v0 l=>oI .i64 v0 fun x0=>oN l (some x0)
def D_144(l:List (V D)):Option (IQuality):=oC l fun v0 l=>oS v0 fun x0=>oC l fun v1 l=>oI .i64 v1 fun x1=>oN l (some (⟨x0,x1⟩:IQuality))
def D_53(l:List (V D)):Option (ITag):=oC l fun v0 l=>oB v0 fun x0=>oC l fun v1 l=>oS v1 fun x1=>oN l (some (⟨x0,x1⟩:ITag))
def Dw(ty:Nat):List (V D)→Option (D ty):=
 match ty with
 |5=>D_5
 |9=>D_9
 |72=>D_72
 |70=>D_70
 |34=>D_34
 |3=>D_3
 |144=>D_144
 |53=>D_53
 |_=>fun _=>none
def ofB(ty:Nat):List Int→Option (List (D ty)):=
 match ty with
 |5=>fun l=>some l
 |_=>fun _=>none
def toB(ty:Nat):List (D ty)→Option (List Int):=
 match ty with
 |5=>fun l=>some l
 |_=>fun _=>none
def cels:List (Nat×List Nat):=[(5,[0]),(9,[0]),(72,[0,0,0]),(70,[0,0,0,0,9,72]),(34,[0,0]),(3,[0]),(144,[0,0]),(53,[0,0])]
abbrev P:Program:=Go.Proofs.Tryz.prog
def gi(w:World):Prop:=(∃m,w.cell? ⟨0,0,none⟩=some (.int .i64 m))∧(∃tp p,w.var? P "strconv.ErrRange" =some #[.iface tp p])∧(∃tp p,w.var? P "strconv.ErrSyntax" =some #[.iface tp p])∧(Lib.TabIs P w "internal/strconv.uint64pow10" .u64 Lib.pow10Tab)
def X:CT D:=⟨mkC P gi tis [] [10,11,13,14,16,17,43] [9] [] [] [17],Rw,Ew,Dw,ofB,toB,cels⟩
theorem mixed:P.follows .mixedOrders=true:=by kernel_rfl
theorem ctx:CtxOK P X.C:=ctx_okB (by kernel_rfl) (by kernel_rfl) (by kernel_rfl)
theorem dec_5:∀{l:List (V D)} {x:Int},D_5 l=some x→l.map X.er=R_5 x:=by
 intro l x h
 unfold D_5 at h
 obtain⟨v0,l0,e0,h0⟩:=oC_ok h
 obtain⟨x0,f0,h0x⟩:=oI_ok h0
 obtain⟨e1,hl⟩:=oN_ok h0x
 simp only[Option.some.injEq]at hl
 subst hl
 subst f0
 subst e1
 subst e0
 rfl
theorem dec_9:∀{l:List (V D)} {x:List UInt8},D_9 l=some x→l.map X.er=R_9 x:=by
 intro l x h
 unfold D_9 at h
 obtain⟨v0,l0,e0,h0⟩:=oC_ok h
 obtain⟨x0,f0,h0x⟩:=oS_ok h0
 obtain⟨e1,hl⟩:=oN_ok h0x
 simp only[Option.some.injEq]at hl
 subst hl
 subst f0
 subst e1
 subst e0
 rfl
theorem dec_72:∀{l:List (V D)} {x:IVersion},D_72 l=some x→l.map X.er=R_72 x:=by
 intro l x h
 unfold D_72 at h
 obtain⟨v0,l0,e0,h0⟩:=oC_ok h
 obtain⟨x0,f0,h0x⟩:=oI_ok h0
 obtain⟨v1,l1,e1,h1⟩:=oC_ok h0x
 obtain⟨x1,f1,h1x⟩:=oS_ok h1
 obtain⟨v2,l2,e2,h2⟩:=oC_ok h1x
 obtain⟨x2,f2,h2x⟩:=oB_ok h2
 obtain⟨e3,hl⟩:=oN_ok h2x
 simp only[Option.some.injEq]at hl
 subst hl
 subst f2
 subst f1
 subst f0
 subst e3
 subst e2
 subst e1
 subst e0
 rfl
theorem dec_70:∀{l:List (V D)} {x:IResource},D_70 l=some x→l.map X.er=R_70 x:=by
 intro l x h
 unfold D_70 at h
 obtain⟨v0,l0,e0,h0⟩:=oC_ok h
 obtain⟨x0,f0,h0x⟩:=oS_ok h0
 obtain⟨v1,l1,e1,h1⟩:=oC_ok h0x
 obtain⟨x1,f1,h1x⟩:=oS_ok h1
 obtain⟨v2,l2,e2,h2⟩:=oC_ok h1x
 obtain⟨x2,f2,h2x⟩:=oS_ok h2
 obtain⟨v3,l3,e3,h3⟩:=oC_ok h2x
 obtain⟨x3,f3,h3x⟩:=oB_ok h3
 obtain⟨v4,l4,e4,h4⟩:=oC_ok h3x
 obtain⟨x4,f4,h4x⟩:=oL_ok h4
 obtain⟨v5,l5,e5,h5⟩:=oC_ok h4x
 obtain⟨x5,f5,h5x⟩:=oL_ok h5
 obtain⟨e6,hl⟩:=oN_ok h5x
 simp only[Option.some.injEq]at hl
 subst hl
 subst f5
 subst f4
 subst f3
 subst f2
 subst f1
 subst f0
 subst e6
 subst e5
 subst e4
 subst e3
 subst e2
 subst e1
 subst e0
 rfl
theorem dec_34:∀{l:List (V D)} {x:IField},D_34 l=some x→l.map X.er=R_34 x:=by
 intro l x h
 unfold D_34 at h
 obtain⟨v0,l0,e0,h0⟩:=oC_ok h
 obtain⟨x0,f0,h0x⟩:=oS_ok h0
 obtain⟨v1,l1,e1,h1⟩:=oC_ok h0x
 obtain⟨x1,f1,h1x⟩:=oS_ok h1
 obtain⟨e2,hl⟩:=oN_ok h1x
 simp only[Option.some.injEq]at hl
 subst hl
 subst f1
 subst f0
 subst e2
 subst e1
 subst e0
 rfl
theorem dec_3:∀{l:List (V D)} {x:Int},D_3 l=some x→l.map X.er=R_3 x:=by
 intro l x h
 unfold D_3 at h
 obtain⟨v0,l0,e0,h0⟩:=oC_ok h
 obtain⟨x0,f0,h0x⟩:=oI_ok h0
 obtain⟨e1,hl⟩:=oN_ok h0x
 simp only[Option.some.injEq]at hl
 subst hl
 subst f0
 subst e1
 subst e0
 rfl
theorem dec_144:∀{l:List (V D)} {x:IQuality},D_144 l=some x→l.map X.er=R_144 x:=by
 intro l x h
 unfold D_144 at h
 obtain⟨v0,l0,e0,h0⟩:=oC_ok h
 obtain⟨x0,f0,h0x⟩:=oS_ok h0
 obtain⟨v1,l1,e1,h1⟩:=oC_ok h0x
 obtain⟨x1,f1,h1x⟩:=oI_ok h1
 obtain⟨e2,hl⟩:=oN_ok h1x
 simp only[Option.some.injEq]at hl
 subst hl
 subst f1
 subst f0
 subst e2
 subst e1
 subst e0
 rfl
theorem dec_53:∀{l:List (V D)} {x:ITag},D_53 l=some x→l.map X.er=R_53 x:=by
 intro l x h
 unfold D_53 at h
 obtain⟨v0,l0,e0,h0⟩:=oC_ok h
 obtain⟨x0,f0,h0x⟩:=oB_ok h0
 obtain⟨v1,l1,e1,h1⟩:=oC_ok h0x
 obtain⟨x1,f1,h1x⟩:=oS_ok h1
 obtain⟨e2,hl⟩:=oN_ok h1x
 simp only[Option.some.injEq]at hl
 subst hl
 subst f1
 subst f0
 subst e2
 subst e1
 subst e0
 rfl
theorem codE(ty:Nat)(x:D ty):(X.E ty x).map X.er=X.R ty x:=by
 by_cases h5:ty=5
 ·subst h5
  rfl
 by_cases h9:ty=9
 ·subst h9
  rfl
 by_cases h72:ty=72
 ·subst h72
  rfl
 by_cases h70:ty=70
 ·subst h70
  rfl
 by_cases h34:ty=34
 ·subst h34
  rfl
 by_cases h3:ty=3
 ·subst h3
  rfl
 by_cases h144:ty=144
 ·subst h144
  rfl
 by_cases h53:ty=53
 ·subst h53
  rfl
 show(Ew ty x).map X.er=Rw ty x
 simp[Ew,Rw,h5,h9,h72,h70,h34,h3,h144,h53]
theorem codD(ty:Nat)(l:List (V D))(x:D ty)(h:X.dec ty l=some x):l.map X.er=X.R ty x:=by
 by_cases h5:ty=5
 ·subst h5
  exact dec_5 h
 by_cases h9:ty=9
 ·subst h9
  exact dec_9 h
 by_cases h72:ty=72
 ·subst h72
  exact dec_72 h
 by_cases h70:ty=70
 ·subst h70
  exact dec_70 h
 by_cases h34:ty=34
 ·subst h34
  exact dec_34 h
 by_cases h3:ty=3
 ·subst h3
  exact dec_3 h
 by_cases h144:ty=144
 ·subst h144
  exact dec_144 h
 by_cases h53:ty=53
 ·subst h53
  exact dec_53 h
 have h:Dw ty l=some x:=h
 simp[Dw,h5,h9,h72,h70,h34,h3,h144,h53]at h
theorem codO(ty:Nat)(l:List Int)(r:List (D ty))(h:X.ofB ty l=some r):r.map (X.R ty)=rowsI .u8 l:=by
 by_cases h5:ty=5
 ·subst h5
  have h:some l=some r:=h
  simp only[Option.some.injEq]at h
  subst h
  rfl
 by_cases h9:ty=9
 ·subst h9
  cases h
 by_cases h72:ty=72
 ·subst h72
  cases h
 by_cases h70:ty=70
 ·subst h70
  cases h
 by_cases h34:ty=34
 ·subst h34
  cases h
 by_cases h3:ty=3
 ·subst h3
  cases h
 by_cases h144:ty=144
 ·subst h144
  cases h
 by_cases h53:ty=53
 ·subst h53
  cases h
 have h:ofB ty l=some r:=h
 simp[ofB,h5,h9,h72,h70,h34,h3,h144,h53]at h
theorem codT(ty:Nat)(l:List (D ty))(r:List Int)(h:X.toB ty l=some r):l.map (X.R ty)=rowsI .u8 r:=by
 by_cases h5:ty=5
 ·subst h5
  have h:some l=some r:=h
  simp only[Option.some.injEq]at h
  subst h
  rfl
 by_cases h9:ty=9
 ·subst h9
  cases h
 by_cases h72:ty=72
 ·subst h72
  cases h
 by_cases h70:ty=70
 ·subst h70
  cases h
 by_cases h34:ty=34
 ·subst h34
  cases h
 by_cases h3:ty=3
 ·subst h3
  cases h
 by_cases h144:ty=144
 ·subst h144
  cases h
 by_cases h53:ty=53
 ·subst h53
  cases h
 have h:toB ty l=some r:=h
 simp[toB,h5,h9,h72,h70,h34,h3,h144,h53]at h
theorem codS(ty:Nat)(h:scalTy X ty=true)(x:D ty):∀t∈X.R ty x,t.scalar=true:=by
 by_cases h5:ty=5
 ·subst h5
  intro t ht
  have ht:t∈R_5 x:=ht
  simp only[R_5,List.mem_cons,List.not_mem_nil,or_false]at ht
  rcases ht with rfl<;>rfl
 by_cases h9:ty=9
 ·subst h9
  intro t ht
  have ht:t∈R_9 x:=ht
  simp only[R_9,List.mem_cons,List.not_mem_nil,or_false]at ht
  rcases ht with rfl<;>rfl
 by_cases h72:ty=72
 ·subst h72
  intro t ht
  have ht:t∈R_72 x:=ht
  simp only[R_72,List.mem_cons,List.not_mem_nil,or_false]at ht
  rcases ht with rfl|rfl|rfl<;>rfl
 by_cases h70:ty=70
 ·subst h70
  have:scalTy X 70=false:=by kernel_rfl
  rw[this]at h;cases h
 by_cases h34:ty=34
 ·subst h34
  intro t ht
  have ht:t∈R_34 x:=ht
  simp only[R_34,List.mem_cons,List.not_mem_nil,or_false]at ht
  rcases ht with rfl|rfl<;>rfl
 by_cases h3:ty=3
 ·subst h3
  intro t ht
  have ht:t∈R_3 x:=ht
  simp only[R_3,List.mem_cons,List.not_mem_nil,or_false]at ht
  rcases ht with rfl<;>rfl
 by_cases h144:ty=144
 ·subst h144
  intro t ht
  have ht:t∈R_144 x:=ht
  simp only[R_144,List.mem_cons,List.not_mem_nil,or_false]at ht
  rcases ht with rfl|rfl<;>rfl
 by_cases h53:ty=53
 ·subst h53
  intro t ht
  have ht:t∈R_53 x:=ht
  simp only[R_53,List.mem_cons,List.not_mem_nil,or_false]at ht
  rcases ht with rfl|rfl<;>rfl
 exfalso
 rcases look_key (rfl:Pv.look cels ty [1]=Pv.look cels ty [1])with h1|h1
 ·have h:(Pv.look cels ty [1]).all (fun e=>Nat.beq e 0)=true:=h
  rw[h1]at h;cases h
 ·simp only[cels,List.mem_cons,List.not_mem_nil,or_false,Prod.mk.injEq]at h1<;>omega
theorem cod:CodOK X:=⟨codE,codD,codO,codT,codS⟩
end
end Go.YtabadclgcgdccaaGreatDoor
