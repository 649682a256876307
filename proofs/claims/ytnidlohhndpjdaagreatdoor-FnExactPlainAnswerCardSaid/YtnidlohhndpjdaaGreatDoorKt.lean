/- The types, as Lean has them. Nothing is claimed here. -/
import Derived.Test.YtnidlohhndpjdaaGreatDoorPv36
import Derived.Test.YtnidlohhndpjdaaGreatDoorProg
set_option linter.unusedVariables false
set_option linter.unusedSimpArgs false
set_option maxRecDepth 100000
namespace Go.YtnidlohhndpjdaaGreatDoor
open Go Go.RowKit Go.Pv
noncomputable section
structure LVersion where
 At:Int
 Text:List UInt8
 Gone:Bool
 deriving DecidableEq,Inhabited
structure LResource where
 Target:List UInt8
 Control:List UInt8
 Keys:List UInt8
 Private:Bool
 Langs:List (List UInt8)
 Versions:List LVersion
 deriving DecidableEq,Inhabited
structure LOrigin where
 Host:List UInt8
 Resources:List LResource
 deriving DecidableEq,Inhabited
structure LField where
 Name:List UInt8
 Value:List UInt8
 deriving DecidableEq,Inhabited
structure LRequest where
 Method:List UInt8
 Host:List UInt8
 Target:List UInt8
 Fields:List LField
 deriving DecidableEq,Inhabited
structure IVersion where
 At:Int
 Text:List UInt8
 Gone:Bool
 deriving DecidableEq,Inhabited
structure IResource where
 Target:List UInt8
 Control:List UInt8
 Keys:List UInt8
 Private:Bool
 Langs:List (List UInt8)
 Versions:List IVersion
 deriving DecidableEq,Inhabited
structure IOrigin where
 Host:List UInt8
 Resources:List IResource
 deriving DecidableEq,Inhabited
structure IField where
 Name:List UInt8
 Value:List UInt8
 deriving DecidableEq,Inhabited
structure IRequest where
 Method:List UInt8
 Host:List UInt8
 Target:List UInt8
 Fields:List IField
 deriving DecidableEq,Inhabited
structure IResponse where
 Code:Int
 Fields:List IField
 Body:List UInt8
 deriving DecidableEq,Inhabited
structure IQuality where
 Name:List UInt8
 Q:Int
 deriving DecidableEq,Inhabited
structure ITag where
 Weak:Bool
 Text:List UInt8
 deriving DecidableEq,Inhabited
@[reducible] def D (ty:Nat):Type:=
  match ty with
  |9=>List UInt8
  |77=>LVersion
  |177=>LResource
  |179=>LField
  |81=>IVersion
  |87=>IResource
  |52=>IField
  |5=>Int
  |3=>Int
  |256=>IQuality
  |_=>Unit
def tis:List (Nat×TInfo):=[
 (3,⟨1,8,false,10,0,[],[.t (.int .i64 0)]⟩),
 (4,⟨1,1,false,5,0,[],[.t (.bool false)]⟩),
 (5,⟨1,1,false,15,0,[],[.t (.int .u8 0)]⟩),
 (9,⟨1,16,false,1,0,[],[.t (.str [])]⟩),
 (22,⟨1,24,false,2,5,[],[.nil]⟩),
 (24,⟨1,24,false,2,52,[],[.nil]⟩),
 (26,⟨3,48,true,3,0,[(0,3),(1,24),(2,9)],[.t (.int .i64 0),.nil,.t (.str [])]⟩),
 (48,⟨4,72,true,3,0,[(0,9),(1,9),(2,9),(3,24)],[.t (.str []),.t (.str []),.t (.str []),.nil]⟩),
 (52,⟨2,32,true,3,0,[(0,9),(1,9)],[.t (.str []),.t (.str [])]⟩),
 (55,⟨1,24,false,2,177,[],[.nil]⟩),
 (57,⟨2,40,true,3,0,[(0,9),(1,55)],[.t (.str []),.nil]⟩),
 (58,⟨1,24,false,2,179,[],[.nil]⟩),
 (60,⟨4,72,true,3,0,[(0,9),(1,9),(2,9),(3,58)],[.t (.str []),.t (.str []),.t (.str []),.nil]⟩),
 (64,⟨1,24,false,2,87,[],[.nil]⟩),
 (66,⟨2,40,true,3,0,[(0,9),(1,64)],[.t (.str []),.nil]⟩),
 (77,⟨3,32,true,3,0,[(0,3),(1,9),(2,4)],[.t (.int .i64 0),.t (.str []),.t (.bool false)]⟩),
 (81,⟨3,32,true,3,0,[(0,3),(1,9),(2,4)],[.t (.int .i64 0),.t (.str []),.t (.bool false)]⟩),
 (84,⟨1,24,false,2,9,[],[.nil]⟩),
 (85,⟨1,24,false,2,81,[],[.nil]⟩),
 (87,⟨6,104,true,3,0,[(0,9),(1,9),(2,9),(3,4),(4,84),(5,85)],[.t (.str []),.t (.str []),.t (.str []),.t (.bool false),.nil,.nil]⟩),
 (105,⟨1,24,false,2,3,[],[.nil]⟩),
 (117,⟨2,24,true,3,0,[(0,4),(1,9)],[.t (.bool false),.t (.str [])]⟩),
 (146,⟨1,8,false,8,0,[],[.gone]⟩),
 (168,⟨1,8,false,8,0,[],[.gone]⟩),
 (175,⟨1,24,false,2,77,[],[.nil]⟩),
 (177,⟨6,104,true,3,0,[(0,9),(1,9),(2,9),(3,4),(4,84),(5,175)],[.t (.str []),.t (.str []),.t (.str []),.t (.bool false),.nil,.nil]⟩),
 (179,⟨2,32,true,3,0,[(0,9),(1,9)],[.t (.str []),.t (.str [])]⟩),
 (181,⟨1,8,false,8,0,[],[.gone]⟩),
 (219,⟨1,24,false,2,256,[],[.nil]⟩),
 (256,⟨2,24,true,3,0,[(0,9),(1,3)],[.t (.str []),.t (.int .i64 0)]⟩)]
def szOf(t:Nat):Nat:=(Pv.look tis t default).size
def R_9(x:List UInt8):List T:=[.str x]
def R_77(x:LVersion):List T:=[.int .i64 x.At,.str x.Text,.bool x.Gone]
def R_177(x:LResource):List T:=[.str x.Target,.str x.Control,.str x.Keys,.bool x.Private,.sl (szOf 9) (x.Langs.map R_9),.sl (szOf 77) (x.Versions.map R_77)]
def R_179(x:LField):List T:=[.str x.Name,.str x.Value]
def R_81(x:IVersion):List T:=[.int .i64 x.At,.str x.Text,.bool x.Gone]
def R_87(x:IResource):List T:=[.str x.Target,.str x.Control,.str x.Keys,.bool x.Private,.sl (szOf 9) (x.Langs.map R_9),.sl (szOf 81) (x.Versions.map R_81)]
def R_52(x:IField):List T:=[.str x.Name,.str x.Value]
def R_5(x:Int):List T:=[.int .u8 x]
def R_3(x:Int):List T:=[.int .i64 x]
def R_256(x:IQuality):List T:=[.str x.Name,.int .i64 x.Q]
def Rw(ty:Nat):D ty→List T:=
 match ty with
 |9=>R_9
 |77=>R_77
 |177=>R_177
 |179=>R_179
 |81=>R_81
 |87=>R_87
 |52=>R_52
 |5=>R_5
 |3=>R_3
 |256=>R_256
 |_=>fun _=>[]
def E_9(x:List UInt8):List (V D):=[.str x]
def E_77(x:LVersion):List (V D):=[.int .i64 x.At,.str x.Text,.bool x.Gone]
def E_177(x:LResource):List (V D):=[.str x.Target,.str x.Control,.str x.Keys,.bool x.Private,.sl 9 x.Langs,.sl 77 x.Versions]
def E_179(x:LField):List (V D):=[.str x.Name,.str x.Value]
def E_81(x:IVersion):List (V D):=[.int .i64 x.At,.str x.Text,.bool x.Gone]
def E_87(x:IResource):List (V D):=[.str x.Target,.str x.Control,.str x.Keys,.bool x.Private,.sl 9 x.Langs,.sl 81 x.Versions]
def E_52(x:IField):List (V D):=[.str x.Name,.str x.Value]
def E_5(x:Int):List (V D):=[.int .u8 x]
def E_3(x:Int):List (V D):=[.int .i64 x]
def E_256(x:IQuality):List (V D):=[.str x.Name,.int .i64 x.Q]
def Ew(ty:Nat):D ty→List (V D):=
 match ty with
 |9=>E_9
 |77=>E_77
 |177=>E_177
 |179=>E_179
 |81=>E_81
 |87=>E_87
 |52=>E_52
 |5=>E_5
 |3=>E_3
 |256=>E_256
 |_=>fun _=>[]
def D_9(l:List (V D)):Option (List UInt8):=oC l fun v0 l=>oS v0 fun x0=>oN l (some x0)
def D_77(l:List (V D)):Option (LVersion):=oC l fun v0 l=>oI .i64 v0 fun x0=>oC l fun v1 l=>oS v1 fun x1=>oC l fun v2 l=>oB v2 fun x2=>oN l (some (⟨x0,x1,x2⟩:LVersion))
def D_177(l:List (V D)):Option (LResource):=oC l fun v0 l=>oS v0 fun x0=>oC l fun v1 l=>oS v1 fun x1=>oC l fun v2 l=>oS v2 fun x2=>oC l fun v3 l=>oB v3 fun x3=>oC l fun v4 l=>oL 9 v4 fun x4=>oC l fun v5 l=>oL 77 v5 fun x5=>oN l (some (⟨x0,x1,x2,x3,x4,x5⟩:LResource))
def D_179(l:List (V D)):Option (LField):=oC l fun v0 l=>oS v0 fun x0=>oC l fun v1 l=>oS v1 fun x1=>oN l (some (⟨x0,x1⟩:LField))
def D_81(l:List (V D)):Option (IVersion):=oC l fun v0 l=>oI .i64 v0 fun x0=>oC l fun v1 l=>oS v1 fun x1=>oC l fun v2 l=>oB v2 fun x2=>oN l (some (⟨x0,x1,x2⟩:IVersion))
def D_87(l:List (V D)):Option (IResource):=oC l fun v0 l=>oS v0 fun x0=>oC l fun v1 l=>oS v1 fun x1=>oC l fun v2 l=>oS v2 fun x2=>oC l fun v3 l=>oB v3 fun x3=>oC l fun v4 l=>oL 9 v4 fun x4=>oC l fun v5 l=>oL 81 v5 fun x5=>oN l (some (⟨x0,x1,x2,x3,x4,x5⟩:IResource))
def D_52(l:List (V D)):Option (IField):=oC l fun v0 l=>oS v0 fun x0=>oC l fun v1 l=>oS v1 fun x1=>oN l (some (⟨x0,x1⟩:IField))
def D_5(l:List (V D)):Option (Int):=oC l fun v0 l=>oI .u8 v0 fun x0=>oN l (some x0)
def D_3(l:List (V D)):Option (Int):=oC l fun v0 l=>oI .i64 v0 fun x0=>oN l (some x0)
def D_256(l:List (V D)):Option (IQuality):=oC l fun v0 l=>oS v0 fun x0=>oC l fun v1 l=>oI .i64 v1 fun x1=>oN l (some (⟨x0,x1⟩:IQuality))
def Dw(ty:Nat):List (V D)→Option (D ty):=
 match ty with
 |9=>D_9
 |77=>D_77
 |177=>D_177
 |179=>D_179
 |81=>D_81
 |87=>D_87
 |52=>D_52
 |5=>D_5
 |3=>D_3
 |256=>D_256
 |_=>fun _=>none
def ofB(ty:Nat):List Int→Option (List (D ty)):=
 match ty with
 |5=>fun l=>some l
 |_=>fun _=>none
def toB(ty:Nat):List (D ty)→Option (List Int):=
 match ty with
 |5=>fun l=>some l
 |_=>fun _=>none
def cels:List (Nat×List Nat):=[(9,[0]),(77,[0,0,0]),(177,[0,0,0,0,9,77]),(179,[0,0]),(81,[0,0,0]),(87,[0,0,0,0,9,81]),(52,[0,0]),(5,[0]),(3,[0]),(256,[0,0])]
abbrev P:Program:=Go.Proofs.Tryz.prog
def gi(w:World):Prop:=(∃m,w.cell? ⟨0,0,none⟩=some (.int .i64 m))∧(Lib.TabIs P w "internal/strconv.uint64pow10" .u64 Lib.pow10Tab)
def X:CT D:=⟨mkC P gi tis [41,42,43,115,116,181,182] [] [] [168,170] [],Rw,Ew,Dw,ofB,toB,cels⟩
theorem mixed:P.follows .mixedOrders=true:=by kernel_rfl
theorem ctx:CtxOK P X.C:=ctx_okB (by kernel_rfl) (by kernel_rfl) (by kernel_rfl)
theorem dec_9:∀{l:List (V D)} {x:List UInt8},D_9 l=some x→l.map X.er=R_9 x:=by
 intro l x h
 unfold D_9 at h
 obtain⟨v0,l0,e0,h0⟩:=oC_ok h
 obtain⟨x0,f0,h0x⟩:=oS_ok h0
 obtain⟨e1,hl⟩:=oN_ok h0x
 simp only[Option.some.injEq]at hl
 subst hl
 subst f0
 subst e1
 subst e0
 rfl
theorem dec_77:∀{l:List (V D)} {x:LVersion},D_77 l=some x→l.map X.er=R_77 x:=by
 intro l x h
 unfold D_77 at h
 obtain⟨v0,l0,e0,h0⟩:=oC_ok h
 obtain⟨x0,f0,h0x⟩:=oI_ok h0
 obtain⟨v1,l1,e1,h1⟩:=oC_ok h0x
 obtain⟨x1,f1,h1x⟩:=oS_ok h1
 obtain⟨v2,l2,e2,h2⟩:=oC_ok h1x
 obtain⟨x2,f2,h2x⟩:=oB_ok h2
 obtain⟨e3,hl⟩:=oN_ok h2x
 simp only[Option.some.injEq]at hl
 subst hl
 subst f2
 subst f1
 subst f0
 subst e3
 subst e2
 subst e1
 subst e0
 rfl
theorem dec_177:∀{l:List (V D)} {x:LResource},D_177 l=some x→l.map X.er=R_177 x:=by
 intro l x h
 unfold D_177 at h
 obtain⟨v0,l0,e0,h0⟩:=oC_ok h
 obtain⟨x0,f0,h0x⟩:=oS_ok h0
 obtain⟨v1,l1,e1,h1⟩:=oC_ok h0x
 obtain⟨x1,f1,h1x⟩:=oS_ok h1
 obtain⟨v2,l2,e2,h2⟩:=oC_ok h1x
 obtain⟨x2,f2,h2x⟩:=oS_ok h2
 obtain⟨v3,l3,e3,h3⟩:=oC_ok h2x
 obtain⟨x3,f3,h3x⟩:=oB_ok h3
 obtain⟨v4,l4,e4,h4⟩:=oC_ok h3x
 obtain⟨x4,f4,h4x⟩:=oL_ok h4
 obtain⟨v5,l5,e5,h5⟩:=oC_ok h4x
 obtain⟨x5,f5,h5x⟩:=oL_ok h5
 obtain⟨e6,hl⟩:=oN_ok h5x
 simp only[Option.some.injEq]at hl
 subst hl
 subst f5
 subst f4
 subst f3
 subst f2
 subst f1
 subst f0
 subst e6
 subst e5
 subst e4
 subst e3
 subst e2
 subst e1
 subst e0
 rfl
theorem dec_179:∀{l:List (V D)} {x:LField},D_179 l=some x→l.map X.er=R_179 x:=by
 intro l x h
 unfold D_179 at h
 obtain⟨v0,l0,e0,h0⟩:=oC_ok h
 obtain⟨x0,f0,h0x⟩:=oS_ok h0
 obtain⟨v1,l1,e1,h1⟩:=oC_ok h0x
 obtain⟨x1,f1,h1x⟩:=oS_ok h1
 obtain⟨e2,hl⟩:=oN_ok h1x
 simp only[Option.some.injEq]at hl
 subst hl
 subst f1
 subst f0
 subst e2
 subst e1
 subst e0
 rfl
theorem dec_81:∀{l:List (V D)} {x:IVersion},D_81 l=some x→l.map X.er=R_81 x:=by
 intro l x h
 unfold D_81 at h
 obtain⟨v0,l0,e0,h0⟩:=oC_ok h
 obtain⟨x0,f0,h0x⟩:=oI_ok h0
 obtain⟨v1,l1,e1,h1⟩:=oC_ok h0x
 obtain⟨x1,f1,h1x⟩:=oS_ok h1
 obtain⟨v2,l2,e2,h2⟩:=oC_ok h1x
 obtain⟨x2,f2,h2x⟩:=oB_ok h2
 obtain⟨e3,hl⟩:=oN_ok h2x
 simp only[Option.some.injEq]at hl
 subst hl
 subst f2
 subst f1
 subst f0
 subst e3
 subst e2
 subst e1
 subst e0
 rfl
theorem dec_87:∀{l:List (V D)} {x:IResource},D_87 l=some x→l.map X.er=R_87 x:=by
 intro l x h
 unfold D_87 at h
 obtain⟨v0,l0,e0,h0⟩:=oC_ok h
 obtain⟨x0,f0,h0x⟩:=oS_ok h0
 obtain⟨v1,l1,e1,h1⟩:=oC_ok h0x
 obtain⟨x1,f1,h1x⟩:=oS_ok h1
 obtain⟨v2,l2,e2,h2⟩:=oC_ok h1x
 obtain⟨x2,f2,h2x⟩:=oS_ok h2
 obtain⟨v3,l3,e3,h3⟩:=oC_ok h2x
 obtain⟨x3,f3,h3x⟩:=oB_ok h3
 obtain⟨v4,l4,e4,h4⟩:=oC_ok h3x
 obtain⟨x4,f4,h4x⟩:=oL_ok h4
 obtain⟨v5,l5,e5,h5⟩:=oC_ok h4x
 obtain⟨x5,f5,h5x⟩:=oL_ok h5
 obtain⟨e6,hl⟩:=oN_ok h5x
 simp only[Option.some.injEq]at hl
 subst hl
 subst f5
 subst f4
 subst f3
 subst f2
 subst f1
 subst f0
 subst e6
 subst e5
 subst e4
 subst e3
 subst e2
 subst e1
 subst e0
 rfl
theorem dec_52:∀{l:List (V D)} {x:IField},D_52 l=some x→l.map X.er=R_52 x:=by
 intro l x h
 unfold D_52 at h
 obtain⟨v0,l0,e0,h0⟩:=oC_ok h
 obtain⟨x0,f0,h0x⟩:=oS_ok h0
 obtain⟨v1,l1,e1,h1⟩:=oC_ok h0x
 obtain⟨x1,f1,h1x⟩:=oS_ok h1
 obtain⟨e2,hl⟩:=oN_ok h1x
 simp only[Option.some.injEq]at hl
 subst hl
 subst f1
 subst f0
 subst e2
 subst e1
 subst e0
 rfl
theorem dec_5:∀{l:List (V D)} {x:Int},D_5 l=some x→l.map X.er=R_5 x:=by
 intro l x h
 unfold D_5 at h
 obtain⟨v0,l0,e0,h0⟩:=oC_ok h
 obtain⟨x0,f0,h0x⟩:=oI_ok h0
 obtain⟨e1,hl⟩:=oN_ok h0x
 simp only[Option.some.injEq]at hl
 subst hl
 subst f0
 subst e1
 subst e0
 rfl
theorem dec_3:∀{l:List (V D)} {x:Int},D_3 l=some x→l.map X.er=R_3 x:=by
 intro l x h
 unfold D_3 at h
 obtain⟨v0,l0,e0,h0⟩:=oC_ok h
 obtain⟨x0,f0,h0x⟩:=oI_ok h0
 obtain⟨e1,hl⟩:=oN_ok h0x
 simp only[Option.some.injEq]at hl
 subst hl
 subst f0
 subst e1
 subst e0
 rfl
theorem dec_256:∀{l:List (V D)} {x:IQuality},D_256 l=some x→l.map X.er=R_256 x:=by
 intro l x h
 unfold D_256 at h
 obtain⟨v0,l0,e0,h0⟩:=oC_ok h
 obtain⟨x0,f0,h0x⟩:=oS_ok h0
 obtain⟨v1,l1,e1,h1⟩:=oC_ok h0x
 obtain⟨x1,f1,h1x⟩:=oI_ok h1
 obtain⟨e2,hl⟩:=oN_ok h1x
 simp only[Option.some.injEq]at hl
 subst hl
 subst f1
 subst f0
 subst e2
 subst e1
 subst e0
 rfl
theorem codE(ty:Nat)(x:D ty):(X.E ty x).map X.er=X.R ty x:=by
 by_cases h9:ty=9
 ·subst h9
  rfl
 by_cases h77:ty=77
 ·subst h77
  rfl
 by_cases h177:ty=177
 ·subst h177
  rfl
 by_cases h179:ty=179
 ·subst h179
  rfl
 by_cases h81:ty=81
 ·subst h81
  rfl
 by_cases h87:ty=87
 ·subst h87
  rfl
 by_cases h52:ty=52
 ·subst h52
  rfl
 by_cases h5:ty=5
 ·subst h5
  rfl
 by_cases h3:ty=3
 ·subst h3
  rfl
 by_cases h256:ty=256
 ·subst h256
  rfl
 show(Ew ty x).map X.er=Rw ty x
 simp[Ew,Rw,h9,h77,h177,h179,h81,h87,h52,h5,h3,h256]
theorem codD(ty:Nat)(l:List (V D))(x:D ty)(h:X.dec ty l=some x):l.map X.er=X.R ty x:=by
 by_cases h9:ty=9
 ·subst h9
  exact dec_9 h
 by_cases h77:ty=77
 ·subst h77
  exact dec_77 h
 by_cases h177:ty=177
 ·subst h177
  exact dec_177 h
 by_cases h179:ty=179
 ·subst h179
  exact dec_179 h
 by_cases h81:ty=81
 ·subst h81
  exact dec_81 h
 by_cases h87:ty=87
 ·subst h87
  exact dec_87 h
 by_cases h52:ty=52
 ·subst h52
  exact dec_52 h
 by_cases h5:ty=5
 ·subst h5
  exact dec_5 h
 by_cases h3:ty=3
 ·subst h3
  exact dec_3 h
 by_cases h256:ty=256
 ·subst h256
  exact dec_256 h
 have h:Dw ty l=some x:=h
 simp[Dw,h9,h77,h177,h179,h81,h87,h52,h5,h3,h256]at h
theorem codO(ty:Nat)(l:List Int)(r:List (D ty))(h:X.ofB ty l=some r):r.map (X.R ty)=rowsI .u8 l:=by
 by_cases h9:ty=9
 ·subst h9
  cases h
 by_cases h77:ty=77
 ·subst h77
  cases h
 by_cases h177:ty=177
 ·subst h177
  cases h
 by_cases h179:ty=179
 ·subst h179
  cases h
 by_cases h81:ty=81
 ·subst h81
  cases h
 by_cases h87:ty=87
 ·subst h87
  cases h
 by_cases h52:ty=52
 ·subst h52
  cases h
 by_cases h5:ty=5
 ·subst h5
  have h:some l=some r:=h
  simp only[Option.some.injEq]at h
  subst h
  rfl
 by_cases h3:ty=3
 ·subst h3
  cases h
 by_cases h256:ty=256
 ·subst h256
  cases h
 have h:ofB ty l=some r:=h
 simp[ofB,h9,h77,h177,h179,h81,h87,h52,h5,h3,h256]at h
theorem codT(ty:Nat)(l:List (D ty))(r:List Int)(h:X.toB ty l=some r):l.map (X.R ty)=rowsI .u8 r:=by
 by_cases h9:ty=9
 ·subst h9
  cases h
 by_cases h77:ty=77
 ·subst h77
  cases h
 by_cases h177:ty=177
 ·subst h177
  cases h
 by_cases h179:ty=179
 ·subst h179
  cases h
 by_cases h81:ty=81
 ·subst h81
  cases h
 by_cases h87:ty=87
 ·subst h87
  cases h
 by_cases h52:ty=52
 ·subst h52
  cases h
 by_cases h5:ty=5
 ·subst h5
  have h:some l=some r:=h
  simp only[Option.some.injEq]at h
  subst h
  rfl
 by_cases h3:ty=3
 ·subst h3
  cases h
 by_cases h256:ty=256
 ·subst h256
  cases h
 have h:toB ty l=some r:=h
 simp[toB,h9,h77,h177,h179,h81,h87,h52,h5,h3,h256]at h
theorem codS(ty:Nat)(h:scalTy X ty=true)(x:D ty):∀t∈X.R ty x,t.scalar=true:=by
 by_cases h9:ty=9
 ·subst h9
  intro t ht
  have ht:t∈R_9 x:=ht
  simp only[R_9,List.mem_cons,List.not_mem_nil,or_false]at ht
  rcases ht with rfl<;>rfl
 by_cases h77:ty=77
 ·subst h77
  intro t ht
  have ht:t∈R_77 x:=ht
  simp only[R_77,List.mem_cons,List.not_mem_nil,or_false]at ht
  rcases ht with rfl|rfl|rfl<;>rfl
 by_cases h177:ty=177
 ·subst h177
  have:scalTy X 177=false:=by kernel_rfl
  rw[this]at h;cases h
 by_cases h179:ty=179
 ·subst h179
  intro t ht
  have ht:t∈R_179 x:=ht
  simp only[R_179,List.mem_cons,List.not_mem_nil,or_false]at ht
  rcases ht with rfl|rfl<;>rfl
 by_cases h81:ty=81
 ·subst h81
  intro t ht
  have ht:t∈R_81 x:=ht
  simp only[R_81,List.mem_cons,List.not_mem_nil,or_false]at ht
  rcases ht with rfl|rfl|rfl<;>rfl
 by_cases h87:ty=87
 ·subst h87
  have:scalTy X 87=false:=by kernel_rfl
  rw[this]at h;cases h
 by_cases h52:ty=52
 ·subst h52
  intro t ht
  have ht:t∈R_52 x:=ht
  simp only[R_52,List.mem_cons,List.not_mem_nil,or_false]at ht
  rcases ht with rfl|rfl<;>rfl
 by_cases h5:ty=5
 ·subst h5
  intro t ht
  have ht:t∈R_5 x:=ht
  simp only[R_5,List.mem_cons,List.not_mem_nil,or_false]at ht
  rcases ht with rfl<;>rfl
 by_cases h3:ty=3
 ·subst h3
  intro t ht
  have ht:t∈R_3 x:=ht
  simp only[R_3,List.mem_cons,List.not_mem_nil,or_false]at ht
  rcases ht with rfl<;>rfl
 by_cases h256:ty=256
 ·subst h256
  intro t ht
  have ht:t∈R_256 x:=ht
  simp only[R_256,List.mem_cons,List.not_mem_nil,or_false]at ht
  rcases ht with rfl|rfl<;>rfl
 exfalso
 rcases look_key (rfl:Pv.look cels ty [1]=Pv.look cels ty [1])with h1|h1
 ·have h:(Pv.look cels ty [1]).all (fun e=>Nat.beq e 0)=true:=h
  rw[h1]at h;cases h
 ·simp only[cels,List.mem_cons,List.not_mem_nil,or_false,Prod.mk.injEq]at h1<;>omega
theorem cod:CodOK X:=⟨codE,codD,codO,codT,codS⟩
end
end Go.YtnidlohhndpjdaaGreatDoor
