/- Functions over lists. Nothing is claimed here. -/
import Derived.Test.YtabadclgcgdccaaGreatDoorKt
set_option linter.unusedVariables false
set_option linter.unusedSimpArgs false
set_option maxRecDepth 100000
namespace Go.YtabadclgcgdccaaGreatDoor
open Go Go.RowKit Go.Pv
noncomputable section
noncomputable def L_big(k:Nat)(a0:List Int):Option (Bool):=
 some (decide ((a0.length:Int)>(1048576:Int)))
noncomputable def S_l1New_b0(k:Nat):Nat→(List Int)→Int→Int→Option (Int)
 |0,_,_,_=>none
 |n+1,x0,x3,x4=>
  (bif(decide (x4<(x0.length:Int)))then(bif(decide (x4<(4000:Int)))then((idx x0 x4).bind fun e1=>
  S_l1New_b0 k n x0 (andI .i64 (IntKind.wrap .i64 ((IntKind.wrap .i64 ((IntKind.wrap .i64 (x3*(139:Int)))+(IntKind.wrap .i64 e1)))+(11:Int))) (1073741823:Int)) (IntKind.wrap .i64 (x4+(1:Int))))
  else some (x3))else some (x3))
noncomputable def S_l1New(k:Nat)(a0:List Int):Option (Sl1Cur):=
 ((S_l1New_b0 k k a0 (IntKind.wrap .i64 ((271091:Int)+(a0.length:Int))) (0:Int)).bind fun o2=>
 some (⟨a0,(0:Int),o2⟩:Sl1Cur))
noncomputable def S_l1Byte_c34(k:Nat)(x3:Int)(x34:Bool)(y700000_0:List Int)(y700000_1:Int)(y700000_2:Int):Option (Int×Int):=
 (bif x34 then((idx y700000_0 y700000_1).bind fun e3=>
 some (((andI .i64 (IntKind.wrap .i64 (x3+(IntKind.wrap .i64 e3))) (255:Int)),(IntKind.wrap .i64 (y700000_1+(1:Int))))))
 else some ((x3,y700000_1)))
noncomputable def S_l1Byte(k:Nat)(a0:Sl1Cur):Option (Int×Sl1Cur):=
 ((shrI .i64 (IntKind.wrap .i64 ((IntKind.wrap .i64 (a0.h*(6364136223846793005:Int)))+(1442695040888963407:Int))) (33:Int)).bind fun q1=>
 ((shrI .i64 (IntKind.wrap .i64 ((IntKind.wrap .i64 (a0.h*(6364136223846793005:Int)))+(1442695040888963407:Int))) (47:Int)).bind fun q2=>
 ((S_l1Byte_c34 k (andI .i64 (xorI .i64 q1 q2) (255:Int)) (decide (a0.i<(a0.b.length:Int))) a0.b a0.i (IntKind.wrap .i64 ((IntKind.wrap .i64 (a0.h*(6364136223846793005:Int)))+(1442695040888963407:Int)))).bind fun o4=>
 some (o4.1,(⟨a0.b,o4.2,(IntKind.wrap .i64 ((IntKind.wrap .i64 (a0.h*(6364136223846793005:Int)))+(1442695040888963407:Int)))⟩:Sl1Cur)))))
noncomputable def S_l1Below(k:Nat)(a0:Sl1Cur)(a1:Int):Option (Int×Sl1Cur):=
 (bif(decide (a1≤(0:Int)))then some ((0:Int),a0)
 else(bif(decide (a1≤(256:Int)))then((S_l1Byte k a0).bind fun w1=>
 ((md w1.1 a1).bind fun q2=>
 some (q2,w1.2)))
 else((S_l1Byte k a0).bind fun w3=>
 ((S_l1Byte k w3.2).bind fun w4=>
 ((S_l1Byte k w4.2).bind fun w5=>
 ((md (IntKind.wrap .i64 ((IntKind.wrap .i64 ((IntKind.wrap .i64 (w3.1*(65536:Int)))+(IntKind.wrap .i64 (w4.1*(256:Int)))))+w5.1)) a1).bind fun q6=>
 some (q6,w5.2)))))))
noncomputable def S_l1Str(k:Nat)(a0:Sl1Cur)(a1:List (List UInt8)):Option ((List UInt8)×Sl1Cur):=
 ((S_l1Below k a0 (a1.length:Int)).bind fun w1=>
 ((idx a1 w1.1).bind fun e2=>
 some (e2,w1.2)))
noncomputable def S_l1Once(k:Nat)(a0:Sl1Cur)(a1:Int):Option (Bool×Sl1Cur):=
 ((S_l1Below k a0 a1).bind fun w1=>
 some ((w1.1==(0:Int)),w1.2))
noncomputable def S_l15Draw_b2(k:Nat):Nat→Int→Int→Int→(List Int)→Int→Int→(List UInt8)→(List UInt8)→(List IResource)→(List (List UInt8))→(List UInt8)→(List UInt8)→(List UInt8)→Bool→(List (List UInt8))→(List IVersion)→Option ((List Int)×Int×Int×(List IVersion))
 |0,_,_,_,_,_,_,_,_,_,_,_,_,_,_,_,_=>none
 |n+1,x5,x7,x8,y700000_0,y700000_1,y700000_2,y2_0,y3_0,r100000301,r4,y6_0,y6_1,y6_2,y6_3,r100000604,r100000605=>
  (bif(decide (x8>(0:Int)))then((S_l1Str k (⟨y700000_0,y700000_1,y700000_2⟩:Sl1Cur) ([([111,110,101]:List UInt8),([116,119,111]:List UInt8),([116,104,114,101,101]:List UInt8),([84,104,101,32,113,117,105,99,107,32,98,114,111,119,110,32,102,111,120,46]:List UInt8),([60,97,62]:List UInt8),([]:List UInt8)]:List (List UInt8))).bind fun w6=>
  ((S_l1Once k w6.2 (9:Int)).bind fun w7=>
  ((app 32 r100000605 ([(⟨x7,w6.1,w7.1⟩:IVersion)]:List IVersion)).bind fun u8=>
  ((S_l1Below k w7.2 (40:Int)).bind fun w9=>
  S_l15Draw_b2 k n x5 (IntKind.wrap .i64 ((IntKind.wrap .i64 (x7+(1:Int)))+w9.1)) (IntKind.wrap .i64 (x8 -(1:Int))) w9.2.b w9.2.i w9.2.h y2_0 y3_0 r100000301 r4 y6_0 y6_1 y6_2 y6_3 r100000604 u8))))
  else some ((y700000_0,y700000_1,y700000_2,r100000605)))
noncomputable def S_l15Draw_c69(k:Nat)(x5:Int)(x69:Bool)(y700000_0:List Int)(y700000_1:Int)(y700000_2:Int)(y2_0:List UInt8)(y3_0:List UInt8)(r100000301:List IResource)(r4:List (List UInt8))(y6_0:List UInt8)(y6_1:List UInt8)(y6_2:List UInt8)(y6_3:Bool)(r100000604:List (List UInt8))(r100000605:List IVersion):Option ((List IVersion)):=
 (bif x69 then((idx r100000605 (0:Int)).bind fun _=>
 ((idx r100000605 (0:Int)).bind fun e14=>
 ((idx ((r100000605).set ((0:Int)).toNat (⟨e14.At,([84,104,101,32,113,117,105,99,107,32,98,114,111,119,110,32,102,111,120,46,84,104,101,32,113,117,105,99,107,32,98,114,111,119,110,32,102,111,120,46,84,104,101,32,113,117,105,99,107,32,98,114,111,119,110,32,102,111,120,46]:List UInt8),e14.Gone⟩:IVersion)) (0:Int)).bind fun _=>
 ((idx ((r100000605).set ((0:Int)).toNat (⟨e14.At,([84,104,101,32,113,117,105,99,107,32,98,114,111,119,110,32,102,111,120,46,84,104,101,32,113,117,105,99,107,32,98,114,111,119,110,32,102,111,120,46,84,104,101,32,113,117,105,99,107,32,98,114,111,119,110,32,102,111,120,46]:List UInt8),e14.Gone⟩:IVersion)) (0:Int)).bind fun e15=>
 some (((((r100000605).set ((0:Int)).toNat (⟨e14.At,([84,104,101,32,113,117,105,99,107,32,98,114,111,119,110,32,102,111,120,46,84,104,101,32,113,117,105,99,107,32,98,114,111,119,110,32,102,111,120,46,84,104,101,32,113,117,105,99,107,32,98,114,111,119,110,32,102,111,120,46]:List UInt8),e14.Gone⟩:IVersion))).set ((0:Int)).toNat (⟨e15.At,e15.Text,false⟩:IVersion)))))))
 else some (r100000605))
noncomputable def S_l15Draw_c66(k:Nat)(x5:Int)(x57:List UInt8)(x66:Bool)(y700000_0:List Int)(y700000_1:Int)(y700000_2:Int)(y2_0:List UInt8)(y3_0:List UInt8)(r100000301:List IResource)(r4:List (List UInt8))(y6_0:List UInt8)(y6_1:List UInt8)(y6_2:List UInt8)(y6_3:Bool)(r100000604:List (List UInt8))(r100000605:List IVersion):Option (Bool×(List IVersion)):=
 (bif x66 then some ((true,r100000605))
 else((S_l15Draw_c69 k x5 (x57==([47,98,105,103]:List UInt8)) y700000_0 y700000_1 y700000_2 y2_0 y3_0 r100000301 r4 y6_0 y6_1 y6_2 y6_3 r100000604 r100000605).bind fun o14=>
 some ((y6_3,o14))))
noncomputable def S_l15Draw_c58(k:Nat)(x5:Int)(x57:List UInt8)(x58:Bool)(y700000_0:List Int)(y700000_1:Int)(y700000_2:Int)(y2_0:List UInt8)(y3_0:List UInt8)(r100000301:List IResource)(r4:List (List UInt8))(y6_0:List UInt8)(y6_1:List UInt8)(y6_2:List UInt8)(y6_3:Bool)(r100000604:List (List UInt8))(r100000605:List IVersion):Option ((List Int)×Int×Int×Bool×(List (List UInt8))×(List IVersion)):=
 (bif x58 then((S_l1Below k (⟨y700000_0,y700000_1,y700000_2⟩:Sl1Cur) (3:Int)).bind fun w12=>
 ((ssub ([([100,101]:List UInt8),([101,110]:List UInt8),([102,114]:List UInt8)]:List (List UInt8)) (0:Int) (IntKind.wrap .i64 ((1:Int)+w12.1))).bind fun t13=>
 some ((w12.2.b,w12.2.i,w12.2.h,y6_3,t13,r100000605))))
 else((S_l15Draw_c66 k x5 x57 (x57==([47,109,105,110,101]:List UInt8)) y700000_0 y700000_1 y700000_2 y2_0 y3_0 r100000301 r4 y6_0 y6_1 y6_2 y6_3 r100000604 r100000605).bind fun o14=>
 some ((y700000_0,y700000_1,y700000_2,o14.1,r100000604,o14.2))))
noncomputable def S_l15Draw_b4(k:Nat)(x5:Int)(x57:List UInt8)(y700000_0:List Int)(y700000_1:Int)(y700000_2:Int)(y2_0:List UInt8)(y3_0:List UInt8)(r100000301:List IResource)(r4:List (List UInt8))(y6_0:List UInt8)(y6_1:List UInt8)(y6_2:List UInt8)(y6_3:Bool)(r100000604:List (List UInt8))(r100000605:List IVersion):Option ((List Int)×Int×Int×Bool×(List (List UInt8))×(List IVersion)):=
 ((S_l15Draw_c58 k x5 x57 (x57==([47,108,97,110,103]:List UInt8)) y700000_0 y700000_1 y700000_2 y2_0 y3_0 r100000301 r4 y6_0 y6_1 y6_2 y6_3 r100000604 r100000605).bind fun o12=>
 some ((o12.1,o12.2.1,o12.2.2.1,o12.2.2.2.1,o12.2.2.2.2.1,o12.2.2.2.2.2)))
noncomputable def S_l15Draw_b1(k:Nat)(x5:Int)(y700000_0:List Int)(y700000_1:Int)(y700000_2:Int)(y2_0:List UInt8)(y3_0:List UInt8)(r100000301:List IResource)(r4:List (List UInt8)):Option ((List Int)×Int×Int×(List IResource)):=
 ((idx r4 x5).bind fun _=>
 ((idx r4 x5).bind fun e1=>
 ((S_l1Str k (⟨y700000_0,y700000_1,y700000_2⟩:Sl1Cur) ([([109,97,120,45,97,103,101,61,50,48]:List UInt8),([109,97,120,45,97,103,101,61,50,48,44,32,115,116,97,108,101,45,119,104,105,108,101,45,114,101,118,97,108,105,100,97,116,101,61,51,48]:List UInt8),([115,45,109,97,120,97,103,101,61,53,44,32,109,97,120,45,97,103,101,61,54,48]:List UInt8),([110,111,45,99,97,99,104,101]:List UInt8),([110,111,45,115,116,111,114,101]:List UInt8),([]:List UInt8),([109,97,120,45,97,103,101,61,57,44,32,109,117,115,116,45,114,101,118,97,108,105,100,97,116,101]:List UInt8),([109,97,120,45,97,103,101,61,56,44,32,115,116,97,108,101,45,105,102,45,101,114,114,111,114,61,52,48]:List UInt8),([112,117,98,108,105,99,44,32,109,97,120,45,97,103,101,61,49,48,48]:List UInt8)]:List (List UInt8))).bind fun w2=>
 ((S_l1Str k w2.2 ([([]:List UInt8),([107,49]:List UInt8),([107,49,32,107,50]:List UInt8),([110,101,119,115]:List UInt8)]:List (List UInt8))).bind fun w3=>
 ((S_l1Below k w3.2 (30:Int)).bind fun w4=>
 ((S_l1Below k w4.2 (4:Int)).bind fun w5=>
 ((S_l15Draw_b2 k k x5 w4.1 (IntKind.wrap .i64 ((1:Int)+w5.1)) w5.2.b w5.2.i w5.2.h y2_0 y3_0 r100000301 r4 e1 w2.1 w3.1 false [] []).bind fun o6=>
 ((idx r4 x5).bind fun _=>
 ((idx r4 x5).bind fun e7=>
 ((S_l15Draw_b4 k x5 e7 o6.1 o6.2.1 o6.2.2.1 y2_0 y3_0 r100000301 r4 e1 w2.1 w3.1 false [] o6.2.2.2).bind fun o8=>
 ((app 104 r100000301 ([(⟨e1,w2.1,w3.1,o8.2.2.2.1,o8.2.2.2.2.1,o8.2.2.2.2.2⟩:IResource)]:List IResource)).bind fun u9=>
 some ((o8.1,o8.2.1,o8.2.2.1,u9)))))))))))))
noncomputable def S_l15Draw_b0(k:Nat):Nat→Int→(List Int)→Int→Int→(List UInt8)→(List UInt8)→(List IResource)→(List (List UInt8))→Option ((List Int)×Int×Int×(List IResource))
 |0,_,_,_,_,_,_,_,_=>none
 |n+1,x5,y700000_0,y700000_1,y700000_2,y2_0,y3_0,r100000301,r4=>
  (bif(decide (x5<(r4.length:Int)))then((S_l15Draw_b1 k x5 y700000_0 y700000_1 y700000_2 y2_0 y3_0 r100000301 r4).bind fun o1=>
  S_l15Draw_b0 k n (IntKind.wrap .i64 (x5+(1:Int))) o1.1 o1.2.1 o1.2.2.1 y2_0 y3_0 o1.2.2.2 r4)
  else some ((y700000_0,y700000_1,y700000_2,r100000301)))
noncomputable def S_l15Draw(k:Nat)(a0:Sl1Cur):Option (IOrigin×Sl1Cur):=
 ((S_l15Draw_b0 k k (0:Int) a0.b a0.i a0.h ([]:List UInt8) ([104,46,101,120,97,109,112,108,101]:List UInt8) [] ([([47,97]:List UInt8),([47,97,63,120,61,49,38,121,61,50]:List UInt8),([47,112]:List UInt8),([47,108,97,110,103]:List UInt8),([47,109,105,110,101]:List UInt8),([47,98,105,103]:List UInt8),([47,112,97,103,101]:List UInt8)]:List (List UInt8))).bind fun o2=>
 some ((⟨([104,46,101,120,97,109,112,108,101]:List UInt8),o2.2.2.2⟩:IOrigin),(⟨o2.1,o2.2.1,o2.2.2.1⟩:Sl1Cur)))
noncomputable def S_l15Ask_c12(k:Nat)(x12:Bool)(y700000_0:List Int)(y700000_1:Int)(y700000_2:Int)(y2_0:List UInt8)(y2_1:List UInt8)(y2_2:List UInt8)(y3_0:List UInt8)(y3_1:List UInt8)(y3_2:List UInt8)(r100000303:List IField):Option ((List Int)×Int×Int×(List IField)):=
 (bif x12 then((S_l1Str k (⟨y700000_0,y700000_1,y700000_2⟩:Sl1Cur) ([([100,101]:List UInt8),([101,110,59,113,61,48,46,53,44,32,100,101]:List UInt8),([102,114,44,32,101,110]:List UInt8),([42]:List UInt8)]:List (List UInt8))).bind fun w4=>
 ((app 32 r100000303 ([(⟨([97,99,99,101,112,116,45,108,97,110,103,117,97,103,101]:List UInt8),w4.1⟩:IField)]:List IField)).bind fun u5=>
 some ((w4.2.b,w4.2.i,w4.2.h,u5))))
 else some ((y700000_0,y700000_1,y700000_2,r100000303)))
noncomputable def S_l15Ask_c23(k:Nat)(x23:Bool)(y700000_0:List Int)(y700000_1:Int)(y700000_2:Int)(y2_0:List UInt8)(y2_1:List UInt8)(y2_2:List UInt8)(y3_0:List UInt8)(y3_1:List UInt8)(y3_2:List UInt8)(r100000303:List IField):Option ((List Int)×Int×Int×(List IField)):=
 (bif x23 then((S_l1Str k (⟨y700000_0,y700000_1,y700000_2⟩:Sl1Cur) ([([117,49]:List UInt8),([117,50]:List UInt8),([97,32,98]:List UInt8)]:List (List UInt8))).bind fun w8=>
 ((app 32 r100000303 ([(⟨([97,117,116,104,111,114,105,122,97,116,105,111,110]:List UInt8),w8.1⟩:IField)]:List IField)).bind fun u9=>
 some ((w8.2.b,w8.2.i,w8.2.h,u9))))
 else some ((y700000_0,y700000_1,y700000_2,r100000303)))
noncomputable def S_l15Ask_c34(k:Nat)(x34:Bool)(y700000_0:List Int)(y700000_1:Int)(y700000_2:Int)(y2_0:List UInt8)(y2_1:List UInt8)(y2_2:List UInt8)(y3_0:List UInt8)(y3_1:List UInt8)(y3_2:List UInt8)(r100000303:List IField):Option ((List UInt8)):=
 (bif x34 then some (([111,116,104,101,114]:List UInt8))
 else some (y3_1))
noncomputable def S_l15Ask(k:Nat)(a0:Sl1Cur):Option (IRequest×Sl1Cur):=
 ((S_l1Str k a0 ([([71,69,84]:List UInt8),([71,69,84]:List UInt8),([71,69,84]:List UInt8),([71,69,84]:List UInt8),([71,69,84]:List UInt8),([72,69,65,68]:List UInt8),([80,79,83,84]:List UInt8)]:List (List UInt8))).bind fun w1=>
 ((S_l1Str k w1.2 ([([47,97]:List UInt8),([47,97,63,121,61,50,38,120,61,49]:List UInt8),([47,112]:List UInt8),([47,108,97,110,103]:List UInt8),([47,108,97,110,103]:List UInt8),([47,109,105,110,101]:List UInt8),([47,98,105,103]:List UInt8),([47,112,97,103,101]:List UInt8),([47,110,111,110,101]:List UInt8),([47,46,47,112]:List UInt8)]:List (List UInt8))).bind fun w2=>
 ((S_l1Once k w2.2 (2:Int)).bind fun w3=>
 ((S_l15Ask_c12 k w3.1 w3.2.b w3.2.i w3.2.h ([]:List UInt8) ([]:List UInt8) ([]:List UInt8) w1.1 ([104,46,101,120,97,109,112,108,101]:List UInt8) w2.1 []).bind fun o6=>
 ((S_l1Once k (⟨o6.1,o6.2.1,o6.2.2.1⟩:Sl1Cur) (3:Int)).bind fun w7=>
 ((S_l15Ask_c23 k w7.1 w7.2.b w7.2.i w7.2.h ([]:List UInt8) ([]:List UInt8) ([]:List UInt8) w1.1 ([104,46,101,120,97,109,112,108,101]:List UInt8) w2.1 o6.2.2.2).bind fun o10=>
 ((S_l1Once k (⟨o10.1,o10.2.1,o10.2.2.1⟩:Sl1Cur) (20:Int)).bind fun w11=>
 ((S_l15Ask_c34 k w11.1 w11.2.b w11.2.i w11.2.h ([]:List UInt8) ([]:List UInt8) ([]:List UInt8) w1.1 ([104,46,101,120,97,109,112,108,101]:List UInt8) w2.1 o10.2.2.2).bind fun o12=>
 some ((⟨w1.1,o12,w2.1,o10.2.2.2⟩:IRequest),w11.2)))))))))
noncomputable def S_SplitTarget_b0(k:Nat):Nat→(List UInt8)→Int→Option (Oc (Unit) ((List UInt8)×(List UInt8)×Bool))
 |0,_,_=>none
 |n+1,x0,x5=>
  (bif(decide (x5<(x0.length:Int)))then((idx x0 x5).bind fun c1=>
  (bif((UInt8.toNat c1:Int)==(63:Int))then((ssub x0 (0:Int) x5).bind fun t2=>
  ((ssub x0 (IntKind.wrap .i64 (x5+(1:Int))) (x0.length:Int)).bind fun t3=>
  some (.oth ((t2,t3,true)))))
  else S_SplitTarget_b0 k n x0 (IntKind.wrap .i64 (x5+(1:Int)))))
  else some (.nrm ()))
noncomputable def S_SplitTarget(k:Nat)(a0:List UInt8):Option ((List UInt8)×(List UInt8)×Bool):=
 ((S_SplitTarget_b0 k k a0 (0:Int)).bind fun o4=>
 oc o4 (fun o5=>some (a0,([]:List UInt8),false))
 (fun o6=>some o6))
noncomputable def S_l1In(k:Nat)(a0:Int)(a1:Int)(a2:Int):Option (Bool):=
 (bif(decide (a0≥a1))then some (decide (a0≤a2))else some false)
noncomputable def S_l12Hex(k:Nat)(a0:Int):Option (Int):=
 ((S_l1In k (IntKind.wrap .i64 a0) (48:Int) (57:Int)).bind fun w1=>
 (bif w1 then some (IntKind.wrap .i64 (IntKind.wrap .u8 (a0 -(48:Int))))
 else((S_l1In k (IntKind.wrap .i64 a0) (97:Int) (102:Int)).bind fun w2=>
 (bif w2 then some (IntKind.wrap .i64 ((IntKind.wrap .i64 (IntKind.wrap .u8 (a0 -(97:Int))))+(10:Int)))
 else((S_l1In k (IntKind.wrap .i64 a0) (65:Int) (70:Int)).bind fun w3=>
 (bif w3 then some (IntKind.wrap .i64 ((IntKind.wrap .i64 (IntKind.wrap .u8 (a0 -(65:Int))))+(10:Int)))
 else some (-1:Int)))))))
noncomputable def S_l4Letter(k:Nat)(a0:Int):Option (Bool):=
 ((S_l1In k (IntKind.wrap .i64 a0) (97:Int) (122:Int)).bind fun w1=>
 (bif w1 then some true else((S_l1In k (IntKind.wrap .i64 a0) (65:Int) (90:Int)).bind fun w2=>
 (bif w2 then some true else((S_l1In k (IntKind.wrap .i64 a0) (48:Int) (57:Int)).bind fun w3=>
 some w3)))))
noncomputable def S_l12Plain_c75(k:Nat)(x0:List UInt8)(x5:Int)(x6:Int)(x75:Bool)(r4:List Int):Option ((List Int)):=
 (bif x75 then((app 1 r4 ([x6]:List Int)).bind fun u13=>
 some (u13))
 else((shrI .u8 x6 (4:Int)).bind fun q14=>
 ((idx ([48,49,50,51,52,53,54,55,56,57,65,66,67,68,69,70]:List UInt8) q14).bind fun c15=>
 ((idx ([48,49,50,51,52,53,54,55,56,57,65,66,67,68,69,70]:List UInt8) (andI .u8 x6 (15:Int))).bind fun c16=>
 ((app 1 r4 ([(37:Int),(UInt8.toNat c15:Int),(UInt8.toNat c16:Int)]:List Int)).bind fun u17=>
 some (u17))))))
noncomputable def S_l12Plain_b1(k:Nat)(x0:List UInt8)(x5:Int)(r4:List Int):Option (Oc (Int×(List Int)) ((List UInt8)×Bool)):=
 ((idx x0 x5).bind fun c1=>
 (bif((UInt8.toNat c1:Int) !=(37:Int))then((idx x0 x5).bind fun c2=>
 ((app 1 r4 ([(UInt8.toNat c2:Int)]:List Int)).bind fun u3=>
 some (.nrm (x5,u3))))
 else(bif(decide ((IntKind.wrap .i64 (x5+(2:Int)))≥(x0.length:Int)))then some (.oth ((([]:List UInt8),false)))else((idx x0 (IntKind.wrap .i64 (x5+(1:Int)))).bind fun c4=>
 ((S_l12Hex k (UInt8.toNat c4:Int)).bind fun w5=>
 (bif(decide (w5<(0:Int)))then some (.oth ((([]:List UInt8),false)))else((idx x0 (IntKind.wrap .i64 (x5+(2:Int)))).bind fun c6=>
 ((S_l12Hex k (UInt8.toNat c6:Int)).bind fun w7=>
 (bif(decide (w7<(0:Int)))then some (.oth ((([]:List UInt8),false)))
 else((idx x0 (IntKind.wrap .i64 (x5+(1:Int)))).bind fun c8=>
 ((S_l12Hex k (UInt8.toNat c8:Int)).bind fun w9=>
 ((idx x0 (IntKind.wrap .i64 (x5+(2:Int)))).bind fun c10=>
 ((S_l12Hex k (UInt8.toNat c10:Int)).bind fun w11=>
 ((S_l4Letter k (IntKind.wrap .u8 (IntKind.wrap .i64 ((IntKind.wrap .i64 ((16:Int)*w9))+w11)))).bind fun w12=>
 (bif w12 then((S_l12Plain_c75 k x0 x5 (IntKind.wrap .u8 (IntKind.wrap .i64 ((IntKind.wrap .i64 ((16:Int)*w9))+w11))) true r4).bind fun o13=>
 some (.nrm ((IntKind.wrap .i64 (x5+(2:Int))),o13)))else(bif((IntKind.wrap .u8 (IntKind.wrap .i64 ((IntKind.wrap .i64 ((16:Int)*w9))+w11)))==(45:Int))then((S_l12Plain_c75 k x0 x5 (IntKind.wrap .u8 (IntKind.wrap .i64 ((IntKind.wrap .i64 ((16:Int)*w9))+w11))) true r4).bind fun o14=>
 some (.nrm ((IntKind.wrap .i64 (x5+(2:Int))),o14)))else(bif((IntKind.wrap .u8 (IntKind.wrap .i64 ((IntKind.wrap .i64 ((16:Int)*w9))+w11)))==(46:Int))then((S_l12Plain_c75 k x0 x5 (IntKind.wrap .u8 (IntKind.wrap .i64 ((IntKind.wrap .i64 ((16:Int)*w9))+w11))) true r4).bind fun o15=>
 some (.nrm ((IntKind.wrap .i64 (x5+(2:Int))),o15)))else(bif((IntKind.wrap .u8 (IntKind.wrap .i64 ((IntKind.wrap .i64 ((16:Int)*w9))+w11)))==(95:Int))then((S_l12Plain_c75 k x0 x5 (IntKind.wrap .u8 (IntKind.wrap .i64 ((IntKind.wrap .i64 ((16:Int)*w9))+w11))) true r4).bind fun o16=>
 some (.nrm ((IntKind.wrap .i64 (x5+(2:Int))),o16)))else((S_l12Plain_c75 k x0 x5 (IntKind.wrap .u8 (IntKind.wrap .i64 ((IntKind.wrap .i64 ((16:Int)*w9))+w11))) ((IntKind.wrap .u8 (IntKind.wrap .i64 ((IntKind.wrap .i64 ((16:Int)*w9))+w11)))==(126:Int)) r4).bind fun o17=>
 some (.nrm ((IntKind.wrap .i64 (x5+(2:Int))),o17)))))))))))))))))))))
noncomputable def S_l12Plain_b0(k:Nat):Nat→(List UInt8)→Int→(List Int)→Option (Oc ((List Int)) ((List UInt8)×Bool))
 |0,_,_,_=>none
 |n+1,x0,x5,r4=>
  (bif(decide (x5<(x0.length:Int)))then((S_l12Plain_b1 k x0 x5 r4).bind fun o1=>
  oc o1 (fun o2=>S_l12Plain_b0 k n x0 (IntKind.wrap .i64 (o2.1+(1:Int))) o2.2)
  (fun o3=>some (.oth (o3))))
  else some (.nrm r4))
noncomputable def S_l12Plain(k:Nat)(a0:List UInt8):Option ((List UInt8)×Bool):=
 ((S_l12Plain_b0 k k a0 (0:Int) ([]:List Int)).bind fun o4=>
 oc o4 (fun o5=>some ((bytesOf o5),true))
 (fun o6=>some o6))
noncomputable def S_l12Split_c19(k:Nat)(x0:List UInt8)(x1:Int)(x6:Int)(x7:Int)(x19:Bool)(r5:List (List UInt8)):Option (Int×(List (List UInt8))):=
 (bif x19 then((ssub x0 x6 x7).bind fun t2=>
 ((app 16 r5 ([t2]:List (List UInt8))).bind fun u3=>
 some (((IntKind.wrap .i64 (x7+(1:Int))),u3))))
 else some ((x6,r5)))
noncomputable def S_l12Split_b1(k:Nat)(x0:List UInt8)(x1:Int)(x6:Int)(x7:Int)(r5:List (List UInt8)):Option (Int×(List (List UInt8))):=
 ((idx x0 x7).bind fun c1=>
 ((S_l12Split_c19 k x0 x1 x6 x7 ((UInt8.toNat c1:Int)==x1) r5).bind fun o2=>
 some ((o2.1,o2.2))))
noncomputable def S_l12Split_b0(k:Nat):Nat→(List UInt8)→Int→Int→Int→(List (List UInt8))→Option (Int×(List (List UInt8)))
 |0,_,_,_,_,_=>none
 |n+1,x0,x1,x6,x7,r5=>
  (bif(decide (x7<(x0.length:Int)))then((S_l12Split_b1 k x0 x1 x6 x7 r5).bind fun o1=>
  S_l12Split_b0 k n x0 x1 o1.1 (IntKind.wrap .i64 (x7+(1:Int))) o1.2)
  else some ((x6,r5)))
noncomputable def S_l12Split(k:Nat)(a0:List UInt8)(a1:Int):Option ((List (List UInt8))):=
 ((S_l12Split_b0 k k a0 a1 (0:Int) (0:Int) ([]:List (List UInt8))).bind fun o2=>
 ((ssub a0 o2.1 (a0.length:Int)).bind fun t3=>
 ((app 16 o2.2 ([t3]:List (List UInt8))).bind fun u4=>
 some u4)))
noncomputable def S_l12Path_c40(k:Nat)(x5:Int)(x6:Bool)(x40:Bool)(r3:List (List UInt8))(r4:List (List UInt8)):Option (Bool×(List (List UInt8))):=
 (bif x40 then((idx r3 x5).bind fun _=>
 ((idx r3 x5).bind fun e7=>
 ((app 16 r4 ([e7]:List (List UInt8))).bind fun u8=>
 some ((false,u8)))))
 else some ((x6,r4)))
noncomputable def S_l12Path_c24(k:Nat)(x5:Int)(x6:Bool)(x24:Bool)(r3:List (List UInt8))(r4:List (List UInt8)):Option (Bool×(List (List UInt8))):=
 (bif x24 then((ssub r4 (0:Int) (IntKind.wrap .i64 ((r4.length:Int) -(1:Int)))).bind fun t4=>
 some ((x6,t4)))
 else((idx r3 x5).bind fun _=>
 ((idx r3 x5).bind fun e5=>
 (bif(!(e5==([46]:List UInt8)))then((idx r3 x5).bind fun _=>
 ((idx r3 x5).bind fun e6=>
 ((S_l12Path_c40 k x5 x6 (!(e6==([46,46]:List UInt8))) r3 r4).bind fun o7=>
 some ((o7.1,o7.2)))))else((S_l12Path_c40 k x5 x6 false r3 r4).bind fun o8=>
 some ((o8.1,o8.2)))))))
noncomputable def S_l12Path_b2(k:Nat)(x5:Int)(x6:Bool)(r3:List (List UInt8))(r4:List (List UInt8)):Option (Bool×(List (List UInt8))):=
 ((idx r3 x5).bind fun _=>
 ((idx r3 x5).bind fun e3=>
 (bif(e3==([46,46]:List UInt8))then((S_l12Path_c24 k x5 x6 (decide ((r4.length:Int)>(0:Int))) r3 r4).bind fun o4=>
 some ((o4.1,o4.2)))else((S_l12Path_c24 k x5 x6 false r3 r4).bind fun o5=>
 some ((o5.1,o5.2))))))
noncomputable def S_l12Path_c60(k:Nat)(x5:Int)(x60:Bool)(r3:List (List UInt8))(r4:List (List UInt8)):Option ((List (List UInt8))):=
 (bif x60 then((app 16 r4 ([([]:List UInt8)]:List (List UInt8))).bind fun u7=>
 some (u7))
 else some (r4))
noncomputable def S_l12Path_b1(k:Nat)(x5:Int)(r3:List (List UInt8))(r4:List (List UInt8)):Option ((List (List UInt8))):=
 ((S_l12Path_b2 k x5 (x5==(IntKind.wrap .i64 ((r3.length:Int) -(1:Int)))) r3 r4).bind fun o3=>
 ((S_l12Path_c60 k x5 o3.1 r3 o3.2).bind fun o4=>
 some (o4)))
noncomputable def S_l12Path_b0(k:Nat):Nat→Int→(List (List UInt8))→(List (List UInt8))→Option ((List (List UInt8)))
 |0,_,_,_=>none
 |n+1,x5,r3,r4=>
  (bif(decide (x5<(r3.length:Int)))then((S_l12Path_b1 k x5 r3 r4).bind fun o3=>
  S_l12Path_b0 k n (IntKind.wrap .i64 (x5+(1:Int))) r3 o3)
  else some (r4))
noncomputable def S_l12Path_b3(k:Nat):Nat→(List UInt8)→Int→(List (List UInt8))→Option ((List UInt8))
 |0,_,_,_=>none
 |n+1,x7,x8,r4=>
  (bif(decide (x8<(r4.length:Int)))then((cat x7 ([47]:List UInt8)).bind fun t5=>
  ((idx r4 x8).bind fun _=>
  ((idx r4 x8).bind fun e6=>
  ((cat t5 e6).bind fun t7=>
  S_l12Path_b3 k n t7 (IntKind.wrap .i64 (x8+(1:Int))) r4))))
  else some (x7))
noncomputable def S_l12Path(k:Nat)(a0:List UInt8):Option ((List UInt8)):=
 ((ssub a0 (1:Int) (a0.length:Int)).bind fun t1=>
 ((S_l12Split k t1 (47:Int)).bind fun w2=>
 ((S_l12Path_b0 k k (0:Int) w2 ([]:List (List UInt8))).bind fun o4=>
 ((S_l12Path_b3 k k ([]:List UInt8) (0:Int) o4).bind fun o8=>
 some o8))))
noncomputable def S_l12Query_b2(k:Nat):Nat→Int→Int→(List (List UInt8))→(List (List UInt8))→Option (Int)
 |0,_,_,_,_=>none
 |n+1,x5,x6,r3,r4=>
  (bif(decide (x6>(0:Int)))then((idx r3 x5).bind fun _=>
  ((idx r3 x5).bind fun e2=>
  ((idx r4 (IntKind.wrap .i64 (x6 -(1:Int)))).bind fun _=>
  ((idx r4 (IntKind.wrap .i64 (x6 -(1:Int)))).bind fun e3=>
  (bif(Op.bytesLess e2 e3)then S_l12Query_b2 k n x5 (IntKind.wrap .i64 (x6 -(1:Int))) r3 r4
  else some (x6))))))else some (x6))
noncomputable def S_l12Query_c40(k:Nat)(x5:Int)(x6:Int)(x40:Bool)(r3:List (List UInt8))(r4:List (List UInt8)):Option ((List (List UInt8))):=
 (bif x40 then((ssub r4 (0:Int) x6).bind fun t6=>
 ((app 16 ([]:List (List UInt8)) t6).bind fun u7=>
 ((idx r3 x5).bind fun _=>
 ((idx r3 x5).bind fun e8=>
 ((app 16 u7 ([e8]:List (List UInt8))).bind fun u9=>
 ((ssub r4 x6 (r4.length:Int)).bind fun t10=>
 ((app 16 u9 t10).bind fun u11=>
 some (u11))))))))
 else some (r4))
noncomputable def S_l12Query_b1(k:Nat)(x5:Int)(r3:List (List UInt8))(r4:List (List UInt8)):Option ((List (List UInt8))):=
 ((S_l12Query_b2 k k x5 (r4.length:Int) r3 r4).bind fun o2=>
 ((idx r3 x5).bind fun _=>
 ((idx r3 x5).bind fun e3=>
 ((S_l12Query_c40 k x5 o2 (!(e3==([]:List UInt8))) r3 r4).bind fun o4=>
 some (o4)))))
noncomputable def S_l12Query_b0(k:Nat):Nat→Int→(List (List UInt8))→(List (List UInt8))→Option ((List (List UInt8)))
 |0,_,_,_=>none
 |n+1,x5,r3,r4=>
  (bif(decide (x5<(r3.length:Int)))then((S_l12Query_b1 k x5 r3 r4).bind fun o2=>
  S_l12Query_b0 k n (IntKind.wrap .i64 (x5+(1:Int))) r3 o2)
  else some (r4))
noncomputable def S_l12Query_c63(k:Nat)(x7:List UInt8)(x8:Int)(x63:Bool)(r4:List (List UInt8)):Option ((List UInt8)):=
 (bif x63 then((cat x7 ([38]:List UInt8)).bind fun t4=>
 some (t4))
 else some (x7))
noncomputable def S_l12Query_b5(k:Nat)(x7:List UInt8)(x8:Int)(r4:List (List UInt8)):Option ((List UInt8)):=
 ((S_l12Query_c63 k x7 x8 (decide (x8>(0:Int))) r4).bind fun o4=>
 ((idx r4 x8).bind fun _=>
 ((idx r4 x8).bind fun e5=>
 ((cat o4 e5).bind fun t6=>
 some (t6)))))
noncomputable def S_l12Query_b4(k:Nat):Nat→(List UInt8)→Int→(List (List UInt8))→Option ((List UInt8))
 |0,_,_,_=>none
 |n+1,x7,x8,r4=>
  (bif(decide (x8<(r4.length:Int)))then((S_l12Query_b5 k x7 x8 r4).bind fun o4=>
  S_l12Query_b4 k n o4 (IntKind.wrap .i64 (x8+(1:Int))) r4)
  else some (x7))
noncomputable def S_l12Query(k:Nat)(a0:List UInt8):Option ((List UInt8)):=
 ((S_l12Split k a0 (38:Int)).bind fun w1=>
 ((S_l12Query_b0 k k (0:Int) w1 ([]:List (List UInt8))).bind fun o3=>
 ((S_l12Query_b4 k k ([]:List UInt8) (0:Int) o3).bind fun o5=>
 some o5)))
noncomputable def S_NormalTarget_c50(k:Nat)(x11:List UInt8)(x12:List UInt8)(x50:Bool):Option ((List UInt8)):=
 (bif x50 then((cat x11 ([63]:List UInt8)).bind fun t7=>
 ((cat t7 x12).bind fun t8=>
 some (t8)))
 else some (x11))
noncomputable def S_NormalTarget(k:Nat)(a0:List UInt8):Option ((List UInt8)×Bool):=
 ((S_SplitTarget k a0).bind fun w1=>
 ((S_l12Plain k w1.1).bind fun w2=>
 ((S_l12Plain k w1.2.1).bind fun w3=>
 (bif(!w2.2)then some (([]:List UInt8),false)else(bif(!w3.2)then some (([]:List UInt8),false)else(bif((w2.1.length:Int)==(0:Int))then some (([]:List UInt8),false)else((idx w2.1 (0:Int)).bind fun c4=>
 (bif((UInt8.toNat c4:Int) !=(47:Int))then some (([]:List UInt8),false)
 else((S_l12Path k w2.1).bind fun w5=>
 ((S_l12Query k w3.1).bind fun w6=>
 ((S_NormalTarget_c50 k w5 w6 (!(w6==([]:List UInt8)))).bind fun o9=>
 some (o9,true))))))))))))
noncomputable def S_l4Token_b0(k:Nat):Nat→Int→Int→Option (Oc (Unit) (Bool))
 |0,_,_=>none
 |n+1,x0,x3=>
  (bif(decide (x3<(15:Int)))then((idx ([33,35,36,37,38,39,42,43,45,46,94,95,124,126,96]:List UInt8) x3).bind fun c1=>
  (bif(x0==(UInt8.toNat c1:Int))then some (.oth (true))
  else S_l4Token_b0 k n x0 (IntKind.wrap .i64 (x3+(1:Int)))))
  else some (.nrm ()))
noncomputable def S_l4Token(k:Nat)(a0:Int):Option (Bool):=
 ((S_l4Token_b0 k k a0 (0:Int)).bind fun o2=>
 oc o2 (fun o3=>((S_l4Letter k a0).bind fun w5=>
 some w5))
 (fun o4=>some o4))
noncomputable def S_IsToken_b0(k:Nat):Nat→(List UInt8)→Int→Option (Oc (Unit) (Bool))
 |0,_,_=>none
 |n+1,x0,x3=>
  (bif(decide (x3<(x0.length:Int)))then((idx x0 x3).bind fun c1=>
  ((S_l4Token k (UInt8.toNat c1:Int)).bind fun w2=>
  (bif(!w2)then some (.oth (false))
  else S_IsToken_b0 k n x0 (IntKind.wrap .i64 (x3+(1:Int))))))
  else some (.nrm ()))
noncomputable def S_IsToken(k:Nat)(a0:List UInt8):Option (Bool):=
 ((S_IsToken_b0 k k a0 (0:Int)).bind fun o3=>
 oc o3 (fun o4=>((S_l1In k (a0.length:Int) (1:Int) (40:Int)).bind fun w6=>
 some w6))
 (fun o5=>some o5))
noncomputable def S_LowerText_c18(k:Nat)(x4:Int)(x18:Bool)(r3:List Int):Option ((List Int)):=
 (bif x18 then((idx r3 x4).bind fun _=>
 ((idx r3 x4).bind fun e3=>
 ((idx r3 x4).bind fun _=>
 ((idx r3 x4).bind fun e4=>
 some (((r3).set (x4).toNat (IntKind.wrap .u8 (e3+(32:Int)))))))))
 else some (r3))
noncomputable def S_LowerText_b1(k:Nat)(x4:Int)(r3:List Int):Option ((List Int)):=
 ((idx r3 x4).bind fun _=>
 ((idx r3 x4).bind fun e1=>
 ((S_l1In k (IntKind.wrap .i64 e1) (65:Int) (90:Int)).bind fun w2=>
 ((S_LowerText_c18 k x4 w2 r3).bind fun o3=>
 some (o3)))))
noncomputable def S_LowerText_b0(k:Nat):Nat→Int→(List Int)→Option ((List Int))
 |0,_,_=>none
 |n+1,x4,r3=>
  (bif(decide (x4<(r3.length:Int)))then((S_LowerText_b1 k x4 r3).bind fun o1=>
  S_LowerText_b0 k n (IntKind.wrap .i64 (x4+(1:Int))) o1)
  else some (r3))
noncomputable def S_LowerText(k:Nat)(a0:List UInt8):Option ((List UInt8)):=
 ((S_LowerText_b0 k k (0:Int) (intsOf a0)).bind fun o2=>
 some (bytesOf o2))
noncomputable def S_l5Name(k:Nat)(a0:List UInt8):Option (Bool):=
 ((S_IsToken k a0).bind fun w1=>
 (bif w1 then((S_LowerText k a0).bind fun w2=>
 some (w2==a0))else some false))
noncomputable def S_IsNormalTarget(k:Nat)(a0:List UInt8):Option (Bool):=
 ((S_NormalTarget k a0).bind fun w1=>
 (bif w1.2 then some (w1.1==a0)else some false))
noncomputable def S_l4Blank(k:Nat)(a0:Int):Option (Bool):=
 (bif(a0==(32:Int))then some true else some (a0==(9:Int)))
noncomputable def S_TrimText_b0(k:Nat):Nat→(List UInt8)→Option ((List UInt8))
 |0,_=>none
 |n+1,x0=>
  (bif(decide ((x0.length:Int)>(0:Int)))then((idx x0 (0:Int)).bind fun c1=>
  ((S_l4Blank k (UInt8.toNat c1:Int)).bind fun w2=>
  (bif w2 then((ssub x0 (1:Int) (x0.length:Int)).bind fun t3=>
  S_TrimText_b0 k n t3)
  else some (x0))))else some (x0))
noncomputable def S_TrimText_b2(k:Nat):Nat→(List UInt8)→Option ((List UInt8))
 |0,_=>none
 |n+1,x0=>
  (bif(decide ((x0.length:Int)>(0:Int)))then((idx x0 (IntKind.wrap .i64 ((x0.length:Int) -(1:Int)))).bind fun c5=>
  ((S_l4Blank k (UInt8.toNat c5:Int)).bind fun w6=>
  (bif w6 then((ssub x0 (0:Int) (IntKind.wrap .i64 ((x0.length:Int) -(1:Int)))).bind fun t7=>
  S_TrimText_b2 k n t7)
  else some (x0))))else some (x0))
noncomputable def S_TrimText(k:Nat)(a0:List UInt8):Option ((List UInt8)):=
 ((S_TrimText_b0 k k a0).bind fun o4=>
 ((S_TrimText_b2 k k o4).bind fun o8=>
 some o8))
noncomputable def S_l5Value_b0(k:Nat):Nat→(List UInt8)→Int→Option (Oc (Unit) (Bool))
 |0,_,_=>none
 |n+1,x0,x3=>
  (bif(decide (x3<(x0.length:Int)))then((idx x0 x3).bind fun c1=>
  ((S_l1In k (IntKind.wrap .i64 (UInt8.toNat c1:Int)) (32:Int) (126:Int)).bind fun w2=>
  (bif(!w2)then((idx x0 x3).bind fun c3=>
  (bif((UInt8.toNat c3:Int) !=(9:Int))then some (.oth (false))
  else S_l5Value_b0 k n x0 (IntKind.wrap .i64 (x3+(1:Int)))))else S_l5Value_b0 k n x0 (IntKind.wrap .i64 (x3+(1:Int))))))
  else some (.nrm ()))
noncomputable def S_l5Value(k:Nat)(a0:List UInt8):Option (Bool):=
 ((S_l5Value_b0 k k a0 (0:Int)).bind fun o4=>
 oc o4 (fun o5=>(bif(decide ((a0.length:Int)≤(200:Int)))then((S_TrimText k a0).bind fun w7=>
 some (w7==a0))else some false))
 (fun o6=>some o6))
noncomputable def S_l15Keys_b0(k:Nat):Nat→Int→(List (List UInt8))→Option (Oc (Unit) (Bool))
 |0,_,_=>none
 |n+1,x4,r3=>
  (bif(decide (x4<(r3.length:Int)))then((idx r3 x4).bind fun _=>
  ((idx r3 x4).bind fun e2=>
  ((S_IsToken k e2).bind fun w3=>
  (bif(!w3)then some (.oth (false))
  else S_l15Keys_b0 k n (IntKind.wrap .i64 (x4+(1:Int))) r3))))
  else some (.nrm ()))
noncomputable def S_l15Keys(k:Nat)(a0:List UInt8):Option (Bool):=
 (bif(a0==([]:List UInt8))then some true
 else((S_l12Split k a0 (32:Int)).bind fun w1=>
 ((S_l15Keys_b0 k k (0:Int) w1).bind fun o4=>
 oc o4 (fun o5=>some (decide ((w1.length:Int)≤(4:Int))))
 (fun o6=>some o6))))
noncomputable def S_l15Resource_b2(k:Nat):Nat→Int→Int→(List UInt8)→(List UInt8)→(List UInt8)→Bool→(List (List UInt8))→(List IVersion)→Option (Oc (Unit) (Bool))
 |0,_,_,_,_,_,_,_,_=>none
 |n+1,x3,x4,y1_0,y1_1,y1_2,y1_3,y1_4,y1_5=>
  (bif(decide (x4<x3))then((idx y1_4 x4).bind fun e1=>
  ((idx y1_4 x3).bind fun e2=>
  (bif(e1==e2)then some (.oth (false))
  else S_l15Resource_b2 k n x3 (IntKind.wrap .i64 (x4+(1:Int))) y1_0 y1_1 y1_2 y1_3 y1_4 y1_5)))
  else some (.nrm ()))
noncomputable def S_l15Resource_b0(k:Nat):Nat→Int→(List UInt8)→(List UInt8)→(List UInt8)→Bool→(List (List UInt8))→(List IVersion)→Option (Oc (Unit) (Bool))
 |0,_,_,_,_,_,_,_=>none
 |n+1,x3,y1_0,y1_1,y1_2,y1_3,y1_4,y1_5=>
  (bif(decide (x3<(y1_4.length:Int)))then((S_l15Resource_b2 k k x3 (0:Int) y1_0 y1_1 y1_2 y1_3 y1_4 y1_5).bind fun o1=>
  oc o1 (fun o2=>((idx y1_4 x3).bind fun e4=>
  ((S_l5Name k e4).bind fun w5=>
  (bif(!w5)then some (.oth (false))else((idx y1_4 x3).bind fun e6=>
  (bif(decide ((e6.length:Int)>(8:Int)))then some (.oth (false))else((idx y1_4 x3).bind fun e7=>
  (bif(e7==([42]:List UInt8))then some (.oth (false))
  else S_l15Resource_b0 k n (IntKind.wrap .i64 (x3+(1:Int))) y1_0 y1_1 y1_2 y1_3 y1_4 y1_5))))))))
  (fun o3=>some (.oth (o3))))
  else some (.nrm ()))
noncomputable def S_l15Resource_b4(k:Nat):Nat→Int→(List UInt8)→(List UInt8)→(List UInt8)→Bool→(List (List UInt8))→(List IVersion)→Option (Oc (Unit) (Bool))
 |0,_,_,_,_,_,_,_=>none
 |n+1,x5,y1_0,y1_1,y1_2,y1_3,y1_4,y1_5=>
  (bif(decide (x5<(y1_5.length:Int)))then((idx y1_5 x5).bind fun e11=>
  ((S_l1In k e11.At (0:Int) (4102444799:Int)).bind fun w12=>
  (bif(!w12)then some (.oth (false))else(bif(decide ((e11.Text.length:Int)>(400:Int)))then some (.oth (false))else(bif(decide (x5>(0:Int)))then((idx y1_5 (IntKind.wrap .i64 (x5 -(1:Int)))).bind fun e13=>
  (bif(decide (e13.At≥e11.At))then some (.oth (false))
  else S_l15Resource_b4 k n (IntKind.wrap .i64 (x5+(1:Int))) y1_0 y1_1 y1_2 y1_3 y1_4 y1_5))else S_l15Resource_b4 k n (IntKind.wrap .i64 (x5+(1:Int))) y1_0 y1_1 y1_2 y1_3 y1_4 y1_5)))))
  else some (.nrm ()))
noncomputable def S_l15Resource(k:Nat)(a0:IResource):Option (Bool):=
 ((S_l15Resource_b0 k k (0:Int) a0.Target a0.Control a0.Keys a0.Private a0.Langs a0.Versions).bind fun o8=>
 oc o8 (fun o9=>((S_l15Resource_b4 k k (0:Int) a0.Target a0.Control a0.Keys a0.Private a0.Langs a0.Versions).bind fun o14=>
 oc o14 (fun o15=>((S_IsNormalTarget k a0.Target).bind fun w17=>
 (bif w17 then(bif(decide ((a0.Target.length:Int)≤(100:Int)))then((S_l5Value k a0.Control).bind fun w18=>
 (bif w18 then(bif(decide ((a0.Control.length:Int)≤(150:Int)))then((S_l15Keys k a0.Keys).bind fun w19=>
 (bif w19 then(bif(decide ((a0.Langs.length:Int)≤(4:Int)))then((S_l1In k (a0.Versions.length:Int) (1:Int) (8:Int)).bind fun w20=>
 some w20)else some false)else some false))else some false)else some false))else some false)else some false)))
 (fun o16=>some o16)))
 (fun o10=>some o10))
noncomputable def S_FindResource_b0(k:Nat):Nat→(List UInt8)→Int→(List UInt8)→(List IResource)→Option (Oc (Unit) (Int))
 |0,_,_,_,_=>none
 |n+1,x1,x5,y2_0,y2_1=>
  (bif(decide (x5<(y2_1.length:Int)))then((idx y2_1 x5).bind fun e1=>
  (bif(e1.Target==x1)then some (.oth (x5))
  else S_FindResource_b0 k n x1 (IntKind.wrap .i64 (x5+(1:Int))) y2_0 y2_1))
  else some (.nrm ()))
noncomputable def S_FindResource(k:Nat)(a0:IOrigin)(a1:List UInt8):Option (Int):=
 ((S_FindResource_b0 k k a1 (0:Int) a0.Host a0.Resources).bind fun o2=>
 oc o2 (fun o3=>some (-1:Int))
 (fun o4=>some o4))
noncomputable def S_JoinList_c12(k:Nat)(x0:List (List UInt8))(x3:List UInt8)(x4:Int)(x12:Bool):Option ((List UInt8)):=
 (bif x12 then((cat x3 ([44,32]:List UInt8)).bind fun t1=>
 some (t1))
 else some (x3))
noncomputable def S_JoinList_b1(k:Nat)(x0:List (List UInt8))(x3:List UInt8)(x4:Int):Option ((List UInt8)):=
 ((S_JoinList_c12 k x0 x3 x4 (decide (x4>(0:Int)))).bind fun o1=>
 ((idx x0 x4).bind fun e2=>
 ((cat o1 e2).bind fun t3=>
 some (t3))))
noncomputable def S_JoinList_b0(k:Nat):Nat→(List (List UInt8))→(List UInt8)→Int→Option ((List UInt8))
 |0,_,_,_=>none
 |n+1,x0,x3,x4=>
  (bif(decide (x4<(x0.length:Int)))then((S_JoinList_b1 k x0 x3 x4).bind fun o1=>
  S_JoinList_b0 k n x0 o1 (IntKind.wrap .i64 (x4+(1:Int))))
  else some (x3))
noncomputable def S_JoinList(k:Nat)(a0:List (List UInt8)):Option ((List UInt8)):=
 ((S_JoinList_b0 k k a0 ([]:List UInt8) (0:Int)).bind fun o2=>
 some o2)
noncomputable def S_GetField_c21(k:Nat)(x0:List IField)(x1:List UInt8)(x7:Int)(x21:Bool)(r6:List (List UInt8)):Option ((List (List UInt8))):=
 (bif x21 then((idx x0 x7).bind fun e2=>
 ((app 16 r6 ([e2.Value]:List (List UInt8))).bind fun u3=>
 some (u3)))
 else some (r6))
noncomputable def S_GetField_b1(k:Nat)(x0:List IField)(x1:List UInt8)(x7:Int)(r6:List (List UInt8)):Option ((List (List UInt8))):=
 ((idx x0 x7).bind fun e1=>
 ((S_GetField_c21 k x0 x1 x7 (e1.Name==x1) r6).bind fun o2=>
 some (o2)))
noncomputable def S_GetField_b0(k:Nat):Nat→(List IField)→(List UInt8)→Int→(List (List UInt8))→Option ((List (List UInt8)))
 |0,_,_,_,_=>none
 |n+1,x0,x1,x7,r6=>
  (bif(decide (x7<(x0.length:Int)))then((S_GetField_b1 k x0 x1 x7 r6).bind fun o1=>
  S_GetField_b0 k n x0 x1 (IntKind.wrap .i64 (x7+(1:Int))) o1)
  else some (r6))
noncomputable def S_GetField(k:Nat)(a0:List IField)(a1:List UInt8):Option ((List UInt8)×Bool):=
 ((S_GetField_b0 k k a0 a1 (0:Int) ([]:List (List UInt8))).bind fun o2=>
 ((S_JoinList k o2).bind fun w3=>
 some (w3,(decide ((o2.length:Int)>(0:Int))))))
noncomputable def S_AreFields_b0(k:Nat):Nat→(List IField)→Int→Option (Oc (Unit) (Bool))
 |0,_,_=>none
 |n+1,x0,x3=>
  (bif(decide (x3<(x0.length:Int)))then((idx x0 x3).bind fun e1=>
  ((S_l5Name k e1.Name).bind fun w2=>
  (bif(!w2)then some (.oth (false))else((idx x0 x3).bind fun e3=>
  ((S_l5Value k e3.Value).bind fun w4=>
  (bif(!w4)then some (.oth (false))
  else S_AreFields_b0 k n x0 (IntKind.wrap .i64 (x3+(1:Int)))))))))
  else some (.nrm ()))
noncomputable def S_AreFields(k:Nat)(a0:List IField):Option (Bool):=
 ((S_AreFields_b0 k k a0 (0:Int)).bind fun o5=>
 oc o5 (fun o6=>some (decide ((a0.length:Int)≤(24:Int))))
 (fun o7=>some o7))
noncomputable def S_l11Fields(k:Nat)(a0:List IField):Option (Bool):=
 ((S_GetField k a0 ([99,111,110,116,101,110,116,45,108,101,110,103,116,104]:List UInt8)).bind fun w1=>
 ((S_AreFields k a0).bind fun w2=>
 (bif w2 then(bif(decide ((a0.length:Int)<(24:Int)))then some (!w1.2)else some false)else some false)))
noncomputable def S_IsRequest_b0(k:Nat):Nat→Int→(List UInt8)→(List UInt8)→(List UInt8)→(List IField)→Option (Oc (Unit) (Bool))
 |0,_,_,_,_,_=>none
 |n+1,x3,y1_0,y1_1,y1_2,y1_3=>
  (bif(decide (x3<(y1_0.length:Int)))then((idx y1_0 x3).bind fun c1=>
  ((S_l1In k (IntKind.wrap .i64 (UInt8.toNat c1:Int)) (97:Int) (122:Int)).bind fun w2=>
  (bif w2 then some (.oth (false))
  else S_IsRequest_b0 k n (IntKind.wrap .i64 (x3+(1:Int))) y1_0 y1_1 y1_2 y1_3)))
  else some (.nrm ()))
noncomputable def S_IsRequest_b2(k:Nat):Nat→Int→(List UInt8)→(List UInt8)→(List UInt8)→(List IField)→Option (Oc (Unit) (Bool))
 |0,_,_,_,_,_=>none
 |n+1,x4,y1_0,y1_1,y1_2,y1_3=>
  (bif(decide (x4<(y1_1.length:Int)))then((idx y1_1 x4).bind fun c6=>
  ((S_l1In k (IntKind.wrap .i64 (UInt8.toNat c6:Int)) (97:Int) (122:Int)).bind fun w7=>
  (bif(!w7)then((S_l1In k (IntKind.wrap .i64 (UInt8.toNat c6:Int)) (48:Int) (57:Int)).bind fun w8=>
  (bif(!w8)then(bif((UInt8.toNat c6:Int) !=(45:Int))then(bif((UInt8.toNat c6:Int) !=(46:Int))then some (.oth (false))
  else S_IsRequest_b2 k n (IntKind.wrap .i64 (x4+(1:Int))) y1_0 y1_1 y1_2 y1_3)else S_IsRequest_b2 k n (IntKind.wrap .i64 (x4+(1:Int))) y1_0 y1_1 y1_2 y1_3)else S_IsRequest_b2 k n (IntKind.wrap .i64 (x4+(1:Int))) y1_0 y1_1 y1_2 y1_3))else S_IsRequest_b2 k n (IntKind.wrap .i64 (x4+(1:Int))) y1_0 y1_1 y1_2 y1_3)))
  else some (.nrm ()))
noncomputable def S_IsRequest_b4(k:Nat):Nat→Int→(List UInt8)→(List UInt8)→(List UInt8)→(List IField)→Option (Oc (Unit) (Bool))
 |0,_,_,_,_,_=>none
 |n+1,x6,y1_0,y1_1,y1_2,y1_3=>
  (bif(decide (x6<(y1_2.length:Int)))then((idx y1_2 x6).bind fun c12=>
  ((S_l1In k (IntKind.wrap .i64 (UInt8.toNat c12:Int)) (33:Int) (126:Int)).bind fun w13=>
  (bif(!w13)then some (.oth (false))
  else S_IsRequest_b4 k n (IntKind.wrap .i64 (x6+(1:Int))) y1_0 y1_1 y1_2 y1_3)))
  else some (.nrm ()))
noncomputable def S_IsRequest(k:Nat)(a0:IRequest):Option (Bool):=
 ((S_IsRequest_b0 k k (0:Int) a0.Method a0.Host a0.Target a0.Fields).bind fun o3=>
 oc o3 (fun o4=>((S_IsRequest_b2 k k (0:Int) a0.Method a0.Host a0.Target a0.Fields).bind fun o9=>
 oc o9 (fun o10=>((S_IsRequest_b4 k k (0:Int) a0.Method a0.Host a0.Target a0.Fields).bind fun o14=>
 oc o14 (fun o15=>((S_GetField k a0.Fields ([104,111,115,116]:List UInt8)).bind fun w17=>
 ((S_IsToken k a0.Method).bind fun w18=>
 (bif w18 then((S_l1In k (a0.Host.length:Int) (1:Int) (40:Int)).bind fun w19=>
 (bif w19 then((S_l1In k (a0.Target.length:Int) (1:Int) (100:Int)).bind fun w20=>
 (bif w20 then((idx a0.Target (0:Int)).bind fun c21=>
 (bif((UInt8.toNat c21:Int)==(47:Int))then((S_l11Fields k a0.Fields).bind fun w22=>
 (bif w22 then some (!w17.2)else some false))else some false))else some false))else some false))else some false))))
 (fun o16=>some o16)))
 (fun o11=>some o11)))
 (fun o5=>some o5))
noncomputable def S_IsOrigin_b0(k:Nat):Nat→Int→(List UInt8)→(List IResource)→Option (Oc (Unit) (Bool))
 |0,_,_,_=>none
 |n+1,x3,y1_0,y1_1=>
  (bif(decide (x3<(y1_1.length:Int)))then((idx y1_1 x3).bind fun e1=>
  ((S_l15Resource k e1).bind fun w2=>
  (bif(!w2)then some (.oth (false))else((idx y1_1 x3).bind fun e3=>
  ((S_FindResource k (⟨y1_0,y1_1⟩:IOrigin) e3.Target).bind fun w4=>
  (bif(w4 !=x3)then some (.oth (false))
  else S_IsOrigin_b0 k n (IntKind.wrap .i64 (x3+(1:Int))) y1_0 y1_1))))))
  else some (.nrm ()))
noncomputable def S_IsOrigin(k:Nat)(a0:IOrigin):Option (Bool):=
 ((S_IsOrigin_b0 k k (0:Int) a0.Host a0.Resources).bind fun o5=>
 oc o5 (fun o6=>(bif(decide ((a0.Resources.length:Int)≤(12:Int)))then((S_IsRequest k (⟨([71,69,84]:List UInt8),a0.Host,([47]:List UInt8),[]⟩:IRequest)).bind fun w8=>
 some w8)else some false))
 (fun o7=>some o7))
noncomputable def S_Mod(k:Nat)(a0:Int)(a1:Int):Option (Int):=
 ((S_l1In k a1 (1:Int) (1000000000000:Int)).bind fun w1=>
 (bif(!w1)then some (0:Int)
 else((md a0 a1).bind fun q2=>
 ((md (IntKind.wrap .i64 (q2+a1)) a1).bind fun q3=>
 some q3))))
noncomputable def S_IsLeap(k:Nat)(a0:Int):Option (Bool):=
 ((S_Mod k a0 (4:Int)).bind fun w1=>
 (bif(w1==(0:Int))then((S_Mod k a0 (100:Int)).bind fun w2=>
 (bif(w2 !=(0:Int))then some true else((S_Mod k a0 (400:Int)).bind fun w3=>
 some (w3==(0:Int)))))else some false))
noncomputable def S_l3Long(k:Nat)(a0:Int)(a1:Int):Option (Int):=
 (bif(a1==(2:Int))then((S_IsLeap k a0).bind fun w1=>
 (bif w1 then some (29:Int)
 else((idx ([(31:Int),(28:Int),(31:Int),(30:Int),(31:Int),(30:Int),(31:Int),(31:Int),(30:Int),(31:Int),(30:Int),(31:Int)]:List Int) (IntKind.wrap .i64 (a1 -(1:Int)))).bind fun _=>
 ((idx ([(31:Int),(28:Int),(31:Int),(30:Int),(31:Int),(30:Int),(31:Int),(31:Int),(30:Int),(31:Int),(30:Int),(31:Int)]:List Int) (IntKind.wrap .i64 (a1 -(1:Int)))).bind fun e2=>
 some e2))))else((idx ([(31:Int),(28:Int),(31:Int),(30:Int),(31:Int),(30:Int),(31:Int),(31:Int),(30:Int),(31:Int),(30:Int),(31:Int)]:List Int) (IntKind.wrap .i64 (a1 -(1:Int)))).bind fun _=>
 ((idx ([(31:Int),(28:Int),(31:Int),(30:Int),(31:Int),(30:Int),(31:Int),(31:Int),(30:Int),(31:Int),(30:Int),(31:Int)]:List Int) (IntKind.wrap .i64 (a1 -(1:Int)))).bind fun e3=>
 some e3)))
noncomputable def S_CivilOf_c12(k:Nat)(x0:Int)(x5:Int)(x6:Int)(x12:Bool):Option (Int):=
 (bif x12 then some ((366:Int))
 else some (x6))
noncomputable def S_CivilOf_b1(k:Nat)(x0:Int)(x5:Int):Option (Oc (Int×Int) (Unit)):=
 ((S_IsLeap k x5).bind fun w2=>
 ((S_CivilOf_c12 k x0 x5 (365:Int) w2).bind fun o3=>
 (bif(decide (x0<o3))then some (.oth (()))
 else some (.nrm ((IntKind.wrap .i64 (x0 -o3)),(IntKind.wrap .i64 (x5+(1:Int))))))))
noncomputable def S_CivilOf_b0(k:Nat):Nat→Int→Int→Option (Int×Int)
 |0,_,_=>none
 |n+1,x0,x5=>
  ((S_CivilOf_b1 k x0 x5).bind fun o2=>
  oc o2 (fun o3=>S_CivilOf_b0 k n o3.1 o3.2)
  (fun o4=>some ((x0,x5))))
noncomputable def S_CivilOf_b2(k:Nat):Nat→Int→Int→Int→Option (Int×Int)
 |0,_,_,_=>none
 |n+1,x0,x5,x7=>
  ((S_l3Long k x5 x7).bind fun w6=>
  (bif(decide (x0≥w6))then((S_l3Long k x5 x7).bind fun w7=>
  S_CivilOf_b2 k n (IntKind.wrap .i64 (x0 -w7)) x5 (IntKind.wrap .i64 (x7+(1:Int))))
  else some ((x0,x7))))
noncomputable def S_CivilOf(k:Nat)(a0:Int):Option (Int×Int×Int):=
 ((S_l1In k a0 (0:Int) (47481:Int)).bind fun w1=>
 (bif(!w1)then some ((0:Int),(0:Int),(0:Int))
 else((S_CivilOf_b0 k k a0 (1970:Int)).bind fun o5=>
 ((S_CivilOf_b2 k k o5.1 o5.2 (1:Int)).bind fun o8=>
 some (o5.2,o8.2,(IntKind.wrap .i64 (o8.1+(1:Int))))))))
noncomputable def S_l3Days(k:Nat):Option ((List (List UInt8))):=
 some ([([83,117,110,100,97,121]:List UInt8),([77,111,110,100,97,121]:List UInt8),([84,117,101,115,100,97,121]:List UInt8),([87,101,100,110,101,115,100,97,121]:List UInt8),([84,104,117,114,115,100,97,121]:List UInt8),([70,114,105,100,97,121]:List UInt8),([83,97,116,117,114,100,97,121]:List UInt8)]:List (List UInt8))
noncomputable def S_WeekdayOf(k:Nat)(a0:Int):Option (Int):=
 ((S_Mod k a0 (7:Int)).bind fun w1=>
 ((S_Mod k (IntKind.wrap .i64 (w1+(4:Int))) (7:Int)).bind fun w2=>
 some w2))
noncomputable def S_l3Months(k:Nat):Option ((List (List UInt8))):=
 some ([([74,97,110]:List UInt8),([70,101,98]:List UInt8),([77,97,114]:List UInt8),([65,112,114]:List UInt8),([77,97,121]:List UInt8),([74,117,110]:List UInt8),([74,117,108]:List UInt8),([65,117,103]:List UInt8),([83,101,112]:List UInt8),([79,99,116]:List UInt8),([78,111,118]:List UInt8),([68,101,99]:List UInt8)]:List (List UInt8))
noncomputable def S_Max(k:Nat)(a0:Int)(a1:Int):Option (Int):=
 (bif(decide (a1>a0))then some a1
 else some a0)
noncomputable def S_FormatInt_c16(k:Nat)(x0:Int)(x3:List UInt8)(x4:Int)(x5:Int)(x16:Bool):Option (Int):=
 (bif x16 then some ((IntKind.wrap .i64 (0 -x5)))
 else some (x5))
noncomputable def S_FormatInt_b1(k:Nat)(x0:Int)(x3:List UInt8)(x4:Int):Option ((List UInt8)):=
 ((md x4 (10:Int)).bind fun q1=>
 ((S_FormatInt_c16 k x0 x3 x4 q1 (decide (q1<(0:Int)))).bind fun o2=>
 ((cat (bytesOf ([(IntKind.wrap .u8 (IntKind.wrap .i64 ((48:Int)+o2)))]:List Int)) x3).bind fun t3=>
 some (t3))))
noncomputable def S_FormatInt_b0(k:Nat):Nat→Int→(List UInt8)→Int→Option ((List UInt8))
 |0,_,_,_=>none
 |n+1,x0,x3,x4=>
  (bif(x4 !=(0:Int))then((S_FormatInt_b1 k x0 x3 x4).bind fun o1=>
  ((dv x4 (10:Int)).bind fun q2=>
  S_FormatInt_b0 k n x0 o1 (IntKind.wrap .i64 q2)))
  else some (x3))
noncomputable def S_FormatInt(k:Nat)(a0:Int):Option ((List UInt8)):=
 (bif(a0==(0:Int))then some ([48]:List UInt8)
 else((S_FormatInt_b0 k k a0 ([]:List UInt8) a0).bind fun o3=>
 (bif(decide (a0<(0:Int)))then((cat ([45]:List UInt8) o3).bind fun t4=>
 some t4)
 else some o3)))
noncomputable def S_Digits_b0(k:Nat):Nat→Int→(List UInt8)→Option ((List UInt8))
 |0,_,_=>none
 |n+1,x1,x5=>
  (bif(decide ((x5.length:Int)<x1))then(bif(decide ((x5.length:Int)<(20:Int)))then((cat ([48]:List UInt8) x5).bind fun t3=>
  S_Digits_b0 k n x1 t3)
  else some (x5))else some (x5))
noncomputable def S_Digits(k:Nat)(a0:Int)(a1:Int):Option ((List UInt8)):=
 ((S_Max k (0:Int) a0).bind fun w1=>
 ((S_FormatInt k w1).bind fun w2=>
 ((S_Digits_b0 k k a1 w2).bind fun o4=>
 some o4)))
noncomputable def S_l3Clock(k:Nat)(a0:Int):Option ((List UInt8)):=
 ((md a0 (86400:Int)).bind fun q1=>
 ((dv q1 (3600:Int)).bind fun q2=>
 ((S_Digits k (IntKind.wrap .i64 q2) (2:Int)).bind fun w3=>
 ((cat w3 ([58]:List UInt8)).bind fun t4=>
 ((dv q1 (60:Int)).bind fun q5=>
 ((md (IntKind.wrap .i64 q5) (60:Int)).bind fun q6=>
 ((S_Digits k q6 (2:Int)).bind fun w7=>
 ((cat t4 w7).bind fun t8=>
 ((cat t8 ([58]:List UInt8)).bind fun t9=>
 ((md q1 (60:Int)).bind fun q10=>
 ((S_Digits k q10 (2:Int)).bind fun w11=>
 ((cat t9 w11).bind fun t12=>
 some t12))))))))))))
noncomputable def S_l3Forms_c69(k:Nat)(x0:Int)(x3:Int)(x5:Int)(x6:List UInt8)(x7:List UInt8)(x8:List UInt8)(x9:List UInt8)(x10:List UInt8)(x69:Bool):Option ((List UInt8)):=
 (bif x69 then((S_FormatInt k x5).bind fun w36=>
 ((cat ([32]:List UInt8) w36).bind fun t37=>
 some (t37)))
 else some (x10))
noncomputable def S_l3Forms(k:Nat)(a0:Int):Option ((List (List UInt8))):=
 ((dv a0 (86400:Int)).bind fun q1=>
 ((S_CivilOf k (IntKind.wrap .i64 q1)).bind fun w2=>
 ((S_l3Days k).bind fun w3=>
 ((dv a0 (86400:Int)).bind fun q4=>
 ((S_WeekdayOf k (IntKind.wrap .i64 q4)).bind fun w5=>
 ((idx w3 w5).bind fun _=>
 ((idx w3 w5).bind fun e6=>
 ((S_l3Months k).bind fun w7=>
 ((idx w7 (IntKind.wrap .i64 (w2.2.1 -(1:Int)))).bind fun _=>
 ((idx w7 (IntKind.wrap .i64 (w2.2.1 -(1:Int)))).bind fun e8=>
 ((ssub e6 (0:Int) (3:Int)).bind fun t9=>
 ((cat t9 ([44,32]:List UInt8)).bind fun t10=>
 ((S_Digits k w2.2.2 (2:Int)).bind fun w11=>
 ((cat t10 w11).bind fun t12=>
 ((cat t12 ([32]:List UInt8)).bind fun t13=>
 ((cat t13 e8).bind fun t14=>
 ((cat t14 ([32]:List UInt8)).bind fun t15=>
 ((S_Digits k w2.1 (4:Int)).bind fun w16=>
 ((cat t15 w16).bind fun t17=>
 ((cat t17 ([32]:List UInt8)).bind fun t18=>
 ((S_l3Clock k a0).bind fun w19=>
 ((cat t18 w19).bind fun t20=>
 ((cat t20 ([32,71,77,84]:List UInt8)).bind fun t21=>
 ((cat e6 ([44,32]:List UInt8)).bind fun t22=>
 ((S_Digits k w2.2.2 (2:Int)).bind fun w23=>
 ((cat t22 w23).bind fun t24=>
 ((cat t24 ([45]:List UInt8)).bind fun t25=>
 ((cat t25 e8).bind fun t26=>
 ((cat t26 ([45]:List UInt8)).bind fun t27=>
 ((md w2.1 (100:Int)).bind fun q28=>
 ((S_Digits k q28 (2:Int)).bind fun w29=>
 ((cat t27 w29).bind fun t30=>
 ((cat t30 ([32]:List UInt8)).bind fun t31=>
 ((S_l3Clock k a0).bind fun w32=>
 ((cat t31 w32).bind fun t33=>
 ((cat t33 ([32,71,77,84]:List UInt8)).bind fun t34=>
 ((S_Digits k w2.2.2 (2:Int)).bind fun w35=>
 ((S_l3Forms_c69 k a0 w2.1 w2.2.2 e6 e8 t21 t34 w35 (decide (w2.2.2<(10:Int)))).bind fun o38=>
 ((ssub e6 (0:Int) (3:Int)).bind fun t39=>
 ((cat t39 ([32]:List UInt8)).bind fun t40=>
 ((cat t40 e8).bind fun t41=>
 ((cat t41 ([32]:List UInt8)).bind fun t42=>
 ((cat t42 o38).bind fun t43=>
 ((cat t43 ([32]:List UInt8)).bind fun t44=>
 ((S_l3Clock k a0).bind fun w45=>
 ((cat t44 w45).bind fun t46=>
 ((cat t46 ([32]:List UInt8)).bind fun t47=>
 ((S_Digits k w2.1 (4:Int)).bind fun w48=>
 ((cat t47 w48).bind fun t49=>
 some ([t21,t34,t49]:List (List UInt8)))))))))))))))))))))))))))))))))))))))))))))))))))
noncomputable def S_FormatDate(k:Nat)(a0:Int):Option ((List UInt8)):=
 ((S_l1In k a0 (0:Int) (4102444799:Int)).bind fun w1=>
 (bif(!w1)then some ([]:List UInt8)
 else((S_l3Forms k a0).bind fun w2=>
 ((idx w2 (0:Int)).bind fun _=>
 ((idx w2 (0:Int)).bind fun e3=>
 some e3)))))
noncomputable def S_l16Error(k:Nat)(a0:Int)(a1:List UInt8)(a2:Int)(a3:List UInt8):Option (IResponse):=
 ((S_FormatDate k a2).bind fun w1=>
 some (⟨a0,([(⟨([100,97,116,101]:List UInt8),w1⟩:IField),(⟨([99,97,99,104,101,45,99,111,110,116,114,111,108]:List UInt8),a1⟩:IField)]:List IField),a3⟩:IResponse))
noncomputable def S_VersionAt_c21(k:Nat)(x1:Int)(x5:Int)(x6:Int)(x21:Bool)(y2_0:List UInt8)(y2_1:List UInt8)(y2_2:List UInt8)(y2_3:Bool)(y2_4:List (List UInt8))(y2_5:List IVersion):Option (Int):=
 (bif x21 then some (x6)
 else some (x5))
noncomputable def S_VersionAt_b1(k:Nat)(x1:Int)(x5:Int)(x6:Int)(y2_0:List UInt8)(y2_1:List UInt8)(y2_2:List UInt8)(y2_3:Bool)(y2_4:List (List UInt8))(y2_5:List IVersion):Option (Int):=
 ((idx y2_5 x6).bind fun e1=>
 ((S_VersionAt_c21 k x1 x5 x6 (decide (e1.At≤x1)) y2_0 y2_1 y2_2 y2_3 y2_4 y2_5).bind fun o2=>
 some (o2)))
noncomputable def S_VersionAt_b0(k:Nat):Nat→Int→Int→Int→(List UInt8)→(List UInt8)→(List UInt8)→Bool→(List (List UInt8))→(List IVersion)→Option (Int)
 |0,_,_,_,_,_,_,_,_,_=>none
 |n+1,x1,x5,x6,y2_0,y2_1,y2_2,y2_3,y2_4,y2_5=>
  (bif(decide (x6<(y2_5.length:Int)))then((S_VersionAt_b1 k x1 x5 x6 y2_0 y2_1 y2_2 y2_3 y2_4 y2_5).bind fun o1=>
  S_VersionAt_b0 k n x1 o1 (IntKind.wrap .i64 (x6+(1:Int))) y2_0 y2_1 y2_2 y2_3 y2_4 y2_5)
  else some (x5))
noncomputable def S_VersionAt(k:Nat)(a0:IResource)(a1:Int):Option (Int):=
 ((S_VersionAt_b0 k k a1 (-1:Int) (0:Int) a0.Target a0.Control a0.Keys a0.Private a0.Langs a0.Versions).bind fun o2=>
 some o2)
noncomputable def S_l5Get(k:Nat)(a0:List IField)(a1:List UInt8):Option ((List UInt8)):=
 ((S_GetField k a0 a1).bind fun w1=>
 some w1.1)
noncomputable def S_l4Cut_c33(k:Nat)(x0:List UInt8)(x1:Int)(x6:Int)(x7:Bool)(x8:Int)(x33:Bool)(r5:List (List UInt8)):Option (Int×(List (List UInt8))):=
 (bif x33 then((ssub x0 x6 x8).bind fun t4=>
 ((app 16 r5 ([t4]:List (List UInt8))).bind fun u5=>
 some (((IntKind.wrap .i64 (x8+(1:Int))),u5))))
 else some ((x6,r5)))
noncomputable def S_l4Cut_c26(k:Nat)(x0:List UInt8)(x1:Int)(x6:Int)(x7:Bool)(x8:Int)(x26:Bool)(r5:List (List UInt8)):Option (Int×Bool×(List (List UInt8))):=
 (bif x26 then some ((x6,(!x7),r5))
 else(bif(!x7)then((idx x0 x8).bind fun c3=>
 ((S_l4Cut_c33 k x0 x1 x6 x7 x8 ((UInt8.toNat c3:Int)==x1) r5).bind fun o4=>
 some ((o4.1,x7,o4.2))))else((S_l4Cut_c33 k x0 x1 x6 x7 x8 false r5).bind fun o5=>
 some ((o5.1,x7,o5.2)))))
noncomputable def S_l4Cut_c16(k:Nat)(x0:List UInt8)(x1:Int)(x6:Int)(x7:Bool)(x8:Int)(x16:Bool)(r5:List (List UInt8)):Option (Int×Bool×Int×(List (List UInt8))):=
 (bif x16 then some ((x6,x7,(IntKind.wrap .i64 (x8+(1:Int))),r5))
 else((idx x0 x8).bind fun c2=>
 ((S_l4Cut_c26 k x0 x1 x6 x7 x8 ((UInt8.toNat c2:Int)==(34:Int)) r5).bind fun o3=>
 some ((o3.1,o3.2.1,x8,o3.2.2)))))
noncomputable def S_l4Cut_b2(k:Nat)(x0:List UInt8)(x1:Int)(x6:Int)(x7:Bool)(x8:Int)(r5:List (List UInt8)):Option (Int×Bool×Int×(List (List UInt8))):=
 (bif x7 then((idx x0 x8).bind fun c1=>
 ((S_l4Cut_c16 k x0 x1 x6 x7 x8 ((UInt8.toNat c1:Int)==(92:Int)) r5).bind fun o2=>
 some ((o2.1,o2.2.1,o2.2.2.1,o2.2.2.2))))else((S_l4Cut_c16 k x0 x1 x6 x7 x8 false r5).bind fun o3=>
 some ((o3.1,o3.2.1,o3.2.2.1,o3.2.2.2))))
noncomputable def S_l4Cut_b1(k:Nat)(x0:List UInt8)(x1:Int)(x6:Int)(x7:Bool)(x8:Int)(r5:List (List UInt8)):Option (Int×Bool×Int×(List (List UInt8))):=
 ((S_l4Cut_b2 k x0 x1 x6 x7 x8 r5).bind fun o1=>
 some ((o1.1,o1.2.1,o1.2.2.1,o1.2.2.2)))
noncomputable def S_l4Cut_b0(k:Nat):Nat→(List UInt8)→Int→Int→Bool→Int→(List (List UInt8))→Option (Int×(List (List UInt8)))
 |0,_,_,_,_,_,_=>none
 |n+1,x0,x1,x6,x7,x8,r5=>
  (bif(decide (x8<(x0.length:Int)))then((S_l4Cut_b1 k x0 x1 x6 x7 x8 r5).bind fun o1=>
  S_l4Cut_b0 k n x0 x1 o1.1 o1.2.1 (IntKind.wrap .i64 (o1.2.2.1+(1:Int))) o1.2.2.2)
  else some ((x6,r5)))
noncomputable def S_l4Cut(k:Nat)(a0:List UInt8)(a1:Int):Option ((List (List UInt8))):=
 ((S_l4Cut_b0 k k a0 a1 (0:Int) false (0:Int) ([]:List (List UInt8))).bind fun o2=>
 ((ssub a0 o2.1 (a0.length:Int)).bind fun t3=>
 ((app 16 o2.2 ([t3]:List (List UInt8))).bind fun u4=>
 some u4)))
noncomputable def S_SplitList_c22(k:Nat)(x5:Int)(x6:List UInt8)(x22:Bool)(r3:List (List UInt8))(r4:List (List UInt8)):Option ((List (List UInt8))):=
 (bif x22 then((app 16 r4 ([x6]:List (List UInt8))).bind fun u4=>
 some (u4))
 else some (r4))
noncomputable def S_SplitList_b1(k:Nat)(x5:Int)(r3:List (List UInt8))(r4:List (List UInt8)):Option ((List (List UInt8))):=
 ((idx r3 x5).bind fun _=>
 ((idx r3 x5).bind fun e2=>
 ((S_TrimText k e2).bind fun w3=>
 ((S_SplitList_c22 k x5 w3 (!(w3==([]:List UInt8))) r3 r4).bind fun o4=>
 some (o4)))))
noncomputable def S_SplitList_b0(k:Nat):Nat→Int→(List (List UInt8))→(List (List UInt8))→Option ((List (List UInt8)))
 |0,_,_,_=>none
 |n+1,x5,r3,r4=>
  (bif(decide (x5<(r3.length:Int)))then((S_SplitList_b1 k x5 r3 r4).bind fun o2=>
  S_SplitList_b0 k n (IntKind.wrap .i64 (x5+(1:Int))) r3 o2)
  else some (r4))
noncomputable def S_SplitList(k:Nat)(a0:List UInt8):Option ((List (List UInt8))):=
 ((S_l4Cut k a0 (44:Int)).bind fun w1=>
 ((S_SplitList_b0 k k (0:Int) w1 ([]:List (List UInt8))).bind fun o3=>
 some o3))
noncomputable def S_SplitPair_b0(k:Nat):Nat→(List UInt8)→Int→Option (Oc (Unit) ((List UInt8)×(List UInt8)×Bool))
 |0,_,_=>none
 |n+1,x0,x5=>
  (bif(decide (x5<(x0.length:Int)))then((idx x0 x5).bind fun c1=>
  (bif((UInt8.toNat c1:Int)==(61:Int))then((ssub x0 (0:Int) x5).bind fun t2=>
  ((S_TrimText k t2).bind fun w3=>
  ((ssub x0 (IntKind.wrap .i64 (x5+(1:Int))) (x0.length:Int)).bind fun t4=>
  ((S_TrimText k t4).bind fun w5=>
  some (.oth ((w3,w5,true)))))))
  else S_SplitPair_b0 k n x0 (IntKind.wrap .i64 (x5+(1:Int)))))
  else some (.nrm ()))
noncomputable def S_SplitPair(k:Nat)(a0:List UInt8):Option ((List UInt8)×(List UInt8)×Bool):=
 ((S_SplitPair_b0 k k a0 (0:Int)).bind fun o6=>
 oc o6 (fun o7=>((S_TrimText k a0).bind fun w9=>
 some (w9,([]:List UInt8),false)))
 (fun o8=>some o8))
noncomputable def S_l13Weight_b0(k:Nat):Nat→(List UInt8)→Int→Int→Int→Option (Oc (Int) (Int))
 |0,_,_,_,_=>none
 |n+1,x0,x3,x4,x5=>
  (bif(decide (x5<(x0.length:Int)))then((idx x0 x5).bind fun c5=>
  ((S_l1In k (IntKind.wrap .i64 (UInt8.toNat c5:Int)) (48:Int) (57:Int)).bind fun w6=>
  (bif(!w6)then some (.oth ((-1:Int)))
  else((idx x0 x5).bind fun c7=>
  ((dv x4 (10:Int)).bind fun q8=>
  S_l13Weight_b0 k n x0 (IntKind.wrap .i64 (x3+(IntKind.wrap .i64 (x4*(IntKind.wrap .i64 (IntKind.wrap .u8 ((UInt8.toNat c7:Int) -(48:Int)))))))) (IntKind.wrap .i64 q8) (IntKind.wrap .i64 (x5+(1:Int))))))))
  else some (.nrm x3))
noncomputable def S_l13Weight(k:Nat)(a0:List UInt8):Option (Int):=
 (bif((a0.length:Int)==(0:Int))then some (-1:Int)else(bif(decide ((a0.length:Int)>(5:Int)))then some (-1:Int)else((idx a0 (0:Int)).bind fun c1=>
 (bif((UInt8.toNat c1:Int) !=(48:Int))then((idx a0 (0:Int)).bind fun c2=>
 (bif((UInt8.toNat c2:Int) !=(49:Int))then some (-1:Int)else(bif(decide ((a0.length:Int)>(1:Int)))then((idx a0 (1:Int)).bind fun c3=>
 (bif((UInt8.toNat c3:Int) !=(46:Int))then some (-1:Int)
 else((idx a0 (0:Int)).bind fun c4=>
 ((S_l13Weight_b0 k k a0 (IntKind.wrap .i64 ((1000:Int)*(IntKind.wrap .i64 (IntKind.wrap .u8 ((UInt8.toNat c4:Int) -(48:Int)))))) (100:Int) (2:Int)).bind fun o9=>
 oc o9 (fun o10=>(bif(decide (o10>(1000:Int)))then some (-1:Int)
 else some o10))
 (fun o11=>some o11)))))else((idx a0 (0:Int)).bind fun c12=>
 ((S_l13Weight_b0 k k a0 (IntKind.wrap .i64 ((1000:Int)*(IntKind.wrap .i64 (IntKind.wrap .u8 ((UInt8.toNat c12:Int) -(48:Int)))))) (100:Int) (2:Int)).bind fun o13=>
 oc o13 (fun o14=>(bif(decide (o14>(1000:Int)))then some (-1:Int)
 else some o14))
 (fun o15=>some o15))))))else(bif(decide ((a0.length:Int)>(1:Int)))then((idx a0 (1:Int)).bind fun c16=>
 (bif((UInt8.toNat c16:Int) !=(46:Int))then some (-1:Int)
 else((idx a0 (0:Int)).bind fun c17=>
 ((S_l13Weight_b0 k k a0 (IntKind.wrap .i64 ((1000:Int)*(IntKind.wrap .i64 (IntKind.wrap .u8 ((UInt8.toNat c17:Int) -(48:Int)))))) (100:Int) (2:Int)).bind fun o18=>
 oc o18 (fun o19=>(bif(decide (o19>(1000:Int)))then some (-1:Int)
 else some o19))
 (fun o20=>some o20)))))else((idx a0 (0:Int)).bind fun c21=>
 ((S_l13Weight_b0 k k a0 (IntKind.wrap .i64 ((1000:Int)*(IntKind.wrap .i64 (IntKind.wrap .u8 ((UInt8.toNat c21:Int) -(48:Int)))))) (100:Int) (2:Int)).bind fun o22=>
 oc o22 (fun o23=>(bif(decide (o23>(1000:Int)))then some (-1:Int)
 else some o23))
 (fun o24=>some o24))))))))
noncomputable def S_ParseQualities_c56(k:Nat)(x5:Int)(x56:Bool)(r3:List (List UInt8))(r4:List IQuality)(y7_0:List UInt8)(y7_1:Int):Option (Int):=
 (bif x56 then some ((-1:Int))
 else some (y7_1))
noncomputable def S_ParseQualities_c33(k:Nat)(x5:Int)(x33:Bool)(r3:List (List UInt8))(r4:List IQuality)(r6:List (List UInt8))(y7_0:List UInt8)(y7_1:Int):Option (Int):=
 (bif x33 then((idx r6 (1:Int)).bind fun _=>
 ((idx r6 (1:Int)).bind fun e7=>
 ((S_SplitPair k e7).bind fun w8=>
 ((S_l13Weight k w8.2.1).bind fun w9=>
 (bif(!w8.2.2)then((S_ParseQualities_c56 k x5 true r3 r4 y7_0 w9).bind fun o10=>
 some (o10))else((S_LowerText k w8.1).bind fun w11=>
 (bif(!(w11==([113]:List UInt8)))then((S_ParseQualities_c56 k x5 true r3 r4 y7_0 w9).bind fun o12=>
 some (o12))else((S_ParseQualities_c56 k x5 (decide ((r6.length:Int)>(2:Int))) r3 r4 y7_0 w9).bind fun o13=>
 some (o13)))))))))
 else some (y7_1))
noncomputable def S_ParseQualities_c65(k:Nat)(x5:Int)(x65:Bool)(r3:List (List UInt8))(r4:List IQuality)(y7_0:List UInt8)(y7_1:Int):Option ((List IQuality)):=
 (bif x65 then((app 24 r4 ([(⟨y7_0,y7_1⟩:IQuality)]:List IQuality)).bind fun u16=>
 some (u16))
 else some (r4))
noncomputable def S_ParseQualities_b1(k:Nat)(x5:Int)(r3:List (List UInt8))(r4:List IQuality):Option ((List IQuality)):=
 ((idx r3 x5).bind fun _=>
 ((idx r3 x5).bind fun e2=>
 ((S_l12Split k e2 (59:Int)).bind fun w3=>
 ((idx w3 (0:Int)).bind fun _=>
 ((idx w3 (0:Int)).bind fun e4=>
 ((S_TrimText k e4).bind fun w5=>
 ((S_LowerText k w5).bind fun w6=>
 ((S_ParseQualities_c33 k x5 (decide ((w3.length:Int)>(1:Int))) r3 r4 w3 w6 (1000:Int)).bind fun o7=>
 ((S_IsToken k w6).bind fun w8=>
 (bif w8 then((S_ParseQualities_c65 k x5 (decide (o7≥(0:Int))) r3 r4 w6 o7).bind fun o9=>
 some (o9))else((S_ParseQualities_c65 k x5 false r3 r4 w6 o7).bind fun o10=>
 some (o10))))))))))))
noncomputable def S_ParseQualities_b0(k:Nat):Nat→Int→(List (List UInt8))→(List IQuality)→Option ((List IQuality))
 |0,_,_,_=>none
 |n+1,x5,r3,r4=>
  (bif(decide (x5<(r3.length:Int)))then((S_ParseQualities_b1 k x5 r3 r4).bind fun o2=>
  S_ParseQualities_b0 k n (IntKind.wrap .i64 (x5+(1:Int))) r3 o2)
  else some (r4))
noncomputable def S_ParseQualities(k:Nat)(a0:List UInt8):Option ((List IQuality)):=
 ((S_SplitList k a0).bind fun w1=>
 ((S_ParseQualities_b0 k k (0:Int) w1 ([]:List IQuality)).bind fun o3=>
 some o3))
noncomputable def S_QualityOf_c20(k:Nat)(x0:List IQuality)(x1:List UInt8)(x5:Int)(x6:Int)(x20:Bool):Option (Int):=
 (bif x20 then((idx x0 x6).bind fun e2=>
 some (e2.Q))
 else some (x5))
noncomputable def S_QualityOf_b1(k:Nat)(x0:List IQuality)(x1:List UInt8)(x5:Int)(x6:Int):Option (Int):=
 ((idx x0 x6).bind fun e1=>
 ((S_QualityOf_c20 k x0 x1 x5 x6 (e1.Name==([42]:List UInt8))).bind fun o2=>
 some (o2)))
noncomputable def S_QualityOf_b0(k:Nat):Nat→(List IQuality)→(List UInt8)→Int→Int→Option (Int)
 |0,_,_,_,_=>none
 |n+1,x0,x1,x5,x6=>
  (bif(decide (x6≥(0:Int)))then((S_QualityOf_b1 k x0 x1 x5 x6).bind fun o1=>
  S_QualityOf_b0 k n x0 x1 o1 (IntKind.wrap .i64 (x6 -(1:Int))))
  else some (x5))
noncomputable def S_QualityOf_b2(k:Nat):Nat→(List IQuality)→(List UInt8)→Int→Int→Option (Oc (Unit) (Int))
 |0,_,_,_,_=>none
 |n+1,x0,x1,x5,x7=>
  (bif(decide (x7<(x0.length:Int)))then((idx x0 x7).bind fun e3=>
  (bif(e3.Name==x1)then((idx x0 x7).bind fun e4=>
  some (.oth (e4.Q)))
  else S_QualityOf_b2 k n x0 x1 x5 (IntKind.wrap .i64 (x7+(1:Int)))))
  else some (.nrm ()))
noncomputable def S_QualityOf(k:Nat)(a0:List IQuality)(a1:List UInt8):Option (Int):=
 ((S_QualityOf_b0 k k a0 a1 (0:Int) (IntKind.wrap .i64 ((a0.length:Int) -(1:Int)))).bind fun o2=>
 ((S_QualityOf_b2 k k a0 a1 o2 (0:Int)).bind fun o5=>
 oc o5 (fun o6=>some o2)
 (fun o7=>some o7)))
noncomputable def S_l1Word(k:Nat)(a0:List (List UInt8))(a1:Int):Option ((List UInt8)):=
 (bif(decide (a1<(0:Int)))then some ([]:List UInt8)else(bif(decide (a1≥(a0.length:Int)))then some ([]:List UInt8)
 else((idx a0 a1).bind fun e1=>
 some e1)))
noncomputable def S_ChooseName_c28(k:Nat)(x0:List (List UInt8))(x6:Int)(x7:Int)(x28:Bool)(r5:List IQuality):Option (Int):=
 (bif x28 then some (x7)
 else some (x6))
noncomputable def S_ChooseName_b1(k:Nat)(x0:List (List UInt8))(x6:Int)(x7:Int)(r5:List IQuality):Option (Int):=
 ((idx x0 x7).bind fun e2=>
 ((S_QualityOf k r5 e2).bind fun w3=>
 ((idx x0 x6).bind fun e4=>
 ((S_QualityOf k r5 e4).bind fun w5=>
 ((S_ChooseName_c28 k x0 x6 x7 (decide (w3>w5)) r5).bind fun o6=>
 some (o6))))))
noncomputable def S_ChooseName_b0(k:Nat):Nat→(List (List UInt8))→Int→Int→(List IQuality)→Option (Int)
 |0,_,_,_,_=>none
 |n+1,x0,x6,x7,r5=>
  (bif(decide (x7<(x0.length:Int)))then((S_ChooseName_b1 k x0 x6 x7 r5).bind fun o2=>
  S_ChooseName_b0 k n x0 o2 (IntKind.wrap .i64 (x7+(1:Int))) r5)
  else some (x6))
noncomputable def S_ChooseName(k:Nat)(a0:List (List UInt8))(a1:List UInt8):Option ((List UInt8)):=
 ((S_ParseQualities k a1).bind fun w1=>
 ((S_ChooseName_b0 k k a0 (0:Int) (0:Int) w1).bind fun o3=>
 ((S_l1Word k a0 o3).bind fun w4=>
 some w4)))
noncomputable def S_VisitorOf(k:Nat)(a0:IRequest):Option ((List UInt8)):=
 ((S_l5Get k a0.Fields ([97,117,116,104,111,114,105,122,97,116,105,111,110]:List UInt8)).bind fun w1=>
 ((S_SplitList k w1).bind fun w2=>
 ((S_JoinList k w2).bind fun w3=>
 ((S_IsToken k w3).bind fun w4=>
 (bif(!w4)then some ([]:List UInt8)else(bif(decide ((w3.length:Int)>(20:Int)))then some ([]:List UInt8)
 else some w3))))))
noncomputable def S_VariantOf_c10(k:Nat)(x6:List UInt8)(x10:Bool)(y2_0:List UInt8)(y2_1:List UInt8)(y2_2:List UInt8)(y2_3:Bool)(y2_4:List (List UInt8))(y2_5:List IVersion)(y3_0:List UInt8)(y3_1:List UInt8)(y3_2:List UInt8)(y3_3:List IField):Option ((List UInt8)):=
 (bif x10 then((S_l5Get k y3_3 ([97,99,99,101,112,116,45,108,97,110,103,117,97,103,101]:List UInt8)).bind fun w1=>
 ((S_ChooseName k y2_4 w1).bind fun w2=>
 some (w2)))
 else some (x6))
noncomputable def S_VariantOf(k:Nat)(a0:IResource)(a1:IRequest):Option ((List UInt8)×(List UInt8)):=
 ((S_VariantOf_c10 k ([]:List UInt8) (decide ((a0.Langs.length:Int)>(0:Int))) a0.Target a0.Control a0.Keys a0.Private a0.Langs a0.Versions a1.Method a1.Host a1.Target a1.Fields).bind fun o3=>
 (bif a0.Private then((S_VisitorOf k a1).bind fun w4=>
 some (o3,w4))
 else some (o3,([]:List UInt8))))
noncomputable def S_BodyOf_c11(k:Nat)(x1:List UInt8)(x2:List UInt8)(x7:List UInt8)(x11:Bool):Option ((List UInt8)):=
 (bif x11 then((cat ([91]:List UInt8) x1).bind fun t1=>
 ((cat t1 ([93]:List UInt8)).bind fun t2=>
 ((cat t2 x7).bind fun t3=>
 some (t3))))
 else some (x7))
noncomputable def S_BodyOf_c18(k:Nat)(x2:List UInt8)(x7:List UInt8)(x18:Bool):Option ((List UInt8)):=
 (bif x18 then((cat x2 ([58,32]:List UInt8)).bind fun t5=>
 ((cat t5 x7).bind fun t6=>
 some (t6)))
 else some (x7))
noncomputable def S_BodyOf(k:Nat)(a0:IVersion)(a1:List UInt8)(a2:List UInt8):Option ((List UInt8)):=
 ((S_BodyOf_c11 k a1 a2 a0.Text (!(a1==([]:List UInt8)))).bind fun o4=>
 ((S_BodyOf_c18 k a2 o4 (!(a2==([]:List UInt8)))).bind fun o7=>
 some o7))
noncomputable def S_TagOf(k:Nat)(a0:Int)(a1:List UInt8)(a2:List UInt8):Option (ITag):=
 ((S_FormatInt k a0).bind fun w1=>
 ((cat w1 ([47]:List UInt8)).bind fun t2=>
 ((cat t2 a1).bind fun t3=>
 ((cat t3 ([47]:List UInt8)).bind fun t4=>
 ((cat t4 a2).bind fun t5=>
 some (⟨false,t5⟩:ITag))))))
noncomputable def S_IsTag_b0(k:Nat):Nat→Int→Bool→(List UInt8)→Option (Oc (Unit) (Bool))
 |0,_,_,_=>none
 |n+1,x3,y1_0,y1_1=>
  (bif(decide (x3<(y1_1.length:Int)))then((idx y1_1 x3).bind fun c1=>
  ((S_l1In k (IntKind.wrap .i64 (UInt8.toNat c1:Int)) (33:Int) (126:Int)).bind fun w2=>
  (bif(!w2)then some (.oth (false))else((idx y1_1 x3).bind fun c3=>
  (bif((UInt8.toNat c3:Int)==(34:Int))then some (.oth (false))
  else S_IsTag_b0 k n (IntKind.wrap .i64 (x3+(1:Int))) y1_0 y1_1)))))
  else some (.nrm ()))
noncomputable def S_IsTag(k:Nat)(a0:ITag):Option (Bool):=
 ((S_IsTag_b0 k k (0:Int) a0.Weak a0.Text).bind fun o4=>
 oc o4 (fun o5=>some (decide ((a0.Text.length:Int)≤(40:Int))))
 (fun o6=>some o6))
noncomputable def S_FormatTag(k:Nat)(a0:ITag):Option ((List UInt8)):=
 ((S_IsTag k a0).bind fun w1=>
 (bif(!w1)then some ([]:List UInt8)
 else(bif a0.Weak then((cat ([87,47,34]:List UInt8) a0.Text).bind fun t2=>
 ((cat t2 ([34]:List UInt8)).bind fun t3=>
 some t3))
 else((cat ([34]:List UInt8) a0.Text).bind fun t4=>
 ((cat t4 ([34]:List UInt8)).bind fun t5=>
 some t5)))))
noncomputable def S_ControlOf(k:Nat)(a0:IResource):Option ((List UInt8)):=
 (bif a0.Private then(bif(a0.Control==([]:List UInt8))then some ([112,114,105,118,97,116,101]:List UInt8)
 else(bif a0.Private then((cat ([112,114,105,118,97,116,101,44,32]:List UInt8) a0.Control).bind fun t1=>
 some t1)
 else some a0.Control))else(bif a0.Private then((cat ([112,114,105,118,97,116,101,44,32]:List UInt8) a0.Control).bind fun t2=>
 some t2)
 else some a0.Control))
noncomputable def S_PlainAnswer_c127(k:Nat)(x12:List UInt8)(x15:List UInt8)(x127:Bool)(y6_0:Int)(y6_2:List UInt8)(y10_0:List UInt8)(y10_1:List UInt8)(y10_2:List UInt8)(y10_3:Bool)(y10_4:List (List UInt8))(y10_5:List IVersion)(y14_0:Int)(y14_2:List UInt8)(r100001401:List IField):Option ((List IField)):=
 (bif x127 then((app 32 r100001401 ([(⟨([99,97,99,104,101,45,99,111,110,116,114,111,108]:List UInt8),x15⟩:IField)]:List IField)).bind fun u23=>
 some (u23))
 else some (r100001401))
noncomputable def S_PlainAnswer_c139(k:Nat)(x12:List UInt8)(x139:Bool)(y6_0:Int)(y6_2:List UInt8)(y10_0:List UInt8)(y10_1:List UInt8)(y10_2:List UInt8)(y10_3:Bool)(y10_4:List (List UInt8))(y10_5:List IVersion)(y14_0:Int)(y14_2:List UInt8)(r100001401:List IField)(r16:List (List UInt8)):Option ((List (List UInt8))):=
 (bif x139 then((app 16 r16 ([([97,99,99,101,112,116,45,108,97,110,103,117,97,103,101]:List UInt8)]:List (List UInt8))).bind fun u25=>
 some (u25))
 else some (r16))
noncomputable def S_PlainAnswer_c144(k:Nat)(x12:List UInt8)(x144:Bool)(y6_0:Int)(y6_2:List UInt8)(y10_0:List UInt8)(y10_1:List UInt8)(y10_2:List UInt8)(y10_3:Bool)(y10_4:List (List UInt8))(y10_5:List IVersion)(y14_0:Int)(y14_2:List UInt8)(r100001401:List IField)(r16:List (List UInt8)):Option ((List (List UInt8))):=
 (bif x144 then((app 16 r16 ([([97,117,116,104,111,114,105,122,97,116,105,111,110]:List UInt8)]:List (List UInt8))).bind fun u27=>
 some (u27))
 else some (r16))
noncomputable def S_PlainAnswer_c150(k:Nat)(x12:List UInt8)(x150:Bool)(y6_0:Int)(y6_2:List UInt8)(y10_0:List UInt8)(y10_1:List UInt8)(y10_2:List UInt8)(y10_3:Bool)(y10_4:List (List UInt8))(y10_5:List IVersion)(y14_0:Int)(y14_2:List UInt8)(r100001401:List IField)(r16:List (List UInt8)):Option ((List IField)):=
 (bif x150 then((S_JoinList k r16).bind fun w29=>
 ((app 32 r100001401 ([(⟨([118,97,114,121]:List UInt8),w29⟩:IField)]:List IField)).bind fun u30=>
 some (u30)))
 else some (r100001401))
noncomputable def S_PlainAnswer_c160(k:Nat)(x12:List UInt8)(x160:Bool)(y6_0:Int)(y6_2:List UInt8)(y10_0:List UInt8)(y10_1:List UInt8)(y10_2:List UInt8)(y10_3:Bool)(y10_4:List (List UInt8))(y10_5:List IVersion)(y14_0:Int)(y14_2:List UInt8)(r100001401:List IField):Option ((List IField)):=
 (bif x160 then((app 32 r100001401 ([(⟨([99,111,110,116,101,110,116,45,108,97,110,103,117,97,103,101]:List UInt8),x12⟩:IField)]:List IField)).bind fun u32=>
 some (u32))
 else some (r100001401))
noncomputable def S_PlainAnswer_c170(k:Nat)(x170:Bool)(y6_0:Int)(y6_2:List UInt8)(y10_0:List UInt8)(y10_1:List UInt8)(y10_2:List UInt8)(y10_3:Bool)(y10_4:List (List UInt8))(y10_5:List IVersion)(y14_0:Int)(y14_2:List UInt8)(r100001401:List IField):Option ((List IField)):=
 (bif x170 then((app 32 r100001401 ([(⟨([115,117,114,114,111,103,97,116,101,45,107,101,121]:List UInt8),y10_2⟩:IField)]:List IField)).bind fun u34=>
 some (u34))
 else some (r100001401))
noncomputable def S_PlainAnswer(k:Nat)(a0:IOrigin)(a1:IRequest)(a2:Int):Option (IResponse):=
 ((S_NormalTarget k a1.Target).bind fun w1=>
 ((S_IsOrigin k a0).bind fun w2=>
 (bif(!w2)then some (⟨(400:Int),([(⟨([99,97,99,104,101,45,99,111,110,116,114,111,108]:List UInt8),([110,111,45,115,116,111,114,101]:List UInt8)⟩:IField)]:List IField),([98,97,100]:List UInt8)⟩:IResponse)else((S_IsRequest k a1).bind fun w3=>
 (bif(!w3)then some (⟨(400:Int),([(⟨([99,97,99,104,101,45,99,111,110,116,114,111,108]:List UInt8),([110,111,45,115,116,111,114,101]:List UInt8)⟩:IField)]:List IField),([98,97,100]:List UInt8)⟩:IResponse)else(bif(!w1.2)then some (⟨(400:Int),([(⟨([99,97,99,104,101,45,99,111,110,116,114,111,108]:List UInt8),([110,111,45,115,116,111,114,101]:List UInt8)⟩:IField)]:List IField),([98,97,100]:List UInt8)⟩:IResponse)else(bif(!(a1.Host==a0.Host))then some (⟨(400:Int),([(⟨([99,97,99,104,101,45,99,111,110,116,114,111,108]:List UInt8),([110,111,45,115,116,111,114,101]:List UInt8)⟩:IField)]:List IField),([98,97,100]:List UInt8)⟩:IResponse)else((S_l1In k a2 (0:Int) (4102444799:Int)).bind fun w4=>
 (bif(!w4)then some (⟨(400:Int),([(⟨([99,97,99,104,101,45,99,111,110,116,114,111,108]:List UInt8),([110,111,45,115,116,111,114,101]:List UInt8)⟩:IField)]:List IField),([98,97,100]:List UInt8)⟩:IResponse)
 else(bif(!(a1.Method==([71,69,84]:List UInt8)))then(bif(!(a1.Method==([72,69,65,68]:List UInt8)))then((S_l16Error k (405:Int) ([110,111,45,115,116,111,114,101]:List UInt8) a2 ([109,101,116,104,111,100]:List UInt8)).bind fun w5=>
 some w5)
 else((S_FindResource k a0 w1.1).bind fun w6=>
 (bif(decide (w6<(0:Int)))then((S_l16Error k (404:Int) ([109,97,120,45,97,103,101,61,49,48]:List UInt8) a2 ([110,111,110,101]:List UInt8)).bind fun w7=>
 some w7)
 else((idx a0.Resources w6).bind fun e8=>
 ((S_VersionAt k e8 a2).bind fun w9=>
 (bif(decide (w9<(0:Int)))then((S_l16Error k (404:Int) ([109,97,120,45,97,103,101,61,49,48]:List UInt8) a2 ([110,111,110,101]:List UInt8)).bind fun w10=>
 some w10)
 else((idx e8.Versions w9).bind fun e11=>
 (bif e11.Gone then((S_l16Error k (410:Int) ([109,97,120,45,97,103,101,61,49,48]:List UInt8) a2 ([103,111,110,101]:List UInt8)).bind fun w12=>
 some w12)
 else((S_VariantOf k e8 a1).bind fun w13=>
 ((idx e8.Versions w9).bind fun e14=>
 ((S_BodyOf k e14 w13.1 w13.2).bind fun w15=>
 ((S_FormatDate k a2).bind fun w16=>
 ((idx e8.Versions w9).bind fun e17=>
 ((S_FormatDate k e17.At).bind fun w18=>
 ((S_TagOf k w9 w13.1 w13.2).bind fun w19=>
 ((S_FormatTag k w19).bind fun w20=>
 ((app 32 ([]:List IField) ([(⟨([100,97,116,101]:List UInt8),w16⟩:IField),(⟨([108,97,115,116,45,109,111,100,105,102,105,101,100]:List UInt8),w18⟩:IField),(⟨([101,116,97,103]:List UInt8),w20⟩:IField)]:List IField)).bind fun u21=>
 ((S_ControlOf k e8).bind fun w22=>
 ((S_PlainAnswer_c127 k w13.1 w22 (!(w22==([]:List UInt8))) (0:Int) ([]:List UInt8) e8.Target e8.Control e8.Keys e8.Private e8.Langs e8.Versions (200:Int) w15 u21).bind fun o24=>
 ((S_PlainAnswer_c139 k w13.1 (decide ((e8.Langs.length:Int)>(0:Int))) (0:Int) ([]:List UInt8) e8.Target e8.Control e8.Keys e8.Private e8.Langs e8.Versions (200:Int) w15 o24 ([]:List (List UInt8))).bind fun o26=>
 ((S_PlainAnswer_c144 k w13.1 e8.Private (0:Int) ([]:List UInt8) e8.Target e8.Control e8.Keys e8.Private e8.Langs e8.Versions (200:Int) w15 o24 o26).bind fun o28=>
 ((S_PlainAnswer_c150 k w13.1 (decide ((o28.length:Int)>(0:Int))) (0:Int) ([]:List UInt8) e8.Target e8.Control e8.Keys e8.Private e8.Langs e8.Versions (200:Int) w15 o24 o28).bind fun o31=>
 ((S_PlainAnswer_c160 k w13.1 (!(w13.1==([]:List UInt8))) (0:Int) ([]:List UInt8) e8.Target e8.Control e8.Keys e8.Private e8.Langs e8.Versions (200:Int) w15 o31).bind fun o33=>
 ((S_PlainAnswer_c170 k (!(e8.Keys==([]:List UInt8))) (0:Int) ([]:List UInt8) e8.Target e8.Control e8.Keys e8.Private e8.Langs e8.Versions (200:Int) w15 o33).bind fun o35=>
 some (⟨(200:Int),o35,w15⟩:IResponse)))))))))))))))))))))))))else((S_FindResource k a0 w1.1).bind fun w36=>
 (bif(decide (w36<(0:Int)))then((S_l16Error k (404:Int) ([109,97,120,45,97,103,101,61,49,48]:List UInt8) a2 ([110,111,110,101]:List UInt8)).bind fun w37=>
 some w37)
 else((idx a0.Resources w36).bind fun e38=>
 ((S_VersionAt k e38 a2).bind fun w39=>
 (bif(decide (w39<(0:Int)))then((S_l16Error k (404:Int) ([109,97,120,45,97,103,101,61,49,48]:List UInt8) a2 ([110,111,110,101]:List UInt8)).bind fun w40=>
 some w40)
 else((idx e38.Versions w39).bind fun e41=>
 (bif e41.Gone then((S_l16Error k (410:Int) ([109,97,120,45,97,103,101,61,49,48]:List UInt8) a2 ([103,111,110,101]:List UInt8)).bind fun w42=>
 some w42)
 else((S_VariantOf k e38 a1).bind fun w43=>
 ((idx e38.Versions w39).bind fun e44=>
 ((S_BodyOf k e44 w43.1 w43.2).bind fun w45=>
 ((S_FormatDate k a2).bind fun w46=>
 ((idx e38.Versions w39).bind fun e47=>
 ((S_FormatDate k e47.At).bind fun w48=>
 ((S_TagOf k w39 w43.1 w43.2).bind fun w49=>
 ((S_FormatTag k w49).bind fun w50=>
 ((app 32 ([]:List IField) ([(⟨([100,97,116,101]:List UInt8),w46⟩:IField),(⟨([108,97,115,116,45,109,111,100,105,102,105,101,100]:List UInt8),w48⟩:IField),(⟨([101,116,97,103]:List UInt8),w50⟩:IField)]:List IField)).bind fun u51=>
 ((S_ControlOf k e38).bind fun w52=>
 ((S_PlainAnswer_c127 k w43.1 w52 (!(w52==([]:List UInt8))) (0:Int) ([]:List UInt8) e38.Target e38.Control e38.Keys e38.Private e38.Langs e38.Versions (200:Int) w45 u51).bind fun o53=>
 ((S_PlainAnswer_c139 k w43.1 (decide ((e38.Langs.length:Int)>(0:Int))) (0:Int) ([]:List UInt8) e38.Target e38.Control e38.Keys e38.Private e38.Langs e38.Versions (200:Int) w45 o53 ([]:List (List UInt8))).bind fun o54=>
 ((S_PlainAnswer_c144 k w43.1 e38.Private (0:Int) ([]:List UInt8) e38.Target e38.Control e38.Keys e38.Private e38.Langs e38.Versions (200:Int) w45 o53 o54).bind fun o55=>
 ((S_PlainAnswer_c150 k w43.1 (decide ((o55.length:Int)>(0:Int))) (0:Int) ([]:List UInt8) e38.Target e38.Control e38.Keys e38.Private e38.Langs e38.Versions (200:Int) w45 o53 o55).bind fun o56=>
 ((S_PlainAnswer_c160 k w43.1 (!(w43.1==([]:List UInt8))) (0:Int) ([]:List UInt8) e38.Target e38.Control e38.Keys e38.Private e38.Langs e38.Versions (200:Int) w45 o56).bind fun o57=>
 ((S_PlainAnswer_c170 k (!(e38.Keys==([]:List UInt8))) (0:Int) ([]:List UInt8) e38.Target e38.Control e38.Keys e38.Private e38.Langs e38.Versions (200:Int) w45 o57).bind fun o58=>
 some (⟨(200:Int),o58,w45⟩:IResponse))))))))))))))))))))))))))))))))))
noncomputable def S_DropField_c20(k:Nat)(x0:List IField)(x1:List UInt8)(x6:Int)(x20:Bool)(r5:List IField):Option ((List IField)):=
 (bif x20 then((idx x0 x6).bind fun e2=>
 ((app 32 r5 ([e2]:List IField)).bind fun u3=>
 some (u3)))
 else some (r5))
noncomputable def S_DropField_b1(k:Nat)(x0:List IField)(x1:List UInt8)(x6:Int)(r5:List IField):Option ((List IField)):=
 ((idx x0 x6).bind fun e1=>
 ((S_DropField_c20 k x0 x1 x6 (!(e1.Name==x1)) r5).bind fun o2=>
 some (o2)))
noncomputable def S_DropField_b0(k:Nat):Nat→(List IField)→(List UInt8)→Int→(List IField)→Option ((List IField))
 |0,_,_,_,_=>none
 |n+1,x0,x1,x6,r5=>
  (bif(decide (x6<(x0.length:Int)))then((S_DropField_b1 k x0 x1 x6 r5).bind fun o1=>
  S_DropField_b0 k n x0 x1 (IntKind.wrap .i64 (x6+(1:Int))) o1)
  else some (r5))
noncomputable def S_DropField(k:Nat)(a0:List IField)(a1:List UInt8):Option ((List IField)):=
 ((S_DropField_b0 k k a0 a1 (0:Int) ([]:List IField)).bind fun o2=>
 some o2)
noncomputable def S_l17Request_c68(k:Nat)(x5:List (List UInt8))(x6:List (List UInt8))(x7:Int)(x68:Bool)(y700000_0:List Int)(y700000_1:Int)(y700000_2:Int)(y3_0:List UInt8)(y3_1:List UInt8)(y3_2:List UInt8)(r100000303:List IField)(y4_0:List UInt8)(y4_1:List UInt8)(y4_2:List UInt8):Option ((List Int)×Int×Int×(List IField)):=
 (bif x68 then((S_l1Str k (⟨y700000_0,y700000_1,y700000_2⟩:Sl1Cur) x6).bind fun w13=>
 ((app 32 r100000303 ([(⟨([105,102,45,117,110,109,111,100,105,102,105,101,100,45,115,105,110,99,101]:List UInt8),w13.1⟩:IField)]:List IField)).bind fun u14=>
 some ((w13.2.b,w13.2.i,w13.2.h,u14))))
 else((appF 16 x5 x6).bind fun u15=>
 ((S_l1Str k (⟨y700000_0,y700000_1,y700000_2⟩:Sl1Cur) u15).bind fun w16=>
 ((app 32 r100000303 ([(⟨([105,102,45,114,97,110,103,101]:List UInt8),w16.1⟩:IField)]:List IField)).bind fun u17=>
 some ((w16.2.b,w16.2.i,w16.2.h,u17))))))
noncomputable def S_l17Request_c57(k:Nat)(x5:List (List UInt8))(x6:List (List UInt8))(x7:Int)(x23:Int)(x57:Bool)(y700000_0:List Int)(y700000_1:Int)(y700000_2:Int)(y3_0:List UInt8)(y3_1:List UInt8)(y3_2:List UInt8)(r100000303:List IField)(y4_0:List UInt8)(y4_1:List UInt8)(y4_2:List UInt8):Option ((List Int)×Int×Int×(List IField)):=
 (bif x57 then((S_l1Str k (⟨y700000_0,y700000_1,y700000_2⟩:Sl1Cur) x6).bind fun w11=>
 ((app 32 r100000303 ([(⟨([105,102,45,109,111,100,105,102,105,101,100,45,115,105,110,99,101]:List UInt8),w11.1⟩:IField)]:List IField)).bind fun u12=>
 some ((w11.2.b,w11.2.i,w11.2.h,u12))))
 else((S_l17Request_c68 k x5 x6 x7 (x23==(3:Int)) y700000_0 y700000_1 y700000_2 y3_0 y3_1 y3_2 r100000303 y4_0 y4_1 y4_2).bind fun o13=>
 some ((o13.1,o13.2.1,o13.2.2.1,o13.2.2.2))))
noncomputable def S_l17Request_c46(k:Nat)(x5:List (List UInt8))(x6:List (List UInt8))(x7:Int)(x23:Int)(x46:Bool)(y700000_0:List Int)(y700000_1:Int)(y700000_2:Int)(y3_0:List UInt8)(y3_1:List UInt8)(y3_2:List UInt8)(r100000303:List IField)(y4_0:List UInt8)(y4_1:List UInt8)(y4_2:List UInt8):Option ((List Int)×Int×Int×(List IField)):=
 (bif x46 then((S_l1Str k (⟨y700000_0,y700000_1,y700000_2⟩:Sl1Cur) x5).bind fun w9=>
 ((app 32 r100000303 ([(⟨([105,102,45,110,111,110,101,45,109,97,116,99,104]:List UInt8),w9.1⟩:IField)]:List IField)).bind fun u10=>
 some ((w9.2.b,w9.2.i,w9.2.h,u10))))
 else((S_l17Request_c57 k x5 x6 x7 x23 (x23==(2:Int)) y700000_0 y700000_1 y700000_2 y3_0 y3_1 y3_2 r100000303 y4_0 y4_1 y4_2).bind fun o11=>
 some ((o11.1,o11.2.1,o11.2.2.1,o11.2.2.2))))
noncomputable def S_l17Request_c35(k:Nat)(x5:List (List UInt8))(x6:List (List UInt8))(x7:Int)(x23:Int)(x35:Bool)(y700000_0:List Int)(y700000_1:Int)(y700000_2:Int)(y3_0:List UInt8)(y3_1:List UInt8)(y3_2:List UInt8)(r100000303:List IField)(y4_0:List UInt8)(y4_1:List UInt8)(y4_2:List UInt8):Option ((List Int)×Int×Int×(List IField)):=
 (bif x35 then((S_l1Str k (⟨y700000_0,y700000_1,y700000_2⟩:Sl1Cur) x5).bind fun w7=>
 ((app 32 r100000303 ([(⟨([105,102,45,109,97,116,99,104]:List UInt8),w7.1⟩:IField)]:List IField)).bind fun u8=>
 some ((w7.2.b,w7.2.i,w7.2.h,u8))))
 else((S_l17Request_c46 k x5 x6 x7 x23 (x23==(1:Int)) y700000_0 y700000_1 y700000_2 y3_0 y3_1 y3_2 r100000303 y4_0 y4_1 y4_2).bind fun o9=>
 some ((o9.1,o9.2.1,o9.2.2.1,o9.2.2.2))))
noncomputable def S_l17Request_b2(k:Nat)(x5:List (List UInt8))(x6:List (List UInt8))(x7:Int)(x23:Int)(y700000_0:List Int)(y700000_1:Int)(y700000_2:Int)(y3_0:List UInt8)(y3_1:List UInt8)(y3_2:List UInt8)(r100000303:List IField)(y4_0:List UInt8)(y4_1:List UInt8)(y4_2:List UInt8):Option ((List Int)×Int×Int×(List IField)):=
 ((S_l17Request_c35 k x5 x6 x7 x23 (x23==(0:Int)) y700000_0 y700000_1 y700000_2 y3_0 y3_1 y3_2 r100000303 y4_0 y4_1 y4_2).bind fun o7=>
 some ((o7.1,o7.2.1,o7.2.2.1,o7.2.2.2)))
noncomputable def S_l17Request_b1(k:Nat)(x5:List (List UInt8))(x6:List (List UInt8))(x7:Int)(y700000_0:List Int)(y700000_1:Int)(y700000_2:Int)(y3_0:List UInt8)(y3_1:List UInt8)(y3_2:List UInt8)(r100000303:List IField)(y4_0:List UInt8)(y4_1:List UInt8)(y4_2:List UInt8):Option ((List Int)×Int×Int×(List IField)):=
 ((S_l1Below k (⟨y700000_0,y700000_1,y700000_2⟩:Sl1Cur) (5:Int)).bind fun w6=>
 ((S_l17Request_b2 k x5 x6 x7 w6.1 w6.2.b w6.2.i w6.2.h y3_0 y3_1 y3_2 r100000303 y4_0 y4_1 y4_2).bind fun o7=>
 some ((o7.1,o7.2.1,o7.2.2.1,o7.2.2.2))))
noncomputable def S_l17Request_b0(k:Nat):Nat→(List (List UInt8))→(List (List UInt8))→Int→(List Int)→Int→Int→(List UInt8)→(List UInt8)→(List UInt8)→(List IField)→(List UInt8)→(List UInt8)→(List UInt8)→Option ((List Int)×Int×Int×(List IField))
 |0,_,_,_,_,_,_,_,_,_,_,_,_,_=>none
 |n+1,x5,x6,x7,y700000_0,y700000_1,y700000_2,y3_0,y3_1,y3_2,r100000303,y4_0,y4_1,y4_2=>
  (bif(decide (x7>(0:Int)))then((S_l17Request_b1 k x5 x6 x7 y700000_0 y700000_1 y700000_2 y3_0 y3_1 y3_2 r100000303 y4_0 y4_1 y4_2).bind fun o6=>
  S_l17Request_b0 k n x5 x6 (IntKind.wrap .i64 (x7 -(1:Int))) o6.1 o6.2.1 o6.2.2.1 y3_0 y3_1 y3_2 o6.2.2.2 y4_0 y4_1 y4_2)
  else some ((y700000_0,y700000_1,y700000_2,r100000303)))
noncomputable def S_l17Request(k:Nat)(a0:Sl1Cur)(a1:IRequest):Option (IRequest×Sl1Cur):=
 ((S_l1Below k a0 (100:Int)).bind fun w1=>
 ((S_FormatDate k w1.1).bind fun w2=>
 ((S_l1Below k w1.2 (100:Int)).bind fun w3=>
 ((S_FormatDate k w3.1).bind fun w4=>
 ((S_l1Below k w3.2 (3:Int)).bind fun w5=>
 ((S_l17Request_b0 k k ([([34,48,47,47,34]:List UInt8),([34,49,47,47,34]:List UInt8),([34,50,47,47,34,44,32,34,48,47,100,101,47,34]:List UInt8),([87,47,34,48,47,47,34]:List UInt8),([42]:List UInt8),([98,97,100]:List UInt8),([34,48,47,101,110,47,34,44,32,34,49,47,100,101,47,34]:List UInt8)]:List (List UInt8)) ([w2,w4,([121,101,115,116,101,114,100,97,121]:List UInt8)]:List (List UInt8)) w5.1 w5.2.b w5.2.i w5.2.h a1.Method a1.Host a1.Target a1.Fields ([]:List UInt8) ([]:List UInt8) ([]:List UInt8)).bind fun o7=>
 some ((⟨a1.Method,a1.Host,a1.Target,o7.2.2.2⟩:IRequest),(⟨o7.1,o7.2.1,o7.2.2.1⟩:Sl1Cur))))))))
noncomputable def S_DrawCheckConditions_c20(k:Nat)(x20:Bool)(y2_0:List UInt8)(y2_1:List UInt8)(y2_2:List UInt8)(y3_0:Int)(y3_2:List UInt8)(y9_0:List Int)(y9_1:Int)(y9_2:Int)(y6_0:List UInt8)(y6_1:List UInt8)(y6_2:List UInt8)(r100000603:List IField)(y7_0:Int)(y7_2:List UInt8)(r100000701:List IField):Option ((List Int)×Int×Int×(List IField)):=
 (bif x20 then((S_l1Str k (⟨y9_0,y9_1,y9_2⟩:Sl1Cur) ([([101,116,97,103]:List UInt8),([108,97,115,116,45,109,111,100,105,102,105,101,100]:List UInt8)]:List (List UInt8))).bind fun w7=>
 ((S_DropField k r100000701 w7.1).bind fun w8=>
 some ((w7.2.b,w7.2.i,w7.2.h,w8))))
 else some ((y9_0,y9_1,y9_2,r100000701)))
noncomputable def S_DrawCheckConditions(k:Nat)(a0:List Int):Option (IRequest×IResponse):=
 ((S_l1New k a0).bind fun w1=>
 ((S_l15Draw k w1).bind fun w2=>
 ((S_l15Ask k w2.2).bind fun w3=>
 ((S_l1Below k w3.2 (160:Int)).bind fun w4=>
 ((S_PlainAnswer k w2.1 w3.1 w4.1).bind fun w5=>
 ((S_l1Once k w4.2 (9:Int)).bind fun w6=>
 ((S_DrawCheckConditions_c20 k w6.1 ([]:List UInt8) ([]:List UInt8) ([]:List UInt8) (0:Int) ([]:List UInt8) w6.2.b w6.2.i w6.2.h w3.1.Method w3.1.Host w3.1.Target w3.1.Fields w5.Code w5.Body w5.Fields).bind fun o9=>
 ((S_l17Request k (⟨o9.1,o9.2.1,o9.2.2.1⟩:Sl1Cur) w3.1).bind fun w10=>
 some (w10.1,(⟨w5.Code,o9.2.2.2,w5.Body⟩:IResponse))))))))))
noncomputable def strings_Join(k:Nat)(a0:List (List UInt8))(a1:List UInt8):Option ((List UInt8)):=
 joinO a0 a1
noncomputable def I_JoinList(k:Nat)(a0:List (List UInt8)):Option ((List UInt8)):=
 ((strings_Join k a0 ([44,32]:List UInt8)).bind fun w1=>
 some w1)
noncomputable def I_GetField_c19(k:Nat)(x1:List UInt8)(x10:List IField)(x11:Int)(x12:Int)(x19:Bool)(r6:List (List UInt8))(y8_0:List UInt8)(y8_1:List UInt8):Option ((List (List UInt8))):=
 (bif x19 then((app 16 r6 ([y8_1]:List (List UInt8))).bind fun u2=>
 some (u2))
 else some (r6))
noncomputable def I_GetField_b1(k:Nat)(x1:List UInt8)(x10:List IField)(x11:Int)(x12:Int)(r6:List (List UInt8)):Option ((List (List UInt8))):=
 ((idx x10 x12).bind fun e1=>
 ((I_GetField_c19 k x1 x10 x11 x12 (e1.Name==x1) r6 e1.Name e1.Value).bind fun o2=>
 some (o2)))
noncomputable def I_GetField_b0(k:Nat):Nat→(List UInt8)→(List IField)→Int→Int→(List (List UInt8))→Option ((List (List UInt8)))
 |0,_,_,_,_,_=>none
 |n+1,x1,x10,x11,x12,r6=>
  (bif(decide (x12<x11))then((I_GetField_b1 k x1 x10 x11 x12 r6).bind fun o1=>
  I_GetField_b0 k n x1 x10 x11 (IntKind.wrap .i64 (x12+(1:Int))) o1)
  else some (r6))
noncomputable def I_GetField(k:Nat)(a0:List IField)(a1:List UInt8):Option ((List UInt8)×Bool):=
 ((I_GetField_b0 k k a1 a0 (a0.length:Int) (0:Int) ([]:List (List UInt8))).bind fun o2=>
 ((I_JoinList k o2).bind fun w3=>
 some (w3,(decide ((o2.length:Int)>(0:Int))))))
noncomputable def internal_stringslite_HasPrefix(k:Nat)(a0:List UInt8)(a1:List UInt8):Option (Bool):=
 (bif(decide ((a0.length:Int)≥(a1.length:Int)))then((ssub a0 (0:Int) (a1.length:Int)).bind fun t1=>
 some (t1==a1))else some false)
noncomputable def internal_stringslite_CutPrefix(k:Nat)(a0:List UInt8)(a1:List UInt8):Option ((List UInt8)×Bool):=
 ((internal_stringslite_HasPrefix k a0 a1).bind fun w1=>
 (bif(!w1)then some (a0,false)
 else((ssub a0 (a1.length:Int) (a0.length:Int)).bind fun t2=>
 some (t2,true))))
noncomputable def strings_CutPrefix(k:Nat)(a0:List UInt8)(a1:List UInt8):Option ((List UInt8)×Bool):=
 ((internal_stringslite_CutPrefix k a0 a1).bind fun w1=>
 some (w1.1,w1.2))
noncomputable def strings_Trim(k:Nat)(a0:List UInt8)(a1:List UInt8):Option ((List UInt8)):=
 trimO a0 a1
noncomputable def I_inRange(k:Nat)(a0:Int)(a1:Int)(a2:Int):Option (Bool):=
 (bif(decide (a1≤a0))then some (decide (a0≤a2))else some false)
noncomputable def I_IsTag_b0(k:Nat):Nat→Int→Int→Bool→(List UInt8)→Option (Oc (Unit) (Bool))
 |0,_,_,_,_=>none
 |n+1,x6,x7,y1_0,y1_1=>
  (bif(decide (x7<x6))then((idx y1_1 x7).bind fun c1=>
  ((I_inRange k (IntKind.wrap .i64 (UInt8.toNat c1:Int)) (33:Int) (126:Int)).bind fun w2=>
  (bif(!w2)then some (.oth (false))else((idx y1_1 x7).bind fun c3=>
  (bif((UInt8.toNat c3:Int)==(34:Int))then some (.oth (false))
  else I_IsTag_b0 k n x6 (IntKind.wrap .i64 (x7+(1:Int))) y1_0 y1_1)))))
  else some (.nrm ()))
noncomputable def I_IsTag(k:Nat)(a0:ITag):Option (Bool):=
 ((I_IsTag_b0 k k (a0.Text.length:Int) (0:Int) a0.Weak a0.Text).bind fun o4=>
 oc o4 (fun o5=>some (decide ((a0.Text.length:Int)≤(40:Int))))
 (fun o6=>some o6))
noncomputable def I_FormatTag(k:Nat)(a0:ITag):Option ((List UInt8)):=
 ((I_IsTag k a0).bind fun w1=>
 (bif(!w1)then some ([]:List UInt8)
 else(bif a0.Weak then((cat ([87,47,34]:List UInt8) a0.Text).bind fun t2=>
 ((cat t2 ([34]:List UInt8)).bind fun t3=>
 some t3))
 else((cat ([34]:List UInt8) a0.Text).bind fun t4=>
 ((cat t4 ([34]:List UInt8)).bind fun t5=>
 some t5)))))
noncomputable def I_ParseTag(k:Nat)(a0:List UInt8):Option (ITag×Bool):=
 ((strings_CutPrefix k a0 ([87,47]:List UInt8)).bind fun w1=>
 ((strings_Trim k w1.1 ([34]:List UInt8)).bind fun w2=>
 (bif(a0==([]:List UInt8))then some ((⟨false,([]:List UInt8)⟩:ITag),false)else((I_FormatTag k (⟨w1.2,w2⟩:ITag)).bind fun w3=>
 (bif(!(w3==a0))then some ((⟨false,([]:List UInt8)⟩:ITag),false)
 else some ((⟨w1.2,w2⟩:ITag),true))))))
noncomputable def I_answerTag(k:Nat)(a0:IResponse):Option (ITag×Bool):=
 ((I_GetField k a0.Fields ([101,116,97,103]:List UInt8)).bind fun w1=>
 ((I_ParseTag k w1.1).bind fun w2=>
 some (w2.1,w2.2)))
noncomputable def strings_Cut(k:Nat)(a0:List UInt8)(a1:List UInt8):Option ((List UInt8)×(List UInt8)×Bool):=
 cutO a0 a1
noncomputable def strings_TrimLeft(k:Nat)(a0:List UInt8)(a1:List UInt8):Option ((List UInt8)):=
 trimLeftO a0 a1
noncomputable def strconv_Atoi(k:Nat)(a0:List UInt8):Option (Int×Bool):=
 atoiO a0
noncomputable def I_digitsIn(k:Nat)(a0:List UInt8):Option (Int):=
 ((strings_TrimLeft k a0 ([32]:List UInt8)).bind fun w1=>
 ((strconv_Atoi k w1).bind fun w2=>
 (bif w2.2 then some (-1:Int)
 else some w2.1)))
noncomputable def strings_Index(k:Nat)(a0:List UInt8)(a1:List UInt8):Option (Int):=
 indexO a0 a1
noncomputable def I_Mod(k:Nat)(a0:Int)(a1:Int):Option (Int):=
 ((I_inRange k a1 (1:Int) (1000000000000:Int)).bind fun w1=>
 (bif(!w1)then some (0:Int)
 else((md a0 a1).bind fun q2=>
 ((md (IntKind.wrap .i64 (q2+a1)) a1).bind fun q3=>
 some q3))))
noncomputable def I_IsLeap(k:Nat)(a0:Int):Option (Bool):=
 ((I_Mod k a0 (4:Int)).bind fun w1=>
 (bif(w1==(0:Int))then((I_Mod k a0 (100:Int)).bind fun w2=>
 (bif(w2 !=(0:Int))then some true else((I_Mod k a0 (400:Int)).bind fun w3=>
 some (w3==(0:Int)))))else some false))
noncomputable def I_monthDays_c6(k:Nat)(x0:Int)(x5:Int)(x6:Bool):Option (Oc (Unit) (Int)):=
 (bif x6 then((I_IsLeap k x0).bind fun w1=>
 (bif w1 then some (.oth ((29:Int)))
 else some (.oth ((28:Int)))))
 else(bif(x5==(4:Int))then(bif(x5==(4:Int))then some (.oth ((30:Int)))
 else some (.nrm ()))
 else(bif(x5==(6:Int))then(bif(x5==(6:Int))then some (.oth ((30:Int)))
 else some (.nrm ()))
 else(bif(x5==(9:Int))then(bif(x5==(9:Int))then some (.oth ((30:Int)))
 else some (.nrm ()))
 else(bif(x5==(11:Int))then some (.oth ((30:Int)))
 else some (.nrm ()))))))
noncomputable def I_monthDays_b0(k:Nat)(x0:Int)(x5:Int):Option (Oc (Unit) (Int)):=
 ((I_monthDays_c6 k x0 x5 (x5==(2:Int))).bind fun o1=>
 oc o1 (fun o2=>some (.nrm ()))
 (fun o3=>some (.oth (o3))))
noncomputable def I_monthDays(k:Nat)(a0:Int)(a1:Int):Option (Int):=
 ((I_monthDays_b0 k a0 a1).bind fun o4=>
 oc o4 (fun o5=>some (31:Int))
 (fun o6=>some o6))
noncomputable def I_yearDays(k:Nat)(a0:Int):Option (Int):=
 ((I_IsLeap k a0).bind fun w1=>
 (bif w1 then some (366:Int)
 else some (365:Int)))
noncomputable def I_DaysOf_b0(k:Nat):Nat→Int→Int→Int→Int→Option (Int)
 |0,_,_,_,_=>none
 |n+1,x0,x1,x7,x8=>
  (bif(decide (x8<x0))then((I_yearDays k x8).bind fun w5=>
  I_DaysOf_b0 k n x0 x1 (IntKind.wrap .i64 (x7+w5)) (IntKind.wrap .i64 (x8+(1:Int))))
  else some (x7))
noncomputable def I_DaysOf_b2(k:Nat):Nat→Int→Int→Int→Int→Option (Int)
 |0,_,_,_,_=>none
 |n+1,x0,x1,x7,x9=>
  (bif(decide (x9<x1))then((I_monthDays k x0 x9).bind fun w7=>
  I_DaysOf_b2 k n x0 x1 (IntKind.wrap .i64 (x7+w7)) (IntKind.wrap .i64 (x9+(1:Int))))
  else some (x7))
noncomputable def I_DaysOf(k:Nat)(a0:Int)(a1:Int)(a2:Int):Option (Int):=
 ((I_inRange k a0 (1970:Int) (2099:Int)).bind fun w1=>
 (bif(!w1)then some (-1:Int)else((I_inRange k a1 (1:Int) (12:Int)).bind fun w2=>
 (bif(!w2)then some (-1:Int)else((I_monthDays k a0 a1).bind fun w3=>
 ((I_inRange k a2 (1:Int) w3).bind fun w4=>
 (bif(!w4)then some (-1:Int)
 else((I_DaysOf_b0 k k a0 a1 (IntKind.wrap .i64 (a2 -(1:Int))) (1970:Int)).bind fun o6=>
 ((I_DaysOf_b2 k k a0 a1 o6 (1:Int)).bind fun o8=>
 some o8)))))))))
noncomputable def I_timeOf(k:Nat)(a0:Int)(a1:List UInt8)(a2:Int)(a3:List UInt8):Option (Int×Bool):=
 ((strings_Index k ([74,97,110,70,101,98,77,97,114,65,112,114,77,97,121,74,117,110,74,117,108,65,117,103,83,101,112,79,99,116,78,111,118,68,101,99]:List UInt8) a1).bind fun w1=>
 ((dv w1 (3:Int)).bind fun q2=>
 ((I_DaysOf k a0 (IntKind.wrap .i64 ((IntKind.wrap .i64 q2)+(1:Int))) a2).bind fun w3=>
 (bif(decide (w3<(0:Int)))then some ((0:Int),false)
 else((ssub a3 (0:Int) (2:Int)).bind fun t4=>
 ((I_digitsIn k t4).bind fun w5=>
 ((ssub a3 (3:Int) (5:Int)).bind fun t6=>
 ((I_digitsIn k t6).bind fun w7=>
 ((ssub a3 (6:Int) (8:Int)).bind fun t8=>
 ((I_digitsIn k t8).bind fun w9=>
 some ((IntKind.wrap .i64 ((IntKind.wrap .i64 ((IntKind.wrap .i64 ((IntKind.wrap .i64 (w3*(86400:Int)))+(IntKind.wrap .i64 (w5*(3600:Int)))))+(IntKind.wrap .i64 (w7*(60:Int)))))+w9)),true)))))))))))
noncomputable def I_dateIn_c34(k:Nat)(x7:List UInt8)(x9:Int)(x34:Bool):Option (Int):=
 (bif x34 then some ((IntKind.wrap .i64 (x9+(100:Int))))
 else some (x9))
noncomputable def I_dateIn(k:Nat)(a0:List UInt8)(a1:Int):Option (Int×Bool):=
 (bif(a1==(2:Int))then((strings_Cut k a0 ([44]:List UInt8)).bind fun w1=>
 (bif(!w1.2.2)then some ((0:Int),false)else(bif((w1.2.1.length:Int) !=(23:Int))then some ((0:Int),false)else(bif(decide ((w1.1.length:Int)<(6:Int)))then some ((0:Int),false)
 else((ssub w1.2.1 (8:Int) (10:Int)).bind fun t2=>
 ((I_digitsIn k t2).bind fun w3=>
 ((I_dateIn_c34 k w1.2.1 w3 (decide (w3<(70:Int)))).bind fun o4=>
 ((ssub w1.2.1 (4:Int) (7:Int)).bind fun t5=>
 ((ssub w1.2.1 (1:Int) (3:Int)).bind fun t6=>
 ((I_digitsIn k t6).bind fun w7=>
 ((ssub w1.2.1 (11:Int) (19:Int)).bind fun t8=>
 ((I_timeOf k (IntKind.wrap .i64 ((1900:Int)+o4)) t5 w7 t8).bind fun w9=>
 some (w9.1,w9.2)))))))))))))
 else(bif(a1==(1:Int))then(bif((a0.length:Int)==(29:Int))then((ssub a0 (12:Int) (16:Int)).bind fun t10=>
 ((I_digitsIn k t10).bind fun w11=>
 ((ssub a0 (8:Int) (11:Int)).bind fun t12=>
 ((ssub a0 (5:Int) (7:Int)).bind fun t13=>
 ((I_digitsIn k t13).bind fun w14=>
 ((ssub a0 (17:Int) (25:Int)).bind fun t15=>
 ((I_timeOf k w11 t12 w14 t15).bind fun w16=>
 some (w16.1,w16.2))))))))
 else(bif(a1==(3:Int))then(bif((a0.length:Int)==(24:Int))then((ssub a0 (20:Int) (24:Int)).bind fun t17=>
 ((I_digitsIn k t17).bind fun w18=>
 ((ssub a0 (4:Int) (7:Int)).bind fun t19=>
 ((ssub a0 (8:Int) (10:Int)).bind fun t20=>
 ((I_digitsIn k t20).bind fun w21=>
 ((ssub a0 (11:Int) (19:Int)).bind fun t22=>
 ((I_timeOf k w18 t19 w21 t22).bind fun w23=>
 some (w23.1,w23.2))))))))
 else some ((0:Int),false))else some ((0:Int),false)))else(bif(a1==(3:Int))then(bif((a0.length:Int)==(24:Int))then((ssub a0 (20:Int) (24:Int)).bind fun t24=>
 ((I_digitsIn k t24).bind fun w25=>
 ((ssub a0 (4:Int) (7:Int)).bind fun t26=>
 ((ssub a0 (8:Int) (10:Int)).bind fun t27=>
 ((I_digitsIn k t27).bind fun w28=>
 ((ssub a0 (11:Int) (19:Int)).bind fun t29=>
 ((I_timeOf k w25 t26 w28 t29).bind fun w30=>
 some (w30.1,w30.2))))))))
 else some ((0:Int),false))else some ((0:Int),false))))
noncomputable def I_CivilOf_b0(k:Nat):Nat→Int→Int→Int→Option (Int×Int)
 |0,_,_,_=>none
 |n+1,x0,x5,x6=>
  ((I_yearDays k x5).bind fun w2=>
  (bif(decide (x0≥w2))then((I_yearDays k x5).bind fun w3=>
  I_CivilOf_b0 k n (IntKind.wrap .i64 (x0 -w3)) (IntKind.wrap .i64 (x5+(1:Int))) x6)
  else some ((x0,x5))))
noncomputable def I_CivilOf_b2(k:Nat):Nat→Int→Int→Int→Option (Int×Int)
 |0,_,_,_=>none
 |n+1,x0,x5,x6=>
  ((I_monthDays k x5 x6).bind fun w5=>
  (bif(decide (x0≥w5))then((I_monthDays k x5 x6).bind fun w6=>
  I_CivilOf_b2 k n (IntKind.wrap .i64 (x0 -w6)) x5 (IntKind.wrap .i64 (x6+(1:Int))))
  else some ((x0,x6))))
noncomputable def I_CivilOf(k:Nat)(a0:Int):Option (Int×Int×Int):=
 ((I_inRange k a0 (0:Int) (47481:Int)).bind fun w1=>
 (bif(!w1)then some ((0:Int),(0:Int),(0:Int))
 else((I_CivilOf_b0 k k a0 (1970:Int) (1:Int)).bind fun o4=>
 ((I_CivilOf_b2 k k o4.1 o4.2 (1:Int)).bind fun o7=>
 some (o4.2,o7.2,(IntKind.wrap .i64 (o7.1+(1:Int))))))))
noncomputable def I_WeekdayOf(k:Nat)(a0:Int):Option (Int):=
 ((I_Mod k a0 (7:Int)).bind fun w1=>
 ((I_Mod k (IntKind.wrap .i64 (w1+(4:Int))) (7:Int)).bind fun w2=>
 some w2))
noncomputable def strconv_Itoa(k:Nat)(a0:Int):Option ((List UInt8)):=
 itoaO a0
noncomputable def I_FormatInt(k:Nat)(a0:Int):Option ((List UInt8)):=
 ((strconv_Itoa k a0).bind fun w1=>
 some w1)
noncomputable def I_Digits_b0(k:Nat):Nat→Int→(List UInt8)→Option ((List UInt8))
 |0,_,_=>none
 |n+1,x1,x5=>
  (bif(decide ((x5.length:Int)<x1))then(bif(decide ((x5.length:Int)<(20:Int)))then((cat ([48]:List UInt8) x5).bind fun t2=>
  I_Digits_b0 k n x1 t2)
  else some (x5))else some (x5))
noncomputable def I_Digits(k:Nat)(a0:Int)(a1:Int):Option ((List UInt8)):=
 ((I_FormatInt k (if a0>(0:Int)then a0 else(0:Int))).bind fun w1=>
 ((I_Digits_b0 k k a1 w1).bind fun o3=>
 some o3))
noncomputable def I_fullDay(k:Nat)(a0:Int):Option ((List UInt8)):=
 ((idx ([([83,117,110,100,97,121]:List UInt8),([77,111,110,100,97,121]:List UInt8),([84,117,101,115,100,97,121]:List UInt8),([87,101,100,110,101,115,100,97,121]:List UInt8),([84,104,117,114,115,100,97,121]:List UInt8),([70,114,105,100,97,121]:List UInt8),([83,97,116,117,114,100,97,121]:List UInt8)]:List (List UInt8)) a0).bind fun _=>
 ((idx ([([83,117,110,100,97,121]:List UInt8),([77,111,110,100,97,121]:List UInt8),([84,117,101,115,100,97,121]:List UInt8),([87,101,100,110,101,115,100,97,121]:List UInt8),([84,104,117,114,115,100,97,121]:List UInt8),([70,114,105,100,97,121]:List UInt8),([83,97,116,117,114,100,97,121]:List UInt8)]:List (List UInt8)) a0).bind fun e1=>
 some e1))
noncomputable def I_dateText_c97(k:Nat)(x5:Int)(x9:List UInt8)(x10:List UInt8)(x11:List UInt8)(x12:List UInt8)(x97:Bool):Option ((List UInt8)):=
 (bif x97 then((cat ([32]:List UInt8) x12).bind fun t45=>
 some (t45))
 else some (x12))
noncomputable def I_dateText(k:Nat)(a0:Int)(a1:Int):Option ((List UInt8)):=
 ((I_inRange k a0 (0:Int) (4102444799:Int)).bind fun w1=>
 (bif(!w1)then some ([]:List UInt8)
 else((dv a0 (86400:Int)).bind fun q2=>
 ((I_CivilOf k (IntKind.wrap .i64 q2)).bind fun w3=>
 ((dv a0 (86400:Int)).bind fun q4=>
 ((I_WeekdayOf k (IntKind.wrap .i64 q4)).bind fun w5=>
 ((dv a0 (3600:Int)).bind fun q6=>
 ((md (IntKind.wrap .i64 q6) (24:Int)).bind fun q7=>
 ((I_Digits k q7 (2:Int)).bind fun w8=>
 ((cat w8 ([58]:List UInt8)).bind fun t9=>
 ((dv a0 (60:Int)).bind fun q10=>
 ((md (IntKind.wrap .i64 q10) (60:Int)).bind fun q11=>
 ((I_Digits k q11 (2:Int)).bind fun w12=>
 ((cat t9 w12).bind fun t13=>
 ((cat t13 ([58]:List UInt8)).bind fun t14=>
 ((md a0 (60:Int)).bind fun q15=>
 ((I_Digits k q15 (2:Int)).bind fun w16=>
 ((cat t14 w16).bind fun t17=>
 ((ssub ([83,117,110,77,111,110,84,117,101,87,101,100,84,104,117,70,114,105,83,97,116]:List UInt8) (IntKind.wrap .i64 ((3:Int)*w5)) (IntKind.wrap .i64 ((IntKind.wrap .i64 ((3:Int)*w5))+(3:Int)))).bind fun t18=>
 ((ssub ([74,97,110,70,101,98,77,97,114,65,112,114,77,97,121,74,117,110,74,117,108,65,117,103,83,101,112,79,99,116,78,111,118,68,101,99]:List UInt8) (IntKind.wrap .i64 ((IntKind.wrap .i64 ((3:Int)*w3.2.1)) -(3:Int))) (IntKind.wrap .i64 ((3:Int)*w3.2.1))).bind fun t19=>
 (bif(a1==(1:Int))then((cat t18 ([44,32]:List UInt8)).bind fun t20=>
 ((I_Digits k w3.2.2 (2:Int)).bind fun w21=>
 ((cat t20 w21).bind fun t22=>
 ((cat t22 ([32]:List UInt8)).bind fun t23=>
 ((cat t23 t19).bind fun t24=>
 ((cat t24 ([32]:List UInt8)).bind fun t25=>
 ((I_FormatInt k w3.1).bind fun w26=>
 ((cat t25 w26).bind fun t27=>
 ((cat t27 ([32]:List UInt8)).bind fun t28=>
 ((cat t28 t17).bind fun t29=>
 ((cat t29 ([32,71,77,84]:List UInt8)).bind fun t30=>
 some t30)))))))))))
 else(bif(a1==(2:Int))then(bif(decide (w3.1>(2069:Int)))then some ([]:List UInt8)
 else((I_fullDay k w5).bind fun w31=>
 ((cat w31 ([44,32]:List UInt8)).bind fun t32=>
 ((I_Digits k w3.2.2 (2:Int)).bind fun w33=>
 ((cat t32 w33).bind fun t34=>
 ((cat t34 ([45]:List UInt8)).bind fun t35=>
 ((cat t35 t19).bind fun t36=>
 ((cat t36 ([45]:List UInt8)).bind fun t37=>
 ((md w3.1 (100:Int)).bind fun q38=>
 ((I_Digits k q38 (2:Int)).bind fun w39=>
 ((cat t37 w39).bind fun t40=>
 ((cat t40 ([32]:List UInt8)).bind fun t41=>
 ((cat t41 t17).bind fun t42=>
 ((cat t42 ([32,71,77,84]:List UInt8)).bind fun t43=>
 some t43))))))))))))))
 else((I_FormatInt k w3.2.2).bind fun w44=>
 ((I_dateText_c97 k w3.1 t17 t18 t19 w44 (decide (w3.2.2<(10:Int)))).bind fun o46=>
 ((cat t18 ([32]:List UInt8)).bind fun t47=>
 ((cat t47 t19).bind fun t48=>
 ((cat t48 ([32]:List UInt8)).bind fun t49=>
 ((cat t49 o46).bind fun t50=>
 ((cat t50 ([32]:List UInt8)).bind fun t51=>
 ((cat t51 t17).bind fun t52=>
 ((cat t52 ([32]:List UInt8)).bind fun t53=>
 ((I_FormatInt k w3.1).bind fun w54=>
 ((cat t53 w54).bind fun t55=>
 some t55)))))))))))))))))))))))))))))))))
noncomputable def I_ParseDate_b0(k:Nat):Nat→(List UInt8)→Int→Option (Oc (Unit) (Int×Bool))
 |0,_,_=>none
 |n+1,x0,x4=>
  (bif(decide (x4≤(3:Int)))then((I_dateIn k x0 x4).bind fun w1=>
  (bif w1.2 then((I_dateText k w1.1 x4).bind fun w2=>
  (bif(w2==x0)then some (.oth ((w1.1,true)))
  else I_ParseDate_b0 k n x0 (IntKind.wrap .i64 (x4+(1:Int)))))else I_ParseDate_b0 k n x0 (IntKind.wrap .i64 (x4+(1:Int)))))
  else some (.nrm ()))
noncomputable def I_ParseDate(k:Nat)(a0:List UInt8):Option (Int×Bool):=
 ((I_ParseDate_b0 k k a0 (1:Int)).bind fun o3=>
 oc o3 (fun o4=>some ((0:Int),false))
 (fun o5=>some o5))
noncomputable def I_dateField(k:Nat)(a0:IResponse)(a1:List UInt8):Option (Int×Bool):=
 ((I_GetField k a0.Fields a1).bind fun w1=>
 ((I_ParseDate k w1.1).bind fun w2=>
 some (w2.1,w2.2)))
noncomputable def I_TrimText(k:Nat)(a0:List UInt8):Option ((List UInt8)):=
 ((strings_Trim k a0 ([32,9]:List UInt8)).bind fun w1=>
 some w1)
noncomputable def I_SplitList_c32(k:Nat)(x0:List UInt8)(x4:Int)(x5:Bool)(x6:Int)(x32:Bool)(r3:List (List UInt8)):Option (Bool):=
 (bif x32 then some ((!x5))
 else some (x5))
noncomputable def I_SplitList_c41(k:Nat)(x0:List UInt8)(x4:Int)(x5:Bool)(x6:Int)(x41:Bool)(r3:List (List UInt8)):Option (Int):=
 (bif x41 then some ((IntKind.wrap .i64 (x6+(1:Int))))
 else some (x6))
noncomputable def I_SplitList_c53(k:Nat)(x0:List UInt8)(x5:Bool)(x6:Int)(x7:List UInt8)(x53:Bool)(r3:List (List UInt8)):Option ((List (List UInt8))):=
 (bif x53 then((app 16 r3 ([x7]:List (List UInt8))).bind fun u14=>
 some (u14))
 else some (r3))
noncomputable def I_SplitList_b1(k:Nat)(x0:List UInt8)(x4:Int)(x5:Bool)(x6:Int)(r3:List (List UInt8)):Option (Int×Bool×Int×(List (List UInt8))):=
 (bif(decide (x6<(x0.length:Int)))then(bif x5 then((idx x0 x6).bind fun c1=>
 ((I_SplitList_c32 k x0 x4 x5 x6 ((UInt8.toNat c1:Int)==(34:Int)) r3).bind fun o2=>
 (bif o2 then((idx x0 x6).bind fun c3=>
 ((I_SplitList_c41 k x0 x4 o2 x6 ((UInt8.toNat c3:Int)==(92:Int)) r3).bind fun o4=>
 some ((x4,o2,o4,r3))))else((I_SplitList_c41 k x0 x4 o2 x6 false r3).bind fun o5=>
 some ((x4,o2,o5,r3))))))else((idx x0 x6).bind fun c6=>
 (bif((UInt8.toNat c6:Int) !=(44:Int))then((idx x0 x6).bind fun c7=>
 ((I_SplitList_c32 k x0 x4 x5 x6 ((UInt8.toNat c7:Int)==(34:Int)) r3).bind fun o8=>
 (bif o8 then((idx x0 x6).bind fun c9=>
 ((I_SplitList_c41 k x0 x4 o8 x6 ((UInt8.toNat c9:Int)==(92:Int)) r3).bind fun o10=>
 some ((x4,o8,o10,r3))))else((I_SplitList_c41 k x0 x4 o8 x6 false r3).bind fun o11=>
 some ((x4,o8,o11,r3))))))
 else((ssub x0 x4 (if(x0.length:Int)<x6 then(x0.length:Int)else x6)).bind fun t12=>
 ((I_TrimText k t12).bind fun w13=>
 ((I_SplitList_c53 k x0 x5 x6 w13 (!(w13==([]:List UInt8))) r3).bind fun o14=>
 some (((IntKind.wrap .i64 (x6+(1:Int))),x5,x6,o14))))))))else((ssub x0 x4 (if(x0.length:Int)<x6 then(x0.length:Int)else x6)).bind fun t15=>
 ((I_TrimText k t15).bind fun w16=>
 ((I_SplitList_c53 k x0 x5 x6 w16 (!(w16==([]:List UInt8))) r3).bind fun o17=>
 some (((IntKind.wrap .i64 (x6+(1:Int))),x5,x6,o17))))))
noncomputable def I_SplitList_b0(k:Nat):Nat→(List UInt8)→Int→Bool→Int→(List (List UInt8))→Option (Int×(List (List UInt8)))
 |0,_,_,_,_,_=>none
 |n+1,x0,x4,x5,x6,r3=>
  (bif(decide (x6≤(x0.length:Int)))then((I_SplitList_b1 k x0 x4 x5 x6 r3).bind fun o1=>
  I_SplitList_b0 k n x0 o1.1 o1.2.1 (IntKind.wrap .i64 (o1.2.2.1+(1:Int))) o1.2.2.2)
  else some ((x4,r3)))
noncomputable def I_SplitList_c69(k:Nat)(x8:List UInt8)(x69:Bool)(r3:List (List UInt8)):Option ((List (List UInt8))):=
 (bif x69 then((app 16 r3 ([x8]:List (List UInt8))).bind fun u5=>
 some (u5))
 else some (r3))
noncomputable def I_SplitList_c63(k:Nat)(x0:List UInt8)(x4:Int)(x63:Bool)(r3:List (List UInt8)):Option ((List (List UInt8))):=
 (bif x63 then((ssub x0 x4 (x0.length:Int)).bind fun t3=>
 ((I_TrimText k t3).bind fun w4=>
 ((I_SplitList_c69 k w4 (!(w4==([]:List UInt8))) r3).bind fun o5=>
 some (o5))))
 else some (r3))
noncomputable def I_SplitList(k:Nat)(a0:List UInt8):Option ((List (List UInt8))):=
 ((I_SplitList_b0 k k a0 (0:Int) false (0:Int) ([]:List (List UInt8))).bind fun o2=>
 ((I_SplitList_c63 k a0 o2.1 (decide (o2.1<(a0.length:Int))) o2.2).bind fun o6=>
 some o6))
noncomputable def I_ParseTagList_b0(k:Nat):Nat→Int→Int→(List ITag)→(List (List UInt8))→Option (Oc ((List ITag)) ((List ITag)×Bool×Bool))
 |0,_,_,_,_=>none
 |n+1,x16,x17,r5,r15=>
  (bif(decide (x17<x16))then((idx r15 x17).bind fun _=>
  ((idx r15 x17).bind fun e3=>
  ((I_ParseTag k e3).bind fun w4=>
  (bif(!w4.2)then some (.oth (([],false,false)))
  else((app 24 r5 ([w4.1]:List ITag)).bind fun u5=>
  I_ParseTagList_b0 k n x16 (IntKind.wrap .i64 (x17+(1:Int))) u5 r15)))))
  else some (.nrm r5))
noncomputable def I_ParseTagList(k:Nat)(a0:List UInt8):Option ((List ITag)×Bool×Bool):=
 ((I_TrimText k a0).bind fun w1=>
 (bif(w1==([42]:List UInt8))then some ([],true,true)
 else((I_SplitList k a0).bind fun w2=>
 ((I_ParseTagList_b0 k k (w2.length:Int) (0:Int) ([]:List ITag) w2).bind fun o6=>
 oc o6 (fun o7=>((I_inRange k (o7.length:Int) (1:Int) (8:Int)).bind fun w9=>
 (bif(!w9)then some ([],false,false)
 else some (o7,false,true))))
 (fun o8=>some o8)))))
noncomputable def I_StrongSame(k:Nat)(a0:ITag)(a1:ITag):Option (Bool):=
 (bif(!a0.Weak)then(bif(!a1.Weak)then some (a0.Text==a1.Text)else some false)else some false)
noncomputable def I_CheckConditions_1(k:Nat)(a0:ITag)(f0_0:Bool)(f0_1:List UInt8):Option (Bool):=
 ((I_StrongSame k a0 (⟨f0_0,f0_1⟩:ITag)).bind fun w1=>
 some w1)
noncomputable def slices_IndexFunc_ITag_at_I_CheckConditions_1_b0(k:Nat):Nat→(List ITag)→Bool→(List UInt8)→Int→Int→Option (Oc (Unit) (Int))
 |0,_,_,_,_,_=>none
 |n+1,x0,x1_0_0,x1_0_1,x7,x8=>
  (bif(decide (x8<x7))then((idx x0 x8).bind fun e1=>
  ((I_CheckConditions_1 k e1 x1_0_0 x1_0_1).bind fun w2=>
  (bif w2 then some (.oth (x8))
  else slices_IndexFunc_ITag_at_I_CheckConditions_1_b0 k n x0 x1_0_0 x1_0_1 x7 (IntKind.wrap .i64 (x8+(1:Int))))))
  else some (.nrm ()))
noncomputable def slices_IndexFunc_ITag_at_I_CheckConditions_1(k:Nat)(a0:List ITag)(a1_0_0:Bool)(a1_0_1:List UInt8):Option (Int):=
 ((slices_IndexFunc_ITag_at_I_CheckConditions_1_b0 k k a0 a1_0_0 a1_0_1 (a0.length:Int) (0:Int)).bind fun o3=>
 oc o3 (fun o4=>some (-1:Int))
 (fun o5=>some o5))
noncomputable def slices_ContainsFunc_ITag_at_I_CheckConditions_1(k:Nat)(a0:List ITag)(a1_0_0:Bool)(a1_0_1:List UInt8):Option (Bool):=
 ((slices_IndexFunc_ITag_at_I_CheckConditions_1 k a0 a1_0_0 a1_0_1).bind fun w1=>
 some (decide (w1≥(0:Int))))
noncomputable def I_WeakSame(k:Nat)(a0:ITag)(a1:ITag):Option (Bool):=
 some (a0.Text==a1.Text)
noncomputable def I_CheckConditions_2(k:Nat)(a0:ITag)(f0_0:Bool)(f0_1:List UInt8):Option (Bool):=
 ((I_WeakSame k a0 (⟨f0_0,f0_1⟩:ITag)).bind fun w1=>
 some w1)
noncomputable def slices_IndexFunc_ITag_at_I_CheckConditions_2_b0(k:Nat):Nat→(List ITag)→Bool→(List UInt8)→Int→Int→Option (Oc (Unit) (Int))
 |0,_,_,_,_,_=>none
 |n+1,x0,x1_0_0,x1_0_1,x7,x8=>
  (bif(decide (x8<x7))then((idx x0 x8).bind fun e1=>
  ((I_CheckConditions_2 k e1 x1_0_0 x1_0_1).bind fun w2=>
  (bif w2 then some (.oth (x8))
  else slices_IndexFunc_ITag_at_I_CheckConditions_2_b0 k n x0 x1_0_0 x1_0_1 x7 (IntKind.wrap .i64 (x8+(1:Int))))))
  else some (.nrm ()))
noncomputable def slices_IndexFunc_ITag_at_I_CheckConditions_2(k:Nat)(a0:List ITag)(a1_0_0:Bool)(a1_0_1:List UInt8):Option (Int):=
 ((slices_IndexFunc_ITag_at_I_CheckConditions_2_b0 k k a0 a1_0_0 a1_0_1 (a0.length:Int) (0:Int)).bind fun o3=>
 oc o3 (fun o4=>some (-1:Int))
 (fun o5=>some o5))
noncomputable def slices_ContainsFunc_ITag_at_I_CheckConditions_2(k:Nat)(a0:List ITag)(a1_0_0:Bool)(a1_0_1:List UInt8):Option (Bool):=
 ((slices_IndexFunc_ITag_at_I_CheckConditions_2 k a0 a1_0_0 a1_0_1).bind fun w1=>
 some (decide (w1≥(0:Int))))
noncomputable def I_CheckConditions_c80(k:Nat)(x6:Bool)(x7:Int)(x8:Bool)(x9:Bool)(x15:List UInt8)(x80:Bool)(y2_0:List UInt8)(y2_1:List UInt8)(y2_2:List UInt8)(y2_3:List IField)(y5_0:Bool)(y5_1:List UInt8):Option (Oc (Unit) (Int)):=
 (bif x80 then((I_ParseDate k x15).bind fun w7=>
 (bif w7.2 then(bif x8 then(bif(decide (x7>w7.1))then some (.oth ((412:Int)))
 else some (.nrm ()))else some (.nrm ()))else some (.nrm ())))
 else some (.nrm ()))
noncomputable def I_CheckConditions_c52(k:Nat)(x6:Bool)(x7:Int)(x8:Bool)(x9:Bool)(x10:List UInt8)(x52:Bool)(y2_0:List UInt8)(y2_1:List UInt8)(y2_2:List UInt8)(y2_3:List IField)(y5_0:Bool)(y5_1:List UInt8):Option (Oc (Unit) (Int)):=
 (bif x52 then((I_ParseTagList k x10).bind fun w4=>
 (bif(!w4.2.2)then some (.oth ((412:Int)))else(bif(!w4.2.1)then(bif x6 then((slices_ContainsFunc_ITag_at_I_CheckConditions_1 k w4.1 y5_0 y5_1).bind fun w5=>
 (bif(!w5)then some (.oth ((412:Int)))
 else some (.nrm ())))else(bif(!false)then some (.oth ((412:Int)))
 else some (.nrm ())))else some (.nrm ()))))
 else((I_GetField k y2_3 ([105,102,45,117,110,109,111,100,105,102,105,101,100,45,115,105,110,99,101]:List UInt8)).bind fun w6=>
 ((I_CheckConditions_c80 k x6 x7 x8 x9 w6.1 w6.2 y2_0 y2_1 y2_2 y2_3 y5_0 y5_1).bind fun o7=>
 oc o7 (fun o8=>some (.nrm ()))
 (fun o9=>some (.oth (o9))))))
noncomputable def I_CheckConditions_c135(k:Nat)(x7:Int)(x8:Bool)(x24:List UInt8)(x135:Bool):Option (Oc (Unit) (Int)):=
 (bif x135 then((I_ParseDate k x24).bind fun w17=>
 (bif w17.2 then(bif x8 then(bif(decide (x7≤w17.1))then some (.oth ((304:Int)))
 else some (.nrm ()))else some (.nrm ()))else some (.nrm ())))
 else some (.nrm ()))
noncomputable def I_CheckConditions(k:Nat)(a0:IRequest)(a1:IResponse):Option (Int):=
 ((I_answerTag k a1).bind fun w1=>
 ((I_dateField k a1 ([108,97,115,116,45,109,111,100,105,102,105,101,100]:List UInt8)).bind fun w2=>
 (bif(a0.Method==([71,69,84]:List UInt8))then((I_GetField k a0.Fields ([105,102,45,109,97,116,99,104]:List UInt8)).bind fun w3=>
 ((I_CheckConditions_c52 k w1.2 w2.1 w2.2 true w3.1 w3.2 a0.Method a0.Host a0.Target a0.Fields w1.1.Weak w1.1.Text).bind fun o10=>
 oc o10 (fun o11=>((I_GetField k a0.Fields ([105,102,45,110,111,110,101,45,109,97,116,99,104]:List UInt8)).bind fun w13=>
 (bif w13.2 then((I_ParseTagList k w13.1).bind fun w14=>
 (bif(!w14.2.2)then some (200:Int)else(bif(!w14.2.1)then(bif w1.2 then((slices_ContainsFunc_ITag_at_I_CheckConditions_2 k w14.1 w1.1.Weak w1.1.Text).bind fun w15=>
 (bif(!w15)then some (200:Int)
 else some (304:Int)))else(bif(!false)then some (200:Int)
 else some (304:Int)))else some (304:Int))))
 else((I_GetField k a0.Fields ([105,102,45,109,111,100,105,102,105,101,100,45,115,105,110,99,101]:List UInt8)).bind fun w16=>
 (bif w16.2 then((I_CheckConditions_c135 k w2.1 w2.2 w16.1 true).bind fun o18=>
 oc o18 (fun o19=>some (200:Int))
 (fun o20=>some o20))else((I_CheckConditions_c135 k w2.1 w2.2 w16.1 false).bind fun o21=>
 oc o21 (fun o22=>some (200:Int))
 (fun o23=>some o23)))))))
 (fun o12=>some o12)))else((I_GetField k a0.Fields ([105,102,45,109,97,116,99,104]:List UInt8)).bind fun w24=>
 ((I_CheckConditions_c52 k w1.2 w2.1 w2.2 (a0.Method==([72,69,65,68]:List UInt8)) w24.1 w24.2 a0.Method a0.Host a0.Target a0.Fields w1.1.Weak w1.1.Text).bind fun o25=>
 oc o25 (fun o26=>((I_GetField k a0.Fields ([105,102,45,110,111,110,101,45,109,97,116,99,104]:List UInt8)).bind fun w28=>
 (bif w28.2 then((I_ParseTagList k w28.1).bind fun w29=>
 (bif(!w29.2.2)then some (200:Int)else(bif(!w29.2.1)then(bif w1.2 then((slices_ContainsFunc_ITag_at_I_CheckConditions_2 k w29.1 w1.1.Weak w1.1.Text).bind fun w30=>
 (bif(!w30)then some (200:Int)
 else(bif(a0.Method==([72,69,65,68]:List UInt8))then some (304:Int)
 else some (412:Int))))else(bif(!false)then some (200:Int)
 else(bif(a0.Method==([72,69,65,68]:List UInt8))then some (304:Int)
 else some (412:Int))))else(bif(a0.Method==([72,69,65,68]:List UInt8))then some (304:Int)
 else some (412:Int)))))
 else((I_GetField k a0.Fields ([105,102,45,109,111,100,105,102,105,101,100,45,115,105,110,99,101]:List UInt8)).bind fun w31=>
 (bif w31.2 then((I_CheckConditions_c135 k w2.1 w2.2 w31.1 (a0.Method==([72,69,65,68]:List UInt8))).bind fun o32=>
 oc o32 (fun o33=>some (200:Int))
 (fun o34=>some o34))else((I_CheckConditions_c135 k w2.1 w2.2 w31.1 false).bind fun o35=>
 oc o35 (fun o36=>some (200:Int))
 (fun o37=>some o37)))))))
 (fun o27=>some o27))))))
noncomputable def I_RangeHolds(k:Nat)(a0:IRequest)(a1:IResponse):Option (Bool):=
 ((I_GetField k a0.Fields ([105,102,45,114,97,110,103,101]:List UInt8)).bind fun w1=>
 (bif(!w1.2)then some true
 else((I_ParseTag k w1.1).bind fun w2=>
 (bif w2.2 then((I_answerTag k a1).bind fun w3=>
 (bif w3.2 then((I_StrongSame k w2.1 w3.1).bind fun w4=>
 some w4)else some false))
 else((I_ParseDate k w1.1).bind fun w5=>
 ((I_dateField k a1 ([108,97,115,116,45,109,111,100,105,102,105,101,100]:List UInt8)).bind fun w6=>
 (bif w5.2 then(bif w6.2 then some (w5.1==w6.1)else some false)else some false)))))))
noncomputable def L_FnConditions(k:Nat)(a0:List Int):Option (Bool):=
 ((L_big k a0).bind fun w1=>
 (bif w1 then some true
 else((S_DrawCheckConditions k a0).bind fun w2=>
 ((I_GetField k w2.2.Fields ([101,116,97,103]:List UInt8)).bind fun w3=>
 ((I_GetField k w2.2.Fields ([108,97,115,116,45,109,111,100,105,102,105,101,100]:List UInt8)).bind fun w4=>
 (bif w3.2 then((I_CheckConditions k (⟨([71,69,84]:List UInt8),([104,46,101,120,97,109,112,108,101]:List UInt8),([47,97]:List UInt8),([(⟨([105,102,45,110,111,110,101,45,109,97,116,99,104]:List UInt8),w3.1⟩:IField)]:List IField)⟩:IRequest) w2.2).bind fun w5=>
 (bif(w5 !=(304:Int))then some false else(bif w4.2 then((I_CheckConditions k (⟨([72,69,65,68]:List UInt8),([104,46,101,120,97,109,112,108,101]:List UInt8),([47,97]:List UInt8),([(⟨([105,102,45,109,111,100,105,102,105,101,100,45,115,105,110,99,101]:List UInt8),w4.1⟩:IField)]:List IField)⟩:IRequest) w2.2).bind fun w6=>
 (bif(w6 !=(304:Int))then some false
 else(bif w3.2 then((I_CheckConditions k (⟨([71,69,84]:List UInt8),([104,46,101,120,97,109,112,108,101]:List UInt8),([47,97]:List UInt8),([(⟨([105,102,45,109,97,116,99,104]:List UInt8),w3.1⟩:IField),(⟨([105,102,45,114,97,110,103,101]:List UInt8),w3.1⟩:IField)]:List IField)⟩:IRequest) w2.2).bind fun w7=>
 (bif(w7 !=(200:Int))then some false else((I_RangeHolds k (⟨([71,69,84]:List UInt8),([104,46,101,120,97,109,112,108,101]:List UInt8),([47,97]:List UInt8),([(⟨([105,102,45,109,97,116,99,104]:List UInt8),w3.1⟩:IField),(⟨([105,102,45,114,97,110,103,101]:List UInt8),w3.1⟩:IField)]:List IField)⟩:IRequest) w2.2).bind fun w8=>
 (bif(!w8)then some false
 else((I_CheckConditions k (⟨([72,69,65,68]:List UInt8),([104,46,101,120,97,109,112,108,101]:List UInt8),([47,97]:List UInt8),([(⟨([105,102,45,109,97,116,99,104]:List UInt8),([34,111,116,104,101,114,34]:List UInt8)⟩:IField),(⟨([105,102,45,114,97,110,103,101]:List UInt8),([34,111,116,104,101,114,34]:List UInt8)⟩:IField)]:List IField)⟩:IRequest) w2.2).bind fun w9=>
 (bif(w9==(412:Int))then((I_RangeHolds k (⟨([72,69,65,68]:List UInt8),([104,46,101,120,97,109,112,108,101]:List UInt8),([47,97]:List UInt8),([(⟨([105,102,45,109,97,116,99,104]:List UInt8),([34,111,116,104,101,114,34]:List UInt8)⟩:IField),(⟨([105,102,45,114,97,110,103,101]:List UInt8),([34,111,116,104,101,114,34]:List UInt8)⟩:IField)]:List IField)⟩:IRequest) w2.2).bind fun w10=>
 (bif(!w10)then((I_CheckConditions k (⟨([71,69,84]:List UInt8),([]:List UInt8),([]:List UInt8),[]⟩:IRequest) w2.2).bind fun w11=>
 some (w11==(200:Int)))else some false))else some false))))))else((I_CheckConditions k (⟨([72,69,65,68]:List UInt8),([104,46,101,120,97,109,112,108,101]:List UInt8),([47,97]:List UInt8),([(⟨([105,102,45,109,97,116,99,104]:List UInt8),([34,111,116,104,101,114,34]:List UInt8)⟩:IField),(⟨([105,102,45,114,97,110,103,101]:List UInt8),([34,111,116,104,101,114,34]:List UInt8)⟩:IField)]:List IField)⟩:IRequest) w2.2).bind fun w12=>
 (bif(w12==(412:Int))then((I_RangeHolds k (⟨([72,69,65,68]:List UInt8),([104,46,101,120,97,109,112,108,101]:List UInt8),([47,97]:List UInt8),([(⟨([105,102,45,109,97,116,99,104]:List UInt8),([34,111,116,104,101,114,34]:List UInt8)⟩:IField),(⟨([105,102,45,114,97,110,103,101]:List UInt8),([34,111,116,104,101,114,34]:List UInt8)⟩:IField)]:List IField)⟩:IRequest) w2.2).bind fun w13=>
 (bif(!w13)then((I_CheckConditions k (⟨([71,69,84]:List UInt8),([]:List UInt8),([]:List UInt8),[]⟩:IRequest) w2.2).bind fun w14=>
 some (w14==(200:Int)))else some false))else some false)))))else(bif w3.2 then((I_CheckConditions k (⟨([71,69,84]:List UInt8),([104,46,101,120,97,109,112,108,101]:List UInt8),([47,97]:List UInt8),([(⟨([105,102,45,109,97,116,99,104]:List UInt8),w3.1⟩:IField),(⟨([105,102,45,114,97,110,103,101]:List UInt8),w3.1⟩:IField)]:List IField)⟩:IRequest) w2.2).bind fun w15=>
 (bif(w15 !=(200:Int))then some false else((I_RangeHolds k (⟨([71,69,84]:List UInt8),([104,46,101,120,97,109,112,108,101]:List UInt8),([47,97]:List UInt8),([(⟨([105,102,45,109,97,116,99,104]:List UInt8),w3.1⟩:IField),(⟨([105,102,45,114,97,110,103,101]:List UInt8),w3.1⟩:IField)]:List IField)⟩:IRequest) w2.2).bind fun w16=>
 (bif(!w16)then some false
 else((I_CheckConditions k (⟨([72,69,65,68]:List UInt8),([104,46,101,120,97,109,112,108,101]:List UInt8),([47,97]:List UInt8),([(⟨([105,102,45,109,97,116,99,104]:List UInt8),([34,111,116,104,101,114,34]:List UInt8)⟩:IField),(⟨([105,102,45,114,97,110,103,101]:List UInt8),([34,111,116,104,101,114,34]:List UInt8)⟩:IField)]:List IField)⟩:IRequest) w2.2).bind fun w17=>
 (bif(w17==(412:Int))then((I_RangeHolds k (⟨([72,69,65,68]:List UInt8),([104,46,101,120,97,109,112,108,101]:List UInt8),([47,97]:List UInt8),([(⟨([105,102,45,109,97,116,99,104]:List UInt8),([34,111,116,104,101,114,34]:List UInt8)⟩:IField),(⟨([105,102,45,114,97,110,103,101]:List UInt8),([34,111,116,104,101,114,34]:List UInt8)⟩:IField)]:List IField)⟩:IRequest) w2.2).bind fun w18=>
 (bif(!w18)then((I_CheckConditions k (⟨([71,69,84]:List UInt8),([]:List UInt8),([]:List UInt8),[]⟩:IRequest) w2.2).bind fun w19=>
 some (w19==(200:Int)))else some false))else some false))))))else((I_CheckConditions k (⟨([72,69,65,68]:List UInt8),([104,46,101,120,97,109,112,108,101]:List UInt8),([47,97]:List UInt8),([(⟨([105,102,45,109,97,116,99,104]:List UInt8),([34,111,116,104,101,114,34]:List UInt8)⟩:IField),(⟨([105,102,45,114,97,110,103,101]:List UInt8),([34,111,116,104,101,114,34]:List UInt8)⟩:IField)]:List IField)⟩:IRequest) w2.2).bind fun w20=>
 (bif(w20==(412:Int))then((I_RangeHolds k (⟨([72,69,65,68]:List UInt8),([104,46,101,120,97,109,112,108,101]:List UInt8),([47,97]:List UInt8),([(⟨([105,102,45,109,97,116,99,104]:List UInt8),([34,111,116,104,101,114,34]:List UInt8)⟩:IField),(⟨([105,102,45,114,97,110,103,101]:List UInt8),([34,111,116,104,101,114,34]:List UInt8)⟩:IField)]:List IField)⟩:IRequest) w2.2).bind fun w21=>
 (bif(!w21)then((I_CheckConditions k (⟨([71,69,84]:List UInt8),([]:List UInt8),([]:List UInt8),[]⟩:IRequest) w2.2).bind fun w22=>
 some (w22==(200:Int)))else some false))else some false))))))else(bif w4.2 then((I_CheckConditions k (⟨([72,69,65,68]:List UInt8),([104,46,101,120,97,109,112,108,101]:List UInt8),([47,97]:List UInt8),([(⟨([105,102,45,109,111,100,105,102,105,101,100,45,115,105,110,99,101]:List UInt8),w4.1⟩:IField)]:List IField)⟩:IRequest) w2.2).bind fun w23=>
 (bif(w23 !=(304:Int))then some false
 else(bif w3.2 then((I_CheckConditions k (⟨([71,69,84]:List UInt8),([104,46,101,120,97,109,112,108,101]:List UInt8),([47,97]:List UInt8),([(⟨([105,102,45,109,97,116,99,104]:List UInt8),w3.1⟩:IField),(⟨([105,102,45,114,97,110,103,101]:List UInt8),w3.1⟩:IField)]:List IField)⟩:IRequest) w2.2).bind fun w24=>
 (bif(w24 !=(200:Int))then some false else((I_RangeHolds k (⟨([71,69,84]:List UInt8),([104,46,101,120,97,109,112,108,101]:List UInt8),([47,97]:List UInt8),([(⟨([105,102,45,109,97,116,99,104]:List UInt8),w3.1⟩:IField),(⟨([105,102,45,114,97,110,103,101]:List UInt8),w3.1⟩:IField)]:List IField)⟩:IRequest) w2.2).bind fun w25=>
 (bif(!w25)then some false
 else((I_CheckConditions k (⟨([72,69,65,68]:List UInt8),([104,46,101,120,97,109,112,108,101]:List UInt8),([47,97]:List UInt8),([(⟨([105,102,45,109,97,116,99,104]:List UInt8),([34,111,116,104,101,114,34]:List UInt8)⟩:IField),(⟨([105,102,45,114,97,110,103,101]:List UInt8),([34,111,116,104,101,114,34]:List UInt8)⟩:IField)]:List IField)⟩:IRequest) w2.2).bind fun w26=>
 (bif(w26==(412:Int))then((I_RangeHolds k (⟨([72,69,65,68]:List UInt8),([104,46,101,120,97,109,112,108,101]:List UInt8),([47,97]:List UInt8),([(⟨([105,102,45,109,97,116,99,104]:List UInt8),([34,111,116,104,101,114,34]:List UInt8)⟩:IField),(⟨([105,102,45,114,97,110,103,101]:List UInt8),([34,111,116,104,101,114,34]:List UInt8)⟩:IField)]:List IField)⟩:IRequest) w2.2).bind fun w27=>
 (bif(!w27)then((I_CheckConditions k (⟨([71,69,84]:List UInt8),([]:List UInt8),([]:List UInt8),[]⟩:IRequest) w2.2).bind fun w28=>
 some (w28==(200:Int)))else some false))else some false))))))else((I_CheckConditions k (⟨([72,69,65,68]:List UInt8),([104,46,101,120,97,109,112,108,101]:List UInt8),([47,97]:List UInt8),([(⟨([105,102,45,109,97,116,99,104]:List UInt8),([34,111,116,104,101,114,34]:List UInt8)⟩:IField),(⟨([105,102,45,114,97,110,103,101]:List UInt8),([34,111,116,104,101,114,34]:List UInt8)⟩:IField)]:List IField)⟩:IRequest) w2.2).bind fun w29=>
 (bif(w29==(412:Int))then((I_RangeHolds k (⟨([72,69,65,68]:List UInt8),([104,46,101,120,97,109,112,108,101]:List UInt8),([47,97]:List UInt8),([(⟨([105,102,45,109,97,116,99,104]:List UInt8),([34,111,116,104,101,114,34]:List UInt8)⟩:IField),(⟨([105,102,45,114,97,110,103,101]:List UInt8),([34,111,116,104,101,114,34]:List UInt8)⟩:IField)]:List IField)⟩:IRequest) w2.2).bind fun w30=>
 (bif(!w30)then((I_CheckConditions k (⟨([71,69,84]:List UInt8),([]:List UInt8),([]:List UInt8),[]⟩:IRequest) w2.2).bind fun w31=>
 some (w31==(200:Int)))else some false))else some false)))))else(bif w3.2 then((I_CheckConditions k (⟨([71,69,84]:List UInt8),([104,46,101,120,97,109,112,108,101]:List UInt8),([47,97]:List UInt8),([(⟨([105,102,45,109,97,116,99,104]:List UInt8),w3.1⟩:IField),(⟨([105,102,45,114,97,110,103,101]:List UInt8),w3.1⟩:IField)]:List IField)⟩:IRequest) w2.2).bind fun w32=>
 (bif(w32 !=(200:Int))then some false else((I_RangeHolds k (⟨([71,69,84]:List UInt8),([104,46,101,120,97,109,112,108,101]:List UInt8),([47,97]:List UInt8),([(⟨([105,102,45,109,97,116,99,104]:List UInt8),w3.1⟩:IField),(⟨([105,102,45,114,97,110,103,101]:List UInt8),w3.1⟩:IField)]:List IField)⟩:IRequest) w2.2).bind fun w33=>
 (bif(!w33)then some false
 else((I_CheckConditions k (⟨([72,69,65,68]:List UInt8),([104,46,101,120,97,109,112,108,101]:List UInt8),([47,97]:List UInt8),([(⟨([105,102,45,109,97,116,99,104]:List UInt8),([34,111,116,104,101,114,34]:List UInt8)⟩:IField),(⟨([105,102,45,114,97,110,103,101]:List UInt8),([34,111,116,104,101,114,34]:List UInt8)⟩:IField)]:List IField)⟩:IRequest) w2.2).bind fun w34=>
 (bif(w34==(412:Int))then((I_RangeHolds k (⟨([72,69,65,68]:List UInt8),([104,46,101,120,97,109,112,108,101]:List UInt8),([47,97]:List UInt8),([(⟨([105,102,45,109,97,116,99,104]:List UInt8),([34,111,116,104,101,114,34]:List UInt8)⟩:IField),(⟨([105,102,45,114,97,110,103,101]:List UInt8),([34,111,116,104,101,114,34]:List UInt8)⟩:IField)]:List IField)⟩:IRequest) w2.2).bind fun w35=>
 (bif(!w35)then((I_CheckConditions k (⟨([71,69,84]:List UInt8),([]:List UInt8),([]:List UInt8),[]⟩:IRequest) w2.2).bind fun w36=>
 some (w36==(200:Int)))else some false))else some false))))))else((I_CheckConditions k (⟨([72,69,65,68]:List UInt8),([104,46,101,120,97,109,112,108,101]:List UInt8),([47,97]:List UInt8),([(⟨([105,102,45,109,97,116,99,104]:List UInt8),([34,111,116,104,101,114,34]:List UInt8)⟩:IField),(⟨([105,102,45,114,97,110,103,101]:List UInt8),([34,111,116,104,101,114,34]:List UInt8)⟩:IField)]:List IField)⟩:IRequest) w2.2).bind fun w37=>
 (bif(w37==(412:Int))then((I_RangeHolds k (⟨([72,69,65,68]:List UInt8),([104,46,101,120,97,109,112,108,101]:List UInt8),([47,97]:List UInt8),([(⟨([105,102,45,109,97,116,99,104]:List UInt8),([34,111,116,104,101,114,34]:List UInt8)⟩:IField),(⟨([105,102,45,114,97,110,103,101]:List UInt8),([34,111,116,104,101,114,34]:List UInt8)⟩:IField)]:List IField)⟩:IRequest) w2.2).bind fun w38=>
 (bif(!w38)then((I_CheckConditions k (⟨([71,69,84]:List UInt8),([]:List UInt8),([]:List UInt8),[]⟩:IRequest) w2.2).bind fun w39=>
 some (w39==(200:Int)))else some false))else some false))))))))))
end
end Go.YtabadclgcgdccaaGreatDoor
