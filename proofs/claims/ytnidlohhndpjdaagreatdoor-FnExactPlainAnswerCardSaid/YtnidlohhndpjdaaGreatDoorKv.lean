/- Plain lemmas and definitions. Nothing is claimed here. -/
import Derived.Test.YtnidlohhndpjdaaGreatDoorKu
import Derived.Lib.AtoiAll
import Derived.Lib.Index
import Derived.Lib.IndexMore
import Derived.Lib.TrimByte
import Derived.Sort.Walk0
set_option linter.unusedVariables false
set_option linter.unusedSimpArgs false
set_option maxRecDepth 100000
namespace Go.YtnidlohhndpjdaaGreatDoor
open Go Go.RowKit Go.Pv Go.Pu
noncomputable section
def mk15:List UInt8:=[33,35,36,37,38,39,42,43,45,46,94,95,124,126,96]
def mk14:List UInt8:=[33,35,36,37,38,39,42,43,45,46,94,95,124,126]
def letB(c:UInt8):Bool:=(decide (97≤c.toNat)&&decide (c.toNat≤122))||(decide (65≤c.toNat)&&decide (c.toNat≤90))||(decide (48≤c.toNat)&&decide (c.toNat≤57))
def mkP(c:UInt8)(i:Nat):Bool:=match mk15[i]? with|some m=>c==m|none=>false
def tokB(c:UInt8):Bool:=(firstI (mkP c) 15 0).isSome||letB c
theorem S_l4Letter_eq{k:Nat}(c:UInt8):S_l4Letter k (c.toNat:Int)=some (letB c):=by
 have hb:=UInt8.toNat_lt c
 rw[S_l4Letter,wrap_id (by omega) (by omega)]
 simp only[S_l1In,bif_dec,letB]
 by_cases a1:97≤c.toNat<;>by_cases a2:c.toNat≤122<;>by_cases a3:65≤c.toNat<;>by_cases a4:c.toNat≤90<;>by_cases a5:48≤c.toNat<;>by_cases a6:c.toNat≤57<;>
  simp[a1,a2,a3,a4,a5,a6,show((c.toNat:Int)≥97)=(97≤c.toNat)from by simp;omega,show((c.toNat:Int)≤122)=(c.toNat≤122)from by simp;omega,show((c.toNat:Int)≥65)=(65≤c.toNat)from by simp;omega,show((c.toNat:Int)≤90)=(c.toNat≤90)from by simp;omega,show((c.toNat:Int)≥48)=(48≤c.toNat)from by simp;omega,show((c.toNat:Int)≤57)=(c.toNat≤57)from by simp;omega]
theorem S_l4Token_eq{k:Nat}(hk:1073741824≤k)(c:UInt8):S_l4Token k (c.toNat:Int)=some (tokB c):=by
 have:=find_all (len:=15) (c:=fun i=>bif mkP c i then some true else none) (F:=fun n i=>S_l4Token_b0 k n (c.toNat:Int) i) (fun n i hi=>by
  have hl:i<mk15.length:=hi
  have e:idx ([33,35,36,37,38,39,42,43,45,46,94,95,124,126,96]:List UInt8) (i:Int)=some mk15[i]:=idx_nat hl
  have e2:decide ((i:Int)<15)=true:=decide_eq_true (by omega)
  simp only[S_l4Token_b0,e2,cond_true,e,Option.bind_some,u8_eq,wrap_succ (by omega:i<9223372036854775807),mkP,List.getElem?_eq_getElem hl]
  cases (c==mk15[i])<;>rfl) (fun n i hi=>by
  have e2:decide ((i:Int)<15)=false:=decide_eq_false (by omega)
  simp only[S_l4Token_b0,e2,cond_false]) (k:=k) (by omega)
 rw[S_l4Token,this,findI_first]
 unfold tokB
 cases firstI (mkP c) 15 0 with
 |none=>simp[ocOf,oc,S_l4Letter_eq]
 |some j=>simp[ocOf,oc]
theorem tok_tab:∀j:Fin 256,tokB (UInt8.ofNat j.val)=(letB (UInt8.ofNat j.val)||decide (Lib.indexByte mk14 (UInt8.ofNat j.val)≥0)||(UInt8.ofNat j.val==96)):=by decide+kernel
theorem tok_eq(c:UInt8):tokB c=(letB c||decide (Lib.indexByte mk14 c≥0)||(c==96)):=by
 have:=tok_tab ⟨c.toNat,UInt8.toNat_lt c⟩
 simpa using this
theorem I_isTokenByte_eq{k:Nat}(c:UInt8):I_isTokenByte k (c.toNat:Int)=some (tokB c):=by
 have hb:=UInt8.toNat_lt c
 have hi:strings_IndexByte k [33,35,36,37,38,39,42,43,45,46,94,95,124,126] (c.toNat:Int)=some (Lib.indexByte mk14 c):=by
  rw[strings_IndexByte,indexByteO,Int.toNat_natCast];simp[mk14]
 have h96:((c.toNat:Int)==96)=(c==96):=u8_eq c 96
 rw[I_isTokenByte,hi,h96,tok_eq]
 simp only[Option.bind_some,bif_dec,letB]
 by_cases a1:97≤c.toNat<;>by_cases a2:c.toNat≤122<;>by_cases a3:65≤c.toNat<;>by_cases a4:c.toNat≤90<;>by_cases a5:48≤c.toNat<;>by_cases a6:c.toNat≤57<;>by_cases a7:Lib.indexByte mk14 c≥0<;>
  simp[a1,a2,a3,a4,a5,a6,a7,show((c.toNat:Int)≥97)=(97≤c.toNat)from by simp;omega,show((c.toNat:Int)≤122)=(c.toNat≤122)from by simp;omega,show((c.toNat:Int)≥65)=(65≤c.toNat)from by simp;omega,show((c.toNat:Int)≤90)=(c.toNat≤90)from by simp;omega,show((c.toNat:Int)≥48)=(48≤c.toNat)from by simp;omega,show((c.toNat:Int)≤57)=(c.toNat≤57)from by simp;omega]
def ntP(x:List UInt8)(i:Nat):Bool:=match x[i]? with|some c=> !tokB c|none=>false
def inR(n a b:Int):Bool:=decide (a≤n)&&decide (n≤b)
theorem S_l1In_eq{k:Nat}(n a b:Int):S_l1In k n a b=some (inR n a b):=by
 rw[S_l1In,bif_dec,inR]
 by_cases h:a≤n<;>simp[h]
theorem I_inRange_eq{k:Nat}(n a b:Int):I_inRange k n a b=some (inR n a b):=by
 rw[I_inRange,bif_dec,inR]
 by_cases h:a≤n<;>simp[h]
def isTok(x:List UInt8):Bool:=(firstI (ntP x) x.length 0).isNone&&inR (x.length:Int) 1 40
theorem S_IsToken_eq{k:Nat}(hk:1073741824≤k)(x:List UInt8)(h:x.length<1073741824):S_IsToken k x=some (isTok x):=by
 have:=find_all (len:=x.length) (c:=fun i=>bif ntP x i then some false else none) (F:=fun n i=>S_IsToken_b0 k n x i) (fun n i hi=>by
  simp only[S_IsToken_b0,idx_nat hi,Option.bind_some,wrap_succ (by omega:i<9223372036854775807),bif_dec,lt_cast,hi,if_true,ntP,List.getElem?_eq_getElem hi,S_l4Token_eq hk]
  cases tokB x[i]<;>rfl) (fun n i hi=>by
  simp only[S_IsToken_b0,bif_dec,lt_cast]
  rw[if_neg (by omega)]) (k:=k) (by omega)
 rw[S_IsToken,this,findI_first]
 unfold isTok
 cases firstI (ntP x) x.length 0<;>simp[ocOf,oc,S_l1In_eq]
theorem I_IsToken_eq{k:Nat}(hk:1073741824≤k)(x:List UInt8)(h:x.length<1073741824):I_IsToken k x=some (isTok x):=by
 have:=find_all (len:=x.length) (c:=fun i=>bif ntP x i then some false else none) (F:=fun n i=>I_IsToken_b0 k n x (x.length:Int) i) (fun n i hi=>by
  simp only[I_IsToken_b0,idx_nat hi,Option.bind_some,wrap_succ (by omega:i<9223372036854775807),bif_dec,lt_cast,hi,if_true,ntP,List.getElem?_eq_getElem hi,I_isTokenByte_eq]
  cases tokB x[i]<;>rfl) (fun n i hi=>by
  simp only[I_IsToken_b0,bif_dec,lt_cast]
  rw[if_neg (by omega)]) (k:=k) (by omega)
 rw[I_IsToken,this,findI_first]
 unfold isTok
 cases firstI (ntP x) x.length 0<;>simp[ocOf,oc,I_inRange_eq]
def lowB(c:UInt8):UInt8:=bif decide (65≤c.toNat)&&decide (c.toNat≤90)then c+32 else c
def lowT(s:List UInt8):List UInt8:=s.map lowB
theorem lowB_add:∀j:Fin 256,(65≤j.val∧j.val≤90)→IntKind.wrap .u8 ((j.val:Int)+32)=(((UInt8.ofNat j.val)+32).toNat:Int):=by decide+kernel
theorem low_wrap(c:UInt8)(h:65≤c.toNat∧c.toNat≤90):IntKind.wrap .u8 ((c.toNat:Int)+32)=((c+32).toNat:Int):=by
 have:=lowB_add ⟨c.toNat,UInt8.toNat_lt c⟩ h
 simpa using this
theorem bytes_ints(s:List UInt8):bytesOf (intsOf s)=s:=by
 unfold bytesOf intsOf
 rw[List.map_map]
 conv=>rhs;rw[←List.map_id s]
 refine List.map_congr_left fun c _=> ?_
 simp
theorem ints_len(s:List UInt8):(intsOf s).length=s.length:=by unfold intsOf;simp
theorem ints_idx{s:List UInt8}{i:Nat}(h:i<s.length):idx (intsOf s) (i:Int)=some (s[i].toNat:Int):=by
 rw[idx_nat (by rw[ints_len];exact h)];simp[intsOf]
theorem ints_set(s:List UInt8)(i:Nat)(c:UInt8):(intsOf s).set i (c.toNat:Int)=intsOf (s.set i c):=by
 unfold intsOf;rw[List.map_set]
theorem low_loop{L:Nat}{F:Nat→Int→List Int→Option (List Int)}(T:∀n (i:Nat) (s:List UInt8) (h:i<s.length),s.length=L→F (n+1) (i:Int) (intsOf s)=F n ((i+1:Nat):Int) (intsOf (s.set i (lowB s[i]))))
 (E:∀n (i:Nat) (s:List UInt8),s.length≤i→s.length=L→F (n+1) (i:Int) (intsOf s)=some (intsOf s)):∀(n i:Nat) (s:List UInt8),i≤s.length→s.length -i<n→s.length=L→F n (i:Int) (intsOf s)=some (intsOf (s.take i++(s.drop i).map lowB)):=by
 intro n
 induction n with
 |zero=>intro i s _ h;omega
 |succ n ih=>
  intro i s hi hn hs
  by_cases h:i<s.length
  ·rw[T n i s h hs,ih (i+1) _ (by simp;omega) (by simp;omega) (by simpa using hs)]
   congr 2
   rw[List.drop_eq_getElem_cons h,List.map_cons]
   have e1:(s.set i (lowB s[i])).take (i+1)=s.take i++[lowB s[i]]:=by
    apply List.ext_getElem?
    intro j
    by_cases hj:j<i
    ·rw[List.getElem?_take,if_pos (by omega),List.getElem?_set_ne (by omega),List.getElem?_append_left (by simp;omega),List.getElem?_take,if_pos hj]
    ·by_cases hj2:j=i
     ·subst hj2
      rw[List.getElem?_take,if_pos (by omega),List.getElem?_set_self h,List.getElem?_append_right (by simp;omega)]
      simp[Nat.min_eq_left (Nat.le_of_lt h)]
     ·rw[List.getElem?_take,if_neg (by omega),List.getElem?_eq_none (by simp;omega)]
   have e2:(s.set i (lowB s[i])).drop (i+1)=s.drop (i+1):=by
    apply List.ext_getElem?
    intro j
    rw[List.getElem?_drop,List.getElem?_drop,List.getElem?_set_ne (by omega)]
   rw[e1,e2,List.append_assoc];rfl
  ·rw[E n i s (by omega) hs,List.drop_of_length_le (by omega),List.take_of_length_le (by omega)];simp
theorem S_LowerText_eq{k:Nat}(hk:1073741824≤k)(s:List UInt8)(h:s.length<1073741824):S_LowerText k s=some (lowT s):=by
 have:=low_loop (L:=s.length) (F:=fun n i r=>S_LowerText_b0 k n i r) (fun n i s hi hs=>by
  have hb:=UInt8.toNat_lt s[i]
  have hlen:((i:Int)<((intsOf s).length:Int)):=by rw[ints_len];omega
  simp only[S_LowerText_b0,bif_dec,hlen,if_true,S_LowerText_b1,ints_idx hi,Option.bind_some,wrap_succ (by omega:i<9223372036854775807)]
  rw[wrap_id (by omega) (by omega),S_l1In]
  by_cases c1:65≤s[i].toNat
  ·by_cases c2:s[i].toNat≤90
   ·have e1:decide ((s[i].toNat:Int)≥65)=true:=decide_eq_true (by omega)
    have e2:decide ((s[i].toNat:Int)≤90)=true:=decide_eq_true (by omega)
    have e3:lowB s[i]=s[i]+32:=by unfold lowB;rw[decide_eq_true c1,decide_eq_true c2];rfl
    simp only[e1,e2,S_LowerText_c18,cond_true,Option.bind_some,ints_idx hi,low_wrap _ ⟨c1,c2⟩,Int.toNat_natCast,ints_set,e3]
   ·have e1:decide ((s[i].toNat:Int)≥65)=true:=decide_eq_true (by omega)
    have e2:decide ((s[i].toNat:Int)≤90)=false:=decide_eq_false (by omega)
    have e3:lowB s[i]=s[i]:=by unfold lowB;rw[decide_eq_false c2];simp
    simp only[e1,e2,cond_true,cond_false,Option.bind_some,S_LowerText_c18,e3,List.set_getElem_self]
  ·have e1:decide ((s[i].toNat:Int)≥65)=false:=decide_eq_false (by omega)
   have e3:lowB s[i]=s[i]:=by unfold lowB;rw[decide_eq_false c1];simp
   simp only[e1,cond_false,Option.bind_some,S_LowerText_c18,e3,List.set_getElem_self]) (fun n i s hi _=>by
  have hlen:¬((i:Int)<((intsOf s).length:Int)):=by rw[ints_len];omega
  simp only[S_LowerText_b0,bif_dec,hlen,if_false]) k 0 s (by omega) (by omega) rfl
 have h1:S_LowerText_b0 k k 0 (intsOf s)=some (intsOf (s.take 0++(s.drop 0).map lowB)):=this
 rw[S_LowerText,h1,Option.bind_some,bytes_ints];simp[lowT]
theorem I_LowerText_eq{k:Nat}(hk:1073741824≤k)(s:List UInt8)(h:s.length<1073741824):I_LowerText k s=some (lowT s):=by
 have:=low_loop (L:=s.length) (F:=fun n i r=>I_LowerText_b0 k n (s.length:Int) i r) (fun n i t hi hs=>by
  have hb:=UInt8.toNat_lt t[i]
  have hlen:((i:Int)<(s.length:Int)):=by omega
  simp only[I_LowerText_b0,bif_dec,hlen,if_true,I_LowerText_b1,ints_idx hi,Option.bind_some,wrap_succ (by omega:i<9223372036854775807)]
  by_cases c1:65≤t[i].toNat
  ·by_cases c2:t[i].toNat≤90
   ·have e1:((t[i].toNat:Int)≥65):=by omega
    have e2:decide ((t[i].toNat:Int)≤90)=true:=decide_eq_true (by omega)
    have e3:lowB t[i]=t[i]+32:=by unfold lowB;rw[decide_eq_true c1,decide_eq_true c2];rfl
    simp only[e1,e2,if_true,I_LowerText_c20,cond_true,Option.bind_some,ints_idx hi,low_wrap _ ⟨c1,c2⟩,Int.toNat_natCast,ints_set,e3]
   ·have e1:((t[i].toNat:Int)≥65):=by omega
    have e2:decide ((t[i].toNat:Int)≤90)=false:=decide_eq_false (by omega)
    have e3:lowB t[i]=t[i]:=by unfold lowB;rw[decide_eq_false c2];simp
    simp only[e1,e2,if_true,I_LowerText_c20,cond_false,Option.bind_some,e3,List.set_getElem_self]
  ·have e1:¬((t[i].toNat:Int)≥65):=by omega
   have e3:lowB t[i]=t[i]:=by unfold lowB;rw[decide_eq_false c1];simp
   simp only[e1,if_false,I_LowerText_c20,cond_false,Option.bind_some,e3,List.set_getElem_self]) (fun n i t hi ht=>by
  have hlen:¬((i:Int)<(s.length:Int)):=by omega
  simp only[I_LowerText_b0,bif_dec,hlen,if_false]) k 0 s (by omega) (by omega) rfl
 have h1:I_LowerText_b0 k k (s.length:Int) 0 (intsOf s)=some (intsOf (s.take 0++(s.drop 0).map lowB)):=this
 rw[I_LowerText,ints_len,h1,Option.bind_some,bytes_ints];simp[lowT]
theorem lowT_len(s:List UInt8):(lowT s).length=s.length:=by unfold lowT;simp
def hexV(c:UInt8):Int:=if 48≤c.toNat∧c.toNat≤57 then(c.toNat:Int) -48 else if 97≤c.toNat∧c.toNat≤102 then(c.toNat:Int) -87 else if 65≤c.toNat∧c.toNat≤70 then(c.toNat:Int) -55 else -1
def hexC:List UInt8:=[48,49,50,51,52,53,54,55,56,57,65,66,67,68,69,70]
theorem S_hex0:∀j:Fin 256,S_l12Hex 0 (j.val:Int)=some (hexV (UInt8.ofNat j.val)):=by decide+kernel
theorem S_l12Hex_eq{k:Nat}(c:UInt8):S_l12Hex k (c.toNat:Int)=some (hexV c):=by
 have:=S_hex0 ⟨c.toNat,UInt8.toNat_lt c⟩
 simp only[UInt8.ofNat_toNat]at this
 exact this
theorem I_hex0:∀j:Fin 256,I_hexDigit 0 (j.val:Int)=some (hexV (UInt8.ofNat j.val)):=by decide+kernel
theorem I_hexDigit_eq{k:Nat}(c:UInt8):I_hexDigit k (c.toNat:Int)=some (hexV c):=by
 have:=I_hex0 ⟨c.toNat,UInt8.toNat_lt c⟩
 simp only[UInt8.ofNat_toNat]at this
 exact this
theorem hexV_lt(c:UInt8):hexV c<16:=by
 unfold hexV
 split
 ·omega
 ·split
  ·omega
  ·split<;>omega
def vAB(a b:Nat):UInt8:=UInt8.ofNat (16*a+b)
def unres(v:UInt8):Bool:=letB v||v==45||v==46||v==95||v==126
def outAB(a b:Nat):List UInt8:=bif unres (vAB a b)then [vAB a b]else [37,hexC.getD a 0,hexC.getD b 0]
theorem outAB_len(a b:Nat):(outAB a b).length≤3:=by unfold outAB;cases unres (vAB a b)<;>simp
theorem ab_tab:∀a b:Fin 16,IntKind.wrap .u8 (IntKind.wrap .i64 (IntKind.wrap .i64 ((16:Int)*(a.val:Int))+(b.val:Int)))=((vAB a.val b.val).toNat:Int)∧shrI .u8 ((vAB a.val b.val).toNat:Int) 4=some (a.val:Int)∧andI .u8 ((vAB a.val b.val).toNat:Int) 15=(b.val:Int):=by decide+kernel
theorem idx_hexC{a:Nat}(h:a<16):idx ([48,49,50,51,52,53,54,55,56,57,65,66,67,68,69,70]:List UInt8) (a:Int)=some (hexC.getD a 0):=by
 have hl:a<hexC.length:=h
 have:idx hexC (a:Int)=some hexC[a]:=idx_nat hl
 rw[show hexC.getD a 0=hexC[a]by simp[List.getD,hl]]
 exact this
def dec:List UInt8→List UInt8→Option (List UInt8)
 |[],acc=>some acc
 |[c],acc=>bif c==37 then none else some (acc++[c])
 |[c,d],acc=>bif c==37 then none else dec [d] (acc++[c])
 |c::h::l::r,acc=>bif c==37 then(bif decide (0≤hexV h)&&decide (0≤hexV l)then dec r (acc++outAB (hexV h).toNat (hexV l).toNat)else none)else dec (h::l::r) (acc++[c])
theorem decA1(c:UInt8)(acc:List UInt8):dec [c] acc=bif c==37 then none else some (acc++[c]):=rfl
theorem decA2(c d:UInt8)(acc:List UInt8):dec [c,d] acc=bif c==37 then none else dec [d] (acc++[c]):=rfl
theorem decA3(c h l:UInt8)(r acc:List UInt8):dec (c::h::l::r) acc=bif c==37 then(bif decide (0≤hexV h)&&decide (0≤hexV l)then dec r (acc++outAB (hexV h).toNat (hexV l).toNat)else none)else dec (h::l::r) (acc++[c]):=rfl
theorem dec_p(r acc:List UInt8){c:UInt8}(h:(c==37)=false):dec (c::r) acc=dec r (acc++[c]):=by
 match r with
 |[]=>rw[decA1,h];rfl
 |[d]=>rw[decA2,h];rfl
 |d::e::r=>rw[decA3,h];rfl
theorem dec_s(r acc:List UInt8){c:UInt8}(h:(c==37)=true)(hr:r.length<2):dec (c::r) acc=none:=by
 match r,hr with
 |[],_=>rw[decA1,h];rfl
 |[d],_=>rw[decA2,h];rfl
theorem dec_h(r acc:List UInt8){c u l:UInt8}(h:(c==37)=true):dec (c::u::l::r) acc=bif decide (0≤hexV u)&&decide (0≤hexV l)then dec r (acc++outAB (hexV u).toNat (hexV l).toNat)else none:=by rw[decA3,h];rfl
theorem intsOf_app(a b:List UInt8):intsOf a++intsOf b=intsOf (a++b):=by unfold intsOf;simp
theorem S_emit{k:Nat}{x:List UInt8}{x5:Int}{acc:List UInt8}{a b:Nat}(ha:a<16)(hb:b<16)(hl:acc.length<1073741824){f:Bool}(hf:f=unres (vAB a b)):
 S_l12Plain_c75 k x x5 ((vAB a b).toNat:Int) f (intsOf acc)=some (intsOf (acc++outAB a b)):=by
 obtain⟨_,h2,h3⟩:=ab_tab ⟨a,ha⟩ ⟨b,hb⟩
 simp only at h2 h3
 subst hf
 unfold S_l12Plain_c75 outAB
 cases unres (vAB a b)with
 |true=>rw[cond_true,cond_true,appn_ok (by simp[intsOf];omega),←intsOf_app];rfl
 |false=>rw[cond_false,cond_false,h2,Option.bind_some,idx_hexC ha,Option.bind_some,h3,idx_hexC hb,Option.bind_some,appn_ok (by simp[intsOf];omega),←intsOf_app];rfl
theorem S_plain_loop{k:Nat}{x:List UInt8}(hx:x.length<1073741000):∀(n i:Nat) (acc:List UInt8),x.length -i<n→i≤x.length→acc.length≤i→
 S_l12Plain_b0 k n x (i:Int) (intsOf acc)=some (match dec (x.drop i) acc with|some t=> .nrm (intsOf t)|none=> .oth ([],false)):=by
 intro n
 induction n with
 |zero=>intro i acc h;omega
 |succ n ih=>
  intro i acc hn hi ha
  rw[S_l12Plain_b0,bif_dec]
  by_cases c:i<x.length
  ·have u37:((UInt8.toNat x[i]:Int) !=37)= !(x[i]==37):=by unfold bne;rw[←u8_eq x[i] 37];rfl
   rw[if_pos (by omega),S_l12Plain_b1,idx_nat c,Option.bind_some,u37,List.drop_eq_getElem_cons c]
   cases h37:(x[i]==37)with
   |false=>
    rw[Bool.not_false,cond_true,Option.bind_some,appn_ok (by simp[intsOf];omega),Option.bind_some,dec_p _ _ h37]
    simp only[Option.bind_some,oc]
    rw[wrap_succ (by omega),show intsOf acc++[(x[i].toNat:Int)]=intsOf (acc++[x[i]])from intsOf_app acc [x[i]]]
    exact ih (i+1) (acc++[x[i]]) (by omega) (by omega) (by simp;omega)
   |true=>
    have w2:IntKind.wrap .i64 ((i:Int)+2)=((i+2:Nat):Int):=by rw[wrap_id (by omega) (by omega)];omega
    rw[Bool.not_true,cond_false,w2,wrap_succ (by omega),bif_dec]
    by_cases c2:i+2<x.length
    ·have c1:i+1<x.length:=by omega
     rw[if_neg (by omega),idx_nat c1,Option.bind_some,S_l12Hex_eq,Option.bind_some,bif_dec,List.drop_eq_getElem_cons c1,List.drop_eq_getElem_cons c2,dec_h _ _ h37]
     by_cases hu:hexV x[i+1]<0
     ·rw[if_pos hu,decide_eq_false (by omega),Bool.false_and];rfl
     ·rw[if_neg hu,idx_nat c2,Option.bind_some,S_l12Hex_eq,Option.bind_some,bif_dec,decide_eq_true (by omega),Bool.true_and]
      by_cases hv:hexV x[i+2]<0
      ·rw[if_pos hv,decide_eq_false (by omega)];rfl
      ·rw[if_neg hv,decide_eq_true (by omega),cond_true]
       have g1:=hexV_lt x[i+1]
       have g2:=hexV_lt x[i+2]
       obtain⟨a,hav⟩:=Int.eq_ofNat_of_zero_le (show 0≤hexV x[i+1]by omega)
       obtain⟨b,hbv⟩:=Int.eq_ofNat_of_zero_le (show 0≤hexV x[i+2]by omega)
       have ga:a<16:=by omega
       have gb:b<16:=by omega
       have tb:=(ab_tab ⟨a,ga⟩ ⟨b,gb⟩).1
       simp only at tb
       simp only[S_l12Hex_eq,Option.bind_some,hav,hbv]
       rw[tb,S_l4Letter_eq,Option.bind_some,Int.toNat_natCast,Int.toNat_natCast]
       have e45:(((vAB a b).toNat:Int)==45)=(vAB a b==45):=u8_eq _ 45
       have e46:(((vAB a b).toNat:Int)==46)=(vAB a b==46):=u8_eq _ 46
       have e95:(((vAB a b).toNat:Int)==95)=(vAB a b==95):=u8_eq _ 95
       have e126:(((vAB a b).toNat:Int)==126)=(vAB a b==126):=u8_eq _ 126
       have ol:=outAB_len a b
       have fin:=ih (i+3) (acc++outAB a b) (by omega) (by omega) (by simp;omega)
       have w3:IntKind.wrap .i64 (((i+2:Nat):Int)+1)=((i+3:Nat):Int):=wrap_succ (by omega)
       rw[e45,e46,e95,e126]
       have em:∀{f:Bool},f=unres (vAB a b)→S_l12Plain_c75 k x (i:Int) ((vAB a b).toNat:Int) f (intsOf acc)=some (intsOf (acc++outAB a b)):=fun hf=>S_emit ga gb (by omega) hf
       have e1:∀o:Option (Oc (Int×List Int) (List UInt8×Bool)),o=some (.nrm (((i+2:Nat):Int),intsOf (acc++outAB a b)))→(o.bind fun o1=>oc o1 (fun o2=>S_l12Plain_b0 k n x (IntKind.wrap .i64 (o2.1+1)) o2.2) fun o3=>some (.oth o3))=some (match dec (x.drop (i+2+1)) (acc++outAB a b)with|some t=> .nrm (intsOf t)|none=> .oth ([],false)):=fun o ho=>by
        rw[ho,Option.bind_some]
        show S_l12Plain_b0 k n x (IntKind.wrap .i64 (((i+2:Nat):Int)+1)) (intsOf (acc++outAB a b))=_
        rw[w3];exact fin
       refine e1 _ ?_
       cases hL:letB (vAB a b)with
       |true=>rw[cond_true,em (by unfold unres;rw[hL];rfl)];rfl
       |false=>
        cases h1:(vAB a b==45)with
        |true=>rw[cond_false,cond_true,em (by unfold unres;rw[hL,h1];rfl)];rfl
        |false=>
         cases h2:(vAB a b==46)with
         |true=>rw[cond_false,cond_false,cond_true,em (by unfold unres;rw[hL,h1,h2];rfl)];rfl
         |false=>
          cases h3:(vAB a b==95)with
          |true=>rw[cond_false,cond_false,cond_false,cond_true,em (by unfold unres;rw[hL,h1,h2,h3];rfl)];rfl
          |false=>rw[cond_false,cond_false,cond_false,cond_false,em (by unfold unres;rw[hL,h1,h2,h3];rfl)];rfl
    ·rw[if_pos (by omega),dec_s _ _ h37 (by simp;omega)];rfl
  ·rw[if_neg (by omega),List.drop_of_length_le (by omega)];rfl
def decT(x:List UInt8):List UInt8×Bool:=match dec x []with|some t=>(t,true)|none=>([],false)
theorem S_l12Plain_eq{k:Nat}(hk:1073741824≤k)(x:List UInt8)(h:x.length<1073741000):S_l12Plain k x=some (decT x):=by
 have:=S_plain_loop (k:=k) h k 0 [] (by omega) (by omega) (by simp)
 rw[show(((0:Nat)):Int)=0 from rfl,show intsOf []=[]from rfl,List.drop_zero]at this
 rw[S_l12Plain,this,Option.bind_some]
 unfold decT
 cases dec x []with
 |none=>rfl
 |some t=>simp only[oc,bytes_ints]
theorem tl_tab:∀j:Fin 256,decide (Lib.indexByte [45,46,95,126] (UInt8.ofNat j.val)≥0)=(UInt8.ofNat j.val==45||UInt8.ofNat j.val==46||UInt8.ofNat j.val==95||UInt8.ofNat j.val==126):=by decide+kernel
theorem tl_eq(c:UInt8):decide (Lib.indexByte [45,46,95,126] c≥0)=(c==45||c==46||c==95||c==126):=by
 have:=tl_tab ⟨c.toNat,UInt8.toNat_lt c⟩
 simpa using this
theorem bind_of{α β:Type}{o:Option α}{x:α}{g:α→Option β}(h:o=some x):o.bind g=g x:=by rw[h];rfl
theorem unres_int(v:UInt8):unres v=((decide ((v.toNat:Int)≥97)&&decide ((v.toNat:Int)≤122))||(decide ((v.toNat:Int)≥65)&&decide ((v.toNat:Int)≤90))||(decide ((v.toNat:Int)≥48)&&decide ((v.toNat:Int)≤57))||decide (Lib.indexByte [45,46,95,126] v≥0)):=by
 rw[tl_eq]
 unfold unres letB
 have e1:decide ((v.toNat:Int)≥97)=decide (97≤v.toNat):=decide_eq_decide.2 (by omega)
 have e2:decide ((v.toNat:Int)≤122)=decide (v.toNat≤122):=decide_eq_decide.2 (by omega)
 have e3:decide ((v.toNat:Int)≥65)=decide (65≤v.toNat):=decide_eq_decide.2 (by omega)
 have e4:decide ((v.toNat:Int)≤90)=decide (v.toNat≤90):=decide_eq_decide.2 (by omega)
 have e5:decide ((v.toNat:Int)≥48)=decide (48≤v.toNat):=decide_eq_decide.2 (by omega)
 have e6:decide ((v.toNat:Int)≤57)=decide (v.toNat≤57):=decide_eq_decide.2 (by omega)
 rw[e1,e2,e3,e4,e5,e6]
 simp only[Bool.or_assoc]
theorem I_emit{k:Nat}{x:List UInt8}{x5:Int}{acc:List UInt8}{a b:Nat}(ha:a<16)(hb:b<16)(hl:acc.length<1073741824){f:Bool}(hf:f=unres (vAB a b)):
 I_decodedTarget_c88 k x x5 (a:Int) (b:Int) ((vAB a b).toNat:Int) f (intsOf acc)=some (intsOf (acc++outAB a b)):=by
 subst hf
 unfold I_decodedTarget_c88 outAB
 cases unres (vAB a b)with
 |true=>rw[cond_true,cond_true,appn_ok (by simp[intsOf];omega),←intsOf_app];rfl
 |false=>rw[cond_false,cond_false,idx_hexC ha,Option.bind_some,idx_hexC hb,Option.bind_some,appn_ok (by simp[intsOf];omega),←intsOf_app];rfl
theorem I_dec_loop{k:Nat}{x:List UInt8}(hx:x.length<1073741000):∀(n i:Nat) (acc:List UInt8),x.length -i<n→i≤x.length→acc.length≤i→
 I_decodedTarget_b0 k n x (i:Int) (intsOf acc)=some (match dec (x.drop i) acc with|some t=> .nrm (intsOf t)|none=> .oth ([],false)):=by
 intro n
 induction n with
 |zero=>intro i acc h;omega
 |succ n ih=>
  intro i acc hn hi ha
  rw[I_decodedTarget_b0,bif_dec]
  by_cases c:i<x.length
  ·have u37:((UInt8.toNat x[i]:Int) !=37)= !(x[i]==37):=by unfold bne;rw[←u8_eq x[i] 37];rfl
   rw[if_pos (by omega),I_decodedTarget_b1,idx_nat c,Option.bind_some,u37,List.drop_eq_getElem_cons c]
   cases h37:(x[i]==37)with
   |false=>
    rw[Bool.not_false,cond_true,Option.bind_some,appn_ok (by simp[intsOf];omega),Option.bind_some,dec_p _ _ h37]
    simp only[Option.bind_some,oc]
    rw[wrap_succ (by omega),show intsOf acc++[(x[i].toNat:Int)]=intsOf (acc++[x[i]])from intsOf_app acc [x[i]]]
    exact ih (i+1) (acc++[x[i]]) (by omega) (by omega) (by simp;omega)
   |true=>
    have w2:IntKind.wrap .i64 ((i:Int)+2)=((i+2:Nat):Int):=by rw[wrap_id (by omega) (by omega)];omega
    rw[Bool.not_true,cond_false,w2,wrap_succ (by omega),bif_dec]
    by_cases c2:i+2<x.length
    ·have c1:i+1<x.length:=by omega
     rw[if_neg (by omega),idx_nat c1,Option.bind_some,I_hexDigit_eq,Option.bind_some,bif_dec,List.drop_eq_getElem_cons c1,List.drop_eq_getElem_cons c2,dec_h _ _ h37]
     by_cases hu:hexV x[i+1]<0
     ·rw[if_pos hu,decide_eq_false (by omega),Bool.false_and];rfl
     ·rw[if_neg hu,idx_nat c2,Option.bind_some,I_hexDigit_eq,Option.bind_some,bif_dec,decide_eq_true (by omega),Bool.true_and]
      by_cases hv:hexV x[i+2]<0
      ·rw[if_pos hv,decide_eq_false (by omega)];rfl
      ·rw[if_neg hv,decide_eq_true (by omega),cond_true]
       have g1:=hexV_lt x[i+1]
       have g2:=hexV_lt x[i+2]
       obtain⟨a,hav⟩:=Int.eq_ofNat_of_zero_le (show 0≤hexV x[i+1]by omega)
       obtain⟨b,hbv⟩:=Int.eq_ofNat_of_zero_le (show 0≤hexV x[i+2]by omega)
       have ga:a<16:=by omega
       have gb:b<16:=by omega
       have tb:=(ab_tab ⟨a,ga⟩ ⟨b,gb⟩).1
       simp only at tb
       have hI:strings_IndexByte k ([45,46,95,126]:List UInt8) ((vAB a b).toNat:Int)=some (Lib.indexByte [45,46,95,126] (vAB a b)):=by
        rw[strings_IndexByte,indexByteO,Int.toNat_natCast];simp
       simp only[I_hexDigit_eq,Option.bind_some,hav,hbv]
       rw[tb,Int.toNat_natCast,Int.toNat_natCast]
       simp only[hI,Option.bind_some]
       have ol:=outAB_len a b
       have fin:=ih (i+3) (acc++outAB a b) (by omega) (by omega) (by simp;omega)
       have w3:IntKind.wrap .i64 (((i+2:Nat):Int)+1)=((i+3:Nat):Int):=wrap_succ (by omega)
       have em:=I_emit (k:=k) (x:=x) (x5:=(i:Int)) (acc:=acc) ga gb (by omega) (unres_int (vAB a b)).symm
       have e1:∀o:Option (Oc (Int×List Int) (List UInt8×Bool)),o=some (.nrm (((i+2:Nat):Int),intsOf (acc++outAB a b)))→(o.bind fun o1=>oc o1 (fun o2=>I_decodedTarget_b0 k n x (IntKind.wrap .i64 (o2.1+1)) o2.2) fun o3=>some (.oth o3))=some (match dec (x.drop (i+2+1)) (acc++outAB a b)with|some t=> .nrm (intsOf t)|none=> .oth ([],false)):=fun o ho=>by
        rw[ho,Option.bind_some]
        show I_decodedTarget_b0 k n x (IntKind.wrap .i64 (((i+2:Nat):Int)+1)) (intsOf (acc++outAB a b))=_
        rw[w3];exact fin
       refine e1 _ ?_
       revert em
       generalize decide (((vAB a b).toNat:Int)≥97)=d1
       generalize decide (((vAB a b).toNat:Int)≤122)=d2
       generalize decide (((vAB a b).toNat:Int)≥65)=d3
       generalize decide (((vAB a b).toNat:Int)≤90)=d4
       generalize decide (((vAB a b).toNat:Int)≥48)=d5
       generalize decide (((vAB a b).toNat:Int)≤57)=d6
       generalize decide (Lib.indexByte [45,46,95,126] (vAB a b)≥0)=d7
       intro em
       cases d1<;>cases d2<;>cases d3<;>cases d4<;>cases d5<;>cases d6<;>exact bind_of em
    ·rw[if_pos (by omega),dec_s _ _ h37 (by simp;omega)];rfl
  ·rw[if_neg (by omega),List.drop_of_length_le (by omega)];rfl
theorem I_decodedTarget_eq{k:Nat}(hk:1073741824≤k)(x:List UInt8)(h:x.length<1073741000):I_decodedTarget k x=some (decT x):=by
 have:=I_dec_loop (k:=k) h k 0 [] (by omega) (by omega) (by simp)
 rw[show(((0:Nat)):Int)=0 from rfl,show intsOf []=[]from rfl,List.drop_zero]at this
 rw[I_decodedTarget,this,Option.bind_some]
 unfold decT
 cases dec x []with
 |none=>rfl
 |some t=>simp only[oc,bytes_ints]
def blank(c:UInt8):Bool:=c==32||c==9
def rtrim(x:List UInt8):List UInt8:=(x.reverse.dropWhile blank).reverse
def trimT(x:List UInt8):List UInt8:=rtrim (x.dropWhile blank)
theorem rtrim_cons(e:UInt8)(l:List UInt8):rtrim (e::l)=if rtrim l=[]then(if blank e then []else [e])else e::rtrim l:=by
 unfold rtrim
 rw[List.reverse_cons,List.dropWhile_append]
 cases h:l.reverse.dropWhile blank with
 |nil=>cases hb:blank e<;>simp[List.dropWhile_cons,hb]
 |cons a m=>simp
theorem rtrim_snoc(l:List UInt8)(c:UInt8):rtrim (l++[c])=if blank c then rtrim l else l++[c]:=by
 unfold rtrim
 rw[List.reverse_append]
 cases hb:blank c<;>simp[List.dropWhile_cons,hb]
theorem trim_comm:∀x:List UInt8,rtrim (x.dropWhile blank)=(rtrim x).dropWhile blank
 |[]=>rfl
 |e::l=>by
  have ih:=trim_comm l
  rw[rtrim_cons,List.dropWhile_cons]
  cases hb:blank e with
  |true=>
   by_cases h:rtrim l=[]
   ·rw[h]at ih;simp[h,ih]
   ·simp[h,List.dropWhile_cons,hb,ih]
  |false=>
   rw[if_neg (by simp),rtrim_cons]
   by_cases h:rtrim l=[]
   ·simp[h,List.dropWhile_cons,hb]
   ·simp[h,List.dropWhile_cons,hb]
theorem trimS_eq(x:List UInt8):Lib.trimS x [32,9]=trimT x:=by
 have hc:(fun b:UInt8=>([32,9]:List UInt8).contains b)=blank:=by
  funext b;unfold blank
  simp only[List.contains,List.elem]
  cases h1:(b==32)<;>cases h2:(b==9)<;>rfl
 unfold Lib.trimS Lib.trimLeftS Lib.trimRightS trimT
 rw[hc,trim_comm];rfl
theorem rtrim_len(x:List UInt8):(rtrim x).length≤x.length:=by
 unfold rtrim
 have:=(List.dropWhile_sublist blank (l:=x.reverse)).length_le
 simpa using this
theorem trimT_len(x:List UInt8):(trimT x).length≤x.length:=by
 have h1:=(List.dropWhile_sublist blank (l:=x)).length_le
 have h2:=rtrim_len (x.dropWhile blank)
 unfold trimT;omega
theorem I_TrimText_eq{k:Nat}(x:List UInt8)(h:x.length<1073741824):I_TrimText k x=some (trimT x):=by
 have hd:(decide (x.length≤9223372036854775807)&&decide (([32,9]:List UInt8).length<4294967281)&&([32,9]:List UInt8).all (fun b=>decide (b.toNat<128)))=true:=by
  rw[Bool.and_eq_true,Bool.and_eq_true];exact⟨⟨decide_eq_true (by omega),by decide⟩,by decide⟩
 rw[I_TrimText,strings_Trim,trimO,hd,cond_true,trimS_eq];rfl
theorem S_l4Blank_eq{k:Nat}(c:UInt8):S_l4Blank k (UInt8.toNat c:Int)=some (blank c):=by
 have h1:=u8_eq c 32
 have h2:=u8_eq c 9
 rw[S_l4Blank,show(32:Int)=((32:UInt8).toNat:Int)from rfl,h1,show(9:Int)=((9:UInt8).toNat:Int)from rfl,h2]
 unfold blank
 cases (c==32)<;>rfl
theorem S_Trim_1{k:Nat}:∀(n:Nat) (x:List UInt8),x.length<n→x.length<1073741824→S_TrimText_b0 k n x=some (x.dropWhile blank):=by
 intro n
 induction n with
 |zero=>intro x h;omega
 |succ n ih=>
  intro x h hx
  rw[S_TrimText_b0,bif_dec]
  cases x with
  |nil=>rw[if_neg (by simp)];rfl
  |cons c l=>
   have e:idx (c::l) (0:Int)=some c:=rfl
   have hs:ssub (c::l) (1:Int) ((c::l).length:Int)=some l:=by
    have:=ssub_drop (x:=c::l) (i:=1) (by simp)
    simpa using this
   rw[if_pos (by rw[List.length_cons];omega),e,Option.bind_some,S_l4Blank_eq,Option.bind_some,List.dropWhile_cons]
   cases blank c with
   |true=>rw[cond_true,hs,Option.bind_some,ih l (by simp at h;omega) (by simp at hx;omega),if_pos rfl]
   |false=>rw[cond_false,if_neg (by simp)]
theorem S_Trim_2{k:Nat}:∀(n:Nat) (x:List UInt8),x.length<n→x.length<1073741824→S_TrimText_b2 k n x=some (rtrim x):=by
 intro n
 induction n with
 |zero=>intro x h;omega
 |succ n ih=>
  intro x h hx
  rw[S_TrimText_b2,bif_dec]
  rcases List.eq_nil_or_concat x with rfl|⟨l,c,rfl⟩
  ·rw[if_neg (by simp)];rfl
  ·rw[List.concat_eq_append]at*
   have hl:(l++[c]).length=l.length+1:=by simp
   have e1:IntKind.wrap .i64 (((l++[c]).length:Int) -1)=(l.length:Int):=by rw[wrap_id (by omega) (by omega)];omega
   have e2:idx (l++[c]) (l.length:Int)=some c:=by
    show(l++[c])[l.length]? =some c
    simp
   have e3:ssub (l++[c]) (0:Int) (l.length:Int)=some l:=by
    rw[ssub_take (by omega)];simp
   rw[if_pos (by omega),e1,e2,Option.bind_some,S_l4Blank_eq,Option.bind_some,rtrim_snoc]
   cases blank c with
   |true=>rw[cond_true,e3,Option.bind_some,ih l (by omega) (by omega),if_pos rfl]
   |false=>rw[cond_false,if_neg (by simp)]
theorem S_TrimText_eq{k:Nat}(hk:1073741824≤k)(x:List UInt8)(h:x.length<1073741824):S_TrimText k x=some (trimT x):=by
 have h1:=(List.dropWhile_sublist blank (l:=x)).length_le
 rw[S_TrimText,S_Trim_1 k x (by omega) h,Option.bind_some,S_Trim_2 k _ (by omega) (by omega)];rfl
def cutG(b:UInt8):List UInt8→Bool→Bool→List UInt8→List (List UInt8)
 |[],_,_,cur=>[cur]
 |c::r,q,true,cur=>cutG b r q false (cur++[c])
 |c::r,q,false,cur=>bif q&&c==92 then cutG b r q true (cur++[c])else bif c==34 then cutG b r (!q) false (cur++[c])else bif !q&&c==b then cur::cutG b r q false []else cutG b r q false (cur++[c])
theorem cutG_mem(b:UInt8):∀(l:List UInt8) (q sk:Bool) (cur p:List UInt8),p∈cutG b l q sk cur→p.length≤cur.length+l.length
 |[],q,sk,cur,p,h=>by
  unfold cutG at h
  have:p=cur:=by simpa using h
  rw[this];omega
 |c::r,q,true,cur,p,h=>by
  have:=cutG_mem b r q false (cur++[c]) p (by simpa[cutG]using h)
  simp at this ⊢;omega
 |c::r,q,false,cur,p,h=>by
  rw[cutG]at h
  have step:∀q' sk',p∈cutG b r q' sk' (cur++[c])→p.length≤cur.length+(c::r).length:=fun q' sk' h=>by
   have:=cutG_mem b r q' sk' (cur++[c]) p h
   simp at this ⊢;omega
  cases h1:(q&&c==92)with
  |true=>rw[h1]at h;exact step _ _ h
  |false=>
   rw[h1]at h
   cases h2:(c==34)with
   |true=>rw[h2]at h;exact step _ _ h
   |false=>
    rw[h2]at h
    cases h3:(!q&&c==b)with
    |false=>rw[h3]at h;exact step _ _ h
    |true=>
     rw[h3]at h
     simp only[cond_true,cond_false]at h
     rcases List.mem_cons.1 h with rfl|h
     ·omega
     ·have:=cutG_mem b r q false [] p h
      simp at this ⊢;omega
theorem cutG_len(b:UInt8):∀(l:List UInt8) (q sk:Bool) (cur:List UInt8),(cutG b l q sk cur).length≤l.length+1
 |[],q,sk,cur=>by simp[cutG]
 |c::r,q,true,cur=>by have:=cutG_len b r q false (cur++[c]);simp[cutG];omega
 |c::r,q,false,cur=>by
  rw[cutG]
  have s1:=fun q' sk' cur'=>cutG_len b r q' sk' cur'
  cases (q&&c==92)with
  |true=>rw[cond_true];have:=s1 q true (cur++[c]);simp;omega
  |false=>
   cases (c==34)with
   |true=>rw[cond_false,cond_true];have:=s1 (!q) false (cur++[c]);simp;omega
   |false=>
    cases (!q&&c==b)with
    |true=>rw[cond_false,cond_false,cond_true];have:=s1 q false [];simp;omega
    |false=>rw[cond_false,cond_false,cond_false];have:=s1 q false (cur++[c]);simp;omega
def sub(x:List UInt8)(f i:Nat):List UInt8:=(x.take i).drop f
theorem sub_succ{x:List UInt8}{f i:Nat}(hf:f≤i)(hi:i<x.length):sub x f (i+1)=sub x f i++[x[i]]:=by
 unfold sub
 have:x.take (i+1)=x.take i++[x[i]]:=by rw[List.take_add_one,List.getElem?_eq_getElem hi];rfl
 rw[this,List.drop_append_of_le_length (by simp;omega)]
theorem sub_self(x:List UInt8)(i:Nat):sub x i i=[]:=by unfold sub;rw[List.drop_eq_nil_iff];simp;omega
theorem sub_end{x:List UInt8}{f i:Nat}(h:x.length≤i):sub x f i=x.drop f:=by unfold sub;rw[List.take_of_length_le h]
theorem ssub_sub{x:List UInt8}{f i:Nat}(h1:f≤i)(h:i≤x.length):ssub x (f:Int) (i:Int)=some (sub x f i):=ssub_mid h1 h
theorem cutG_skip{b:UInt8}{x:List UInt8}{f i:Nat}{q:Bool}(hf:f≤i)(hi:i<x.length):cutG b (x.drop (i+1)) q true (sub x f i++[x[i]])=cutG b (x.drop (i+2)) q false (sub x f (i+2)):=by
 rw[←sub_succ hf hi]
 by_cases h:i+1<x.length
 ·rw[List.drop_eq_getElem_cons h,cutG,sub_succ (by omega) h]
 ·rw[List.drop_of_length_le (by omega),List.drop_of_length_le (by omega),cutG,cutG,sub_end (by omega),sub_end (by omega)]
theorem S_l4Cut_loop{k:Nat}{x:List UInt8}{b:UInt8}(hx:x.length<1073741824):∀(n i f:Nat) (q:Bool) (r:List (List UInt8)),f≤i→f≤x.length→x.length+2≤i+n→i≤x.length+1→r.length≤i→
 ∃(f':Nat) (r':List (List UInt8)),S_l4Cut_b0 k n x (b.toNat:Int) (f:Int) q (i:Int) r=some ((f':Int),r')∧f'≤x.length∧r'.length≤x.length+1∧r'++[x.drop f']=r++cutG b (x.drop i) q false (sub x f i):=by
 intro n
 induction n with
 |zero=>intro i f q r _ _ h h2;omega
 |succ n ih=>
  intro i f q r hf hf2 hn hi hr
  rw[S_l4Cut_b0,bif_dec]
  by_cases c:i<x.length
  ·have u92:=u8_eq x[i] 92
   have u34:=u8_eq x[i] 34
   have ub:=u8_eq x[i] b
   rw[show(((92:UInt8).toNat:Nat):Int)=92 from rfl]at u92
   rw[show(((34:UInt8).toNat:Nat):Int)=34 from rfl]at u34
   rw[if_pos (by omega),List.drop_eq_getElem_cons c,cutG]
   simp only[S_l4Cut_b1,S_l4Cut_b2,idx_nat c,Option.bind_some,S_l4Cut_c16,S_l4Cut_c26,S_l4Cut_c33,u92,u34,ub]
   have plain:=fun q'=>ih (i+1) f q' r (by omega) hf2 (by omega) (by omega) (by omega)
   cases q with
   |true=>
    cases h1:(x[i]==92)with
    |true=>
     simp only[cond_true,Option.bind_some,Bool.true_and]
     rw[wrap_succ (by omega),wrap_succ (by omega),cutG_skip hf c]
     exact ih (i+2) f true r (by omega) hf2 (by omega) (by omega) (by omega)
    |false=>
     simp only[cond_true,cond_false,Option.bind_some,Bool.true_and]
     rw[←sub_succ hf c]
     cases h2:(x[i]==34)with
     |true=>simp only[cond_true,Option.bind_some];rw[wrap_succ (by omega)];exact plain false
     |false=>simp only[cond_false,Bool.not_true,Option.bind_some,Bool.false_and];rw[wrap_succ (by omega)];exact plain true
   |false=>
    simp only[cond_false,Option.bind_some,Bool.false_and]
    cases h2:(x[i]==34)with
    |true=>simp only[cond_true,Option.bind_some];rw[wrap_succ (by omega),←sub_succ hf c];exact plain true
    |false=>
     simp only[cond_false,Bool.not_false,cond_true,Bool.true_and]
     cases h3:(x[i]==b)with
     |true=>
      simp only[cond_true]
      rw[ssub_sub hf (by omega),Option.bind_some,appn_ok (by simp;omega)]
      simp only[Option.bind_some]
      rw[wrap_succ (by omega)]
      obtain⟨f',r',e1,e2,e3,e4⟩:=ih (i+1) (i+1) false (r++[sub x f i]) (by omega) (by omega) (by omega) (by omega) (by simp;omega)
      rw[sub_self]at e4
      exact⟨f',r',e1,e2,e3,by rw[e4];simp⟩
     |false=>simp only[cond_false,Option.bind_some];rw[wrap_succ (by omega),←sub_succ hf c];exact plain false
  ·rw[if_neg (by omega),List.drop_of_length_le (by omega),cutG,sub_end (by omega)]
   exact⟨f,r,rfl,hf2,by omega,rfl⟩
theorem S_l4Cut_eq{k:Nat}(hk:1073741824≤k)(x:List UInt8)(b:UInt8)(h:x.length<1073741000):S_l4Cut k x (b.toNat:Int)=some (cutG b x false false []):=by
 obtain⟨f',r',e1,e2,e3,e4⟩:=S_l4Cut_loop (k:=k) (b:=b) (show x.length<1073741824 by omega) k 0 0 false [] (by omega) (by omega) (by omega) (by omega) (by simp)
 rw[show((0:Nat):Int)=0 from rfl]at e1
 rw[S_l4Cut,e1,Option.bind_some]
 simp only
 rw[ssub_drop e2,Option.bind_some,appn_ok (by simp;omega),e4]
 simp[sub]
def keepF(p:List UInt8):List (List UInt8):=bif !(trimT p==[])then [trimT p]else []
def splitL(x:List UInt8):List (List UInt8):=(cutG 44 x false false []).flatMap keepF
theorem keepF_len(p:List UInt8):(keepF p).length≤1:=by unfold keepF;cases (trimT p==[])<;>simp
theorem keep_len:∀l:List (List UInt8),(l.flatMap keepF).length≤l.length
 |[]=>by simp
 |p::l=>by
  have:=keep_len l
  have:=keepF_len p
  rw[List.flatMap_cons,List.length_append,List.length_cons];omega
theorem splitL_len(x:List UInt8):(splitL x).length≤x.length+1:=by
 have:=keep_len (cutG 44 x false false [])
 have:=cutG_len 44 x false false []
 unfold splitL;omega
theorem S_SplitList_eq{k:Nat}(hk:1073741824≤k)(x:List UInt8)(h:x.length<1073741000):S_SplitList k x=some (splitL x):=by
 have hc:=S_l4Cut_eq hk x 44 h
 rw[show(((44:UInt8).toNat:Nat):Int)=44 from rfl]at hc
 have hm:=fun p=>cutG_mem 44 x false false [] p
 have hl:=cutG_len 44 x false false []
 rw[S_SplitList,hc,Option.bind_some]
 generalize hw:cutG 44 x false false []=w at hm hl
 have:=fold_all (len:=w.length) (g:=fun j s=>s++(w[j]?).elim [] keepF) (Inv:=fun i s=>s.length≤i) (F:=fun m i s=>S_SplitList_b0 k m i w s) (out:=id) (fun m i s hi hI=>by
  have hp:=hm w[i] (List.getElem_mem hi)
  simp only[S_SplitList_b0,bif_dec,lt_cast,hi,if_true,S_SplitList_b1,idx_nat hi,Option.bind_some,S_SplitList_c22,wrap_succ (by omega:i<9223372036854775807),List.getElem?_eq_getElem hi,Option.elim_some,keepF,S_TrimText_eq hk w[i] (by simp at hp;omega)]
  cases (trimT w[i]==[])with
  |false=>simp only[Bool.not_false,cond_true];rw[appn_ok (by simp;omega)];exact⟨rfl,by simp;omega⟩
  |true=>simp only[Bool.not_true,cond_false,List.append_nil];exact⟨rfl,by omega⟩) (fun m i s hi=>by
  simp only[S_SplitList_b0,bif_dec,lt_cast]
  rw[if_neg (by omega)];rfl) (k:=k) (by omega) (s:=[]) (by simp)
 have h1:S_SplitList_b0 k k 0 w []=some (foldI (fun j s=>s++(w[j]?).elim [] keepF) w.length 0 []):=this.1
 rw[h1,foldI_append (f:=keepF) w.length 0 [] (by omega),List.drop_zero,Option.bind_some,splitL,hw];rfl
theorem keepF_nil:keepF []=[]:=rfl
theorem I_SplitList_loop{k:Nat}{x:List UInt8}(hx:x.length<1073741000):∀(n i f:Nat) (q:Bool) (r:List (List UInt8)),f≤i→x.length+2≤i+n→i≤x.length+1→r.length≤i→
 ∃(f':Nat) (r':List (List UInt8)),I_SplitList_b0 k n x (f:Int) q (i:Int) r=some ((f':Int),r')∧r'.length≤x.length+1∧f'≤x.length+1∧r'++keepF (x.drop f')=r++(cutG 44 (x.drop i) q false (sub x f i)).flatMap keepF:=by
 intro n
 induction n with
 |zero=>intro i f q r _ h h2;omega
 |succ n ih=>
  intro i f q r hf hn hi hr
  rw[I_SplitList_b0,bif_dec]
  have add:∀p:List UInt8,p.length<1073741824→∀(x5:Bool) (x6:Int),((I_TrimText k p).bind fun w=>(I_SplitList_c53 k x x5 x6 w (!(w==[])) r).bind fun o=>some (((IntKind.wrap .i64 (x6+1)),x5,x6,o)))=some ((IntKind.wrap .i64 (x6+1)),x5,x6,r++keepF p):=fun p hp x5 x6=>by
   rw[I_TrimText_eq p hp,Option.bind_some,I_SplitList_c53]
   unfold keepF
   cases (trimT p==[])with
   |false=>simp only[Bool.not_false,cond_true];rw[appn_ok (by simp;omega)];rfl
   |true=>simp only[Bool.not_true,cond_false,List.append_nil];rfl
  by_cases c0:i≤x.length
  ·rw[if_pos (by omega)]
   have hmin:(if x.length<i then((x.length:Nat):Int)else(i:Int))=(i:Int):=by rw[if_neg (by omega)]
   by_cases c:i<x.length
   ·have u92:=u8_eq x[i] 92
    have u34:=u8_eq x[i] 34
    have u44:=u8_eq x[i] 44
    rw[show(((92:UInt8).toNat:Nat):Int)=92 from rfl]at u92
    rw[show(((34:UInt8).toNat:Nat):Int)=34 from rfl]at u34
    rw[show(((44:UInt8).toNat:Nat):Int)=44 from rfl]at u44
    rw[List.drop_eq_getElem_cons c,cutG]
    have plain:=fun q'=>ih (i+1) f q' r (by omega) (by omega) (by omega) (by omega)
    have une:((UInt8.toNat x[i]:Int) !=44)= !(x[i]==44):=by rw[←u44];rfl
    simp only[I_SplitList_b1,bif_dec,lt_cast,c,if_true,idx_nat c,Option.bind_some,I_SplitList_c32,I_SplitList_c41,u92,u34,une,hmin]
    cases q with
    |true=>
     simp only[cond_true,Bool.true_and]
     cases h2:(x[i]==34)with
     |true=>
      have h1:(x[i]==92)=false:=by
       have e:x[i]=34:=by simpa using h2
       rw[e];rfl
      simp only[h1,cond_true,cond_false,Option.bind_some,Bool.not_true]
      rw[wrap_succ (by omega),←sub_succ hf c];exact plain false
     |false=>
      simp only[cond_false,Option.bind_some,cond_true,Bool.not_true,Bool.false_and]
      cases h1:(x[i]==92)with
      |true=>
       simp only[cond_true,Option.bind_some]
       rw[wrap_succ (by omega),wrap_succ (by omega),cutG_skip hf c]
       exact ih (i+2) f true r (by omega) (by omega) (by omega) (by omega)
      |false=>simp only[cond_false,Option.bind_some];rw[wrap_succ (by omega),←sub_succ hf c];exact plain true
    |false=>
     simp only[cond_false,Bool.false_and,Bool.not_false,Bool.true_and]
     cases h3:(x[i]==44)with
     |true=>
      have h2:(x[i]==34)=false:=by
       have e:x[i]=44:=by simpa using h3
       rw[e];rfl
      simp only[h2,Bool.not_true,cond_false,cond_true]
      rw[ssub_sub hf (by omega),Option.bind_some,add (sub x f i) (by unfold sub;simp;omega),Option.bind_some]
      simp only
      rw[wrap_succ (by omega)]
      have hk1:=keepF_len (sub x f i)
      obtain⟨f',r',e1,e2,e3,e4⟩:=ih (i+1) (i+1) false (r++keepF (sub x f i)) (by omega) (by omega) (by omega) (by simp;omega)
      rw[sub_self]at e4
      exact⟨f',r',e1,e2,e3,by rw[e4,List.flatMap_cons,List.append_assoc]⟩
     |false=>
      simp only[Bool.not_false,cond_true,cond_false]
      cases h2:(x[i]==34)with
      |true=>
       have h1:(x[i]==92)=false:=by
        have e:x[i]=34:=by simpa using h2
        rw[e];rfl
       simp only[h1,cond_true,cond_false,Option.bind_some]
       rw[wrap_succ (by omega),←sub_succ hf c];exact plain true
      |false=>simp only[cond_false,Option.bind_some];rw[wrap_succ (by omega),←sub_succ hf c];exact plain false
   ·have hil:i=x.length:=by omega
    simp only[I_SplitList_b1,bif_dec,lt_cast,c,if_false,hmin]
    rw[ssub_sub hf (by omega),Option.bind_some,add (sub x f i) (by unfold sub;simp;omega),Option.bind_some]
    simp only
    rw[wrap_succ (by omega)]
    have hk1:=keepF_len (sub x f i)
    obtain⟨f',r',e1,e2,e3,e4⟩:=ih (i+1) (i+1) q (r++keepF (sub x f i)) (by omega) (by omega) (by omega) (by simp;omega)
    refine⟨f',r',e1,e2,e3, ?_⟩
    rw[e4,List.drop_of_length_le (by omega),List.drop_of_length_le (by omega),sub_self,cutG,cutG]
    simp[keepF_nil]
  ·rw[if_neg (by omega),List.drop_of_length_le (by omega),cutG,sub_end (by omega)]
   exact⟨f,r,rfl,by omega,by omega,by simp⟩
theorem I_SplitList_eq{k:Nat}(hk:1073741824≤k)(x:List UInt8)(h:x.length<1073741000):I_SplitList k x=some (splitL x):=by
 obtain⟨f',r',e1,e2,e3,e4⟩:=I_SplitList_loop (k:=k) h k 0 0 false [] (by omega) (by omega) (by omega) (by simp)
 rw[show((0:Nat):Int)=0 from rfl]at e1
 have e5:sub x 0 0=[]:=sub_self x 0
 rw[List.drop_zero,e5,List.nil_append]at e4
 rw[I_SplitList,e1,Option.bind_some,I_SplitList_c63,splitL,←e4]
 simp only[bif_dec]
 by_cases c:f'<x.length
 ·rw[if_pos (by omega),ssub_drop (by omega),Option.bind_some,I_TrimText_eq _ (by simp;omega),Option.bind_some,I_SplitList_c69]
  unfold keepF
  cases (trimT (x.drop f')==[])with
  |false=>simp only[Bool.not_false,cond_true];rw[appn_ok (by simp;omega)];rfl
  |true=>simp only[Bool.not_true,cond_false,List.append_nil];rfl
 ·rw[if_neg (by omega),List.drop_of_length_le (by omega),keepF_nil,List.append_nil];rfl
theorem lens_cons(p:List UInt8)(l:List (List UInt8)):Lib.lens (p::l)=p.length+Lib.lens l:=rfl
theorem cutG_sum(b:UInt8):∀(l:List UInt8) (q sk:Bool) (cur:List UInt8),Lib.lens (cutG b l q sk cur)≤cur.length+l.length
 |[],q,sk,cur=>by rw[cutG,lens_cons];simp[Lib.lens]
 |c::r,q,true,cur=>by have:=cutG_sum b r q false (cur++[c]);rw[cutG];simp at this ⊢;omega
 |c::r,q,false,cur=>by
  rw[cutG]
  have s1:=fun q' sk'=>cutG_sum b r q' sk' (cur++[c])
  simp only[List.length_append,List.length_cons,List.length_nil]at s1
  rw[List.length_cons]
  cases (q&&c==92)with
  |true=>rw[cond_true];have:=s1 q true;omega
  |false=>
   cases (c==34)with
   |true=>rw[cond_false,cond_true];have:=s1 (!q) false;omega
   |false=>
    cases (!q&&c==b)with
    |true=>rw[cond_false,cond_false,cond_true,lens_cons];have:=cutG_sum b r q false [];simp at this;omega
    |false=>rw[cond_false,cond_false,cond_false];have:=s1 q false;omega
theorem keep_sum:∀l:List (List UInt8),Lib.lens (l.flatMap keepF)≤Lib.lens l
 |[]=>by simp
 |p::l=>by
  have h1:=keep_sum l
  have h2:=trimT_len p
  rw[List.flatMap_cons,lens_cons]
  unfold keepF at h1 ⊢
  cases (trimT p==[])with
  |true=>simpa using (by omega:Lib.lens (l.flatMap fun p=>bif !(trimT p==[])then [trimT p]else [])≤p.length+Lib.lens l)
  |false=>simp only[Bool.not_false,cond_true,List.cons_append,List.nil_append,lens_cons];omega
theorem splitL_sum(x:List UInt8):Lib.lens (splitL x)≤x.length:=by
 have h1:=keep_sum (cutG 44 x false false [])
 have h2:=cutG_sum 44 x false false []
 unfold splitL;simp at h2;omega
def cutP(b:UInt8):List UInt8→List UInt8→List (List UInt8)
 |[],cur=>[cur]
 |c::r,cur=>bif c==b then cur::cutP b r []else cutP b r (cur++[c])
theorem cutP_mem(b:UInt8):∀(l cur p:List UInt8),p∈cutP b l cur→p.length≤cur.length+l.length
 |[],cur,p,h=>by
  have:p=cur:=by simpa[cutP]using h
  rw[this];omega
 |c::r,cur,p,h=>by
  rw[cutP]at h
  cases h3:(c==b)with
  |true=>
   rw[h3,cond_true]at h
   rcases List.mem_cons.1 h with rfl|h
   ·omega
   ·have:=cutP_mem b r [] p h
    simp at this ⊢;omega
  |false=>
   rw[h3,cond_false]at h
   have:=cutP_mem b r (cur++[c]) p h
   simp at this ⊢;omega
theorem cutP_len(b:UInt8):∀(l cur:List UInt8),(cutP b l cur).length≤l.length+1
 |[],cur=>by simp[cutP]
 |c::r,cur=>by
  rw[cutP]
  have h1:=cutP_len b r []
  have h2:=cutP_len b r (cur++[c])
  cases (c==b)with
  |true=>rw[cond_true];simp;omega
  |false=>rw[cond_false];simp;omega
theorem cutP_pos(b:UInt8):∀(l cur:List UInt8),0<(cutP b l cur).length
 |[],cur=>by simp[cutP]
 |c::r,cur=>by
  rw[cutP]
  have h2:=cutP_pos b r (cur++[c])
  cases (c==b)with
  |true=>rw[cond_true];simp
  |false=>rw[cond_false];exact h2
theorem S_l12Split_loop{k:Nat}{x:List UInt8}{b:UInt8}(hx:x.length<1073741824):∀(n i f:Nat) (r:List (List UInt8)),f≤i→i≤x.length→x.length<i+n→r.length≤i→
 ∃(f':Nat) (r':List (List UInt8)),S_l12Split_b0 k n x (b.toNat:Int) (f:Int) (i:Int) r=some ((f':Int),r')∧f'≤x.length∧r'.length≤x.length∧r'++[x.drop f']=r++cutP b (x.drop i) (sub x f i):=by
 intro n
 induction n with
 |zero=>intro i f r _ h h2;omega
 |succ n ih=>
  intro i f r hf hi hn hr
  rw[S_l12Split_b0,bif_dec]
  by_cases c:i<x.length
  ·have ub:=u8_eq x[i] b
   rw[if_pos (by omega),List.drop_eq_getElem_cons c,cutP]
   simp only[S_l12Split_b1,idx_nat c,Option.bind_some,S_l12Split_c19,ub]
   cases h3:(x[i]==b)with
   |true=>
    simp only[cond_true]
    rw[ssub_sub hf (by omega),Option.bind_some,appn_ok (by simp;omega)]
    simp only[Option.bind_some]
    rw[wrap_succ (by omega)]
    obtain⟨f',r',e1,e2,e3,e4⟩:=ih (i+1) (i+1) (r++[sub x f i]) (by omega) (by omega) (by omega) (by simp;omega)
    rw[sub_self]at e4
    exact⟨f',r',e1,e2,e3,by rw[e4];simp⟩
   |false=>
    simp only[cond_false,Option.bind_some]
    rw[wrap_succ (by omega),←sub_succ hf c]
    exact ih (i+1) f r (by omega) (by omega) (by omega) (by omega)
  ·rw[if_neg (by omega),List.drop_of_length_le (by omega),cutP,sub_end (by omega)]
   exact⟨f,r,rfl,by omega,by omega,rfl⟩
theorem S_l12Split_eq{k:Nat}(hk:1073741824≤k)(x:List UInt8)(b:UInt8)(h:x.length<1073741000):S_l12Split k x (b.toNat:Int)=some (cutP b x []):=by
 obtain⟨f',r',e1,e2,e3,e4⟩:=S_l12Split_loop (k:=k) (b:=b) (show x.length<1073741824 by omega) k 0 0 [] (by omega) (by omega) (by omega) (by simp)
 rw[show((0:Nat):Int)=0 from rfl]at e1
 rw[S_l12Split,e1,Option.bind_some]
 simp only
 rw[ssub_drop e2,Option.bind_some,appn_ok (by simp;omega),e4]
 simp[sub]
theorem index_cons(b c:UInt8)(r:List UInt8):Lib.index (c::r) [b]=if c==b then 0 else if Lib.index r [b]== -1 then -1 else Lib.index r [b]+1:=by
 rw[Lib.index_one,Lib.index_one,Lib.indexByte]
theorem count_first(b c:UInt8)(r:List UInt8)(h:(c==b)=true):Lib.count (c::r) [b]=1+Lib.count r [b]:=by
 have:=Lib.count_hit (s:=c::r) (sub:=[b]) (i:=0) (by simp) (by rw[index_cons,if_pos h];rfl)
 simpa using this
theorem split_cons(b c:UInt8)(r:List UInt8):Lib.split (c::r) [b]=bif c==b then []::Lib.split r [b]else match Lib.split r [b]with|[]=>[[c]]|p::ps=>(c::p)::ps:=by
 cases h:(c==b)with
 |true=>
  unfold Lib.split
  rw[count_first b c r h,Nat.add_comm,Lib.splitK,index_cons,if_pos h]
  simp
 |false=>
  rw[cond_false]
  have hn:¬(c==b)=true:=by rw[h];exact Bool.false_ne_true
  have hi:=index_cons b c r
  rw[if_neg hn]at hi
  rcases Lib.index_spec r [b]with⟨h1,_⟩|⟨i,h1,_,_,_⟩
  ·rw[h1]at hi
   unfold Lib.split
   rw[Lib.count_miss h1,Lib.count_miss (s:=c::r) (by rw[hi];rfl),Lib.splitK,Lib.splitK]
  ·have hm:¬((i:Int)== -1)=true:=fun e=>by have:=beq_iff_eq.1 e;omega
   rw[h1,if_neg hm]at hi
   have c1:=Lib.count_hit (s:=r) (sub:=[b]) (i:=i) (by simp) h1
   have c2:=Lib.count_hit (s:=c::r) (sub:=[b]) (i:=i+1) (by simp) (by rw[hi];rfl)
   have hm2:¬((i:Int)+1== -1)=true:=fun e=>by have:=beq_iff_eq.1 e;omega
   unfold Lib.split
   rw[c1,c2,Nat.add_comm 1,Nat.add_comm 1,Lib.splitK,Lib.splitK,h1,hi,if_neg hm,if_neg hm2]
   rw[show((i:Int)+1).toNat=i+1 by omega,show((i:Int)).toNat=i by omega]
   simp[List.take_succ_cons,Nat.add_right_comm]
theorem split_ne(b:UInt8)(s:List UInt8):Lib.split s [b]≠[]:=by
 unfold Lib.split
 cases Lib.count s [b]with
 |zero=>simp[Lib.splitK]
 |succ n=>rw[Lib.splitK];split<;>simp
theorem cutP_split(b:UInt8):∀(s cur:List UInt8),cutP b s cur=match Lib.split s [b]with|[]=>[]|p::ps=>(cur++p)::ps
 |[],cur=>by
  have:Lib.split [] [b]=[[]]:=by
   unfold Lib.split
   rw[Lib.count_miss (by rw[Lib.index_one];rfl)];rfl
  rw[this];simp[cutP]
 |c::r,cur=>by
  have h1:=cutP_split b r []
  have h2:=cutP_split b r (cur++[c])
  have hne:=split_ne b r
  rw[cutP,split_cons,h1,h2]
  cases hs:Lib.split r [b]with
  |nil=>exact absurd hs hne
  |cons p ps=>
   cases (c==b)with
   |true=>simp
   |false=>simp
theorem split_cutP(b:UInt8)(s:List UInt8):Lib.split s [b]=cutP b s []:=by
 rw[cutP_split]
 cases hs:Lib.split s [b]with
 |nil=>exact absurd hs (split_ne b s)
 |cons p ps=>simp
theorem strings_Split_eq{k:Nat}(x:List UInt8)(b:UInt8)(h:x.length<1073741824):strings_Split k x [b]=some (cutP b x []):=by
 have hd:(decide (x.length<4294967281)&&decide (1≤[b].length))=true:=by rw[Bool.and_eq_true];exact⟨decide_eq_true (by omega),by simp⟩
 rw[strings_Split,splitO,hd,cond_true,←split_cutP];rfl
def joinT(l:List (List UInt8)):List UInt8:=Lib.join l [44,32]
theorem joinT_len(l:List (List UInt8)):(joinT l).length≤2*l.length+Lib.lens l:=by
 cases l with
 |nil=>simp[joinT,Lib.join_nil]
 |cons x r=>unfold joinT;rw[Lib.join_length];simp;omega
theorem I_JoinList_eq{k:Nat}(l:List (List UInt8))(h:2*l.length+Lib.lens l<1073741824):I_JoinList k l=some (joinT l):=by
 have hl:=joinT_len l
 have hd:(decide (l.length≤140737488355328)&&decide ((Lib.join l [44,32]).length≤140737488355328))=true:=by
  rw[Bool.and_eq_true];exact⟨decide_eq_true (by omega),decide_eq_true (by unfold joinT at hl;omega)⟩
 rw[I_JoinList,strings_Join,joinO,hd];rfl
theorem S_JoinList_loop{k:Nat}{x:List UInt8}{r:List (List UInt8)}(h:2*r.length+Lib.lens (x::r)<1073741824):∀(n j:Nat),j≤r.length→r.length -j<n→
 S_JoinList_b0 k n (x::r) (x++Lib.joinTail [44,32] (r.take j)) ((j+1:Nat):Int)=some (x++Lib.joinTail [44,32] r):=by
 have hx:Lib.lens (x::r)=x.length+Lib.lens r:=rfl
 intro n
 induction n with
 |zero=>intro j _ h;omega
 |succ n ih=>
  intro j hj hn
  rw[S_JoinList_b0,bif_dec]
  by_cases c:j<r.length
  ·have hlen:((j+1:Nat):Int)<((x::r).length:Int):=by simp;omega
   have e1:decide (((j+1:Nat):Int)>0)=true:=decide_eq_true (by omega)
   have e2:idx (x::r) ((j+1:Nat):Int)=some r[j]:=by
    rw[idx_nat (by simp;omega)];simp
   have b1:=Lib.joinTail_take_le [44,32] r j
   have b2:=Lib.joinTail_length [44,32] r
   have b3:=Lib.joinTail_take_le [44,32] r (j+1)
   have b4:=Lib.joinTail_take_succ [44,32] r j r[j] (List.getElem?_eq_getElem c)
   have b5:=congrArg List.length b4
   simp only[List.length_append,List.length_cons,List.length_nil]at b2 b5
   rw[if_pos hlen,S_JoinList_b1,S_JoinList_c12,e1,cond_true,cat_ok (by simp;omega),Option.bind_some,Option.bind_some,e2,Option.bind_some,cat_ok (by simp;omega),Option.bind_some,Option.bind_some,wrap_succ (by omega)]
   have:=ih (j+1) (by omega) (by omega)
   rw[b4]at this
   rw[←this]
   congr 1
   simp
  ·have hlen:¬((j+1:Nat):Int)<((x::r).length:Int):=by simp;omega
   rw[if_neg hlen,List.take_of_length_le (by omega)]
theorem S_JoinList_eq{k:Nat}(hk:1073741824≤k)(l:List (List UInt8))(h:2*l.length+Lib.lens l<1073741824):S_JoinList k l=some (joinT l):=by
 obtain⟨n,rfl⟩:∃n,k=n+1:=⟨k -1,by omega⟩
 rw[S_JoinList,S_JoinList_b0,bif_dec]
 cases l with
 |nil=>rfl
 |cons x r=>
  have hx:Lib.lens (x::r)=x.length+Lib.lens r:=rfl
  simp only[List.length_cons]at h
  have hlen:(0:Int)<((x::r).length:Int):=by rw[List.length_cons];omega
  have e2:idx (x::r) (0:Int)=some x:=rfl
  have:=S_JoinList_loop (k:=n+1) (x:=x) (r:=r) (by omega) n 0 (by omega) (by omega)
  rw[List.take_zero]at this
  rw[if_pos hlen,S_JoinList_b1,S_JoinList_c12,e2]
  rw[show(decide ((0:Int)>0))=false from rfl,cond_false,Option.bind_some,Option.bind_some,cat_ok (by simp;omega),Option.bind_some,Option.bind_some]
  rw[show IntKind.wrap .i64 ((0:Int)+1)=((0+1:Nat):Int)from by rw[wrap_id (by omega) (by omega)];rfl]
  have e3:Lib.joinTail [44,32] ([]:List (List UInt8))=[]:=rfl
  rw[e3,List.append_nil]at this
  rw[List.nil_append,this,Option.bind_some,joinT,Lib.join_cons]
def cleanE(last:Bool)(e:List UInt8)(out:List (List UInt8)):List (List UInt8):=
 bif !(e==[46])&& !(e==[46,46])then out++[e]else
 bif last then(bif e==[46,46]then out.take (out.length -1)else out)++[[]]else(bif e==[46,46]then out.take (out.length -1)else out)
def cleanL:List (List UInt8)→List (List UInt8)→List (List UInt8)
 |[],out=>out
 |e::r,out=>cleanL r (cleanE r.isEmpty e out)
theorem lensC(p:List UInt8)(l:List (List UInt8)):Lib.lens (p::l)=p.length+Lib.lens l:=rfl
theorem lens_app:∀a b:List (List UInt8),Lib.lens (a++b)=Lib.lens a+Lib.lens b
 |[],b=>by simp[Lib.lens]
 |p::a,b=>by rw[List.cons_append,lensC,lensC,lens_app a b];omega
theorem lens_take(l:List (List UInt8))(n:Nat):Lib.lens (l.take n)≤Lib.lens l:=by
 have:=lens_app (l.take n) (l.drop n)
 rw[List.take_append_drop]at this
 omega
theorem lens_one(p:List UInt8):Lib.lens [p]=p.length:=by rw[lensC];simp[Lib.lens]
theorem lens_mem:∀{l:List (List UInt8)} {p:List UInt8},p∈l→p.length≤Lib.lens l
 |q::l,p,h=>by
  rw[lensC]
  rcases List.mem_cons.1 h with rfl|h
  ·omega
  ·have:=lens_mem h;omega
theorem cutP_sum(b:UInt8):∀(l cur:List UInt8),Lib.lens (cutP b l cur)≤cur.length+l.length
 |[],cur=>by rw[cutP,lens_one];omega
 |c::r,cur=>by
  rw[cutP]
  have h1:=cutP_sum b r []
  have h2:=cutP_sum b r (cur++[c])
  cases (c==b)with
  |true=>rw[cond_true,lensC];simp at h1 ⊢;omega
  |false=>rw[cond_false];simp at h2 ⊢;omega
theorem cleanE_len(last:Bool)(e:List UInt8)(out:List (List UInt8)):(cleanE last e out).length≤out.length+1:=by
 unfold cleanE
 cases (!(e==[46])&& !(e==[46,46]))<;>cases last<;>cases (e==([46,46]:List UInt8))<;>simp<;>omega
theorem cleanE_lens(last:Bool)(e:List UInt8)(out:List (List UInt8)):Lib.lens (cleanE last e out)≤Lib.lens out+e.length:=by
 have h1:=lens_take out (out.length -1)
 have h2:=lens_app out [e]
 have h3:=lens_app (out.take (out.length -1)) [[]]
 have h4:=lens_app out [[]]
 rw[lens_one]at h2 h3 h4
 simp only[List.length_nil]at h3 h4
 unfold cleanE
 cases (!(e==[46])&& !(e==[46,46]))<;>cases last<;>cases (e==([46,46]:List UInt8))<;>simp only[cond_true,cond_false]<;>omega
theorem cleanE_ne(e:List UInt8)(out:List (List UInt8)):cleanE true e out≠[]:=by
 unfold cleanE
 cases (!(e==[46])&& !(e==[46,46]))<;>simp
theorem cleanL_ne:∀(l out:List (List UInt8)),l≠[]→cleanL l out≠[]
 |[],_,h=>(h rfl).elim
 |[e],out,_=>cleanE_ne e out
 |e::f::r,out,_=>by rw[cleanL];exact cleanL_ne (f::r) _ (by simp)
theorem cleanL_len:∀(l out:List (List UInt8)),(cleanL l out).length≤out.length+l.length
 |[],out=>by simp[cleanL]
 |e::r,out=>by
  have h1:=cleanL_len r (cleanE r.isEmpty e out)
  have h2:=cleanE_len r.isEmpty e out
  rw[cleanL,List.length_cons];omega
theorem cleanL_lens:∀(l out:List (List UInt8)),Lib.lens (cleanL l out)≤Lib.lens out+Lib.lens l
 |[],out=>by simp[cleanL]
 |e::r,out=>by
  have h1:=cleanL_lens r (cleanE r.isEmpty e out)
  have h2:=cleanE_lens r.isEmpty e out
  rw[cleanL,lensC];omega
theorem last_eq{w:List (List UInt8)}{i:Nat}(h:i<w.length):((i:Int)==(w.length:Int) -1)=(w.drop (i+1)).isEmpty:=by
 by_cases c:i+1=w.length
 ·rw[beq_iff_eq.2 (by omega:(i:Int)=(w.length:Int) -1),List.drop_of_length_le (by omega)];rfl
 ·rw[beq_eq_false_iff_ne.2 (by omega:(i:Int)≠(w.length:Int) -1),List.drop_eq_getElem_cons (by omega)];rfl
theorem take_pred{out:List (List UInt8)}(h:out.length<1073741824)(h0:0<out.length):ssub out (0:Int) (IntKind.wrap .i64 ((out.length:Int) -1))=some (out.take (out.length -1)):=by
 rw[wrap_id (by omega) (by omega),show(out.length:Int) -1=((out.length -1:Nat):Int)by omega]
 exact ssub_take (by omega)
theorem S_clean1{k:Nat}{w out:List (List UInt8)}{i:Nat}(hw:w.length<1073741824)(hi:i<w.length)(ho:out.length<1073741824):
 S_l12Path_b1 k (i:Int) w out=some (cleanE (w.drop (i+1)).isEmpty w[i] out):=by
 rw[S_l12Path_b1,wrap_id (n:=(w.length:Int) -1) (by omega) (by omega),last_eq hi,S_l12Path_b2,idx_nat hi,Option.bind_some,Option.bind_some]
 generalize (w.drop (i+1)).isEmpty=last
 have ap:∀(o:List (List UInt8)) (e:List UInt8),o.length<1073741824→app 16 o [e]=some (o++[e]):=fun o e h=>appn_ok (by simp;omega)
 have tl:(out.take (out.length -1)).length<1073741824:=by simp;omega
 unfold cleanE
 cases h2:(w[i]==([46,46]:List UInt8))with
 |true=>
  have h2':w[i]=[46,46]:=by simpa using h2
  rw[cond_true]
  by_cases c:0<out.length
  ·rw[decide_eq_true (by omega),S_l12Path_c24,cond_true,take_pred ho c]
   simp only[Option.bind_some,S_l12Path_c60,ap _ _ tl,Bool.not_true,Bool.and_false,cond_false,cond_true]
   cases last<;>rfl
  ·have:out=[]:=List.length_eq_zero_iff.1 (by omega)
   subst this
   rw[decide_eq_false (by simp),S_l12Path_c24,cond_false,idx_nat hi,Option.bind_some,Option.bind_some,h2']
   cases last<;>rfl
 |false=>
  rw[cond_false,S_l12Path_c24,cond_false,idx_nat hi,Option.bind_some,Option.bind_some]
  cases h1:(w[i]==([46]:List UInt8))with
  |true=>
   simp only[Bool.not_true,cond_false,S_l12Path_c40,Option.bind_some,S_l12Path_c60,ap _ _ ho,Bool.false_and]
   cases last<;>rfl
  |false=>
   simp only[Bool.not_false,cond_true,idx_nat hi,Option.bind_some,h2,S_l12Path_c40,ap _ _ ho,S_l12Path_c60,cond_false,Bool.and_self]
theorem I_clean1{k:Nat}{w out:List (List UInt8)}{i:Nat}(hw:w.length<1073741824)(hi:i<w.length)(ho:out.length<1073741824):
 I_cleanComponents_b1 k w w (w.length:Int) (i:Int) out=some (cleanE (w.drop (i+1)).isEmpty w[i] out):=by
 rw[I_cleanComponents_b1,idx_nat hi,Option.bind_some]
 have ap:∀(o:List (List UInt8)) (e:List UInt8),o.length<1073741824→app 16 o [e]=some (o++[e]):=fun o e h=>appn_ok (by simp;omega)
 have tl:(out.take (out.length -1)).length<1073741824:=by simp;omega
 have lw:IntKind.wrap .i64 ((w.length:Int) -1)=(w.length:Int) -1:=wrap_id (by omega) (by omega)
 unfold cleanE
 cases h2:(w[i]==([46,46]:List UInt8))with
 |true=>
  have h2':w[i]=[46,46]:=by simpa using h2
  rw[cond_true]
  have key:I_cleanComponents_c20 k w (i:Int) w[i] w (w.length:Int) (i:Int) (decide ((out.length:Int)>0)) out=some (out.take (out.length -1)):=by
   unfold I_cleanComponents_c20
   by_cases c:0<out.length
   ·rw[decide_eq_true (by omega),cond_true,take_pred ho c];rfl
   ·have:out=[]:=List.length_eq_zero_iff.1 (by omega)
    subst this;rfl
  rw[key,Option.bind_some,I_cleanComponents_b2,h2']
  simp only[show(([46,46]:List UInt8)==[46])=false from rfl,Bool.not_false,cond_true,BEq.rfl,Bool.not_true,I_cleanComponents_c26,cond_false,I_cleanComponents_c37,lw,last_eq hi,ap _ _ tl,Option.bind_some,Bool.and_false]
  cases (w.drop (i+1)).isEmpty<;>rfl
 |false=>
  rw[cond_false,I_cleanComponents_c20,cond_false,Option.bind_some,I_cleanComponents_b2]
  cases h1:(w[i]==([46]:List UInt8))with
  |true=>
   simp only[Bool.not_true,cond_false,I_cleanComponents_c26,I_cleanComponents_c37,lw,last_eq hi,ap _ _ ho,Option.bind_some,Bool.false_and]
   cases (w.drop (i+1)).isEmpty<;>rfl
  |false=>
   simp only[Bool.not_false,cond_true,h2,I_cleanComponents_c26,ap _ _ ho,Option.bind_some,Bool.and_self]
theorem S_clean_loop{k:Nat}{w:List (List UInt8)}(hw:w.length<1073741824):∀(n i:Nat) (out:List (List UInt8)),w.length -i<n→i≤w.length→out.length≤i→S_l12Path_b0 k n (i:Int) w out=some (cleanL (w.drop i) out):=by
 intro n
 induction n with
 |zero=>intro i out h;omega
 |succ n ih=>
  intro i out hn hi ho
  rw[S_l12Path_b0,bif_dec]
  by_cases c:i<w.length
  ·have:=cleanE_len (w.drop (i+1)).isEmpty w[i] out
   rw[if_pos (by omega),S_clean1 hw c (by omega),Option.bind_some,wrap_succ (by omega),ih (i+1) _ (by omega) (by omega) (by omega)]
   conv=>rhs;rw[List.drop_eq_getElem_cons c,cleanL]
  ·rw[if_neg (by omega),List.drop_of_length_le (by omega),cleanL]
theorem I_clean_loop{k:Nat}{w:List (List UInt8)}(hw:w.length<1073741824):∀(n i:Nat) (out:List (List UInt8)),w.length -i<n→i≤w.length→out.length≤i→I_cleanComponents_b0 k n w w (w.length:Int) (i:Int) out=some (cleanL (w.drop i) out):=by
 intro n
 induction n with
 |zero=>intro i out h;omega
 |succ n ih=>
  intro i out hn hi ho
  rw[I_cleanComponents_b0,bif_dec]
  by_cases c:i<w.length
  ·have:=cleanE_len (w.drop (i+1)).isEmpty w[i] out
   rw[if_pos (by omega),I_clean1 hw c (by omega),Option.bind_some,wrap_succ (by omega),ih (i+1) _ (by omega) (by omega) (by omega)]
   conv=>rhs;rw[List.drop_eq_getElem_cons c,cleanL]
  ·rw[if_neg (by omega),List.drop_of_length_le (by omega),cleanL]
theorem I_cleanComponents_eq{k:Nat}(hk:1073741824≤k)(w:List (List UInt8))(hw:w.length<1073741824):I_cleanComponents k w=some (cleanL w []):=by
 have:=I_clean_loop (k:=k) hw k 0 [] (by omega) (by omega) (by simp)
 rw[show(((0:Nat)):Int)=0 from rfl,List.drop_zero]at this
 rw[I_cleanComponents,this];rfl
def pathT(p:List UInt8):List UInt8:=Lib.joinTail [47] (cleanL (cutP 47 (p.drop 1) []) [])
theorem S_path_text{k:Nat}{o:List (List UInt8)}(hl:o.length<1073741824)(hs:Lib.lens o<1073741824):∀(n i:Nat) (t:List UInt8),o.length -i<n→i≤o.length→t.length≤i+1073741824→
 t=Lib.joinTail [47] (o.take i)→S_l12Path_b3 k n t (i:Int) o=some (Lib.joinTail [47] o):=by
 intro n
 induction n with
 |zero=>intro i t h;omega
 |succ n ih=>
  intro i t hn hi ht he
  rw[S_l12Path_b3,bif_dec]
  by_cases c:i<o.length
  ·have hm:=lens_mem (List.getElem_mem c)
   have b4:=Lib.joinTail_take_succ [47] o i o[i] (List.getElem?_eq_getElem c)
   have b2:(Lib.joinTail [47] (o.take (i+1))).length≤(i+1)+1073741824:=by
    have b5:=Lib.joinTail_length [47] (o.take (i+1))
    have b6:=lens_take o (i+1)
    have b7:(o.take (i+1)).length≤i+1:=by simp;omega
    simp at b5 b7
    omega
   rw[if_pos (by omega),cat_ok (by simp;omega),Option.bind_some,idx_nat c,Option.bind_some,Option.bind_some,cat_ok (by simp;omega),Option.bind_some,wrap_succ (by omega)]
   have e:t++[47]++o[i]=Lib.joinTail [47] (o.take (i+1)):=by rw[b4,he]
   rw[e]
   exact ih (i+1) _ (by omega) (by omega) b2 rfl
  ·rw[if_neg (by omega),he,List.take_of_length_le (by omega)]
theorem cutL{x:List UInt8}:(cleanL (cutP 47 x []) []).length≤x.length+1∧Lib.lens (cleanL (cutP 47 x []) [])≤x.length:=by
 have h1:=cleanL_len (cutP 47 x []) []
 have h2:=cleanL_lens (cutP 47 x []) []
 have h3:=cutP_len 47 x []
 have h4:=cutP_sum 47 x []
 rw[show Lib.lens []=0 from rfl]at h2
 simp only[List.length_nil]at h1 h4
 omega
theorem S_l12Path_eq{k:Nat}(hk:1073741824≤k)(p:List UInt8)(h:p.length<1073740000)(h0:0<p.length):S_l12Path k p=some (pathT p):=by
 have hd:(p.drop 1).length<1073740000:=by simp;omega
 have hc:=cutP_len 47 (p.drop 1) []
 have c1:=S_clean_loop (k:=k) (w:=cutP 47 (p.drop 1) []) (by omega) k 0 [] (by omega) (by omega) (by simp)
 rw[show(((0:Nat)):Int)=0 from rfl,List.drop_zero]at c1
 obtain⟨l1,l2⟩:=cutL (x:=p.drop 1)
 have c2:=S_path_text (k:=k) (o:=cleanL (cutP 47 (p.drop 1) []) []) (by omega) (by omega) k 0 [] (by omega) (by omega) (by simp) (by simp[Lib.joinTail])
 rw[show(((0:Nat)):Int)=0 from rfl]at c2
 have hs:=S_l12Split_eq hk (p.drop 1) 47 (by omega)
 rw[show(((47:UInt8).toNat:Nat):Int)=47 from rfl]at hs
 have hsub:ssub p (1:Int) (p.length:Int)=some (p.drop 1):=ssub_drop (i:=1) (by omega)
 rw[S_l12Path,hsub,Option.bind_some,hs,Option.bind_some,c1,Option.bind_some,c2];rfl
theorem I_path{k:Nat}(hk:1073741824≤k)(p:List UInt8)(h:p.length<1073740000)(h0:0<p.length){β:Type}(g:List UInt8→Option β):
 ((ssub p (1:Int) (p.length:Int)).bind fun t5=>((strings_Split k t5 ([47]:List UInt8)).bind fun w6=>((I_cleanComponents k w6).bind fun w7=>((strings_Join k w7 ([47]:List UInt8)).bind fun w8=>((cat ([47]:List UInt8) w8).bind g)))))=g (pathT p):=by
 have hd:(p.drop 1).length<1073740000:=by simp;omega
 have hc:=cutP_len 47 (p.drop 1) []
 obtain⟨l1,l2⟩:=cutL (x:=p.drop 1)
 have hsub:ssub p (1:Int) (p.length:Int)=some (p.drop 1):=ssub_drop (i:=1) (by omega)
 rw[hsub,Option.bind_some,strings_Split_eq _ _ (by omega),Option.bind_some,I_cleanComponents_eq hk _ (by omega),Option.bind_some]
 unfold pathT
 have hne:=cleanL_ne (cutP 47 (p.drop 1) []) [] (by have:=cutP_pos 47 (p.drop 1) [];intro e;rw[e]at this;simp at this)
 generalize cleanL (cutP 47 (p.drop 1) []) []=o at*
 cases o with
 |nil=>exact absurd rfl hne
 |cons e r=>
  have hj:=Lib.join_length e r [47]
  rw[lensC]at l2 hj
  simp only[List.length_cons,List.length_nil]at hj l1
  have hd:(decide ((e::r).length≤140737488355328)&&decide ((Lib.join (e::r) [47]).length≤140737488355328))=true:=by
   rw[Bool.and_eq_true];exact⟨decide_eq_true (by simp;omega),decide_eq_true (by omega)⟩
  rw[strings_Join,joinO,hd,cond_true,Option.bind_some,cat_ok (by simp;omega),Option.bind_some]
  congr 1
  rw[Lib.join_cons];simp[Lib.joinTail]
def splitT(s:List UInt8):List UInt8×List UInt8×Bool:=match firstI (byteP s 63) s.length 0 with|some i=>(s.take i,s.drop (i+1),true)|none=>(s,[],false)
theorem S_SplitTarget_eq{k:Nat}(hk:1073741824≤k)(s:List UInt8)(h:s.length<1073741824):S_SplitTarget k s=some (splitT s):=by
 have:=find_all (len:=s.length) (c:=fun i=>bif byteP s 63 i then some (s.take i,s.drop (i+1),true)else none) (F:=fun n i=>S_SplitTarget_b0 k n s i) (fun n i hi=>by
  have e:((UInt8.toNat s[i]:Int)==63)=(s[i]==63):=u8_eq s[i] 63
  simp only[S_SplitTarget_b0,idx_nat hi,Option.bind_some,wrap_succ (by omega:i<9223372036854775807),bif_dec,lt_cast,hi,if_true,byteP_at hi,e]
  cases (s[i]==63)with
  |true=>rw[cond_true,cond_true,ssub_take (by omega),Option.bind_some,ssub_drop (by omega)];rfl
  |false=>rfl) (fun n i hi=>by
  simp only[S_SplitTarget_b0,bif_dec,lt_cast]
  rw[if_neg (by omega)]) (k:=k) (by omega)
 rw[S_SplitTarget,this,findI_first]
 unfold splitT
 cases firstI (byteP s 63) s.length 0<;>rfl
theorem I_SplitTarget_eq{k:Nat}(s:List UInt8)(h:s.length<1073741824):I_SplitTarget k s=some (splitT s):=by
 have hd:decide (s.length<4294967281)=true:=by simp;omega
 rw[I_SplitTarget,strings_Cut,cutO,hd,cond_true,Option.bind_some,cut_byte]
 rfl
def neP(s:List UInt8):Bool:= !(s==[])
def emP(w:List (List UInt8))(i:Nat):Bool:=match w[i]? with|some s=>s==[]|none=>false
theorem idxF_eq{k:Nat}(hk:1073741824≤k)(w:List (List UInt8))(h:w.length<1073741824):slices_IndexFunc_string_at_I_NormalTarget_1 k w=some (oInt (firstI (emP w) w.length 0)):=by
 have:=find_all (len:=w.length) (c:=fun i=>bif emP w i then some (i:Int)else none) (F:=fun n i=>slices_IndexFunc_string_at_I_NormalTarget_1_b0 k n w (w.length:Int) i) (fun n i hi=>by
  simp only[slices_IndexFunc_string_at_I_NormalTarget_1_b0,idx_nat hi,Option.bind_some,wrap_succ (by omega:i<9223372036854775807),bif_dec,lt_cast,hi,if_true,I_NormalTarget_1,emP,List.getElem?_eq_getElem hi]
  cases (w[i]==([]:List UInt8))<;>rfl) (fun n i hi=>by
  simp only[slices_IndexFunc_string_at_I_NormalTarget_1_b0,bif_dec,lt_cast]
  rw[if_neg (by omega)]) (k:=k) (by omega)
 rw[slices_IndexFunc_string_at_I_NormalTarget_1,this,findI_first]
 cases firstI (emP w) w.length 0<;>rfl
theorem take_set_succ{r:List (List UInt8)}{i:Nat}{e:List UInt8}(h:i<r.length):(r.set i e).take (i+1)=r.take i++[e]:=by
 rw[List.take_add_one,List.take_set,List.set_eq_of_length_le (by rw[List.length_take];omega),List.getElem?_set_self h];rfl
theorem filter_take_succ{w:List (List UInt8)}{j:Nat}(h:j<w.length):(w.take (j+1)).filter neP=(w.take j).filter neP++(bif neP w[j]then [w[j]]else []):=by
 rw[List.take_add_one,List.filter_append,List.getElem?_eq_getElem h]
 cases hn:neP w[j]<;>simp[hn]
theorem del_loop{k:Nat}{w:List (List UInt8)}(hw:w.length<1073741824):∀(n j i:Nat) (r:List (List UInt8)),w.length -j<n→j≤w.length→i≤j→r.length=w.length→r.take i=(w.take j).filter neP→r.drop j=w.drop j→
 ∃(i':Nat) (r':List (List UInt8)),slices_DeleteFunc_string_at_I_NormalTarget_1_b0 k n (i:Int) (j:Int) r=some ((i':Int),r')∧i'≤w.length∧r'.length=w.length∧r'.take i'=w.filter neP:=by
 intro n
 induction n with
 |zero=>intro j i r h;omega
 |succ n ih=>
  intro j i r hn hj hi hl ht hd
  rw[slices_DeleteFunc_string_at_I_NormalTarget_1_b0,bif_dec]
  by_cases c:j<w.length
  ·have cr:j<r.length:=by omega
   have ci:i<r.length:=by omega
   have e:r[j]=w[j]:=by
    have:=congrArg (fun l=>l[0]?) hd
    simp only[List.getElem?_drop,Nat.add_zero,List.getElem?_eq_getElem cr,List.getElem?_eq_getElem c]at this
    exact Option.some.inj this
   have hd':r.drop (j+1)=w.drop (j+1):=by
    have:=congrArg (List.drop 1) hd
    rw[List.drop_drop,List.drop_drop]at this
    exact this
   have ft:=filter_take_succ c
   rw[if_pos (by omega),slices_DeleteFunc_string_at_I_NormalTarget_1_b1,idx_nat cr,Option.bind_some,Option.bind_some,I_NormalTarget_1,Option.bind_some,slices_DeleteFunc_string_at_I_NormalTarget_1_c29,e]
   have hne:(!(w[j]==([]:List UInt8)))=neP w[j]:=rfl
   rw[hne]
   cases hp:neP w[j]with
   |true=>
    rw[hp,cond_true]at ft
    rw[cond_true,idx_nat ci,Option.bind_some,Option.bind_some,Option.bind_some,Option.bind_some,Int.toNat_natCast]
    simp only
    rw[wrap_succ (by omega),wrap_succ (by omega)]
    exact ih (j+1) (i+1) (r.set i w[j]) (by omega) (by omega) (by omega) (by simpa using hl) (by rw[take_set_succ ci,ft,ht]) (by rw[List.drop_set_of_lt (by omega)];exact hd')
   |false=>
    rw[hp,cond_false,List.append_nil]at ft
    rw[cond_false,Option.bind_some,Option.bind_some]
    simp only
    rw[wrap_succ (by omega)]
    exact ih (j+1) i r (by omega) (by omega) (by omega) hl (by rw[ft,ht]) hd'
  ·rw[if_neg (by omega)]
   exact⟨i,r,rfl,by omega,hl,by rw[ht,List.take_of_length_le (by omega)]⟩
theorem del_eq{k:Nat}(hk:1073741824≤k)(w:List (List UInt8))(h:w.length<1073741824):slices_DeleteFunc_string_at_I_NormalTarget_1 k w=some (w.filter neP):=by
 rw[slices_DeleteFunc_string_at_I_NormalTarget_1,idxF_eq hk w h,Option.bind_some]
 cases hf:firstI (emP w) w.length 0 with
 |none=>
  have hno:=firstI_none _ _ hf
  have:w.filter neP=w:=List.filter_eq_self.2 fun s hs=>by
   obtain⟨i,hi,rfl⟩:=List.mem_iff_getElem.1 hs
   have:=hno i (by omega) (by omega)
   unfold emP at this
   rw[List.getElem?_eq_getElem hi]at this
   unfold neP
   simp only at this
   rw[this];rfl
  rw[this];rfl
 |some i=>
  obtain⟨_,g1,g2,g3⟩:=firstI_some _ _ _ hf
  have hi:i<w.length:=by omega
  have ei:w[i]=[]:=by
   unfold emP at g2
   rw[List.getElem?_eq_getElem hi]at g2
   simpa using g2
  have hlt:w.take i=(w.take i).filter neP:=(List.filter_eq_self.2 fun s hs=>by
   obtain⟨q,hq,rfl⟩:=List.mem_iff_getElem.1 hs
   have hq':q<i:=by simp at hq;omega
   have:=g3 q (by omega) hq'
   unfold emP at this
   rw[List.getElem?_eq_getElem (by omega:q<w.length)]at this
   unfold neP
   simp only at this
   rw[List.getElem_take,this];rfl).symm
  have ft:=filter_take_succ hi
  have hn:neP w[i]=false:=by rw[ei];rfl
  rw[hn,cond_false,List.append_nil]at ft
  obtain⟨i',r',e,hi',hl',ht'⟩:=del_loop (k:=k) h k (i+1) i w (by omega) (by omega) (by omega) rfl (by rw[ft];exact hlt) rfl
  show(bif((i:Int)== -1)then some w else((slices_DeleteFunc_string_at_I_NormalTarget_1_b0 k k (i:Int) (IntKind.wrap .i64 ((i:Int)+1)) w).bind _))=_
  rw[beq_eq_false_iff_ne.2 (by omega:(i:Int)≠-1),cond_false,wrap_succ (by omega),e,Option.bind_some]
  simp only
  rw[ssub_drop (by omega),Option.bind_some,Int.toNat_natCast,ssub_take (by simp;omega),Option.bind_some]
  rw[List.take_append_of_le_length (by simp;omega),List.take_take,Nat.min_self,ht']
def insK(e:List UInt8)(out:List (List UInt8)):Nat→Nat
 |0=>0
 |k+1=>bif decide (e<out.getD k [])then insK e out k else k+1
def insE(e:List UInt8)(out:List (List UInt8)):List (List UInt8):=out.take (insK e out out.length)++[e]++out.drop (insK e out out.length)
def insAll:List (List UInt8)→List (List UInt8)→List (List UInt8)
 |[],out=>out
 |e::r,out=>insAll r (bif neP e then insE e out else out)
theorem insK_le(e:List UInt8)(out:List (List UInt8)):∀m,insK e out m≤m
 |0=>by rw[insK];omega
 |m+1=>by
  have:=insK_le e out m
  rw[insK]
  cases decide (e<out.getD m [])with
  |true=>rw[cond_true];omega
  |false=>rw[cond_false];omega
theorem insK_hi(e:List UInt8)(out:List (List UInt8)):∀m q,insK e out m≤q→q<m→e<out.getD q []
 |0,q,_,h=>by omega
 |m+1,q,h1,h2=>by
  rw[insK]at h1
  by_cases hc:e<out.getD m []
  ·rw[decide_eq_true hc,cond_true]at h1
   by_cases hq:q=m
   ·rw[hq];exact hc
   ·exact insK_hi e out m q h1 (by omega)
  ·rw[decide_eq_false hc,cond_false]at h1;omega
theorem insK_lo(e:List UInt8)(out:List (List UInt8)):∀m,0<insK e out m→¬e<out.getD (insK e out m -1) []
 |0,h=>by rw[insK]at h;omega
 |m+1,h=>by
  rw[insK]at h ⊢
  by_cases hc:e<out.getD m []
  ·rw[decide_eq_true hc,cond_true]at h ⊢;exact insK_lo e out m h
  ·rw[decide_eq_false hc,cond_false];exact hc
theorem insE_perm(e:List UInt8)(out:List (List UInt8)):(insE e out).Perm (e::out):=by
 unfold insE
 rw[List.append_assoc]
 have:=List.perm_middle (a:=e) (l₁:=out.take (insK e out out.length)) (l₂:=out.drop (insK e out out.length))
 rw[List.take_append_drop]at this
 exact this
theorem insE_sorted{e:List UInt8}{out:List (List UInt8)}(h:out.Pairwise fun x y=>x≤y):(insE e out).Pairwise fun x y=>x≤y:=by
 have k1:=insK_le e out out.length
 have gd:∀q (hq:q<out.length),out.getD q []=out[q]:=fun q hq=>by simp[List.getD,hq]
 have hi:∀y∈out.drop (insK e out out.length),e≤y:=fun y hy=>by
  obtain⟨q,hq,rfl⟩:=List.mem_iff_getElem.1 hy
  rw[List.length_drop]at hq
  rw[List.getElem_drop]
  have:=insK_hi e out out.length (insK e out out.length+q) (by omega) (by omega)
  rw[gd _ (by omega)]at this
  exact List.le_of_lt this
 have lo:∀x∈out.take (insK e out out.length),x≤e:=fun x hx=>by
  obtain⟨q,hq,rfl⟩:=List.mem_iff_getElem.1 hx
  have hq':q<insK e out out.length:=by rw[List.length_take]at hq;omega
  rw[List.getElem_take]
  have h0:=insK_lo e out out.length (by omega)
  rw[gd _ (by omega)]at h0
  have h1:=List.not_lt.1 h0
  by_cases c:q=insK e out out.length -1
  ·subst c;exact h1
  ·exact List.le_trans (List.pairwise_iff_getElem.1 h q (insK e out out.length -1) (by omega) (by omega) (by omega)) h1
 have hs:=h
 rw[←List.take_append_drop (insK e out out.length) out,List.pairwise_append]at hs
 unfold insE
 rw[List.append_assoc,List.pairwise_append]
 refine⟨hs.1,List.pairwise_cons.2 ⟨hi,hs.2.1⟩,fun x hx y hy=> ?_⟩
 rcases List.mem_cons.1 hy with rfl|hy
 ·exact lo x hx
 ·exact hs.2.2 x hx y hy
theorem insAll_ok:∀(w out:List (List UInt8)),(out.Pairwise fun x y=>x≤y)→((insAll w out).Pairwise fun x y=>x≤y)∧(insAll w out).Perm (w.filter neP++out)
 |[],out,h=>⟨h,.refl _⟩
 |e::r,out,h=>by
  rw[insAll]
  cases hn:neP e with
  |false=>
   rw[cond_false,List.filter_cons_of_neg (by simp[hn])]
   exact insAll_ok r out h
  |true=>
   rw[cond_true,List.filter_cons_of_pos hn]
   obtain⟨h1,h2⟩:=insAll_ok r (insE e out) (insE_sorted h)
   refine⟨h1,h2.trans ?_⟩
   exact((insE_perm e out).append_left _).trans (List.perm_middle.trans (.refl _))
theorem insAll_sort(w:List (List UInt8)):insAll w []=(w.filter neP).mergeSort fun x y=>decide (x≤y):=by
 obtain⟨h1,h2⟩:=insAll_ok w [] .nil
 rw[List.append_nil]at h2
 refine List.Perm.eq_of_pairwise (le:=fun x y=>x≤y) (fun a b _ _ h3 h4=>List.le_antisymm h3 h4) h1 ?_ (h2.trans (List.mergeSort_perm _ _).symm)
 have:=List.pairwise_mergeSort (le:=fun(x y:List UInt8)=>decide (x≤y)) (fun a b c h3 h4=>by simp only[decide_eq_true_eq]at*;exact List.le_trans h3 h4) (fun a b=>by
  simp only[Bool.or_eq_true,decide_eq_true_eq];exact List.le_total a b) (w.filter neP)
 exact this.imp fun h=>by simpa using h
theorem S_ins_pos{k:Nat}{w out:List (List UInt8)}{i:Int}{e:List UInt8}(hi:idx w i=some e)(ho:out.length<1073741824):∀(n j:Nat),j<n→j≤out.length→S_l12Query_b2 k n i (j:Int) w out=some ((insK e out j:Nat):Int):=by
 intro n
 induction n with
 |zero=>intro j h;omega
 |succ n ih=>
  intro j hn hj
  rw[S_l12Query_b2,bif_dec]
  cases j with
  |zero=>rw[if_neg (by omega)];rfl
  |succ j=>
   have hjl:j<out.length:=by omega
   rw[if_pos (by omega),hi,Option.bind_some,Option.bind_some,wrap_id (n:=((j+1:Nat):Int) -1) (by omega) (by omega),show((j+1:Nat):Int) -1=(j:Int)by omega,idx_nat hjl,Option.bind_some,Option.bind_some,Go.Proofs.bytesLess_eq,insK,show out.getD j []=out[j]by simp[List.getD,hjl]]
   cases decide (e<out[j])with
   |true=>rw[cond_true,cond_true];exact ih j (by omega) (by omega)
   |false=>rw[cond_false,cond_false]
theorem insE_len(e:List UInt8)(out:List (List UInt8)):(insE e out).length=out.length+1:=by have:=(insE_perm e out).length_eq;simpa using this
theorem S_ins_loop{k:Nat}(hk:1073741824≤k){w:List (List UInt8)}(hw:w.length<1073741824):∀(n i:Nat) (out:List (List UInt8)),w.length -i<n→i≤w.length→out.length≤i→S_l12Query_b0 k n (i:Int) w out=some (insAll (w.drop i) out):=by
 intro n
 induction n with
 |zero=>intro i out h;omega
 |succ n ih=>
  intro i out hn hi ho
  rw[S_l12Query_b0,bif_dec]
  by_cases c:i<w.length
  ·have kl:=insK_le w[i] out out.length
   have il:=insE_len w[i] out
   have step:S_l12Query_b1 k (i:Int) w out=some (bif neP w[i]then insE w[i] out else out):=by
    rw[S_l12Query_b1,S_ins_pos (idx_nat c) (by omega) k out.length (by omega) (by omega),Option.bind_some,idx_nat c,Option.bind_some,Option.bind_some,S_l12Query_c40]
    show((bif neP w[i]then _ else _:Option _).bind _)=_
    cases neP w[i]with
    |false=>rfl
    |true=>
     rw[cond_true,ssub_take kl,Option.bind_some,appn_ok (by simp;omega),Option.bind_some,idx_nat c,Option.bind_some,Option.bind_some,appn_ok (by simp;omega),Option.bind_some,ssub_drop kl,Option.bind_some,appn_ok (by simp;omega)]
     rfl
   rw[if_pos (by omega),step,Option.bind_some,wrap_succ (by omega),ih (i+1) _ (by omega) (by omega) (by cases neP w[i]<;>simp<;>omega)]
   conv=>rhs;rw[List.drop_eq_getElem_cons c,insAll]
  ·rw[if_neg (by omega),List.drop_of_length_le (by omega),insAll]
theorem lens_perm{l l':List (List UInt8)}(h:l.Perm l'):Lib.lens l=Lib.lens l':=by
 induction h with
 |nil=>rfl
 |cons x _ ih=>rw[lensC,lensC,ih]
 |swap x y l=>rw[lensC,lensC,lensC,lensC];omega
 |trans _ _ ih1 ih2=>exact ih1.trans ih2
theorem lens_filter(f:List UInt8→Bool):∀l:List (List UInt8),Lib.lens (l.filter f)≤Lib.lens l
 |[]=>by simp
 |e::l=>by
  have:=lens_filter f l
  cases h:f e with
  |true=>rw[List.filter_cons_of_pos h,lensC,lensC];omega
  |false=>rw[List.filter_cons_of_neg (by simp[h]),lensC];omega
def sortQ(q:List UInt8):List (List UInt8):=((cutP 38 q []).filter neP).mergeSort fun x y=>decide (x≤y)
theorem sortQ_perm(q:List UInt8):(sortQ q).Perm ((cutP 38 q []).filter neP):=List.mergeSort_perm _ _
theorem sortQ_lens(q:List UInt8):(sortQ q).length≤q.length+1∧Lib.lens (sortQ q)≤q.length:=by
 have h1:=lens_perm (sortQ_perm q)
 have h2:=(sortQ_perm q).length_eq
 have h3:=lens_filter neP (cutP 38 q [])
 have h4:=List.length_filter_le neP (cutP 38 q [])
 have h5:=cutP_len 38 q []
 have h6:=cutP_sum 38 q []
 simp only[List.length_nil]at h6
 omega
theorem sortQ_ne{q s:List UInt8}(h:s∈sortQ q):s≠[]:=by
 have:=(List.mem_filter.1 ((sortQ_perm q).mem_iff.1 h)).2
 unfold neP at this
 simpa using this
theorem S_q_text{k:Nat}{x:List UInt8}{r:List (List UInt8)}(h:2*r.length+Lib.lens (x::r)<8589934592):∀(n j:Nat),j≤r.length→r.length -j<n→
 S_l12Query_b4 k n (x++Lib.joinTail [38] (r.take j)) ((j+1:Nat):Int) (x::r)=some (x++Lib.joinTail [38] r):=by
 have hx:Lib.lens (x::r)=x.length+Lib.lens r:=rfl
 intro n
 induction n with
 |zero=>intro j _ h;omega
 |succ n ih=>
  intro j hj hn
  rw[S_l12Query_b4,bif_dec]
  by_cases c:j<r.length
  ·have hlen:((j+1:Nat):Int)<((x::r).length:Int):=by simp;omega
   have e1:decide (((j+1:Nat):Int)>0)=true:=decide_eq_true (by omega)
   have e2:idx (x::r) ((j+1:Nat):Int)=some r[j]:=by
    rw[idx_nat (by simp;omega)];simp
   have b1:=Lib.joinTail_take_le [38] r j
   have b2:=Lib.joinTail_length [38] r
   have b3:=Lib.joinTail_take_le [38] r (j+1)
   have b4:=Lib.joinTail_take_succ [38] r j r[j] (List.getElem?_eq_getElem c)
   have b5:=congrArg List.length b4
   simp only[List.length_append,List.length_cons,List.length_nil]at b2 b5
   rw[if_pos hlen,S_l12Query_b5,S_l12Query_c63,e1,cond_true,cat_ok (by simp;omega),Option.bind_some,Option.bind_some,e2,Option.bind_some,Option.bind_some,cat_ok (by simp;omega),Option.bind_some,Option.bind_some,wrap_succ (by omega)]
   have:=ih (j+1) (by omega) (by omega)
   rw[b4]at this
   rw[←this]
   congr 1
   simp
  ·have hlen:¬((j+1:Nat):Int)<((x::r).length:Int):=by simp;omega
   rw[if_neg hlen,List.take_of_length_le (by omega)]
theorem S_l12Query_eq{k:Nat}(hk:1073741824≤k)(q:List UInt8)(h:q.length<1073740000):S_l12Query k q=some (Lib.join (sortQ q) [38]):=by
 have hc:=cutP_len 38 q []
 obtain⟨l1,l2⟩:=sortQ_lens q
 have hs:=S_l12Split_eq hk q 38 (by omega)
 rw[show(((38:UInt8).toNat:Nat):Int)=38 from rfl]at hs
 have c1:=S_ins_loop (k:=k) hk (w:=cutP 38 q []) (by omega) k 0 [] (by omega) (by omega) (by simp)
 rw[show(((0:Nat)):Int)=0 from rfl,List.drop_zero,insAll_sort]at c1
 rw[S_l12Query,hs,Option.bind_some,c1,Option.bind_some]
 show((S_l12Query_b4 k k [] 0 (sortQ q)).bind _)=_
 obtain⟨k',rfl⟩:∃k',k=k'+1:=⟨k -1,by omega⟩
 cases hsq:sortQ q with
 |nil=>rfl
 |cons x r=>
  rw[hsq]at l1 l2
  have hm:Lib.lens (x::r)=x.length+Lib.lens r:=rfl
  simp only[List.length_cons]at l1
  have hb:2*r.length+Lib.lens (x::r)<8589934592:=by
   have t1:=l1
   have t2:=l2
   clear c1 hs
   omega
  have c2:=S_q_text (k:=k'+1) (x:=x) (r:=r) hb k' 0 (by omega) (by omega)
  rw[S_l12Query_b4,bif_dec,if_pos (by simp),S_l12Query_b5,S_l12Query_c63,show decide ((0:Int)>0)=false from rfl,cond_false,Option.bind_some,show idx (x::r) (0:Int)=some x from rfl,Option.bind_some,Option.bind_some,cat_ok (by simp;omega),Option.bind_some,Option.bind_some]
  rw[show IntKind.wrap .i64 ((0:Int)+1)=((0+1:Nat):Int)by decide,List.nil_append]
  rw[List.take_zero,show Lib.joinTail [38] []=[]from rfl,List.append_nil]at c2
  rw[c2,Option.bind_some,Lib.join_cons]
theorem dec_len:∀(x acc t:List UInt8),dec x acc=some t→t.length≤acc.length+x.length
 |[],acc,t,h=>by cases h;simp
 |[c],acc,t,h=>by
  rw[decA1]at h
  cases hc:(c==37)with
  |true=>rw[hc]at h;cases h
  |false=>rw[hc]at h;cases h;simp
 |[c,d],acc,t,h=>by
  rw[decA2]at h
  cases hc:(c==37)with
  |true=>rw[hc]at h;cases h
  |false=>rw[hc]at h;have:=dec_len [d] (acc++[c]) t h;simp at this ⊢;omega
 |c::u::l::r,acc,t,h=>by
  rw[decA3]at h
  cases hc:(c==37)with
  |true=>
   rw[hc,cond_true]at h
   cases h2:(decide (0≤hexV u)&&decide (0≤hexV l))with
   |false=>rw[h2]at h;cases h
   |true=>
    rw[h2]at h
    have:=dec_len r _ t h
    have ol:=outAB_len (hexV u).toNat (hexV l).toNat
    simp at this ⊢;omega
  |false=>rw[hc]at h;have:=dec_len (u::l::r) (acc++[c]) t h;simp at this ⊢;omega
theorem decT_len(x:List UInt8):(decT x).1.length≤x.length:=by
 unfold decT
 cases h:dec x []with
 |none=>simp
 |some t=>have:=dec_len x [] t h;simpa using this
def q47(p:List UInt8):Bool:=p[0]? ==some 47
def normT(s:List UInt8):List UInt8×Bool:=
 bif !(decT (splitT s).1).2 then([],false)else bif !(decT (splitT s).2.1).2 then([],false)else bif !q47 (decT (splitT s).1).1 then([],false)else
 (bif(sortQ (decT (splitT s).2.1).1).isEmpty then pathT (decT (splitT s).1).1 else pathT (decT (splitT s).1).1++[63]++Lib.join (sortQ (decT (splitT s).2.1).1) [38],true)
theorem splitT_len(s:List UInt8):(splitT s).1.length≤s.length∧(splitT s).2.1.length≤s.length:=by
 unfold splitT
 cases firstI (byteP s 63) s.length 0 with
 |none=>simp
 |some i=>simp;omega
theorem pathT_len(p:List UInt8):(pathT p).length≤2*p.length+1:=by
 obtain⟨l1,l2⟩:=cutL (x:=p.drop 1)
 have:=Lib.joinTail_length [47] (cleanL (cutP 47 (p.drop 1) []) [])
 rw[List.length_drop]at l1 l2
 unfold pathT
 rw[this]
 simp only[List.length_cons,List.length_nil]
 omega
theorem joinQ_len(q:List UInt8):(Lib.join (sortQ q) [38]).length≤2*q.length+1:=by
 obtain⟨l1,l2⟩:=sortQ_lens q
 cases hq:sortQ q with
 |nil=>simp[Lib.join_nil]
 |cons x r=>rw[hq]at l1 l2;rw[Lib.join_length];simp at l1 ⊢;omega
theorem join_empty(q:List UInt8):(Lib.join (sortQ q) [38]==[])=(sortQ q).isEmpty:=by
 cases hq:sortQ q with
 |nil=>rfl
 |cons x r=>
  have:=sortQ_ne (q:=q) (s:=x) (by rw[hq];exact .head _)
  rw[Lib.join_cons]
  cases x with
  |nil=>exact absurd rfl this
  |cons a b=>rfl
theorem S_NormalTarget_eq{k:Nat}(hk:1073741824≤k)(s:List UInt8)(h:s.length<134217728):S_NormalTarget k s=some (normT s):=by
 obtain⟨s1,s2⟩:=splitT_len s
 have d1:=decT_len (splitT s).1
 have d2:=decT_len (splitT s).2.1
 rw[S_NormalTarget,S_SplitTarget_eq hk s (by omega),Option.bind_some,S_l12Plain_eq hk _ (by omega),Option.bind_some,S_l12Plain_eq hk _ (by omega),Option.bind_some]
 unfold normT
 generalize decT (splitT s).1=p at d1 ⊢
 generalize decT (splitT s).2.1=q at d2 ⊢
 obtain⟨p,b1⟩:=p
 obtain⟨q,b2⟩:=q
 simp only at d1 d2
 cases b1<;>cases b2<;>simp only[Bool.not_true,Bool.not_false,cond_true,cond_false]
 cases p with
 |nil=>rfl
 |cons c r=>
  have e0:(((c::r).length:Int)==0)=false:=by rw[beq_eq_false_iff_ne];simp;omega
  have u47:((UInt8.toNat c:Int) !=47)= !(c==47):=by unfold bne;rw[←u8_eq c 47];rfl
  have hq:q47 (c::r)=(c==47):=by unfold q47;simp
  rw[e0,cond_false,show idx (c::r) (0:Int)=some c from rfl,Option.bind_some,u47,hq]
  cases (c==47)with
  |false=>rfl
  |true=>
   have pl:=pathT_len (c::r)
   have jl:=joinQ_len q
   simp only[Bool.not_true,cond_false]
   rw[S_l12Path_eq hk (c::r) (by omega) (by simp),Option.bind_some,S_l12Query_eq hk q (by omega),Option.bind_some,join_empty,S_NormalTarget_c50]
   cases (sortQ q).isEmpty with
   |true=>rfl
   |false=>rw[Bool.not_false,cond_true,cat_ok (by simp;omega),Option.bind_some,cat_ok (by simp;omega)];rfl
theorem hasPre_47{k:Nat}(x:List UInt8):strings_HasPrefix k x ([47]:List UInt8)=some (q47 x):=by
 rw[strings_HasPrefix,internal_stringslite_HasPrefix,bif_dec]
 cases x with
 |nil=>rfl
 |cons c r=>
  rw[if_pos (by simp;omega)]
  have:ssub (c::r) (0:Int) ((([47]:List UInt8).length:Nat):Int)=some [c]:=by
   have:=ssub_take (x:=c::r) (i:=1) (by simp)
   simpa using this
  rw[this,Option.bind_some,Option.bind_some]
  unfold q47
  simp
theorem I_NormalTarget_eq{k:Nat}(hk:1073741824≤k)(s:List UInt8)(h:s.length<134217728):I_NormalTarget k s=some (normT s):=by
 obtain⟨s1,s2⟩:=splitT_len s
 have d1:=decT_len (splitT s).1
 have d2:=decT_len (splitT s).2.1
 rw[I_NormalTarget,I_SplitTarget_eq s (by omega),Option.bind_some,I_decodedTarget_eq hk _ (by omega),Option.bind_some,I_decodedTarget_eq hk _ (by omega),Option.bind_some]
 unfold normT
 generalize decT (splitT s).1=p at d1 ⊢
 generalize decT (splitT s).2.1=q at d2 ⊢
 obtain⟨p,b1⟩:=p
 obtain⟨q,b2⟩:=q
 simp only at d1 d2
 cases b1<;>cases b2<;>simp only[Bool.not_true,Bool.not_false,cond_true,cond_false]
 rw[hasPre_47,Option.bind_some]
 cases hq:q47 p with
 |false=>rfl
 |true=>
  have h0:0<p.length:=by
   cases p with
   |nil=>simp[q47]at hq
   |cons c r=>simp
  have pl:=pathT_len p
  have jl:=joinQ_len q
  have hc:=cutP_len 38 q []
  obtain⟨l1,l2⟩:=sortQ_lens q
  have fl:=List.length_filter_le neP (cutP 38 q [])
  have hso:sortO ((cutP 38 q []).filter neP)=some (sortQ q):=by
   unfold sortO
   rw[decide_eq_true (by omega:((cutP 38 q []).filter neP).length<4611686018427387904)];rfl
  rw[Bool.not_true,cond_false,I_path hk p (by omega) h0]
  rw[strings_Split_eq _ _ (by omega),Option.bind_some,del_eq hk _ (by omega),Option.bind_some,slices_Sort_string,hso,Option.bind_some,I_NormalTarget_c51,bif_dec]
  cases hsq:sortQ q with
  |nil=>rw[if_neg (by simp)];rfl
  |cons x r=>
   rw[hsq]at jl l1
   have hd:(decide ((x::r).length≤140737488355328)&&decide ((Lib.join (x::r) [38]).length≤140737488355328))=true:=by
    rw[Bool.and_eq_true];exact⟨decide_eq_true (by omega),decide_eq_true (by omega)⟩
   rw[if_pos (by simp),strings_Join,joinO,hd,cond_true,Option.bind_some,cat_ok (by simp;omega),Option.bind_some,cat_ok (by simp;omega),Option.bind_some,Option.bind_some]
   simp
theorem S_IsNormalTarget_eq{k:Nat}(hk:1073741824≤k)(s:List UInt8)(h:s.length<134217728):S_IsNormalTarget k s=some ((normT s).2&&((normT s).1==s)):=by
 rw[S_IsNormalTarget,S_NormalTarget_eq hk s h,Option.bind_some]
 cases (normT s).2<;>rfl
theorem I_IsNormalTarget_eq{k:Nat}(hk:1073741824≤k)(s:List UInt8)(h:s.length<134217728):I_IsNormalTarget k s=some ((normT s).2&&((normT s).1==s)):=by
 rw[I_IsNormalTarget,I_NormalTarget_eq hk s h,Option.bind_some]
 cases (normT s).2<;>rfl
def badV(c:UInt8):Bool:= !inR (c.toNat:Int) 32 126&&c !=9
def bvP(x:List UInt8)(i:Nat):Bool:=match x[i]? with|some c=>badV c|none=>false
def valOK(x:List UInt8):Bool:=(firstI (bvP x) x.length 0).isNone&&decide ((x.length:Int)≤200)&&(trimT x==x)
def nameOK(x:List UInt8):Bool:=isTok x&&(lowT x==x)
def bfP(l:List IField)(i:Nat):Bool:=match l[i]? with|some e=> !nameOK e.Name|| !valOK e.Value|none=>false
def areF(l:List IField):Bool:=(firstI (bfP l) l.length 0).isNone&&decide ((l.length:Int)≤24)
theorem u8_ne9(c:UInt8):((UInt8.toNat c:Int) !=(9:Int))=(c !=9):=by
 have:=u8_eq c 9
 unfold bne
 rw[←this];rfl
theorem S_l5Value_eq{k:Nat}(hk:1073741824≤k)(x:List UInt8)(h:x.length<1073741824):S_l5Value k x=some (valOK x):=by
 have:=find_all (len:=x.length) (c:=fun i=>bif bvP x i then some false else none) (F:=fun n i=>S_l5Value_b0 k n x i) (fun n i hi=>by
  have hb:=UInt8.toNat_lt x[i]
  simp only[S_l5Value_b0,idx_nat hi,Option.bind_some,wrap_succ (by omega:i<9223372036854775807),bif_dec,lt_cast,hi,if_true,bvP,List.getElem?_eq_getElem hi,badV,u8_ne9]
  rw[wrap_id (by omega) (by omega),S_l1In_eq,Option.bind_some]
  cases inR (x[i].toNat:Int) 32 126<;>cases (x[i] !=9)<;>rfl) (fun n i hi=>by
  simp only[S_l5Value_b0,bif_dec,lt_cast]
  rw[if_neg (by omega)]) (k:=k) (by omega)
 rw[S_l5Value,this,findI_first,S_TrimText_eq hk x h]
 unfold valOK
 cases firstI (bvP x) x.length 0 with
 |none=>cases decide ((x.length:Int)≤200)<;>simp[ocOf,oc]
 |some j=>simp[ocOf,oc]
theorem I_isFieldValue_eq{k:Nat}(hk:1073741824≤k)(x:List UInt8)(h:x.length<1073741824):I_isFieldValue k x=some (valOK x):=by
 have:=find_all (len:=x.length) (c:=fun i=>bif bvP x i then some false else none) (F:=fun n i=>I_isFieldValue_b0 k n x (x.length:Int) i) (fun n i hi=>by
  have hb:=UInt8.toNat_lt x[i]
  simp only[I_isFieldValue_b0,idx_nat hi,Option.bind_some,wrap_succ (by omega:i<9223372036854775807),bif_dec,lt_cast,hi,if_true,bvP,List.getElem?_eq_getElem hi,badV,u8_ne9]
  rw[wrap_id (by omega) (by omega),I_inRange_eq,Option.bind_some]
  cases inR (x[i].toNat:Int) 32 126<;>cases (x[i] !=9)<;>rfl) (fun n i hi=>by
  simp only[I_isFieldValue_b0,bif_dec,lt_cast]
  rw[if_neg (by omega)]) (k:=k) (by omega)
 rw[I_isFieldValue,this,findI_first,I_TrimText_eq x h]
 unfold valOK
 cases firstI (bvP x) x.length 0 with
 |none=>cases decide ((x.length:Int)≤200)<;>simp[ocOf,oc]
 |some j=>simp[ocOf,oc]
theorem S_l5Name_eq{k:Nat}(hk:1073741824≤k)(x:List UInt8)(h:x.length<1073741824):S_l5Name k x=some (nameOK x):=by
 rw[S_l5Name,S_IsToken_eq hk x h,Option.bind_some,S_LowerText_eq hk x h]
 unfold nameOK
 cases isTok x<;>rfl
def shortF(l:List IField):Prop:=∀e∈l,e.Name.length<1073741824∧e.Value.length<1073741824
theorem S_AreFields_eq{k:Nat}(hk:1073741824≤k)(l:List IField)(h:l.length<1073741824)(hs:shortF l):S_AreFields k l=some (areF l):=by
 have:=find_all (len:=l.length) (c:=fun i=>bif bfP l i then some false else none) (F:=fun n i=>S_AreFields_b0 k n l i) (fun n i hi=>by
  obtain⟨h1,h2⟩:=hs l[i] (List.getElem_mem hi)
  simp only[S_AreFields_b0,idx_nat hi,Option.bind_some,wrap_succ (by omega:i<9223372036854775807),bif_dec,lt_cast,hi,if_true,bfP,List.getElem?_eq_getElem hi,S_l5Name_eq hk _ h1,S_l5Value_eq hk _ h2]
  cases nameOK l[i].Name<;>cases valOK l[i].Value<;>rfl) (fun n i hi=>by
  simp only[S_AreFields_b0,bif_dec,lt_cast]
  rw[if_neg (by omega)]) (k:=k) (by omega)
 rw[S_AreFields,this,findI_first]
 unfold areF
 cases firstI (bfP l) l.length 0<;>simp[ocOf,oc]
theorem I_AreFields_eq{k:Nat}(hk:1073741824≤k)(l:List IField)(h:l.length<1073741824)(hs:shortF l):I_AreFields k l=some (areF l):=by
 have:=find_all (len:=l.length) (c:=fun i=>bif bfP l i then some false else none) (F:=fun n i=>I_AreFields_b0 k n l l (l.length:Int) i) (fun n i hi=>by
  obtain⟨h1,h2⟩:=hs l[i] (List.getElem_mem hi)
  simp only[I_AreFields_b0,idx_nat hi,Option.bind_some,wrap_succ (by omega:i<9223372036854775807),bif_dec,lt_cast,hi,if_true,bfP,List.getElem?_eq_getElem hi,I_IsToken_eq hk _ h1,I_LowerText_eq hk _ h1,I_isFieldValue_eq hk _ h2,nameOK]
  cases isTok l[i].Name<;>cases (lowT l[i].Name==l[i].Name)<;>cases valOK l[i].Value<;>rfl) (fun n i hi=>by
  simp only[I_AreFields_b0,bif_dec,lt_cast]
  rw[if_neg (by omega)]) (k:=k) (by omega)
 rw[I_AreFields,this,findI_first]
 unfold areF
 cases firstI (bfP l) l.length 0<;>simp[ocOf,oc]
def valOfF(n:List UInt8)(e:IField):List (List UInt8):=bif e.Name==n then [e.Value]else []
def valsF(l:List IField)(n:List UInt8):List (List UInt8):=l.flatMap (valOfF n)
def fsz(l:List IField):Nat:=l.length+(l.map fun e=>e.Value.length).sum
theorem valsF_len(n:List UInt8):∀l:List IField,(valsF l n).length≤l.length
 |[]=>by simp[valsF]
 |e::l=>by
  have:=valsF_len n l
  unfold valsF at this ⊢
  rw[List.flatMap_cons,List.length_append]
  have h2:(valOfF n e).length≤1:=by unfold valOfF;cases (e.Name==n)<;>simp
  rw[List.length_cons];omega
theorem valsF_lens(n:List UInt8):∀l:List IField,Lib.lens (valsF l n)≤(l.map fun e=>e.Value.length).sum
 |[]=>by simp[valsF,Lib.lens]
 |e::l=>by
  have:=valsF_lens n l
  unfold valsF at this ⊢
  rw[List.flatMap_cons]
  unfold valOfF at this ⊢
  cases (e.Name==n)with
  |true=>simp only[cond_true,List.cons_append,List.nil_append,List.map_cons,List.sum_cons];show e.Value.length+Lib.lens _≤_;omega
  |false=>simp only[cond_false,List.nil_append,List.map_cons,List.sum_cons];omega
def getF(l:List IField)(n:List UInt8):List UInt8×Bool:=(joinT (valsF l n),decide (((valsF l n).length:Int)>0))
theorem getF_len(l:List IField)(n:List UInt8):(getF l n).1.length≤2*fsz l:=by
 have h1:=joinT_len (valsF l n)
 have h2:=valsF_len n l
 have h3:=valsF_lens n l
 unfold getF fsz;simp only;omega
theorem S_GetField_eq{k:Nat}(hk:1073741824≤k)(l:List IField)(n:List UInt8)(h:fsz l<268435456):S_GetField k l n=some (getF l n):=by
 have hl:l.length<268435456:=by unfold fsz at h;omega
 have:=fold_all (len:=l.length) (g:=fun j s=>s++(l[j]?).elim [] (valOfF n)) (Inv:=fun i s=>s.length≤i) (F:=fun m i s=>S_GetField_b0 k m l n i s) (out:=id) (fun m i s hi hI=>by
  simp only[S_GetField_b0,bif_dec,lt_cast,hi,if_true,S_GetField_b1,idx_nat hi,Option.bind_some,S_GetField_c21,wrap_succ (by omega:i<9223372036854775807),List.getElem?_eq_getElem hi,Option.elim_some,valOfF]
  cases (l[i].Name==n)with
  |true=>rw[cond_true,cond_true,appn_ok (by simp;omega)];exact⟨rfl,by simp;omega⟩
  |false=>rw[cond_false,cond_false,List.append_nil];exact⟨rfl,by omega⟩) (fun m i s hi=>by
  simp only[S_GetField_b0,bif_dec,lt_cast]
  rw[if_neg (by omega)];rfl) (k:=k) (by omega) (s:=[]) (by simp)
 have h1:S_GetField_b0 k k l n 0 []=some (foldI (fun j s=>s++(l[j]?).elim [] (valOfF n)) l.length 0 []):=this.1
 have h2:=valsF_len n l
 have h3:=valsF_lens n l
 have hv:foldI (fun j s=>s++(l[j]?).elim [] (valOfF n)) l.length 0 []=valsF l n:=by
  rw[foldI_append (f:=valOfF n) l.length 0 [] (by omega),List.drop_zero];rfl
 rw[S_GetField,h1,hv,Option.bind_some,S_JoinList_eq hk _ (by unfold fsz at h;omega)];rfl
theorem I_GetField_eq{k:Nat}(hk:1073741824≤k)(l:List IField)(n:List UInt8)(h:fsz l<268435456):I_GetField k l n=some (getF l n):=by
 have hl:l.length<268435456:=by unfold fsz at h;omega
 have:=fold_all (len:=l.length) (g:=fun j s=>s++(l[j]?).elim [] (valOfF n)) (Inv:=fun i s=>s.length≤i) (F:=fun m i s=>I_GetField_b0 k m n l (l.length:Int) i s) (out:=id) (fun m i s hi hI=>by
  simp only[I_GetField_b0,bif_dec,lt_cast,hi,if_true,I_GetField_b1,idx_nat hi,Option.bind_some,I_GetField_c19,wrap_succ (by omega:i<9223372036854775807),List.getElem?_eq_getElem hi,Option.elim_some,valOfF]
  cases (l[i].Name==n)with
  |true=>rw[cond_true,cond_true,appn_ok (by simp;omega)];exact⟨rfl,by simp;omega⟩
  |false=>rw[cond_false,cond_false,List.append_nil];exact⟨rfl,by omega⟩) (fun m i s hi=>by
  simp only[I_GetField_b0,bif_dec,lt_cast]
  rw[if_neg (by omega)];rfl) (k:=k) (by omega) (s:=[]) (by simp)
 have h1:I_GetField_b0 k k n l (l.length:Int) 0 []=some (foldI (fun j s=>s++(l[j]?).elim [] (valOfF n)) l.length 0 []):=this.1
 have h2:=valsF_len n l
 have h3:=valsF_lens n l
 have hv:foldI (fun j s=>s++(l[j]?).elim [] (valOfF n)) l.length 0 []=valsF l n:=by
  rw[foldI_append (f:=valOfF n) l.length 0 [] (by omega),List.drop_zero];rfl
 rw[I_GetField,h1,hv,Option.bind_some,I_JoinList_eq _ (by unfold fsz at h;omega)];rfl
def nmP(l:List IField)(n:List UInt8)(i:Nat):Bool:=match l[i]? with|some e=>e.Name==n|none=>false
def hasF(l:List IField)(n:List UInt8):Bool:=l.any fun e=>e.Name==n
theorem firstI_any(l:List IField)(n:List UInt8):(firstI (nmP l n) l.length 0).isSome=hasF l n:=by
 unfold hasF
 cases hf:firstI (nmP l n) l.length 0 with
 |some j=>
  obtain⟨_,h1,h2,_⟩:=firstI_some _ _ _ hf
  have hj:j<l.length:=by omega
  simp only[nmP,List.getElem?_eq_getElem hj]at h2
  exact(List.any_eq_true.2 ⟨l[j],List.getElem_mem hj,h2⟩).symm
 |none=>
  have hn:=firstI_none _ _ hf
  refine Eq.symm (List.any_eq_false.2 fun e he=> ?_)
  obtain⟨j,hj,rfl⟩:=List.mem_iff_getElem.1 he
  have:=hn j (by omega) (by omega)
  simp only[nmP,List.getElem?_eq_getElem hj]at this
  rw[this];simp
theorem getF_has(n:List UInt8):∀l:List IField,decide (((valsF l n).length:Int)>0)=hasF l n
 |[]=>rfl
 |e::l=>by
  have ih:=getF_has n l
  unfold valsF hasF at ih ⊢
  rw[List.flatMap_cons,List.any_cons,List.length_append]
  unfold valOfF at ih ⊢
  cases (e.Name==n)with
  |true=>simp only[cond_true,Bool.true_or,List.length_cons,List.length_nil];exact decide_eq_true (by omega)
  |false=>simp only[cond_false,Bool.false_or,List.length_nil,Nat.zero_add];exact ih
theorem I_hasField_eq{k:Nat}(hk:1073741824≤k)(l:List IField)(n:List UInt8)(h:l.length<1073741824):I_hasField k l n=some (hasF l n):=by
 have:=find_all (len:=l.length) (c:=fun i=>bif nmP l n i then some (i:Int)else none) (F:=fun m i=>slices_IndexFunc_IField_at_I_hasField_1_b0 k m l n (l.length:Int) i) (fun m i hi=>by
  simp only[slices_IndexFunc_IField_at_I_hasField_1_b0,I_hasField_1,idx_nat hi,Option.bind_some,wrap_succ (by omega:i<9223372036854775807),bif_dec,lt_cast,hi,if_true,nmP,List.getElem?_eq_getElem hi]
  cases (l[i].Name==n)<;>rfl) (fun m i hi=>by
  simp only[slices_IndexFunc_IField_at_I_hasField_1_b0,bif_dec,lt_cast]
  rw[if_neg (by omega)]) (k:=k) (by omega)
 rw[I_hasField,slices_ContainsFunc_IField_at_I_hasField_1,slices_IndexFunc_IField_at_I_hasField_1,this,findI_first,←firstI_any]
 cases firstI (nmP l n) l.length 0 with
 |none=>rfl
 |some j=>simp[ocOf,oc]
theorem fsz_in:∀(x:List LField),fsz (x.map to_LField)≤szL sz_LField x
 |[]=>by simp[fsz,szL]
 |e::l=>by
  have:=fsz_in l
  unfold fsz szL at this ⊢
  simp only[List.map_cons,List.sum_cons,List.length_cons,List.length_map]at this ⊢
  have h1:(to_LField e).Value.length≤sz_LField e:=by unfold sz_LField;simp only[to_LField];omega
  omega
def clen:List UInt8:=[99,111,110,116,101,110,116,45,108,101,110,103,116,104]
theorem short_in{x:List LField}(h:szL sz_LField x≤1048576):shortF (x.map to_LField):=by
 intro e he
 obtain⟨y,hy,rfl⟩:=List.mem_map.1 he
 have:=sz_mem (g:=sz_LField) hy
 have h2:sz_LField y≤1048576:=by omega
 unfold sz_LField at h2
 simp only[to_LField];omega
def bP(p:UInt8→Bool)(x:List UInt8)(i:Nat):Bool:=match x[i]? with|some c=>p c|none=>false
def noB(p:UInt8→Bool)(x:List UInt8):Bool:=(firstI (bP p x) x.length 0).isNone
theorem bP_at{p:UInt8→Bool}{x:List UInt8}{i:Nat}(h:i<x.length):bP p x i=p x[i]:=by simp only[bP,List.getElem?_eq_getElem h]
structure ReqIn(r:IRequest):Prop where
 m:r.Method.length<1073741824
 h:r.Host.length<1073741824
 t:r.Target.length<1073741824
 f:fsz r.Fields<268435456
 s:shortF r.Fields
theorem noB_all(p:UInt8→Bool)(x:List UInt8):noB p x=x.all fun c=> !p c:=by
 unfold noB
 cases hf:firstI (bP p x) x.length 0 with
 |some j=>
  obtain⟨_,h1,h2,_⟩:=firstI_some _ _ _ hf
  have hj:j<x.length:=by omega
  rw[bP_at hj]at h2
  refine Eq.symm (List.all_eq_false.2 ⟨x[j],List.getElem_mem hj,by simp[h2]⟩)
 |none=>
  have hn:=firstI_none _ _ hf
  refine Eq.symm (List.all_eq_true.2 fun c hc=> ?_)
  obtain⟨j,hj,rfl⟩:=List.mem_iff_getElem.1 hc
  have:=hn j (by omega) (by omega)
  rw[bP_at hj]at this
  rw[this];rfl
theorem u8_ne(c d:UInt8):((UInt8.toNat c:Int) !=(UInt8.toNat d:Int))=(c !=d):=by
 have:=u8_eq c d
 unfold bne
 rw[←this]
def isLow(c:UInt8):Bool:=inR (c.toNat:Int) 97 122
def badH(c:UInt8):Bool:= !inR (c.toNat:Int) 97 122&&(!inR (c.toNat:Int) 48 57&&(c !=45&&c !=46))
def badT(c:UInt8):Bool:= !inR (c.toNat:Int) 33 126
def hostT:List UInt8:=[104,111,115,116]
def isReq(r:IRequest):Bool:=
 noB isLow r.Method&&noB badH r.Host&&noB badT r.Target&&isTok r.Method&&inR (r.Host.length:Int) 1 40&&inR (r.Target.length:Int) 1 100&&(r.Target.head? ==some 47)&&areF r.Fields&&decide ((r.Fields.length:Int)<24)&& !hasF r.Fields clen&& !hasF r.Fields hostT
theorem idx0{x:List UInt8}(h:inR (x.length:Int) 1 100=true):∃c,idx x (0:Int)=some c∧x.head? =some c:=by
 unfold inR at h
 simp only[Bool.and_eq_true,decide_eq_true_eq]at h
 cases x with
 |nil=>simp at h
 |cons c r=>exact⟨c,rfl,rfl⟩
theorem req_b0{k:Nat}(hk:1073741824≤k)(a b c:List UInt8)(d:List IField)(h:a.length<1073741824):S_IsRequest_b0 k k 0 a b c d=some (ocOf (bif noB isLow a then none else some false)):=by
 have:=find_all (len:=a.length) (c:=fun i=>bif bP isLow a i then some false else none) (F:=fun n i=>S_IsRequest_b0 k n i a b c d) (fun n i hi=>by
  have hb:=UInt8.toNat_lt a[i]
  simp only[S_IsRequest_b0,idx_nat hi,Option.bind_some,wrap_succ (by omega:i<9223372036854775807),bif_dec,lt_cast,hi,if_true,bP_at hi,isLow]
  rw[wrap_id (by omega) (by omega),S_l1In_eq,Option.bind_some]
  cases inR (a[i].toNat:Int) 97 122<;>rfl) (fun n i hi=>by
  simp only[S_IsRequest_b0,bif_dec,lt_cast]
  rw[if_neg (by omega)]) (k:=k) (by omega)
 rw[this,findI_first]
 unfold noB
 cases firstI (bP isLow a) a.length 0<;>rfl
theorem req_b2{k:Nat}(hk:1073741824≤k)(a b c:List UInt8)(d:List IField)(h:b.length<1073741824):S_IsRequest_b2 k k 0 a b c d=some (ocOf (bif noB badH b then none else some false)):=by
 have:=find_all (len:=b.length) (c:=fun i=>bif bP badH b i then some false else none) (F:=fun n i=>S_IsRequest_b2 k n i a b c d) (fun n i hi=>by
  have hb:=UInt8.toNat_lt b[i]
  have e45:((UInt8.toNat b[i]:Int) !=(45:Int))=(b[i] !=45):=u8_ne b[i] 45
  have e46:((UInt8.toNat b[i]:Int) !=(46:Int))=(b[i] !=46):=u8_ne b[i] 46
  simp only[S_IsRequest_b2,idx_nat hi,Option.bind_some,wrap_succ (by omega:i<9223372036854775807),bif_dec,lt_cast,hi,if_true,bP_at hi,badH,e45,e46]
  rw[wrap_id (by omega) (by omega),S_l1In_eq,S_l1In_eq,Option.bind_some]
  cases inR (b[i].toNat:Int) 97 122<;>cases inR (b[i].toNat:Int) 48 57<;>cases (b[i] !=45)<;>cases (b[i] !=46)<;>rfl) (fun n i hi=>by
  simp only[S_IsRequest_b2,bif_dec,lt_cast]
  rw[if_neg (by omega)]) (k:=k) (by omega)
 rw[this,findI_first]
 unfold noB
 cases firstI (bP badH b) b.length 0<;>rfl
theorem req_b4{k:Nat}(hk:1073741824≤k)(a b c:List UInt8)(d:List IField)(h:c.length<1073741824):S_IsRequest_b4 k k 0 a b c d=some (ocOf (bif noB badT c then none else some false)):=by
 have:=find_all (len:=c.length) (c:=fun i=>bif bP badT c i then some false else none) (F:=fun n i=>S_IsRequest_b4 k n i a b c d) (fun n i hi=>by
  have hb:=UInt8.toNat_lt c[i]
  simp only[S_IsRequest_b4,idx_nat hi,Option.bind_some,wrap_succ (by omega:i<9223372036854775807),bif_dec,lt_cast,hi,if_true,bP_at hi,badT]
  rw[wrap_id (by omega) (by omega),S_l1In_eq,Option.bind_some]
  cases inR (c[i].toNat:Int) 33 126<;>rfl) (fun n i hi=>by
  simp only[S_IsRequest_b4,bif_dec,lt_cast]
  rw[if_neg (by omega)]) (k:=k) (by omega)
 rw[this,findI_first]
 unfold noB
 cases firstI (bP badT c) c.length 0<;>rfl
theorem S_IsRequest_eq{k:Nat}(hk:1073741824≤k)(r:IRequest)(h:ReqIn r):S_IsRequest k r=some (isReq r):=by
 have hl:r.Fields.length<1073741824:=by have:=h.f;unfold fsz at this;omega
 have hg:(getF r.Fields hostT).2=hasF r.Fields hostT:=getF_has hostT r.Fields
 have hg2:(getF r.Fields clen).2=hasF r.Fields clen:=getF_has clen r.Fields
 have e11:S_l11Fields k r.Fields=some (areF r.Fields&&decide ((r.Fields.length:Int)<24)&& !hasF r.Fields clen):=by
  rw[S_l11Fields]
  show(S_GetField k r.Fields clen).bind _=_
  rw[S_GetField_eq hk _ _ h.f,Option.bind_some,S_AreFields_eq hk _ hl h.s,Option.bind_some,hg2]
  cases areF r.Fields<;>cases decide ((r.Fields.length:Int)<24)<;>rfl
 rw[S_IsRequest,req_b0 hk _ _ _ _ h.m,Option.bind_some]
 unfold isReq
 cases noB isLow r.Method with
 |false=>rfl
 |true=>
  simp only[cond_true,ocOf,oc,req_b2 hk _ _ _ _ h.h,Option.bind_some]
  cases noB badH r.Host with
  |false=>rfl
  |true=>
   simp only[cond_true,req_b4 hk _ _ _ _ h.t,Option.bind_some,ocOf,oc]
   cases noB badT r.Target with
   |false=>rfl
   |true=>
    simp only[cond_true]
    show((S_GetField k r.Fields hostT).bind _)=_
    rw[S_GetField_eq hk _ _ h.f,Option.bind_some,S_IsToken_eq hk _ h.m,Option.bind_some,hg]
    simp only[S_l1In_eq,Option.bind_some]
    cases isTok r.Method<;>cases inR (r.Host.length:Int) 1 40<;>try rfl
    cases ht:inR (r.Target.length:Int) 1 100 with
    |false=>simp
    |true=>
     obtain⟨c,hc,hd⟩:=idx0 ht
     have e47:((UInt8.toNat c:Int)==(47:Int))=(c==47):=u8_eq c 47
     have e47':(some c==some (47:UInt8))=(c==47):=by cases h:(c==47)<;>simp_all
     simp only[cond_true,hc,hd,Option.bind_some,e47,e11,e47',Bool.true_and]
     cases (c==47)<;>cases areF r.Fields<;>cases decide ((r.Fields.length:Int)<24)<;>cases hasF r.Fields clen<;>simp
theorem I_isHost_eq{k:Nat}(hk:1073741824≤k)(x:List UInt8)(h:x.length<1073741824):I_isHost k x=some (noB badH x&&inR (x.length:Int) 1 40):=by
 have:=find_all (len:=x.length) (c:=fun i=>bif bP badH x i then some false else none) (F:=fun n i=>I_isHost_b0 k n x (x.length:Int) i) (fun n i hi=>by
  have hb:=UInt8.toNat_lt x[i]
  have e45:((UInt8.toNat x[i]:Int)==(45:Int))=(x[i]==45):=u8_eq x[i] 45
  have e46:((UInt8.toNat x[i]:Int)==(46:Int))=(x[i]==46):=u8_eq x[i] 46
  simp only[I_isHost_b0,idx_nat hi,Option.bind_some,wrap_succ (by omega:i<9223372036854775807),bif_dec,lt_cast,hi,if_true,bP_at hi,badH,e45,e46,inR,bne]
  by_cases a1:97≤x[i].toNat<;>by_cases a2:x[i].toNat≤122<;>by_cases a5:48≤x[i].toNat<;>by_cases a6:x[i].toNat≤57<;>cases (x[i]==45)<;>cases (x[i]==46)<;>
   simp[a1,a2,a5,a6,show((x[i].toNat:Int)≥97)=(97≤x[i].toNat)from by simp;omega,show((97:Int)≤(x[i].toNat:Int))=(97≤x[i].toNat)from by simp;omega,show((x[i].toNat:Int)≤122)=(x[i].toNat≤122)from by simp;omega,show((x[i].toNat:Int)≥48)=(48≤x[i].toNat)from by simp;omega,show((48:Int)≤(x[i].toNat:Int))=(48≤x[i].toNat)from by simp;omega,show((x[i].toNat:Int)≤57)=(x[i].toNat≤57)from by simp;omega]) (fun n i hi=>by
  simp only[I_isHost_b0,bif_dec,lt_cast]
  rw[if_neg (by omega)]) (k:=k) (by omega)
 rw[I_isHost,this,findI_first]
 unfold noB
 cases firstI (bP badH x) x.length 0<;>simp[ocOf,oc,I_inRange_eq]
theorem tok_asc:∀j:Fin 256,(!tokB (UInt8.ofNat j.val)||decide ((UInt8.ofNat j.val).toNat<128))=true:=by decide+kernel
theorem upp_tab:∀j:Fin 256,(Lib.upperB (UInt8.ofNat j.val)==UInt8.ofNat j.val)= !isLow (UInt8.ofNat j.val):=by decide+kernel
theorem upp_eq(c:UInt8):(Lib.upperB c==c)= !isLow c:=by
 have:=upp_tab ⟨c.toNat,UInt8.toNat_lt c⟩
 simpa using this
theorem isTok_asc{x:List UInt8}(h:isTok x=true):(x.all fun c=>decide (c.toNat<128))=true:=by
 unfold isTok at h
 simp only[Bool.and_eq_true]at h
 have hn:noB (fun c=> !tokB c) x=true:=h.1
 rw[noB_all]at hn
 refine List.all_eq_true.2 fun c hc=> ?_
 have h1:=List.all_eq_true.1 hn c hc
 have h2:=tok_asc ⟨c.toNat,UInt8.toNat_lt c⟩
 simp at h1 h2
 simpa[h1]using h2
theorem upp_all:∀x:List UInt8,(Lib.toUpperA x==x)=noB isLow x
 |[]=>rfl
 |c::r=>by
  have ih:=upp_all r
  rw[noB_all]at ih ⊢
  have e:Lib.toUpperA (c::r)=Lib.upperB c::Lib.toUpperA r:=rfl
  rw[e,List.cons_beq_cons,upp_eq,ih,List.all_cons]
theorem toUpper_ok{k:Nat}{x:List UInt8}(h:isTok x=true)(hl:x.length<1073741824):strings_ToUpper k x=some (Lib.toUpperA x):=by
 rw[strings_ToUpper,toUpperO,isTok_asc h,decide_eq_true (by omega)];rfl
theorem I_IsRequest_eq{k:Nat}(hk:1073741824≤k)(r:IRequest)(h:ReqIn r):I_IsRequest k r=some (isReq r):=by
 have hl:r.Fields.length<1073741824:=by have:=h.f;unfold fsz at this;omega
 have hb0:I_IsRequest_b0 k k (r.Target.length:Int) 0 r.Method r.Host r.Target r.Fields=some (ocOf (bif noB badT r.Target then none else some false)):=by
  have:=find_all (len:=r.Target.length) (c:=fun i=>bif bP badT r.Target i then some false else none) (F:=fun n i=>I_IsRequest_b0 k n (r.Target.length:Int) i r.Method r.Host r.Target r.Fields) (fun n i hi=>by
   have hb:=UInt8.toNat_lt r.Target[i]
   have:=h.t
   simp only[I_IsRequest_b0,idx_nat hi,Option.bind_some,wrap_succ (by omega:i<9223372036854775807),bif_dec,lt_cast,hi,if_true,bP_at hi,badT]
   rw[wrap_id (by omega) (by omega),I_inRange_eq,Option.bind_some]
   cases inR (r.Target[i].toNat:Int) 33 126<;>rfl) (fun n i hi=>by
   simp only[I_IsRequest_b0,bif_dec,lt_cast]
   rw[if_neg (by omega)]) (k:=k) (by have:=h.t;omega)
  rw[this,findI_first]
  unfold noB
  cases firstI (bP badT r.Target) r.Target.length 0<;>rfl
 have hh1:I_hasField k r.Fields ([104,111,115,116]:List UInt8)=some (hasF r.Fields hostT):=I_hasField_eq hk _ _ hl
 have hh2:I_hasField k r.Fields ([99,111,110,116,101,110,116,45,108,101,110,103,116,104]:List UInt8)=some (hasF r.Fields clen):=I_hasField_eq hk _ _ hl
 rw[I_IsRequest,I_IsToken_eq hk _ h.m,Option.bind_some]
 unfold isReq
 cases hm:isTok r.Method with
 |false=>simp
 |true=>
  rw[Bool.not_true,cond_false,toUpper_ok hm h.m,Option.bind_some,upp_all,I_isHost_eq hk _ h.h,Option.bind_some]
  cases noB isLow r.Method with
  |false=>rfl
  |true=>
   cases noB badH r.Host with
   |false=>rfl
   |true=>
    cases inR (r.Host.length:Int) 1 40 with
    |false=>simp
    |true=>
     rw[I_inRange_eq,Option.bind_some]
     cases ht:inR (r.Target.length:Int) 1 100 with
     |false=>simp
     |true=>
      obtain⟨c,hc,hd⟩:=idx0 ht
      have e47:((UInt8.toNat c:Int) !=(47:Int))=(c !=47):=u8_ne c 47
      have e47':(some c==some (47:UInt8))=(c==47):=by cases h:(c==47)<;>simp_all
      rw[hc,hd,Option.bind_some,e47,e47',hb0,I_AreFields_eq hk _ hl h.s,hh1,hh2]
      unfold bne
      cases (c==47)<;>cases noB badT r.Target<;>cases areF r.Fields<;>cases decide ((r.Fields.length:Int)<24)<;>cases hasF r.Fields hostT<;>cases hasF r.Fields clen<;>rfl
theorem reqIn_of{a:LRequest}(h:sz_LRequest a≤1048576):ReqIn (to_LRequest a)∧(to_LRequest a).Method.length≤1048576∧(to_LRequest a).Host.length≤1048576∧(to_LRequest a).Target.length≤1048576∧fsz (to_LRequest a).Fields≤1048576∧(to_LRequest a).Fields.length<1073741824:=by
 have h1:=fsz_in a.Fields
 unfold sz_LRequest at h
 have h2:(to_LRequest a).Fields=a.Fields.map to_LField:=rfl
 have h3:(to_LRequest a).Method=a.Method:=rfl
 have h4:(to_LRequest a).Host=a.Host:=rfl
 have h5:(to_LRequest a).Target=a.Target:=rfl
 have h6:(a.Fields.map to_LField).length≤fsz (a.Fields.map to_LField):=by unfold fsz;omega
 refine⟨⟨by rw[h3];omega,by rw[h4];omega,by rw[h5];omega,by rw[h2];omega,by rw[h2];exact short_in (by omega)⟩, ?_⟩
 rw[h2,h3,h4,h5]
 omega
def tgtP(x:List IResource)(s:List UInt8)(i:Nat):Bool:=match x[i]? with|some e=>e.Target==s|none=>false
def findR(x:List IResource)(s:List UInt8):Int:=match firstI (tgtP x s) x.length 0 with|some j=>(j:Int)|none=> -1
theorem S_FindResource_eq{k:Nat}(hk:1073741824≤k)(o:IOrigin)(s:List UInt8)(h:o.Resources.length<1073741824):S_FindResource k o s=some (findR o.Resources s):=by
 have:=find_all (len:=o.Resources.length) (c:=fun i=>bif tgtP o.Resources s i then some (i:Int)else none) (F:=fun n i=>S_FindResource_b0 k n s i o.Host o.Resources) (fun n i hi=>by
  simp only[S_FindResource_b0,idx_nat hi,Option.bind_some,wrap_succ (by omega:i<9223372036854775807),bif_dec,lt_cast,hi,if_true,tgtP,List.getElem?_eq_getElem hi]
  cases (o.Resources[i].Target==s)<;>rfl) (fun n i hi=>by
  simp only[S_FindResource_b0,bif_dec,lt_cast]
  rw[if_neg (by omega)]) (k:=k) (by omega)
 rw[S_FindResource,this,findI_first]
 unfold findR
 cases firstI (tgtP o.Resources s) o.Resources.length 0<;>rfl
theorem I_FindResource_eq{k:Nat}(hk:1073741824≤k)(o:IOrigin)(s:List UInt8)(h:o.Resources.length<1073741824):I_FindResource k o s=some (findR o.Resources s):=by
 have:=find_all (len:=o.Resources.length) (c:=fun i=>bif tgtP o.Resources s i then some (i:Int)else none) (F:=fun n i=>slices_IndexFunc_IResource_at_I_FindResource_1_b0 k n o.Resources s (o.Resources.length:Int) i) (fun n i hi=>by
  simp only[slices_IndexFunc_IResource_at_I_FindResource_1_b0,I_FindResource_1,idx_nat hi,Option.bind_some,wrap_succ (by omega:i<9223372036854775807),bif_dec,lt_cast,hi,if_true,tgtP,List.getElem?_eq_getElem hi]
  cases (o.Resources[i].Target==s)<;>rfl) (fun n i hi=>by
  simp only[slices_IndexFunc_IResource_at_I_FindResource_1_b0,bif_dec,lt_cast]
  rw[if_neg (by omega)]) (k:=k) (by omega)
 rw[I_FindResource,slices_IndexFunc_IResource_at_I_FindResource_1,this,findI_first]
 unfold findR
 cases firstI (tgtP o.Resources s) o.Resources.length 0<;>rfl
theorem findR_lt(x:List IResource)(s:List UInt8): -1≤findR x s∧findR x s<(x.length:Int):=by
 unfold findR
 cases hf:firstI (tgtP x s) x.length 0 with
 |none=>simp only;omega
 |some j=>have:=firstI_lt hf;simp only;omega
def allB(p:Nat→Bool)(m i:Nat):Bool:=(findI (fun j=>bif p j then none else some false) m i).isNone
theorem allB_succ(p:Nat→Bool)(m i:Nat):allB p (m+1) i=(p i&&allB p m (i+1)):=by
 unfold allB
 rw[findI]
 cases p i<;>rfl
theorem allB_congr{p q:Nat→Bool}:∀(m i:Nat),(∀j,i≤j→j<i+m→p j=q j)→allB p m i=allB q m i
 |0,_,_=>rfl
 |m+1,i,h=>by
  rw[allB_succ,allB_succ,h i (by omega) (by omega),allB_congr m (i+1) fun j h1 h2=>h j (by omega) (by omega)]
theorem allB_find{p:Nat→Bool}:∀(m i:Nat),ocOf (findI (fun j=>bif p j then none else some false) m i)=bif allB p m i then .nrm ()else .oth false
 |0,_=>rfl
 |m+1,i=>by
  rw[allB_succ,findI]
  cases p i with
  |false=>rfl
  |true=>exact allB_find m (i+1)
theorem all_loop{len:Nat}{p:Nat→Bool}{F:Nat→Int→Option (Oc Unit Bool)}
 (T:∀n i,i<len→F (n+1) (i:Int)=bif p i then F n ((i+1:Nat):Int)else some (.oth false))
 (E:∀n i,len≤i→F (n+1) (i:Int)=some (.nrm ())) {k:Nat} (hk:len<k):F k 0=some (bif allB p len 0 then .nrm ()else .oth false):=by
 have:=find_all (R:=Bool) (len:=len) (c:=fun j=>bif p j then none else some false) (F:=F) (fun n i h=>by
  rw[T n i h]
  cases p i<;>rfl) E hk
 rw[this,allB_find]
def tokP(l:List (List UInt8))(i:Nat):Bool:=match l[i]? with|some e=>isTok e|none=>true
def keysT(s:List UInt8):Bool:=bif s==[]then true else allB (tokP (cutP 32 s [])) (cutP 32 s []).length 0&&decide (((cutP 32 s []).length:Int)≤4)
theorem S_l15Keys_eq{k:Nat}(hk:1073741824≤k)(s:List UInt8)(h:s.length<1073741000):S_l15Keys k s=some (keysT s):=by
 have hl:=cutP_len 32 s []
 have hsp:S_l12Split k s 32=some (cutP 32 s []):=S_l12Split_eq hk s 32 h
 have hb:=all_loop (len:=(cutP 32 s []).length) (p:=tokP (cutP 32 s [])) (F:=fun n i=>S_l15Keys_b0 k n i (cutP 32 s [])) (fun n i hi=>by
  have hm:=cutP_mem 32 s [] _ (List.getElem_mem hi)
  simp only[List.length_nil]at hm
  rw[S_l15Keys_b0,bif_dec,if_pos (by omega),idx_nat hi,Option.bind_some,Option.bind_some,S_IsToken_eq hk _ (by omega),Option.bind_some,wrap_succ (by omega)]
  unfold tokP
  rw[List.getElem?_eq_getElem hi]
  cases h:isTok (cutP 32 s [])[i]<;>simp[h]) (fun n i hi=>by
  rw[S_l15Keys_b0,bif_dec,if_neg (by omega)]) (k:=k) (by omega)
 have hb':S_l15Keys_b0 k k 0 (cutP 32 s [])=_:=hb
 rw[S_l15Keys,hsp,Option.bind_some,hb',Option.bind_some]
 unfold keysT
 cases (s==[])with
 |true=>rfl
 |false=>cases allB (tokP (cutP 32 s [])) (cutP 32 s []).length 0<;>rfl
theorem keys_idx{k:Nat}(hk:1073741824≤k){l:List (List UInt8)}(hl:l.length<1073741824)(hm:∀e∈l,e.length<1073741824):slices_ContainsFunc_string_at_I_areKeys_1 k l=some (!allB (tokP l) l.length 0):=by
 have main:∀(n i:Nat),i≤l.length→l.length -i<n→∃o,slices_IndexFunc_string_at_I_areKeys_1_b0 k n l (l.length:Int) (i:Int)=some o∧((o= .nrm ()∧allB (tokP l) (l.length -i) i=true)∨∃j:Nat,o= .oth (j:Int)∧allB (tokP l) (l.length -i) i=false):=by
  intro n
  induction n with
  |zero=>intro i _ h;omega
  |succ n ih=>
   intro i hi hn
   rw[slices_IndexFunc_string_at_I_areKeys_1_b0,bif_dec]
   by_cases c:i<l.length
   ·have ht:tokP l i=isTok l[i]:=by unfold tokP;rw[List.getElem?_eq_getElem c]
    rw[if_pos (by omega),idx_nat c,Option.bind_some,I_areKeys_1,I_IsToken_eq hk _ (hm _ (List.getElem_mem c)),Option.bind_some,Option.bind_some,wrap_succ (by omega),show l.length -i=(l.length -(i+1))+1 by omega,allB_succ,ht]
    cases isTok l[i]with
    |false=>exact⟨_,rfl,.inr ⟨i,rfl,rfl⟩⟩
    |true=>exact ih (i+1) (by omega) (by omega)
   ·rw[if_neg (by omega),show l.length -i=0 by omega]
    exact⟨_,rfl,.inl ⟨rfl,rfl⟩⟩
 obtain⟨o,h1,h2⟩:=main k 0 (by omega) (by omega)
 have h1':slices_IndexFunc_string_at_I_areKeys_1_b0 k k l (l.length:Int) 0=some o:=h1
 rw[slices_ContainsFunc_string_at_I_areKeys_1,slices_IndexFunc_string_at_I_areKeys_1,h1',Option.bind_some]
 rw[Nat.sub_zero]at h2
 rcases h2 with⟨rfl,h2⟩|⟨j,rfl,h2⟩
 ·rw[h2];rfl
 ·rw[h2]
  simp only[oc,Option.bind_some]
  rw[decide_eq_true (by omega)];rfl
theorem I_areKeys_eq{k:Nat}(hk:1073741824≤k)(s:List UInt8)(h:s.length<1073741000):I_areKeys k s=some (keysT s):=by
 have hl:=cutP_len 32 s []
 rw[I_areKeys,strings_Split_eq s 32 (by omega),Option.bind_some,keys_idx hk (by omega) (fun e he=>by have:=cutP_mem 32 s [] _ he;simp only[List.length_nil]at this;omega),Option.bind_some,Bool.not_not]
 unfold keysT
 cases (s==[])with
 |true=>rfl
 |false=>cases decide (((cutP 32 s []).length:Int)≤4)<;>cases allB (tokP (cutP 32 s [])) (cutP 32 s []).length 0<;>rfl
def eqAt(l:List (List UInt8))(e:List UInt8)(j:Nat):Bool:=match l[j]? with|some x=> !(x==e)|none=>true
def langP(l:List (List UInt8))(i:Nat):Bool:=match l[i]? with
 |some e=>allB (eqAt l e) i 0&&(nameOK e&&(decide ((e.length:Int)≤8)&& !(e==[42])))
 |none=>true
def verP(l:List IVersion)(i:Nat):Bool:=match l[i]? with
 |some e=>inR e.At 0 4102444799&&(decide ((e.Text.length:Int)≤400)&&(bif decide (0<i)then(match l[i -1]? with|some f=>decide (f.At<e.At)|none=>true)else true))
 |none=>true
def resT(r:IResource):Bool:=
 allB (langP r.Langs) r.Langs.length 0&&(allB (verP r.Versions) r.Versions.length 0&&(((normT r.Target).2&&((normT r.Target).1==r.Target))&&(decide ((r.Target.length:Int)≤100)&&(valOK r.Control&&(decide ((r.Control.length:Int)≤150)&&(keysT r.Keys&&(decide ((r.Langs.length:Int)≤4)&&inR (r.Versions.length:Int) 1 8)))))))
structure ResIn(r:IResource):Prop where
 ht:r.Target.length<134217728
 hc:r.Control.length<134217728
 hk:r.Keys.length<134217728
 hl:r.Langs.length<134217728
 hle:∀e∈r.Langs,e.length<134217728
 hv:r.Versions.length<134217728
theorem dec_gt(a b:Int):decide (a>b)= !decide (a≤b):=by
 by_cases h:a≤b
 ·rw[decide_eq_true h,decide_eq_false (by omega)];rfl
 ·rw[decide_eq_false h,decide_eq_true (by omega)];rfl
theorem dec_ge(a b:Int):decide (a≥b)= !decide (a<b):=by
 by_cases h:a<b
 ·rw[decide_eq_true h,decide_eq_false (by omega)];rfl
 ·rw[decide_eq_false h,decide_eq_true (by omega)];rfl
theorem S_lang_in{k:Nat}{y0 y1 y2:List UInt8}{y3:Bool}{l:List (List UInt8)}{y5:List IVersion}(hk:1073741824≤k)(hl:l.length<134217728){i:Nat}(hi:i<l.length):
 S_l15Resource_b2 k k (i:Int) 0 y0 y1 y2 y3 l y5=some (bif allB (eqAt l l[i]) i 0 then .nrm ()else .oth false):=
 all_loop (len:=i) (p:=eqAt l l[i]) (F:=fun n j=>S_l15Resource_b2 k n (i:Int) j y0 y1 y2 y3 l y5) (fun n j hj=>by
  have hj2:j<l.length:=by omega
  rw[S_l15Resource_b2,bif_dec,if_pos (by omega),idx_nat hj2,Option.bind_some,idx_nat hi,Option.bind_some,wrap_succ (by omega)]
  unfold eqAt
  rw[List.getElem?_eq_getElem hj2]
  simp only
  cases (l[j]==l[i])<;>rfl) (fun n j hj=>by
  rw[S_l15Resource_b2,bif_dec,if_neg (by omega)]) (by omega)
theorem S_langs{k:Nat}{y0 y1 y2:List UInt8}{y3:Bool}{l:List (List UInt8)}{y5:List IVersion}(hk:1073741824≤k)(hl:l.length<134217728)(hle:∀e∈l,e.length<134217728):
 S_l15Resource_b0 k k 0 y0 y1 y2 y3 l y5=some (bif allB (langP l) l.length 0 then .nrm ()else .oth false):=
 all_loop (len:=l.length) (p:=langP l) (F:=fun n j=>S_l15Resource_b0 k n j y0 y1 y2 y3 l y5) (fun n i hi=>by
  have hh:=hle _ (List.getElem_mem hi)
  rw[S_l15Resource_b0,bif_dec,if_pos (by omega),S_lang_in hk hl hi,Option.bind_some]
  unfold langP
  rw[List.getElem?_eq_getElem hi]
  simp only
  cases allB (eqAt l l[i]) i 0 with
  |false=>rfl
  |true=>
   rw[cond_true]
   simp only[oc]
   rw[idx_nat hi,Option.bind_some,S_l5Name_eq hk _ (by omega),Option.bind_some,Option.bind_some,Option.bind_some,dec_gt,wrap_succ (by omega),Bool.true_and]
   cases nameOK l[i]<;>cases decide ((l[i].length:Int)≤8)<;>cases (l[i]==[42])<;>rfl) (fun n j hj=>by
  rw[S_l15Resource_b0,bif_dec,if_neg (by omega)]) (by omega)
theorem S_vers{k:Nat}{y0 y1 y2:List UInt8}{y3:Bool}{y4:List (List UInt8)}{l:List IVersion}(hk:1073741824≤k)(hl:l.length<134217728):
 S_l15Resource_b4 k k 0 y0 y1 y2 y3 y4 l=some (bif allB (verP l) l.length 0 then .nrm ()else .oth false):=
 all_loop (len:=l.length) (p:=verP l) (F:=fun n j=>S_l15Resource_b4 k n j y0 y1 y2 y3 y4 l) (fun n i hi=>by
  rw[S_l15Resource_b4,bif_dec,if_pos (by omega),idx_nat hi,Option.bind_some,S_l1In_eq,Option.bind_some,dec_gt (l[i].Text.length:Int) 400,wrap_succ (by omega)]
  unfold verP
  rw[List.getElem?_eq_getElem hi]
  simp only
  by_cases c:0<i
  ·have e1:IntKind.wrap .i64 ((i:Int) -1)=((i -1:Nat):Int):=by rw[wrap_id (by omega) (by omega)];omega
   have h1:i -1<l.length:=by omega
   rw[decide_eq_true (by omega:(i:Int)>0),cond_true,e1,idx_nat h1,Option.bind_some,dec_ge l[i -1].At l[i].At,decide_eq_true c,cond_true,List.getElem?_eq_getElem h1]
   simp only
   cases inR l[i].At 0 4102444799<;>cases decide ((l[i].Text.length:Int)≤400)<;>cases decide (l[i -1].At<l[i].At)<;>rfl
  ·rw[decide_eq_false (by omega:¬(i:Int)>0),cond_false,decide_eq_false c,cond_false]
   cases inR l[i].At 0 4102444799<;>cases decide ((l[i].Text.length:Int)≤400)<;>rfl) (fun n j hj=>by
  rw[S_l15Resource_b4,bif_dec,if_neg (by omega)]) (by omega)
theorem S_l15Resource_eq{k:Nat}(hk:1073741824≤k)(r:IResource)(h:ResIn r):S_l15Resource k r=some (resT r):=by
 have ht:=h.ht
 have hc:=h.hc
 have hkk:=h.hk
 rw[S_l15Resource,S_langs hk h.hl h.hle,Option.bind_some,S_vers hk h.hv,Option.bind_some]
 unfold resT
 cases allB (langP r.Langs) r.Langs.length 0 with
 |false=>rfl
 |true=>
  cases allB (verP r.Versions) r.Versions.length 0 with
  |false=>rfl
  |true=>
   simp only[cond_true,oc]
   rw[S_IsNormalTarget_eq hk _ ht,Option.bind_some,S_l5Value_eq hk _ (by omega),Option.bind_some,S_l15Keys_eq hk _ (by omega),Option.bind_some,S_l1In_eq,Option.bind_some]
   generalize ((normT r.Target).2&&((normT r.Target).1==r.Target))=b1
   cases b1<;>cases decide ((r.Target.length:Int)≤100)<;>cases valOK r.Control<;>cases decide ((r.Control.length:Int)≤150)<;>cases keysT r.Keys<;>cases decide ((r.Langs.length:Int)≤4)<;>rfl
theorem slices_Contains_eq{k:Nat}(hk:1073741824≤k){x:List (List UInt8)}{e:List UInt8}(hl:x.length<1073741824):slices_Contains_string k x e=some (!allB (eqAt x e) x.length 0):=by
 have main:∀(n i:Nat),i≤x.length→x.length -i<n→∃o,slices_Index_string_b0 k n x e (x.length:Int) (i:Int)=some o∧((o= .nrm ()∧allB (eqAt x e) (x.length -i) i=true)∨∃j:Nat,o= .oth (j:Int)∧allB (eqAt x e) (x.length -i) i=false):=by
  intro n
  induction n with
  |zero=>intro i _ h;omega
  |succ n ih=>
   intro i hi hn
   rw[slices_Index_string_b0,bif_dec]
   by_cases c:i<x.length
   ·have ht:eqAt x e i= !(e==x[i]):=by unfold eqAt;rw[List.getElem?_eq_getElem c];simp only;rw[BEq.comm]
    rw[if_pos (by omega),idx_nat c,Option.bind_some,wrap_succ (by omega),show x.length -i=(x.length -(i+1))+1 by omega,allB_succ,ht]
    cases (e==x[i])with
    |true=>exact⟨_,rfl,.inr ⟨i,rfl,rfl⟩⟩
    |false=>exact ih (i+1) (by omega) (by omega)
   ·rw[if_neg (by omega),show x.length -i=0 by omega]
    exact⟨_,rfl,.inl ⟨rfl,rfl⟩⟩
 obtain⟨o,h1,h2⟩:=main k 0 (by omega) (by omega)
 have h1':slices_Index_string_b0 k k x e (x.length:Int) 0=some o:=h1
 rw[slices_Contains_string,slices_Index_string,h1',Option.bind_some]
 rw[Nat.sub_zero]at h2
 rcases h2 with⟨rfl,h2⟩|⟨j,rfl,h2⟩
 ·rw[h2];rfl
 ·rw[h2]
  simp only[oc,Option.bind_some]
  rw[decide_eq_true (by omega)];rfl
theorem I_langs{k:Nat}{y0 y1 y2:List UInt8}{y3:Bool}{l:List (List UInt8)}{y5:List IVersion}(hk:1073741824≤k)(hl:l.length<134217728)(hle:∀e∈l,e.length<134217728):
 I_isResource_b0 k k l (l.length:Int) 0 y0 y1 y2 y3 l y5=some (bif allB (langP l) l.length 0 then .nrm ()else .oth false):=
 all_loop (len:=l.length) (p:=langP l) (F:=fun n j=>I_isResource_b0 k n l (l.length:Int) j y0 y1 y2 y3 l y5) (fun n i hi=>by
  have hh:=hle _ (List.getElem_mem hi)
  have h0:ssub l (0:Int) (i:Int)=some (l.take i):=by rw[ssub_ok (by omega) (by omega) (by omega)];rfl
  have hc:allB (eqAt (l.take i) l[i]) (l.take i).length 0=allB (eqAt l l[i]) i 0:=by
   rw[List.length_take,Nat.min_eq_left (by omega)]
   refine allB_congr i 0 fun j _ hj=> ?_
   unfold eqAt
   rw[List.getElem?_take_of_lt (by omega)]
  rw[I_isResource_b0,bif_dec,if_pos (by omega),idx_nat hi,Option.bind_some,I_IsToken_eq hk _ (by omega),Option.bind_some,I_LowerText_eq hk _ (by omega),Option.bind_some,dec_gt,h0,Option.bind_some,slices_Contains_eq hk (by simp;omega),Option.bind_some,hc,wrap_succ (by omega)]
  unfold langP nameOK
  rw[List.getElem?_eq_getElem hi]
  simp only
  cases allB (eqAt l l[i]) i 0<;>cases isTok l[i]<;>cases (lowT l[i]==l[i])<;>cases decide ((l[i].length:Int)≤8)<;>cases (l[i]==[42])<;>rfl) (fun n j hj=>by
  rw[I_isResource_b0,bif_dec,if_neg (by omega)]) (by omega)
theorem I_vers{k:Nat}{y0 y1 y2:List UInt8}{y3:Bool}{y4:List (List UInt8)}{l:List IVersion}(hk:1073741824≤k)(hl:l.length<134217728):
 I_isResource_b2 k k l (l.length:Int) 0 y0 y1 y2 y3 y4 l=some (bif allB (verP l) l.length 0 then .nrm ()else .oth false):=
 all_loop (len:=l.length) (p:=verP l) (F:=fun n j=>I_isResource_b2 k n l (l.length:Int) j y0 y1 y2 y3 y4 l) (fun n i hi=>by
  rw[I_isResource_b2,bif_dec,if_pos (by omega),idx_nat hi,Option.bind_some,I_inRange_eq,Option.bind_some,dec_gt (l[i].Text.length:Int) 400,wrap_succ (by omega)]
  unfold verP
  rw[List.getElem?_eq_getElem hi]
  simp only
  by_cases c:0<i
  ·have e1:IntKind.wrap .i64 ((i:Int) -1)=((i -1:Nat):Int):=by rw[wrap_id (by omega) (by omega)];omega
   have h1:i -1<l.length:=by omega
   rw[decide_eq_true (by omega:(i:Int)>0),cond_true,e1,idx_nat h1,Option.bind_some,dec_ge l[i -1].At l[i].At,decide_eq_true c,cond_true,List.getElem?_eq_getElem h1]
   simp only
   cases inR l[i].At 0 4102444799<;>cases decide ((l[i].Text.length:Int)≤400)<;>cases decide (l[i -1].At<l[i].At)<;>rfl
  ·rw[decide_eq_false (by omega:¬(i:Int)>0),cond_false,decide_eq_false c,cond_false]
   cases inR l[i].At 0 4102444799<;>cases decide ((l[i].Text.length:Int)≤400)<;>rfl) (fun n j hj=>by
  rw[I_isResource_b2,bif_dec,if_neg (by omega)]) (by omega)
theorem I_isResource_eq{k:Nat}(hk:1073741824≤k)(r:IResource)(h:ResIn r):I_isResource k r=some (resT r):=by
 have ht:=h.ht
 have hc:=h.hc
 have hkk:=h.hk
 rw[I_isResource,I_IsNormalTarget_eq hk _ ht,Option.bind_some,dec_gt,I_isFieldValue_eq hk _ (by omega),Option.bind_some,dec_gt,I_areKeys_eq hk _ (by omega),Option.bind_some,dec_gt,I_inRange_eq,Option.bind_some,I_langs hk h.hl h.hle,Option.bind_some,I_vers hk h.hv,Option.bind_some]
 unfold resT
 generalize ((normT r.Target).2&&((normT r.Target).1==r.Target))=b1
 cases allB (langP r.Langs) r.Langs.length 0<;>cases allB (verP r.Versions) r.Versions.length 0<;>cases b1<;>cases decide ((r.Target.length:Int)≤100)<;>cases valOK r.Control<;>cases decide ((r.Control.length:Int)≤150)<;>cases keysT r.Keys<;>cases decide ((r.Langs.length:Int)≤4)<;>cases inR (r.Versions.length:Int) 1 8<;>rfl
def orgP(l:List IResource)(i:Nat):Bool:=match l[i]? with|some e=>resT e&&(findR l e.Target==(i:Int))|none=>true
def askO(h:List UInt8):IRequest:=⟨[71,69,84],h,[47],[]⟩
def orgT(o:IOrigin):Bool:=allB (orgP o.Resources) o.Resources.length 0&&(decide ((o.Resources.length:Int)≤12)&&isReq (askO o.Host))
structure OrgIn(o:IOrigin):Prop where
 hh:o.Host.length<134217728
 hr:o.Resources.length<134217728
 hre:∀e∈o.Resources,ResIn e
theorem askO_in{h:List UInt8}(hh:h.length<134217728):ReqIn (askO h):=⟨by simp[askO],by simp only[askO];omega,by simp[askO],by simp[askO,fsz],fun e he=>by simp[askO]at he⟩
theorem S_IsOrigin_eq{k:Nat}(hk:1073741824≤k)(o:IOrigin)(h:OrgIn o):S_IsOrigin k o=some (orgT o):=by
 have hr:=h.hr
 have hb:=all_loop (len:=o.Resources.length) (p:=orgP o.Resources) (F:=fun n j=>S_IsOrigin_b0 k n j o.Host o.Resources) (fun n i hi=>by
  have hq:=S_FindResource_eq hk (⟨o.Host,o.Resources⟩:IOrigin) (o.Resources[i]).Target (by simp only;omega)
  rw[S_IsOrigin_b0,bif_dec,if_pos (by omega),idx_nat hi,Option.bind_some,S_l15Resource_eq hk _ (h.hre _ (List.getElem_mem hi)),Option.bind_some,Option.bind_some,hq,Option.bind_some,wrap_succ (by omega),bne]
  unfold orgP
  rw[List.getElem?_eq_getElem hi]
  simp only
  cases resT o.Resources[i]<;>cases (findR o.Resources (o.Resources[i]).Target==(i:Int))<;>rfl) (fun n j hj=>by
  rw[S_IsOrigin_b0,bif_dec,if_neg (by omega)]) (k:=k) (by omega)
 have hb':S_IsOrigin_b0 k k 0 o.Host o.Resources=_:=hb
 have ha:S_IsRequest k ⟨[71,69,84],o.Host,[47],[]⟩=some (isReq (askO o.Host)):=S_IsRequest_eq hk _ (askO_in h.hh)
 rw[S_IsOrigin,hb',Option.bind_some,ha,Option.bind_some]
 unfold orgT
 cases allB (orgP o.Resources) o.Resources.length 0 with
 |false=>rfl
 |true=>cases decide ((o.Resources.length:Int)≤12)<;>rfl
theorem I_IsOrigin_eq{k:Nat}(hk:1073741824≤k)(o:IOrigin)(h:OrgIn o):I_IsOrigin k o=some (orgT o):=by
 have hr:=h.hr
 have hb:=all_loop (len:=o.Resources.length) (p:=orgP o.Resources) (F:=fun n j=>I_IsOrigin_b0 k n o.Resources (o.Resources.length:Int) j o.Host o.Resources) (fun n i hi=>by
  have hq:=I_FindResource_eq hk (⟨o.Host,o.Resources⟩:IOrigin) (o.Resources[i]).Target (by simp only;omega)
  rw[I_IsOrigin_b0,bif_dec,if_pos (by omega),idx_nat hi,Option.bind_some,hq,Option.bind_some,I_isResource_eq hk _ (h.hre _ (List.getElem_mem hi)),Option.bind_some,wrap_succ (by omega),bne]
  unfold orgP
  rw[List.getElem?_eq_getElem hi]
  simp only
  cases resT o.Resources[i]<;>cases (findR o.Resources (o.Resources[i]).Target==(i:Int))<;>rfl) (fun n j hj=>by
  rw[I_IsOrigin_b0,bif_dec,if_neg (by omega)]) (k:=k) (by omega)
 have hb':I_IsOrigin_b0 k k o.Resources (o.Resources.length:Int) 0 o.Host o.Resources=_:=hb
 have ha:I_IsRequest k ⟨[71,69,84],o.Host,[47],[]⟩=some (isReq (askO o.Host)):=I_IsRequest_eq hk _ (askO_in h.hh)
 rw[I_IsOrigin,ha,Option.bind_some,hb',Option.bind_some,dec_gt]
 unfold orgT
 cases allB (orgP o.Resources) o.Resources.length 0<;>cases decide ((o.Resources.length:Int)≤12)<;>cases isReq (askO o.Host)<;>rfl
theorem orgIn_of{a:LOrigin}(h:sz_LOrigin a≤1048576):OrgIn (to_LOrigin a)∧∀e∈(to_LOrigin a).Resources,e.Langs.length<1073741824∧e.Versions.length<1073741824:=by
 have hr0:a.Resources.length≤szL sz_LResource a.Resources:=by unfold szL;omega
 unfold sz_LOrigin at h
 have key:∀e∈(to_LOrigin a).Resources,ResIn e:=by
  intro e he
  simp only[to_LOrigin,List.mem_map]at he
  obtain⟨r,hr,rfl⟩:=he
  have h5:=sz_mem (g:=sz_LResource) hr
  have h6:sz_LResource r≤1048576:=by omega
  unfold sz_LResource at h6
  have h7:r.Langs.length≤szL List.length r.Langs:=by unfold szL;omega
  have h8:r.Versions.length≤szL sz_LVersion r.Versions:=by unfold szL;omega
  refine⟨?_, ?_, ?_, ?_, ?_, ?_⟩<;>simp only[to_LResource,List.length_map]<;>try omega
  intro l hl
  have:=sz_mem (g:=List.length) hl
  omega
 refine⟨⟨by simp only[to_LOrigin];omega,by simp only[to_LOrigin,List.length_map];omega,key⟩,fun e he=> ?_⟩
 have k1:=(key e he).hl
 have k2:=(key e he).hv
 omega
def mkRes(m:Int)(e:IResource):IResource:=⟨mText m,mText (m+1),mText (m+2),((m+3).tmod 3==0),marks mk_String 1 (m+4) e.Langs,marks mk_Version 3 (m+4+(e.Langs.length:Int)) e.Versions⟩
def cntRes(e:IResource):Nat:=4+e.Langs.length+3*e.Versions.length
def marksV:Int→List IResource→List IResource
 |_,[]=>[]
 |m,e::l=>mkRes m e::marksV (m+(cntRes e:Int)) l
def totV:List IResource→Nat
 |[]=>0
 |e::l=>cntRes e+totV l
def ResB(e:IResource):Prop:=e.Langs.length<1073741824∧e.Versions.length<1073741824
theorem markRes_step{k:Nat}(hk:1073741824≤k){n i:Nat}{m:Int}{r:List IResource}(h:i<r.length)(h0:0<m)(hm:m+(cntRes r[i]:Int)≤1099511627776)(hr:r.length<1073741824)(hb:ResB r[i]):
 L_markResourceS_b0 k (n+1) m (i:Int) r=L_markResourceS_b0 k n (m+(cntRes r[i]:Int)) ((i+1:Nat):Int) (r.set i (mkRes m r[i])):=by
 obtain⟨hl,hv⟩:=hb
 unfold cntRes at hm ⊢
 rw[L_markResourceS_b0]
 simp (disch:=first|omega|(simp only[List.length_set];omega)) only[bif_dec,lt_cast,h,if_true,idx_nat h,idx_set,Option.bind_some,wrap_id,Int.toNat_natCast,List.set_set,L_markText_eq hk,md3,List.getElem_set_self]
 rw[L_markStringS_eqm hk _ hl _ (by omega) (by omega)]
 simp (disch:=first|omega|(simp only[List.length_set];omega)) only[idx_nat h,idx_set,Option.bind_some,Int.toNat_natCast,List.set_set,List.getElem_set_self]
 rw[L_markVersionS_eqm hk _ hv _ (by omega) (by omega),Option.bind_some]
 unfold mkRes
 have e6:(i:Int)+1=((i+1:Nat):Int):=by omega
 have e1:m+1+1=m+2:=by omega
 have e2:m+2+1=m+3:=by omega
 have e3:m+3+1=m+4:=by omega
 have e4:m+4+((1:Nat):Int)*(r[i].Langs.length:Int)=m+4+(r[i].Langs.length:Int):=by omega
 have e5:m+4+(r[i].Langs.length:Int)+((3:Nat):Int)*(r[i].Versions.length:Int)=m+((4+r[i].Langs.length+3*r[i].Versions.length:Nat):Int):=by omega
 simp only[e1,e2,e3,e4,e5,e6]
theorem markRes_loop{k:Nat}(hk:1073741824≤k):∀(n i:Nat) (m:Int) (r:List IResource),i≤r.length→r.length -i<n→0<m→m+(totV (r.drop i):Int)≤1099511627776→r.length<1073741824→(∀e∈r.drop i,ResB e)→
 L_markResourceS_b0 k n m (i:Int) r=some (m+(totV (r.drop i):Int),r.take i++marksV m (r.drop i)):=by
 intro n
 induction n with
 |zero=>intro i m r _ h;omega
 |succ n ih=>
  intro i m r hi hn h0 hm hr hb
  by_cases c:i<r.length
  ·rw[List.drop_eq_getElem_cons c]at hm hb ⊢
   simp only[totV]at hm ⊢
   have hs:(r.set i (mkRes m r[i])).drop (i+1)=r.drop (i+1):=by rw[List.drop_set_of_lt (by omega)]
   have ht:(r.set i (mkRes m r[i])).take (i+1)=r.take i++[mkRes m r[i]]:=by
    rw[List.take_add_one,List.getElem?_set_self c,List.take_set,List.set_eq_of_length_le (by simp;omega)]
    rfl
   rw[markRes_step hk c h0 (by omega) hr (hb _ (.head _)),ih (i+1) _ _ (by simp;omega) (by simp;omega) (by omega) (by rw[hs];omega) (by simpa using hr) (by rw[hs];exact fun e he=>hb e (.tail _ he)),hs,ht,marksV]
   simp only[List.append_assoc,List.cons_append,List.nil_append]
   congr 2
   omega
  ·rw[L_markResourceS_b0,bif_dec,if_neg (by omega),List.drop_of_length_le (by omega),List.take_of_length_le (by omega)]
   simp[totV,marksV]
theorem L_markResourceS_eq{k:Nat}(hk:1073741824≤k)(r:List IResource)(h:r.length<1073741824)(hb:∀e∈r,ResB e)(ht:totV r≤1099511627775):L_markResourceS k r 1=some (1+(totV r:Int),marksV 1 r):=by
 have:=markRes_loop hk k 0 1 r (by omega) (by omega) (by omega) (by rw[List.drop_zero];omega) h (by rw[List.drop_zero];exact hb)
 rw[List.drop_zero,List.take_zero,List.nil_append,show(((0:Nat)):Int)=0 from rfl]at this
 rw[L_markResourceS,this];rfl
theorem L_markOrigin_eq{k:Nat}(hk:1073741824≤k)(o:IOrigin)(h:o.Resources.length<1073741824)(hb:∀e∈o.Resources,ResB e)(ht:totV o.Resources≤1099511627775):L_markOrigin_f k (o.Host,o.Resources,()) 1=some (1+(totV o.Resources:Int),(o.Host,marksV 1 o.Resources,())):=by
 rw[L_markOrigin_f,L_markOrigin,L_markResourceS_eq hk _ h hb ht];rfl
theorem totV_le:∀(l:List LResource),totV (l.map to_LResource)≤4*(l.length+(l.map sz_LResource).sum)
 |[]=>by simp[totV]
 |r::l=>by
  have ih:=totV_le l
  have h1:r.Langs.length≤szL List.length r.Langs:=by unfold szL;omega
  have h2:r.Versions.length≤szL sz_LVersion r.Versions:=by unfold szL;omega
  have h3:cntRes (to_LResource r)=4+r.Langs.length+3*r.Versions.length:=by unfold cntRes to_LResource;simp
  have h4:r.Langs.length+r.Versions.length≤sz_LResource r:=by unfold sz_LResource;omega
  simp only[List.map_cons,totV,List.length_cons,List.sum_cons]
  omega
theorem totV_org{a:LOrigin}(h:sz_LOrigin a≤1048576):totV (to_LOrigin a).Resources≤4194304:=by
 have:=totV_le a.Resources
 unfold sz_LOrigin szL at h
 show totV (a.Resources.map to_LResource)≤_
 omega
def selV(fs:List IField)(n:List UInt8):List UInt8:=joinT (splitL (getF fs n).1)
theorem selV_len(fs:List IField)(n:List UInt8):(selV fs n).length≤6*fsz fs+2:=by
 have h1:=getF_len fs n
 have h2:=splitL_len (getF fs n).1
 have h3:=splitL_sum (getF fs n).1
 have h4:=joinT_len (splitL (getF fs n).1)
 unfold selV;omega
theorem selV_ok{fs:List IField}(n:List UInt8)(h:fsz fs<67108864):(getF fs n).1.length<1073741000∧2*(splitL (getF fs n).1).length+Lib.lens (splitL (getF fs n).1)<1073741824:=by
 have h1:=getF_len fs n
 have h2:=splitL_len (getF fs n).1
 have h3:=splitL_sum (getF fs n).1
 omega
def selOf(fs:List IField)(ns:List (List UInt8)):List IField:=ns.map fun n=>⟨n,selV fs n⟩
theorem selFold(fs:List IField)(ns:List (List UInt8)):foldI (fun j s=>s++(ns[j]?).elim [] fun n=>[(⟨n,selV fs n⟩:IField)]) ns.length 0 []=selOf fs ns:=by
 rw[foldI_append (f:=fun n=>[(⟨n,selV fs n⟩:IField)]) ns.length 0 [] (by omega),List.drop_zero,List.nil_append]
 unfold selOf
 induction ns with
 |nil=>rfl
 |cons a l ih=>rw[List.flatMap_cons,ih];rfl
theorem I_SelectingOf_eq{k:Nat}(hk:1073741824≤k)(r:IRequest)(ns:List (List UInt8))(h:fsz r.Fields<67108864)(hn:ns.length<1073741824):I_SelectingOf k r ns=some (selOf r.Fields ns):=by
 have:=fold_all (len:=ns.length) (g:=fun j s=>s++(ns[j]?).elim [] fun n=>[(⟨n,selV r.Fields n⟩:IField)]) (Inv:=fun i s=>s.length≤i) (F:=fun m i s=>I_SelectingOf_b0 k m ns (ns.length:Int) i r.Method r.Host r.Target r.Fields s) (out:=id) (fun m i s hi hI=>by
  obtain⟨s1,s2⟩:=selV_ok ns[i] h
  simp only[I_SelectingOf_b0,bif_dec,lt_cast,hi,if_true,idx_nat hi,Option.bind_some,wrap_succ (by omega:i<9223372036854775807),List.getElem?_eq_getElem hi,Option.elim_some]
  rw[I_GetField_eq hk _ _ (by omega),Option.bind_some,I_SplitList_eq hk _ s1,Option.bind_some,I_JoinList_eq _ s2,Option.bind_some,appn_ok (by simp;omega)]
  exact⟨rfl,by simp;omega⟩) (fun m i s hi=>by
  simp only[I_SelectingOf_b0,bif_dec,lt_cast]
  rw[if_neg (by omega)];rfl) (k:=k) (by omega) (s:=[]) (by simp)
 have h1:I_SelectingOf_b0 k k ns (ns.length:Int) 0 r.Method r.Host r.Target r.Fields []=some (foldI (fun j s=>s++(ns[j]?).elim [] fun n=>[(⟨n,selV r.Fields n⟩:IField)]) ns.length 0 []):=this.1
 rw[I_SelectingOf,h1,selFold];rfl
def auth:List UInt8:=[97,117,116,104,111,114,105,122,97,116,105,111,110]
def visitor(fs:List IField):List UInt8:=bif !isTok (selV fs auth)then []else bif decide (((selV fs auth).length:Int)>20)then []else selV fs auth
theorem S_VisitorOf_eq{k:Nat}(hk:1073741824≤k)(r:IRequest)(h:fsz r.Fields<67108864):S_VisitorOf k r=some (visitor r.Fields):=by
 obtain⟨s1,s2⟩:=selV_ok auth h
 have hl:=selV_len r.Fields auth
 rw[S_VisitorOf,S_l5Get,S_GetField_eq hk _ _ (by omega),Option.bind_some,Option.bind_some]
 show((S_SplitList k (getF r.Fields auth).1).bind _)=_
 rw[S_SplitList_eq hk _ s1,Option.bind_some,S_JoinList_eq hk _ s2,Option.bind_some]
 show((S_IsToken k (selV r.Fields auth)).bind fun w4=>bif !w4 then some []else bif decide (((selV r.Fields auth).length:Int)>20)then some []else some (selV r.Fields auth))=_
 rw[S_IsToken_eq hk _ (by omega),Option.bind_some]
 unfold visitor
 cases isTok (selV r.Fields auth)<;>cases decide (((selV r.Fields auth).length:Int)>20)<;>rfl
theorem I_VisitorOf_eq{k:Nat}(hk:1073741824≤k)(r:IRequest)(h:fsz r.Fields<67108864):I_VisitorOf k r=some (visitor r.Fields):=by
 have hl:=selV_len r.Fields auth
 have e:idx (selOf r.Fields [auth]) (0:Int)=some ⟨auth,selV r.Fields auth⟩:=rfl
 rw[I_VisitorOf]
 show((I_SelectingOf k r [auth]).bind _)=_
 rw[I_SelectingOf_eq hk r [auth] h (by simp)]
 simp only[Option.bind_some,e]
 rw[I_IsToken_eq hk _ (by omega),Option.bind_some]
 unfold visitor
 cases isTok (selV r.Fields auth)<;>cases decide (((selV r.Fields auth).length:Int)>20)<;>rfl
def pairT(s:List UInt8):List UInt8×List UInt8×Bool:=match firstI (byteP s 61) s.length 0 with|some i=>(trimT (s.take i),trimT (s.drop (i+1)),true)|none=>(trimT s,[],false)
theorem S_SplitPair_eq{k:Nat}(hk:1073741824≤k)(s:List UInt8)(h:s.length<1073741824):S_SplitPair k s=some (pairT s):=by
 have:=find_all (len:=s.length) (c:=fun i=>bif byteP s 61 i then some (trimT (s.take i),trimT (s.drop (i+1)),true)else none) (F:=fun n i=>S_SplitPair_b0 k n s i) (fun n i hi=>by
  have e:((UInt8.toNat s[i]:Int)==61)=(s[i]==61):=u8_eq s[i] 61
  simp only[S_SplitPair_b0,idx_nat hi,Option.bind_some,wrap_succ (by omega:i<9223372036854775807),bif_dec,lt_cast,hi,if_true,byteP_at hi,e]
  cases (s[i]==61)with
  |true=>rw[cond_true,cond_true,ssub_take (by omega),Option.bind_some,S_TrimText_eq hk _ (by simp;omega),Option.bind_some,ssub_drop (by omega),Option.bind_some,S_TrimText_eq hk _ (by simp;omega)];rfl
  |false=>rfl) (fun n i hi=>by
  simp only[S_SplitPair_b0,bif_dec,lt_cast]
  rw[if_neg (by omega)]) (k:=k) (by omega)
 rw[S_SplitPair,this,findI_first,S_TrimText_eq hk s h]
 unfold pairT
 cases firstI (byteP s 61) s.length 0<;>rfl
theorem I_SplitPair_eq{k:Nat}(s:List UInt8)(h:s.length<1073741824):I_SplitPair k s=some (pairT s):=by
 have hd:decide (s.length<4294967281)=true:=by simp;omega
 rw[I_SplitPair,strings_Cut,cutO,hd,cond_true,Option.bind_some,cut_byte]
 unfold pairT
 cases firstI (byteP s 61) s.length 0 with
 |none=>simp only;rw[I_TrimText_eq s h,Option.bind_some,I_TrimText_eq [] (by simp)];rfl
 |some i=>simp only;rw[I_TrimText_eq _ (by simp;omega),Option.bind_some,I_TrimText_eq _ (by simp;omega)];rfl
theorem pairT_len(s:List UInt8):(pairT s).1.length≤s.length∧(pairT s).2.1.length≤s.length:=by
 unfold pairT
 cases firstI (byteP s 61) s.length 0 with
 |none=>have:=trimT_len s;simp only[List.length_nil];omega
 |some i=>
  have h1:=trimT_len (s.take i)
  have h2:=trimT_len (s.drop (i+1))
  simp at h1 h2 ⊢;omega
def dig:List UInt8→Int→Int→Option Int
 |[],q,_=>some q
 |d::r,q,sc=>bif inR (d.toNat:Int) 48 57 then dig r (q+sc*((d.toNat:Int) -48)) (sc.tdiv 10)else none
def fin1(o:Option Int):Option Int:=o.bind fun q=>bif decide (q>1000)then none else some q
def wtT:List UInt8→Option Int
 |[]=>none
 |c::r=>bif c==48||c==49 then(match r with
  |[]=>fin1 (some (1000*((c.toNat:Int) -48)))
  |p::ds=>bif p==46&&decide (ds.length≤3)then fin1 (dig ds (1000*((c.toNat:Int) -48)) 100)else none)else none
theorem wrap_dig8:∀j:Fin 256,(48≤j.val∧j.val≤57)→IntKind.wrap .u8 ((j.val:Int) -48)=(j.val:Int) -48:=by decide+kernel
theorem wrap_dig(c:UInt8)(h:48≤c.toNat∧c.toNat≤57):IntKind.wrap .u8 ((c.toNat:Int) -48)=(c.toNat:Int) -48:=wrap_dig8 ⟨c.toNat,UInt8.toNat_lt c⟩ h
theorem inR_iff{n a b:Int}:inR n a b=true↔a≤n∧n≤b:=by unfold inR;simp
theorem prod_in{sc d:Int}(h1:0≤sc)(h2:sc≤100)(h3:0≤d)(h4:d≤9):0≤sc*d∧sc*d≤900:=
 ⟨Int.mul_nonneg h1 h3,by have:=Int.mul_le_mul h2 h4 h3 (by omega:(0:Int)≤100);omega⟩
theorem tdiv_in{sc:Int}(h1:0≤sc)(h2:sc≤100):0≤sc.tdiv 10∧sc.tdiv 10≤100:=by
 rw[Int.tdiv_eq_ediv_of_nonneg h1];omega
theorem dig_nonneg:∀(l:List UInt8) (q sc r:Int),0≤q→0≤sc→sc≤100→dig l q sc=some r→0≤r
 |[],q,sc,r,hq,_,_,h=>by
  have:q=r:=by simpa[dig]using h
  omega
 |d::l,q,sc,r,hq,h1,h2,h=>by
  rw[dig]at h
  cases hi:inR (d.toNat:Int) 48 57 with
  |false=>rw[hi]at h;cases h
  |true=>
   rw[hi,cond_true]at h
   obtain⟨i1,i2⟩:=inR_iff.1 hi
   have p:=prod_in h1 h2 (show 0≤(d.toNat:Int) -48 by omega) (by omega)
   have t:=tdiv_in h1 h2
   exact dig_nonneg l _ _ r (by omega) t.1 t.2 h
theorem S_w_loop{k:Nat}{x:List UInt8}(hx:x.length≤1000):∀(n i:Nat) (q sc:Int),x.length -i<n→i≤5000→0≤q→q+900*((x.length -i:Nat):Int)≤10000000→0≤sc→sc≤100→
 S_l13Weight_b0 k n x q sc (i:Int)=some (match dig (x.drop i) q sc with|some r=> .nrm r|none=> .oth (-1)):=by
 intro n
 induction n with
 |zero=>intro i q sc h;omega
 |succ n ih=>
  intro i q sc hn hi hq hb h1 h2
  rw[S_l13Weight_b0,bif_dec]
  by_cases c:i<x.length
  ·have hb:=UInt8.toNat_lt x[i]
   rw[if_pos (by omega),idx_nat c,Option.bind_some,wrap_id (by omega) (by omega),S_l1In_eq,Option.bind_some,List.drop_eq_getElem_cons c,dig]
   cases hr:inR (x[i].toNat:Int) 48 57 with
   |false=>rfl
   |true=>
    obtain⟨i1,i2⟩:=inR_iff.1 hr
    have p:=prod_in h1 h2 (show 0≤(x[i].toNat:Int) -48 by omega) (by omega)
    have t:=tdiv_in h1 h2
    have ed:dv sc 10=some (sc.tdiv 10):=by simp[dv]
    rw[Bool.not_true,cond_false,cond_true,Option.bind_some,ed,Option.bind_some,wrap_dig _ (by omega),wrap_id (n:=(x[i].toNat:Int) -48) (by omega) (by omega)]
    generalize sc*((x[i].toNat:Int) -48)=pr at p
    rw[wrap_id (n:=pr) (by omega) (by omega),wrap_id (n:=q+pr) (by omega) (by omega),wrap_id (n:=sc.tdiv 10) (by omega) (by omega),wrap_succ (by omega)]
    exact ih (i+1) (q+pr) (sc.tdiv 10) (by omega) (by omega) (by omega) (by omega) t.1 t.2
  ·rw[if_neg (by omega),List.drop_of_length_le (by omega),dig]
theorem I_w_loop{k:Nat}{x:List UInt8}(hx:x.length≤1000):∀(n i:Nat) (q sc:Int),x.length -i<n→i≤5000→0≤q→q+900*((x.length -i:Nat):Int)≤10000000→0≤sc→sc≤100→
 I_weightIn_b0 k n q sc (x.length:Int) (i:Int) (intsOf x)=some (match dig (x.drop i) q sc with|some r=> .nrm r|none=> .oth (0,false)):=by
 intro n
 induction n with
 |zero=>intro i q sc h;omega
 |succ n ih=>
  intro i q sc hn hi hq hb h1 h2
  rw[I_weightIn_b0,bif_dec]
  by_cases c:i<x.length
  ·have hb:=UInt8.toNat_lt x[i]
   rw[if_pos (by omega),ints_idx c,Option.bind_some,Option.bind_some,List.drop_eq_getElem_cons c,dig,bif_dec,bif_dec]
   cases hr:inR (x[i].toNat:Int) 48 57 with
   |false=>
    have hno:¬(48≤(x[i].toNat:Int)∧(x[i].toNat:Int)≤57):=fun e=>by rw[inR_iff.2 e]at hr;cases hr
    by_cases c1:(x[i].toNat:Int)<48
    ·rw[if_pos c1];rfl
    ·rw[if_neg c1,if_pos (by omega)];rfl
   |true=>
    obtain⟨i1,i2⟩:=inR_iff.1 hr
    have p:=prod_in h1 h2 (show 0≤(x[i].toNat:Int) -48 by omega) (by omega)
    have t:=tdiv_in h1 h2
    have ed:dv sc 10=some (sc.tdiv 10):=by simp[dv]
    rw[if_neg (by omega),if_neg (by omega),cond_true,ed,Option.bind_some,wrap_dig _ (by omega),wrap_id (n:=(x[i].toNat:Int) -48) (by omega) (by omega)]
    generalize sc*((x[i].toNat:Int) -48)=pr at p
    rw[wrap_id (n:=pr) (by omega) (by omega),wrap_id (n:=q+pr) (by omega) (by omega),wrap_id (n:=sc.tdiv 10) (by omega) (by omega),wrap_succ (by omega)]
    exact ih (i+1) (q+pr) (sc.tdiv 10) (by omega) (by omega) (by omega) (by omega) t.1 t.2
  ·rw[if_neg (by omega),List.drop_of_length_le (by omega),dig]
theorem wtT_nonneg{v:List UInt8}{q:Int}(h:wtT v=some q):0≤q:=by
 have fin0:∀{o:Option Int} {q:Int},fin1 o=some q→o=some q:=fun {o q} h=>by
  unfold fin1 at h
  cases o with
  |none=>cases h
  |some r=>
   rw[Option.bind_some]at h
   cases hd:decide (r>1000)with
   |true=>rw[hd]at h;cases h
   |false=>rw[hd]at h;exact h
 cases v with
 |nil=>cases h
 |cons c r=>
  unfold wtT at h
  simp only at h
  cases hc:(c==48||c==49)with
  |false=>rw[hc]at h;cases h
  |true=>
   have hc2:48≤c.toNat:=by
    rcases Bool.or_eq_true _ _▸hc with e|e
    ·have:c=48:=by simpa using e
     subst this;decide
    ·have:c=49:=by simpa using e
     subst this;decide
   rw[hc,cond_true]at h
   cases r with
   |nil=>
    have:=fin0 h
    have:1000*((c.toNat:Int) -48)=q:=by simpa using this
    omega
   |cons p ds=>
    cases hp:(p==46&&decide (ds.length≤3))with
    |false=>simp only[hp,cond_false]at h;cases h
    |true=>
     simp only[hp,cond_true]at h
     exact dig_nonneg _ _ _ _ (by omega) (by omega) (by omega) (fin0 h)
theorem ocS{o:Option Int}:oc (match o with|some r=>(Oc.nrm r:Oc Int Int)|none=> .oth (-1)) (fun q=>bif decide (q>1000)then some (-1:Int)else some q) (fun r=>some r)=some ((fin1 o).getD (-1)):=by
 cases o with
 |none=>rfl
 |some q=>
  show(bif decide (q>1000)then some (-1:Int)else some q)=some (((some q).bind fun q=>bif decide (q>1000)then none else some q).getD (-1))
  rw[Option.bind_some]
  cases decide (q>1000)<;>rfl
theorem S_l13Weight_eq{k:Nat}(hk:1073741824≤k)(v:List UInt8):S_l13Weight k v=some ((wtT v).getD (-1)):=by
 cases v with
 |nil=>rfl
 |cons c r=>
  have e0:(((c::r).length:Int)==0)=false:=by rw[beq_eq_false_iff_ne];simp;omega
  rw[S_l13Weight,e0,cond_false,bif_dec]
  by_cases h5:((c::r).length:Int)>5
  ·rw[if_pos h5]
   have:wtT (c::r)=none:=by
    unfold wtT
    simp only
    cases r with
    |nil=>simp at h5
    |cons p ds=>
     have:decide (ds.length≤3)=false:=by simp at h5 ⊢;omega
     simp only[this,Bool.and_false,cond_false]
     cases (c==48||c==49)<;>rfl
   rw[this];rfl
  ·rw[if_neg h5]
   have i0:idx (c::r) (0:Int)=some c:=rfl
   have u48:((UInt8.toNat c:Int) !=48)= !(c==48):=by unfold bne;rw[←u8_eq c 48];rfl
   have u49:((UInt8.toNat c:Int) !=49)= !(c==49):=by unfold bne;rw[←u8_eq c 49];rfl
   simp only[i0,Option.bind_some,u48,u49,bif_dec]
   cases hc:(c==48||c==49)with
   |false=>
    have h1:(c==48)=false:=by cases h:(c==48)<;>simp_all
    have h2:(c==49)=false:=by cases h:(c==49)<;>simp_all
    have hw:wtT (c::r)=none:=by unfold wtT;simp only[hc,cond_false]
    rw[hw,h1,h2];rfl
   |true=>
    have hc2:48≤c.toNat∧c.toNat≤49:=by
     rcases Bool.or_eq_true _ _▸hc with e|e
     ·have:c=48:=by simpa using e
      subst this;decide
     ·have:c=49:=by simpa using e
      subst this;decide
    have hq:IntKind.wrap .i64 (1000*IntKind.wrap .i64 (IntKind.wrap .u8 ((c.toNat:Int) -48)))=1000*((c.toNat:Int) -48):=by
     rw[wrap_dig c (by omega),wrap_id (n:=(c.toNat:Int) -48) (by omega) (by omega),wrap_id (by omega) (by omega)]
    have key:∀(A:Option Int),(if((c::r).length:Int)>1 then((idx (c::r) (1:Int)).bind fun c3=>(bif((UInt8.toNat c3:Int) !=(46:Int))then some (-1:Int)else
     ((S_l13Weight_b0 k k (c::r) (IntKind.wrap .i64 (1000*IntKind.wrap .i64 (IntKind.wrap .u8 ((c.toNat:Int) -48)))) 100 2).bind fun o9=>oc o9 (fun o10=>if o10>1000 then some (-1:Int)else some o10) (fun o11=>some o11))))else
     ((S_l13Weight_b0 k k (c::r) (IntKind.wrap .i64 (1000*IntKind.wrap .i64 (IntKind.wrap .u8 ((c.toNat:Int) -48)))) 100 2).bind fun o9=>oc o9 (fun o10=>if o10>1000 then some (-1:Int)else some o10) (fun o11=>some o11)))=some ((wtT (c::r)).getD (-1)):=by
     intro _
     have hl:=S_w_loop (k:=k) (x:=c::r) (by simp at h5 ⊢;omega) k 2 (1000*((c.toNat:Int) -48)) 100 (by simp at h5 ⊢;omega) (by omega) (by omega) (by simp at h5 ⊢;omega) (by omega) (by omega)
     rw[show(((2:Nat)):Int)=2 from rfl]at hl
     rw[hq,hl]
     simp only[Option.bind_some,←bif_dec]
     rw[ocS]
     unfold wtT
     simp only[hc,cond_true]
     cases r with
     |nil=>rfl
     |cons p ds=>
      have h3:decide (ds.length≤3)=true:=by simp at h5 ⊢;omega
      have h1:decide (((c::p::ds).length:Int)>1)=true:=by simp;omega
      have i1:idx (c::p::ds) (1:Int)=some p:=rfl
      have u46:((UInt8.toNat p:Int) !=46)= !(p==46):=by unfold bne;rw[←u8_eq p 46];rfl
      rw[h1,cond_true,i1,Option.bind_some,u46]
      show _=some ((bif p==46&&decide (ds.length≤3)then fin1 (dig ds (1000*((c.toNat:Int) -48)) 100)else none).getD (-1))
      rw[h3,Bool.and_true]
      cases (p==46)<;>rfl
    have:=key none
    cases h1:(c==48)with
    |true=>simpa using this
    |false=>
     have h2:(c==49)=true:=by rw[h1]at hc;exact hc
     rw[h2];simpa using this
theorem take_ne{c a:UInt8}{r:List UInt8}{i:Nat}(h:i≠1)(hl:i<(c::r).length):((c::r).take i==[a])=false:=by
 rw[beq_eq_false_iff_ne]
 intro e
 have:=congrArg List.length e
 simp at this hl
 omega
theorem I_weightIn_eq{k:Nat}(hk:1073741824≤k)(v:List UInt8)(hv:v.length<1073741824):∃r,I_weightIn k v=some r∧r.2=(wtT v).isSome∧∀q,wtT v=some q→r.1=q:=by
 have hd:decide (v.length<4294967281)=true:=by simp;omega
 have run:∀(c:UInt8) (ds:List UInt8),48≤c.toNat∧c.toNat≤49→ds.length≤3→
  ((I_weightIn_b0 k k (IntKind.wrap .i64 (1000*IntKind.wrap .i64 (IntKind.wrap .u8 ((c.toNat:Int) -48)))) 100 ((intsOf ds).length:Int) 0 (intsOf ds)).bind fun o=>oc o (fun o6=>some (o6,decide (o6≤(1000:Int)))) (fun o7=>some o7))=
  some (match dig ds (1000*((c.toNat:Int) -48)) 100 with|some r=>(r,decide (r≤1000))|none=>(0,false)):=by
  intro c ds hc hl
  have:=I_w_loop (k:=k) (x:=ds) (by omega) k 0 (1000*((c.toNat:Int) -48)) 100 (by omega) (by omega) (by omega) (by omega) (by omega) (by omega)
  rw[show(((0:Nat)):Int)=0 from rfl]at this
  rw[wrap_dig c (by omega),wrap_id (n:=(c.toNat:Int) -48) (by omega) (by omega),wrap_id (by omega) (by omega),ints_len,this,List.drop_zero,Option.bind_some]
  cases dig ds (1000*((c.toNat:Int) -48)) 100<;>rfl
 have fin:∀(o:Option Int),(match o with|some r=>(r,decide (r≤1000))|none=>((0:Int),false)).2=(fin1 o).isSome∧∀q,fin1 o=some q→(match o with|some r=>(r,decide (r≤1000))|none=>((0:Int),false)).1=q:=by
  intro o
  cases o with
  |none=>exact⟨rfl,fun q h=>by cases h⟩
  |some r=>
   unfold fin1
   rw[Option.bind_some]
   by_cases h:r>1000
   ·rw[decide_eq_true h];exact⟨decide_eq_false (by omega),fun q h=>by cases h⟩
   ·rw[decide_eq_false h];exact⟨decide_eq_true (by omega),fun q h=>by cases h;rfl⟩
 rw[I_weightIn,strings_Cut,cutO,hd,cond_true,Option.bind_some,cut_byte]
 have lone:∀c:UInt8,(c==48)=true∨(c==49)=true→48≤c.toNat∧c.toNat≤49:=fun c h=>by
  rcases h with e|e
  ·have:c=48:=by simpa using e
   subst this;decide
  ·have:c=49:=by simpa using e
   subst this;decide
 cases hf:firstI (byteP v 46) v.length 0 with
 |none=>
  have hno:=firstI_none _ _ hf
  cases v with
  |nil=>exact⟨(0,false),rfl,rfl,fun q h=>by cases h⟩
  |cons c r=>
   cases r with
   |nil=>
    cases hc:(c==48||c==49)with
    |false=>
     have h1:(c==48)=false:=by cases h:(c==48)<;>simp_all
     have h2:(c==49)=false:=by cases h:(c==49)<;>simp_all
     have e1:(([c]:List UInt8)==[48])=false:=by simpa using h1
     have e2:(([c]:List UInt8)==[49])=false:=by simpa using h2
     have hw:wtT [c]=none:=by unfold wtT;simp only[hc,cond_false]
     refine⟨(0,false), ?_,by rw[hw];rfl,fun q h=>by rw[hw]at h;cases h⟩
     simp only[e1,e2];rfl
    |true=>
     have h48:=lone c (by simpa using hc)
     have hw:wtT [c]=fin1 (some (1000*((c.toNat:Int) -48))):=by unfold wtT;simp only[hc,cond_true]
     have hr:=run c [] h48 (by simp)
     refine⟨_, ?_,(fin (dig [] (1000*((c.toNat:Int) -48)) 100)).1.trans (by rw[hw];rfl),fun q h=>(fin (dig [] (1000*((c.toNat:Int) -48)) 100)).2 q (by rw[hw]at h;exact h)⟩
     rw[←hr]
     cases h1:(c==48)with
     |true=>
      have e1:(([c]:List UInt8)==[48])=true:=by simpa using h1
      simp only[e1];rfl
     |false=>
      have h2:(c==49)=true:=by rw[h1]at hc;exact hc
      have e1:(([c]:List UInt8)==[48])=false:=by simpa using h1
      have e2:(([c]:List UInt8)==[49])=true:=by simpa using h2
      simp only[e1,e2];rfl
   |cons p ds=>
    have e1:((c::p::ds:List UInt8)==[48])=false:=by rw[beq_eq_false_iff_ne];simp
    have e2:((c::p::ds:List UInt8)==[49])=false:=by rw[beq_eq_false_iff_ne];simp
    have hp:(p==46)=false:=by
     have:=hno 1 (by omega) (by simp)
     rw[byteP_at (by simp)]at this;simpa using this
    have hw:wtT (c::p::ds)=none:=by
     unfold wtT
     simp only[hp,Bool.false_and,cond_false]
     cases (c==48||c==49)<;>rfl
    refine⟨(0,false), ?_,by rw[hw];rfl,fun q h=>by rw[hw]at h;cases h⟩
    simp only[e1,e2];rfl
 |some i=>
  obtain⟨_,g2,g3,g4⟩:=firstI_some _ _ _ hf
  cases v with
  |nil=>simp at g2
  |cons c r=>
   by_cases h1:i=1
   ·subst h1
    cases r with
    |nil=>simp at g2
    |cons p ds=>
     have hp:(p==46)=true:=by rw[byteP_at (by simp)]at g3;simpa using g3
     have et:(c::p::ds).take 1=[c]:=rfl
     have ed:(c::p::ds).drop (1+1)=ds:=rfl
     cases hc:(c==48||c==49)with
     |false=>
      have h1:(c==48)=false:=by cases h:(c==48)<;>simp_all
      have h2:(c==49)=false:=by cases h:(c==49)<;>simp_all
      have e1:(([c]:List UInt8)==[48])=false:=by simpa using h1
      have e2:(([c]:List UInt8)==[49])=false:=by simpa using h2
      have hw:wtT (c::p::ds)=none:=by unfold wtT;simp only[hc,cond_false]
      refine⟨(0,false), ?_,by rw[hw];rfl,fun q h=>by rw[hw]at h;cases h⟩
      simp only[et,e1,e2];rfl
     |true=>
      have h48:=lone c (by simpa using hc)
      by_cases hl:ds.length≤3
      ·have hw:wtT (c::p::ds)=fin1 (dig ds (1000*((c.toNat:Int) -48)) 100):=by unfold wtT;simp only[hc,hp,cond_true,decide_eq_true hl,Bool.and_self]
       have hr:=run c ds h48 hl
       have el:decide ((ds.length:Int)>3)=false:=decide_eq_false (by omega)
       refine⟨_, ?_,(fin (dig ds (1000*((c.toNat:Int) -48)) 100)).1.trans (by rw[hw]),fun q h=>(fin (dig ds (1000*((c.toNat:Int) -48)) 100)).2 q (by rw[hw]at h;exact h)⟩
       rw[←hr]
       cases h1:(c==48)with
       |true=>
        have e1:(([c]:List UInt8)==[48])=true:=by simpa using h1
        simp only[et,ed,e1,el];rfl
       |false=>
        have h2:(c==49)=true:=by rw[h1]at hc;exact hc
        have e1:(([c]:List UInt8)==[48])=false:=by simpa using h1
        have e2:(([c]:List UInt8)==[49])=true:=by simpa using h2
        simp only[et,ed,e1,e2,el];rfl
      ·have hw:wtT (c::p::ds)=none:=by unfold wtT;simp only[hc,cond_true,decide_eq_false hl,Bool.and_false,cond_false]
       have el:decide ((ds.length:Int)>3)=true:=decide_eq_true (by omega)
       refine⟨(0,false), ?_,by rw[hw];rfl,fun q h=>by rw[hw]at h;cases h⟩
       cases h1:(c==48)with
       |true=>
        have e1:(([c]:List UInt8)==[48])=true:=by simpa using h1
        simp only[et,ed,e1,el];rfl
       |false=>
        have h2:(c==49)=true:=by rw[h1]at hc;exact hc
        have e1:(([c]:List UInt8)==[48])=false:=by simpa using h1
        have e2:(([c]:List UInt8)==[49])=true:=by simpa using h2
        simp only[et,ed,e1,e2,el];rfl
   ·have e1:((c::r).take i==[48])=false:=take_ne h1 (by simpa using g2)
    have e2:((c::r).take i==[49])=false:=take_ne h1 (by simpa using g2)
    have hw:wtT (c::r)=none:=by
     unfold wtT
     simp only
     rcases Nat.eq_zero_or_pos i with h0|h0
     ·subst h0
      rw[byteP_at (by simp)]at g3
      have:c=46:=by simpa using g3
      subst this;rfl
     ·cases r with
      |nil=>simp at g2;omega
      |cons p ds=>
       have hp:(p==46)=false:=by
        have:=g4 1 (by omega) (by omega)
        rw[byteP_at (by simp)]at this;simpa using this
       simp only[hp,Bool.false_and,cond_false]
       cases (c==48||c==49)<;>rfl
    refine⟨(0,false), ?_,by rw[hw];rfl,fun q h=>by rw[hw]at h;cases h⟩
    simp only[e1,e2];rfl
theorem lowB_q:∀j:Fin 256,(lowB (UInt8.ofNat j.val)==113)=(UInt8.ofNat j.val==113||UInt8.ofNat j.val==81):=by decide+kernel
theorem lowT_q(s:List UInt8):(lowT s==[113])=(s==[113]||s==[81]):=by
 cases s with
 |nil=>rfl
 |cons c l=>
  cases l with
  |cons d l=>rw[beq_eq_false_iff_ne.2 (by simp[lowT]),beq_eq_false_iff_ne.2 (by simp),beq_eq_false_iff_ne.2 (by simp)];rfl
  |nil=>
   have:=lowB_q ⟨c.toNat,UInt8.toNat_lt c⟩
   simp only[UInt8.ofNat_toNat]at this
   simpa[lowT]using this
def qPart:List (List UInt8)→Option Int
 |[]=>none
 |[_]=>some 1000
 |[_,p]=>bif(pairT p).2.2&&(lowT (pairT p).1==[113])then wtT (pairT p).2.1 else none
 |_::_::_::_=>none
def partP(ps:List (List UInt8)):List IQuality:=match ps with
 |[]=>[]
 |n::_=>bif isTok (lowT (trimT n))then(match qPart ps with|some q=>[(⟨lowT (trimT n),q⟩:IQuality)]|none=>[])else []
def partF(e:List UInt8):List IQuality:=partP (cutP 59 e [])
def parseQ(x:List UInt8):List IQuality:=(splitL x).flatMap partF
theorem qPart_nonneg{ps:List (List UInt8)}{q:Int}(h:qPart ps=some q):0≤q:=by
 match ps,h with
 |[_],h=>
  have:(1000:Int)=q:=by simpa[qPart]using h
  omega
 |[_,p],h=>
  have h:(bif(pairT p).2.2&&(lowT (pairT p).1==[113])then wtT (pairT p).2.1 else none)=some q:=h
  cases hc:((pairT p).2.2&&(lowT (pairT p).1==[113]))with
  |true=>rw[hc]at h;exact wtT_nonneg h
  |false=>rw[hc]at h;cases h
theorem partF_len(e:List UInt8):(partF e).length≤1:=by
 unfold partF partP
 cases cutP 59 e []with
 |nil=>simp
 |cons n r=>
  show(bif isTok (lowT (trimT n))then(match qPart (n::r)with|some q=>[(⟨lowT (trimT n),q⟩:IQuality)]|none=>[])else []).length≤1
  cases isTok (lowT (trimT n))<;>cases qPart (n::r)<;>simp
theorem S_q{k:Nat}(hk:1073741824≤k){x5:Int}{r3:List (List UInt8)}{r4:List IQuality}{nm:List UInt8}{n:List UInt8}{rest:List (List UInt8)}(hb:∀p∈n::rest,p.length<1073741824):
 S_ParseQualities_c33 k x5 (decide (((n::rest).length:Int)>1)) r3 r4 (n::rest) nm 1000=some ((qPart (n::rest)).getD (-1)):=by
 cases rest with
 |nil=>rfl
 |cons p rest2=>
  have h1:decide (((n::p::rest2).length:Int)>1)=true:=by simp;omega
  have i1:idx (n::p::rest2) (1:Int)=some p:=rfl
  have hp:=hb p (by simp)
  have hl:=pairT_len p
  rw[h1,S_ParseQualities_c33,cond_true,i1,Option.bind_some,Option.bind_some,S_SplitPair_eq hk p hp,Option.bind_some,S_l13Weight_eq hk,Option.bind_some,S_LowerText_eq hk _ (by omega),Option.bind_some]
  unfold qPart
  cases rest2 with
  |cons p3 r=>
   have h2:decide (((n::p::p3::r).length:Int)>2)=true:=by simp;omega
   simp only[h2,S_ParseQualities_c56,cond_true,Option.bind_some]
   cases (pairT p).2.2<;>cases (lowT (pairT p).1==[113])<;>rfl
  |nil=>
   simp only[S_ParseQualities_c56,cond_true,Option.bind_some]
   cases (pairT p).2.2<;>cases (lowT (pairT p).1==[113])<;>rfl
theorem S_part{k:Nat}(hk:1073741824≤k){x5:Int}{r3:List (List UInt8)}{r4:List IQuality}{e:List UInt8}(hi:idx r3 x5=some e)(he:e.length<1073741000)(hr:r4.length≤1073741824):S_ParseQualities_b1 k x5 r3 r4=some (r4++partF e):=by
 have hc:=S_l12Split_eq hk e 59 he
 rw[show(((59:UInt8).toNat:Nat):Int)=59 from rfl]at hc
 have hm:=fun p=>cutP_mem 59 e [] p
 have hpos:=cutP_pos 59 e []
 rw[S_ParseQualities_b1,hi,Option.bind_some,Option.bind_some,hc,Option.bind_some]
 unfold partF
 cases hps:cutP 59 e []with
 |nil=>rw[hps]at hpos;simp at hpos
 |cons n rest=>
  rw[hps]at hm
  have hb:∀p∈n::rest,p.length<1073741824:=fun p hp=>by have:=hm p hp;simp at this;omega
  have hn:=hb n (by simp)
  have ht:=trimT_len n
  have hlw:=lowT_len (trimT n)
  rw[show idx (n::rest) (0:Int)=some n from rfl,Option.bind_some,Option.bind_some,S_TrimText_eq hk n hn,Option.bind_some,S_LowerText_eq hk _ (by omega),Option.bind_some,S_q hk hb,Option.bind_some,S_IsToken_eq hk _ (by omega),Option.bind_some]
  have hpp:partP (n::rest)=bif isTok (lowT (trimT n))then(match qPart (n::rest)with|some q=>[(⟨lowT (trimT n),q⟩:IQuality)]|none=>[])else []:=rfl
  rw[hpp]
  cases isTok (lowT (trimT n))with
  |false=>simp only[cond_false,S_ParseQualities_c65,Option.bind_some,List.append_nil]
  |true=>
   cases hq:qPart (n::rest)with
   |none=>simp only[cond_true,Option.getD_none,S_ParseQualities_c65];simp
   |some q=>
    have:=qPart_nonneg hq
    have hd:decide (q≥0)=true:=decide_eq_true this
    simp only[cond_true,Option.getD_some,S_ParseQualities_c65,hd]
    rw[appn_ok (by simp;omega)];rfl
theorem I_part{k:Nat}(hk:1073741824≤k){x17 x18:Int}{r16:List (List UInt8)}{r3:List IQuality}{e:List UInt8}(hi:idx r16 x18=some e)(he:e.length<1073741000)(hr:r3.length≤1073741824):I_ParseQualities_b1 k x17 x18 r3 r16=some (r3++partF e):=by
 have hm:=fun p=>cutP_mem 59 e [] p
 have hpos:=cutP_pos 59 e []
 rw[I_ParseQualities_b1,hi,Option.bind_some,Option.bind_some,strings_Split_eq e 59 (by omega),Option.bind_some]
 unfold partF
 cases hps:cutP 59 e []with
 |nil=>rw[hps]at hpos;simp at hpos
 |cons n rest=>
  rw[hps]at hm
  have hb:∀p∈n::rest,p.length<1073741824:=fun p hp=>by have:=hm p hp;simp at this;omega
  have hn:=hb n (by simp)
  have ht:=trimT_len n
  have hlw:=lowT_len (trimT n)
  rw[show idx (n::rest) (0:Int)=some n from rfl,Option.bind_some,Option.bind_some,I_TrimText_eq n hn,Option.bind_some,I_LowerText_eq (by omega) _ (by omega),Option.bind_some,I_IsToken_eq hk _ (by omega),Option.bind_some]
  unfold partP
  match rest,hb with
  |[],hb=>
   have e1:(((([n]:List (List UInt8)).length:Nat):Int)==2)=false:=rfl
   have e2:decide (((([n]:List (List UInt8)).length:Nat):Int)≤2)=true:=rfl
   rw[e1,e2]
   simp only[I_ParseQualities_c40,cond_false,Option.bind_some,I_ParseQualities_c71,qPart]
   cases isTok (lowT (trimT n))with
   |false=>simp
   |true=>rw[cond_true,cond_true,cond_true,appn_ok (by simp;omega)];rfl
  |[p],hb=>
   have hp:=hb p (by simp)
   have hl:=pairT_len p
   have e1:(((([n,p]:List (List UInt8)).length:Nat):Int)==2)=true:=rfl
   have e2:decide (((([n,p]:List (List UInt8)).length:Nat):Int)≤2)=true:=rfl
   have i1:idx ([n,p]:List (List UInt8)) (1:Int)=some p:=rfl
   obtain⟨w,w1,w2,w3⟩:=I_weightIn_eq hk (pairT p).2.1 (by omega)
   rw[e1,e2]
   simp only[I_ParseQualities_c40,cond_true,cond_false,i1,Option.bind_some,I_SplitPair_eq p hp,w1,w2,I_ParseQualities_c71,qPart,lowT_q]
   cases isTok (lowT (trimT n))with
   |false=>simp
   |true=>
    cases hw:wtT (pairT p).2.1 with
    |none=>
     cases (pairT p).2.2<;>cases ((pairT p).1==[113])<;>cases ((pairT p).1==[81])<;>simp
    |some q=>
     have hq:=w3 q hw
     have ha:app 24 r3 ([(⟨lowT (trimT n),q⟩:IQuality)])=some (r3++[(⟨lowT (trimT n),q⟩:IQuality)]):=appn_ok (by simp;omega)
     cases (pairT p).2.2<;>cases ((pairT p).1==[113])<;>cases ((pairT p).1==[81])<;>simp[hq,ha]
  |p::p2::r,hb=>
   have e1:((((n::p::p2::r).length:Nat):Int)==2)=false:=by rw[beq_eq_false_iff_ne];simp;omega
   have e2:decide ((((n::p::p2::r).length:Nat):Int)≤2)=false:=decide_eq_false (by simp;omega)
   rw[e1,e2]
   simp only[I_ParseQualities_c40,cond_false,Option.bind_some,I_ParseQualities_c71,qPart]
   cases isTok (lowT (trimT n))<;>simp
theorem splitL_mem{x p:List UInt8}(h:p∈splitL x):p.length≤x.length:=by
 unfold splitL at h
 obtain⟨y,hy,hp⟩:=List.mem_flatMap.1 h
 have h1:=cutG_mem 44 x false false [] y hy
 have h2:=trimT_len y
 unfold keepF at hp
 cases hc:(trimT y==[])with
 |true=>rw[hc]at hp;simp at hp
 |false=>
  rw[hc]at hp
  have:p=trimT y:=by simpa using hp
  subst this
  simp at h1;omega
theorem S_ParseQualities_eq{k:Nat}(hk:1073741824≤k)(x:List UInt8)(h:x.length<1073741000):S_ParseQualities k x=some (parseQ x):=by
 have hl:=splitL_len x
 have hm:=fun p=>splitL_mem (x:=x) (p:=p)
 rw[S_ParseQualities,S_SplitList_eq hk x h,Option.bind_some]
 unfold parseQ
 generalize splitL x=w at hl hm
 have:=fold_all (len:=w.length) (g:=fun j s=>s++(w[j]?).elim [] partF) (Inv:=fun i s=>s.length≤i) (F:=fun m i s=>S_ParseQualities_b0 k m i w s) (out:=id) (fun m i s hi hI=>by
  have hp:=hm w[i] (List.getElem_mem hi)
  have hI:s.length≤i:=hI
  have e1:(w[i]?).elim [] partF=partF w[i]:=by rw[List.getElem?_eq_getElem hi,Option.elim_some]
  have hl1:=partF_len w[i]
  constructor
  ·show S_ParseQualities_b0 k (m+1) (i:Int) w s=S_ParseQualities_b0 k m _ w (s++(w[i]?).elim [] partF)
   rw[e1,S_ParseQualities_b0,bif_dec,if_pos (by omega),S_part hk (idx_nat hi) (by omega) (by omega),Option.bind_some,wrap_succ (by omega)]
  ·show(s++(w[i]?).elim [] partF).length≤_
   rw[e1,List.length_append];omega) (fun m i s hi=>by
  simp only[S_ParseQualities_b0,bif_dec,lt_cast]
  rw[if_neg (by omega)];rfl) (k:=k) (by omega) (s:=[]) (by simp)
 have h1:S_ParseQualities_b0 k k 0 w []=some (foldI (fun j s=>s++(w[j]?).elim [] partF) w.length 0 []):=this.1
 rw[h1,foldI_append (f:=partF) w.length 0 [] (by omega),List.drop_zero];rfl
theorem I_ParseQualities_eq{k:Nat}(hk:1073741824≤k)(x:List UInt8)(h:x.length<1073741000):I_ParseQualities k x=some (parseQ x):=by
 have hl:=splitL_len x
 have hm:=fun p=>splitL_mem (x:=x) (p:=p)
 rw[I_ParseQualities,I_SplitList_eq hk x h,Option.bind_some]
 unfold parseQ
 generalize splitL x=w at hl hm
 have:=fold_all (len:=w.length) (g:=fun j s=>s++(w[j]?).elim [] partF) (Inv:=fun i s=>s.length≤i) (F:=fun m i s=>I_ParseQualities_b0 k m (w.length:Int) i s w) (out:=id) (fun m i s hi hI=>by
  have hp:=hm w[i] (List.getElem_mem hi)
  have hI:s.length≤i:=hI
  have e1:(w[i]?).elim [] partF=partF w[i]:=by rw[List.getElem?_eq_getElem hi,Option.elim_some]
  have hl1:=partF_len w[i]
  constructor
  ·show I_ParseQualities_b0 k (m+1) (w.length:Int) (i:Int) s w=I_ParseQualities_b0 k m (w.length:Int) _ (s++(w[i]?).elim [] partF) w
   rw[e1,I_ParseQualities_b0,bif_dec,if_pos (by omega),I_part hk (idx_nat hi) (by omega) (by omega),Option.bind_some,wrap_succ (by omega)]
  ·show(s++(w[i]?).elim [] partF).length≤_
   rw[e1,List.length_append];omega) (fun m i s hi=>by
  simp only[I_ParseQualities_b0,bif_dec,lt_cast]
  rw[if_neg (by omega)];rfl) (k:=k) (by omega) (s:=[]) (by simp)
 have h1:I_ParseQualities_b0 k k (w.length:Int) 0 [] w=some (foldI (fun j s=>s++(w[j]?).elim [] partF) w.length 0 []):=this.1
 rw[h1,foldI_append (f:=partF) w.length 0 [] (by omega),List.drop_zero];rfl
def nameP(x:List IQuality)(s:List UInt8)(i:Nat):Bool:=match x[i]? with|some e=>e.Name==s|none=>false
def qAt(x:List IQuality)(i:Nat):Int:=match x[i]? with|some e=>e.Q|none=>0
def qOf(x:List IQuality)(s:List UInt8):Int:=
 match firstI (nameP x s) x.length 0 with
 |some i=>qAt x i
 |none=>match firstI (nameP x [42]) x.length 0 with
  |some i=>qAt x i
  |none=>0
theorem S_star{k:Nat}{x:List IQuality}{s:List UInt8}(hx:x.length<1073741824):∀(n j:Nat) (acc:Int),j≤x.length→j<n→
 S_QualityOf_b0 k n x s acc ((j:Int) -1)=some (match firstI (nameP x [42]) j 0 with|some i=>qAt x i|none=>acc):=by
 intro n
 induction n with
 |zero=>intro j acc _ h;omega
 |succ n ih=>
  intro j acc hj hn
  rw[S_QualityOf_b0,bif_dec]
  cases j with
  |zero=>rw[if_neg (by omega)];rfl
  |succ j=>
   have hi:j<x.length:=by omega
   rw[if_pos (by omega),show((j+1:Nat):Int) -1=(j:Int)by omega,S_QualityOf_b1,idx_nat hi,Option.bind_some,S_QualityOf_c20,idx_nat hi,wrap_id (by omega) (by omega)]
   have step:firstI (nameP x [42]) (j+1) 0=match firstI (nameP x [42]) j 0 with|some i=>some i|none=>bif nameP x [42] j then some j else none:=by
    cases h1:firstI (nameP x [42]) j 0 with
    |some i=>
     obtain⟨_,h3,h4,h5⟩:=firstI_some _ _ _ h1
     cases h2:firstI (nameP x [42]) (j+1) 0 with
     |none=>have:=firstI_none _ _ h2 i (by omega) (by omega);rw[this]at h4;cases h4
     |some i'=>
      obtain⟨_,g3,g4,g5⟩:=firstI_some _ _ _ h2
      rcases Nat.lt_trichotomy i i' with h|h|h
      ·have:=g5 i (by omega) h;rw[this]at h4;cases h4
      ·simp[h]
      ·have:=h5 i' (by omega) h;rw[this]at g4;cases g4
    |none=>
     have h2:=firstI_none _ _ h1
     cases hp:nameP x [42] j with
     |true=>
      cases h3:firstI (nameP x [42]) (j+1) 0 with
      |none=>have:=firstI_none _ _ h3 j (by omega) (by omega);rw[this]at hp;cases hp
      |some i'=>
       obtain⟨_,g3,g4,g5⟩:=firstI_some _ _ _ h3
       by_cases e:i'=j
       ·simp[e]
       ·have:=h2 i' (by omega) (by omega);rw[this]at g4;cases g4
     |false=>
      cases h3:firstI (nameP x [42]) (j+1) 0 with
      |none=>rfl
      |some i'=>
       obtain⟨_,g3,g4,g5⟩:=firstI_some _ _ _ h3
       by_cases e:i'=j
       ·rw[e,hp]at g4;cases g4
       ·have:=h2 i' (by omega) (by omega);rw[this]at g4;cases g4
   have hp:nameP x [42] j=(x[j].Name==[42]):=by simp[nameP,List.getElem?_eq_getElem hi]
   have hq:qAt x j=x[j].Q:=by simp[qAt,List.getElem?_eq_getElem hi]
   rw[step]
   cases hb:(x[j].Name==([42]:List UInt8))with
   |true=>
    rw[cond_true,Option.bind_some,Option.bind_some,Option.bind_some,ih j _ (by omega) (by omega),hp,hb,←hq]
    cases firstI (nameP x [42]) j 0<;>rfl
   |false=>
    rw[cond_false,Option.bind_some,Option.bind_some,ih j _ (by omega) (by omega),hp,hb]
    cases firstI (nameP x [42]) j 0<;>rfl
theorem S_QualityOf_eq{k:Nat}(hk:1073741824≤k)(x:List IQuality)(s:List UInt8)(h:x.length<1073741824):S_QualityOf k x s=some (qOf x s):=by
 rw[S_QualityOf,wrap_id (by omega) (by omega),S_star h k x.length 0 (by omega) (by omega),Option.bind_some]
 generalize hst:(match firstI (nameP x [42]) x.length 0 with|some i=>qAt x i|none=>(0:Int))=st
 have:=find_all (len:=x.length) (c:=fun i=>bif nameP x s i then some (qAt x i)else none) (F:=fun n i=>S_QualityOf_b2 k n x s st i) (fun n i hi=>by
  simp only[S_QualityOf_b2,idx_nat hi,Option.bind_some,wrap_succ (by omega:i<9223372036854775807),bif_dec,lt_cast,hi,if_true,nameP,qAt,List.getElem?_eq_getElem hi]
  cases (x[i].Name==s)<;>rfl) (fun n i hi=>by
  simp only[S_QualityOf_b2,bif_dec,lt_cast]
  rw[if_neg (by omega)]) (k:=k) (by omega)
 rw[this,findI_first]
 unfold qOf
 cases firstI (nameP x s) x.length 0 with
 |none=>simp only[Option.map_none,ocOf,Option.bind_some,oc];rw[←hst]
 |some j=>simp[ocOf,oc]
theorem I_QualityOf_eq{k:Nat}(hk:1073741824≤k)(x:List IQuality)(s:List UInt8)(h:x.length<1073741824):I_QualityOf k x s=some (qOf x s):=by
 have inner:∀(s:List UInt8) (a b:Int) (r:List (List UInt8)),I_QualityOf_b2 k k x s a b x (x.length:Int) 0 r=some (ocOf ((firstI (nameP x s) x.length 0).map (qAt x))):=by
  intro s a b r
  have:=find_all (len:=x.length) (c:=fun i=>bif nameP x s i then some (qAt x i)else none) (F:=fun n i=>I_QualityOf_b2 k n x s a b x (x.length:Int) i r) (fun n i hi=>by
   simp only[I_QualityOf_b2,idx_nat hi,Option.bind_some,wrap_succ (by omega:i<9223372036854775807),bif_dec,lt_cast,hi,if_true,nameP,qAt,List.getElem?_eq_getElem hi]
   cases (x[i].Name==s)<;>rfl) (fun n i hi=>by
   simp only[I_QualityOf_b2,bif_dec,lt_cast]
   rw[if_neg (by omega)]) (k:=k) (by omega)
  rw[this,findI_first]
 obtain⟨k',rfl⟩:∃k',k=k'+3:=⟨k -3,by omega⟩
 rw[I_QualityOf,show k'+3=(k'+2)+1 from rfl,I_QualityOf_b0]
 simp only[List.length_cons,List.length_nil,bif_dec]
 rw[if_pos (by omega),show idx ([s,[42]]:List (List UInt8)) 0=some s from rfl,Option.bind_some,Option.bind_some,inner,Option.bind_some]
 unfold qOf
 cases firstI (nameP x s) x.length 0 with
 |some j=>simp[ocOf,oc]
 |none=>
  simp only[Option.map_none,ocOf,oc]
  rw[show IntKind.wrap .i64 (0+1)=1 from by decide,I_QualityOf_b0]
  simp only[bif_dec]
  rw[if_pos (by omega),show idx ([s,[42]]:List (List UInt8)) 1=some [42]from rfl,Option.bind_some,Option.bind_some,inner,Option.bind_some]
  cases firstI (nameP x [42]) x.length 0 with
  |some j=>simp[ocOf,oc]
  |none=>
   simp only[Option.map_none,ocOf,oc]
   rw[show IntKind.wrap .i64 (1+1)=2 from by decide,I_QualityOf_b0]
   simp[bif_dec]
theorem partFs_len:∀l:List (List UInt8),(l.flatMap partF).length≤l.length
 |[]=>by simp
 |p::l=>by
  have:=partFs_len l
  have:=partF_len p
  rw[List.flatMap_cons,List.length_append,List.length_cons];omega
theorem parseQ_len(x:List UInt8):(parseQ x).length≤x.length+1:=by
 have h1:=partFs_len (splitL x)
 have h2:=splitL_len x
 unfold parseQ;omega
def bestS(q:List IQuality)(x:List (List UInt8))(j b:Nat):Nat:=match x[j]?,x[b]? with
 |some n,some m=>bif decide (qOf q n>qOf q m)then j else b
 |_,_=>b
def bestI(q:List IQuality)(x:List (List UInt8))(j:Nat)(m:List UInt8):List UInt8:=match x[j]? with
 |some n=>bif j==0||decide (qOf q n>qOf q m)then n else m
 |none=>m
theorem best_rel{q:List IQuality}{x:List (List UInt8)}(i b:Nat)(m:List UInt8)(hi:i<x.length)(h:b≤i∧(i=0→b=0)∧(0<i→b<x.length∧x[b]? =some m)):
 bestS q x i b≤i+1∧(i+1=0→bestS q x i b=0)∧(0<i+1→bestS q x i b<x.length∧x[bestS q x i b]? =some (bestI q x i m)):=by
 obtain⟨h1,h2,h3⟩:=h
 have hb:b<x.length:=by omega
 have e1:x[i]? =some x[i]:=List.getElem?_eq_getElem hi
 have e2:x[b]? =some x[b]:=List.getElem?_eq_getElem hb
 have key:bestS q x i b=(bif decide (qOf q x[i]>qOf q x[b])then i else b):=by unfold bestS;rw[e1,e2]
 have key2:bestI q x i m=(bif i==0||decide (qOf q x[i]>qOf q m)then x[i]else m):=by unfold bestI;rw[e1]
 rw[key,key2]
 rcases Nat.eq_zero_or_pos i with h0|h0
 ·have hb0:=h2 h0
  subst h0
  subst hb0
  have:(bif decide (qOf q x[0]>qOf q x[0])then 0 else 0)=0:=by cases decide (qOf q x[0]>qOf q x[0])<;>rfl
  rw[this]
  exact⟨by omega,fun _=>rfl,fun _=>⟨hi,by rw[e1];rfl⟩⟩
 ·obtain⟨h4,h5⟩:=h3 h0
  have hm:x[b]=m:=by rw[e2]at h5;exact Option.some.inj h5
  have hz:(i==0)=false:=beq_eq_false_iff_ne.2 (by omega)
  rw[hz,Bool.false_or,hm]
  cases decide (qOf q x[i]>qOf q m)with
  |true=>exact⟨by show i≤i+1;omega,fun e=>by omega,fun _=>⟨hi,e1⟩⟩
  |false=>exact⟨by show b≤i+1;omega,fun e=>by omega,fun _=>⟨hb,by show x[b]? =some m;exact h5⟩⟩
theorem S_Choose_loop{k:Nat}(hk:1073741824≤k){q:List IQuality}{x:List (List UInt8)}(hq:q.length<1073741824)(hx:x.length<1073741824):S_ChooseName_b0 k k x 0 0 q=some ((foldI (bestS q x) x.length 0 0:Nat):Int):=by
 have:=fold_all (len:=x.length) (g:=bestS q x) (Inv:=fun i b=>b≤i) (F:=fun m i (b:Nat)=>S_ChooseName_b0 k m x (b:Int) i q) (out:=fun b=>(b:Int)) (fun m i b hi hI=>by
  have hI:b≤i:=hI
  have hb:b<x.length:=by omega
  have e1:x[i]? =some x[i]:=List.getElem?_eq_getElem hi
  have e2:x[b]? =some x[b]:=List.getElem?_eq_getElem hb
  have key:bestS q x i b=(bif decide (qOf q x[i]>qOf q x[b])then i else b):=by unfold bestS;rw[e1,e2]
  constructor
  ·show S_ChooseName_b0 k (m+1) x (b:Int) (i:Int) q=S_ChooseName_b0 k m x ((bestS q x i b:Nat):Int) _ q
   rw[key,S_ChooseName_b0,bif_dec,if_pos (by omega),S_ChooseName_b1,idx_nat hi,Option.bind_some,S_QualityOf_eq hk _ _ hq,Option.bind_some,idx_nat hb,Option.bind_some,S_QualityOf_eq hk _ _ hq,Option.bind_some,S_ChooseName_c28,wrap_succ (by omega)]
   cases decide (qOf q x[i]>qOf q x[b])<;>rfl
  ·show bestS q x i b≤i+1
   rw[key]
   cases decide (qOf q x[i]>qOf q x[b])
   ·show b≤i+1;omega
   ·show i≤i+1;omega) (fun m i b hi=>by
  simp only[S_ChooseName_b0,bif_dec,lt_cast]
  rw[if_neg (by omega)]) (k:=k) (by omega) (s:=0) (by omega)
 exact this.1
theorem I_Choose_loop{k:Nat}(hk:1073741824≤k){q:List IQuality}{x:List (List UInt8)}(hq:q.length<1073741824)(hx:x.length<1073741824):I_ChooseName_b0 k k [] x (x.length:Int) 0 q=some (foldI (bestI q x) x.length 0 []):=by
 have:=fold_all (len:=x.length) (g:=bestI q x) (Inv:=fun _ _=>True) (F:=fun m i m'=>I_ChooseName_b0 k m m' x (x.length:Int) i q) (out:=id) (fun m i m' hi hI=>by
  have e1:x[i]? =some x[i]:=List.getElem?_eq_getElem hi
  have key:bestI q x i m'=(bif i==0||decide (qOf q x[i]>qOf q m')then x[i]else m'):=by unfold bestI;rw[e1]
  have hz:(((i:Int))==0)=(i==0):=by
   rcases Nat.eq_zero_or_pos i with h|h
   ·subst h;rfl
   ·rw[beq_eq_false_iff_ne.2 (by omega:((i:Int))≠0),beq_eq_false_iff_ne.2 (by omega:i≠0)]
  refine⟨?_,trivial⟩
  show I_ChooseName_b0 k (m+1) m' x (x.length:Int) (i:Int) q=I_ChooseName_b0 k m (bestI q x i m') x (x.length:Int) _ q
  rw[key,I_ChooseName_b0,bif_dec,if_pos (by omega),I_ChooseName_b1,idx_nat hi,Option.bind_some,hz,wrap_succ (by omega)]
  cases hi0:(i==0)with
  |true=>rw[cond_true,Bool.true_or,cond_true];simp only[I_ChooseName_c28,cond_true,Option.bind_some]
  |false=>
   rw[cond_false,Bool.false_or,I_QualityOf_eq hk _ _ hq,Option.bind_some,I_QualityOf_eq hk _ _ hq,Option.bind_some]
   cases decide (qOf q x[i]>qOf q m')<;>rfl) (fun m i b hi=>by
  simp only[I_ChooseName_b0,bif_dec,lt_cast]
  rw[if_neg (by omega)];rfl) (k:=k) (by omega) (s:=[]) trivial
 exact this.1
def chooseT(x:List (List UInt8))(a:List UInt8):List UInt8:=foldI (bestI (parseQ a) x) x.length 0 []
theorem I_ChooseName_eq{k:Nat}(hk:1073741824≤k)(x:List (List UInt8))(a:List UInt8)(hx:x.length<1073741824)(ha:a.length<1073741000):I_ChooseName k x a=some (chooseT x a):=by
 have hp:=parseQ_len a
 rw[I_ChooseName,I_ParseQualities_eq hk a ha,Option.bind_some,I_Choose_loop hk (by omega) hx];rfl
theorem S_ChooseName_eq{k:Nat}(hk:1073741824≤k)(x:List (List UInt8))(a:List UInt8)(hx:x.length<1073741824)(ha:a.length<1073741000):S_ChooseName k x a=some (chooseT x a):=by
 have hp:=parseQ_len a
 have rel:=foldI_rel (g:=bestS (parseQ a) x) (g':=bestI (parseQ a) x) (R:=fun i b m=>b≤i∧(i=0→b=0)∧(0<i→b<x.length∧x[b]? =some m)) (len:=x.length) (fun i s t hi h=>best_rel i s t hi h) x.length 0 0 [] (by omega) ⟨by omega,fun _=>rfl,fun h=>by omega⟩
 rw[S_ChooseName,S_ParseQualities_eq hk a ha,Option.bind_some,S_Choose_loop hk (by omega) hx,Option.bind_some]
 unfold chooseT
 generalize foldI (bestS (parseQ a) x) x.length 0 0=b at rel
 generalize hm:foldI (bestI (parseQ a) x) x.length 0 []=m at rel
 obtain⟨r1,r2,r3⟩:=rel
 rw[S_l1Word,bif_dec,bif_dec,if_neg (by omega)]
 rcases Nat.eq_zero_or_pos x.length with h0|h0
 ·rw[if_pos (by omega),←hm,h0];rfl
 ·obtain⟨r4,r5⟩:=r3 h0
  rw[if_neg (by omega),idx_nat r4,Option.bind_some,Option.bind_some]
  rw[List.getElem?_eq_getElem r4]at r5
  exact r5
def variantT(r:IResource)(fs:List IField):List UInt8×List UInt8:=(chooseT r.Langs (getF fs [97,99,99,101,112,116,45,108,97,110,103,117,97,103,101]).1,bif r.Private then visitor fs else [])
theorem S_VariantOf_eq{k:Nat}(hk:1073741824≤k)(o:IResource)(r:IRequest)(hl:o.Langs.length<1073741824)(h:fsz r.Fields<67108864):S_VariantOf k o r=some (variantT o r.Fields):=by
 have hg:=getF_len r.Fields [97,99,99,101,112,116,45,108,97,110,103,117,97,103,101]
 have hc:S_VariantOf_c10 k ([]:List UInt8) (decide ((o.Langs.length:Int)>(0:Int))) o.Target o.Control o.Keys o.Private o.Langs o.Versions r.Method r.Host r.Target r.Fields=some (chooseT o.Langs (getF r.Fields [97,99,99,101,112,116,45,108,97,110,103,117,97,103,101]).1):=by
  unfold S_VariantOf_c10
  rw[S_l5Get,S_GetField_eq hk _ _ (by omega),Option.bind_some,Option.bind_some,S_ChooseName_eq hk _ _ hl (by omega),Option.bind_some,bif_dec]
  by_cases c:(o.Langs.length:Int)>0
  ·rw[if_pos c]
  ·rw[if_neg c]
   have:o.Langs=[]:=List.length_eq_zero_iff.1 (by omega)
   rw[this];rfl
 rw[S_VariantOf,hc,Option.bind_some,S_VisitorOf_eq hk r h,Option.bind_some]
 unfold variantT
 cases o.Private<;>rfl
theorem I_VariantOf_eq{k:Nat}(hk:1073741824≤k)(o:IResource)(r:IRequest)(hl:o.Langs.length<1073741824)(h:fsz r.Fields<67108864):I_VariantOf k o r=some (variantT o r.Fields):=by
 have hg:=getF_len r.Fields [97,99,99,101,112,116,45,108,97,110,103,117,97,103,101]
 have hv:=I_VisitorOf_eq hk ⟨r.Method,r.Host,r.Target,r.Fields⟩ h
 rw[I_VariantOf,I_GetField_eq hk _ _ (by omega),Option.bind_some,I_ChooseName_eq hk _ _ hl (by omega),Option.bind_some,I_VariantOf_c21,hv]
 unfold variantT
 cases o.Private<;>rfl
theorem chooseT_len{x:List (List UInt8)}{a:List UInt8}{n:Nat}(h:∀e∈x,e.length≤n):(chooseT x a).length≤n:=by
 have key:∀(q:List IQuality) (m i:Nat) (s:List UInt8),s.length≤n→(foldI (bestI q x) m i s).length≤n:=by
  intro q m
  induction m with
  |zero=>intro i s hs;exact hs
  |succ m ih=>
   intro i s hs
   rw[foldI]
   refine ih (i+1) _ ?_
   unfold bestI
   cases he:x[i]? with
   |none=>exact hs
   |some e=>
    have:=h e (List.mem_of_getElem? he)
    simp only
    cases (i==0||decide (qOf q e>qOf q s))with
    |true=>exact this
    |false=>exact hs
 exact key _ _ _ _ (by simp)
theorem visitor_len(fs:List IField):(visitor fs).length≤20:=by
 unfold visitor
 cases isTok (selV fs auth)with
 |false=>simp
 |true=>
  by_cases h:((selV fs auth).length:Int)>20
  ·rw[decide_eq_true h];simp
  ·rw[decide_eq_false h];simp only[Bool.not_true,cond_false];omega
def dd(m:Nat):List UInt8:=if m=0 then []else Lib.decDigits m
theorem dd_step{m:Nat}(h:m≠0):dd m=dd (m/10)++[UInt8.ofNat (48+m % 10)]:=by
 unfold dd
 rw[if_neg h]
 by_cases c:m<10
 ·rw[Lib.decDigits,dif_pos c,if_pos (by omega),Nat.mod_eq_of_lt c];rfl
 ·rw[Lib.decDigits,dif_neg c,if_neg (by omega)]
theorem dd_len(d:Nat):∀m:Nat,m<10^d→(dd m).length≤d:=by
 induction d with
 |zero=>intro m h;have:m=0:=by simpa using h
        subst this;simp[dd]
 |succ d ih=>
  intro m h
  by_cases h0:m=0
  ·subst h0;simp[dd]
  ·rw[dd_step h0,List.length_append]
   have:=ih (m/10) (by rw[Nat.pow_succ]at h;omega)
   simp;omega
theorem wrap_digit:∀j:Fin 10,bytesOf [IntKind.wrap .u8 (IntKind.wrap .i64 (48+((j.val:Nat):Int)))]=[UInt8.ofNat (48+j.val)]:=by decide+kernel
theorem digit_of(m:Nat):bytesOf [IntKind.wrap .u8 (IntKind.wrap .i64 (48+((m % 10:Nat):Int)))]=[UInt8.ofNat (48+m % 10)]:=wrap_digit ⟨m % 10,by omega⟩
theorem S_FormatInt_loop{k:Nat}{a0:Int}:∀(n d:Nat) (x:Int) (s:List UInt8),d<n→x.natAbs<10^d→-9223372036854775808≤x→x≤9223372036854775807→s.length+d≤100→
 S_FormatInt_b0 k n a0 s x=some (dd x.natAbs++s):=by
 intro n
 induction n with
 |zero=>intro d x s h;omega
 |succ n ih=>
  intro d x s hd hx h1 h2 hs
  rw[S_FormatInt_b0]
  by_cases h0:x=0
  ·subst h0;simp[dd]
  ·have hm:x.natAbs≠0:=by omega
   have hne:(x !=0)=true:=by simpa using h0
   obtain⟨d,rfl⟩:∃d',d=d'+1:=by
    cases d with
    |zero=>simp at hx;omega
    |succ d=>exact⟨d,rfl⟩
   have e1:md x 10=some (x.tmod 10):=by simp[md]
   have e2:dv x 10=some (x.tdiv 10):=by simp[dv]
   have e3:S_FormatInt_c16 k a0 s x (x.tmod 10) (decide (x.tmod 10<0))=some ((x.natAbs % 10:Nat):Int):=by
    rw[S_FormatInt_c16,bif_dec]
    have ht:x.tmod 10=if 0≤x then((x.natAbs % 10:Nat):Int)else -((x.natAbs % 10:Nat):Int):=by
     split
     ·rw[Int.tmod_eq_emod_of_nonneg (by omega)];omega
     ·have:x= -(x.natAbs:Int):=by omega
      rw[this,Int.neg_tmod,Int.tmod_eq_emod_of_nonneg (by omega)]
      simp
    rw[ht]
    split
    ·rw[if_neg (by omega)]
    ·by_cases hz:x.natAbs % 10=0
     ·rw[hz];simp
     ·rw[if_pos (by omega),wrap_id (by omega) (by omega)];simp
   have e4:(x.tdiv 10).natAbs=x.natAbs/10:=by rw[Int.natAbs_tdiv];rfl
   have hb: -9223372036854775808≤x.tdiv 10∧x.tdiv 10≤9223372036854775807:=by omega
   rw[hne,cond_true,S_FormatInt_b1,e1,Option.bind_some,e3,Option.bind_some,digit_of,cat_ok (by simp;omega),Option.bind_some,Option.bind_some,e2,Option.bind_some,wrap_id (by omega) (by omega),
    ih d _ _ (by omega) (by rw[e4];rw[Nat.pow_succ]at hx;omega) hb.1 hb.2 (by simp;omega),e4,dd_step hm]
   simp
theorem itoa_dd(n:Int):Lib.itoa n=if n=0 then [48]else if n<0 then 45::dd n.natAbs else dd n.natAbs:=by
 unfold Lib.itoa
 by_cases h0:n=0
 ·subst h0;rw[if_neg (by omega),if_pos rfl,Lib.decDigits];rfl
 ·rw[if_neg h0]
  have hm:¬n.natAbs=0:=by omega
  unfold dd
  rw[if_neg hm]
  by_cases h:n<0
  ·rw[if_pos h,if_pos h]
  ·rw[if_neg h,if_neg h,show n.toNat=n.natAbs by omega]
theorem pow19:(10:Nat)^19=10000000000000000000:=by decide
theorem S_FormatInt_eq{k:Nat}(hk:1073741824≤k)(n:Int)(h1: -9223372036854775808≤n)(h2:n≤9223372036854775807):S_FormatInt k n=some (Lib.itoa n):=by
 have hp:=pow19
 have hl:=dd_len 19 n.natAbs (by omega)
 rw[S_FormatInt,itoa_dd]
 by_cases h0:n=0
 ·subst h0;rfl
 ·have hne:(n==0)=false:=by simpa using h0
  rw[hne,cond_false,S_FormatInt_loop k 19 n [] (by omega) (by omega) h1 h2 (by simp),Option.bind_some,List.append_nil,if_neg h0,bif_dec]
  by_cases h:n<0
  ·rw[if_pos h,if_pos h,cat_ok (by simp;omega)];rfl
  ·rw[if_neg h,if_neg h]
theorem I_FormatInt_eq{k:Nat}(n:Int)(h1: -9223372036854775808≤n)(h2:n≤9223372036854775807):I_FormatInt k n=some (Lib.itoa n):=by
 have hd:(decide (-9223372036854775808≤n)&&decide (n≤9223372036854775807))=true:=by rw[Bool.and_eq_true];exact⟨decide_eq_true h1,decide_eq_true h2⟩
 rw[I_FormatInt,strconv_Itoa,itoaO,hd];rfl
theorem itoa_len{n:Int}(h1: -9223372036854775808≤n)(h2:n≤9223372036854775807):(Lib.itoa n).length≤20:=by
 have hp:=pow19
 have hl:=dd_len 19 n.natAbs (by omega)
 rw[itoa_dd]
 split
 ·simp
 ·split
  ·simp;omega
  ·omega
def leapN(y:Nat):Bool:=y % 4==0&&(y % 100 !=0||y % 400==0)
def mdN(y m:Nat):Nat:=if m=2 then(if leapN y then 29 else 28)else if m=4∨m=6∨m=9∨m=11 then 30 else 31
def ydN(y:Nat):Nat:=if leapN y then 366 else 365
def ysN:Nat→Nat
 |0=>0
 |n+1=>ysN n+ydN (1970+n)
def msN(y:Nat):Nat→Nat
 |0=>0
 |n+1=>msN y n+mdN y (n+1)
theorem msN_12(y:Nat):msN y 12=ydN y:=by
 simp only[msN,mdN,ydN]
 cases leapN y<;>simp
theorem ysN_mono{a b:Nat}(h:a≤b):ysN a≤ysN b:=by
 induction h with
 |refl=>exact Nat.le_refl _
 |step _ ih=>rw[ysN];omega
theorem msN_mono{y a b:Nat}(h:a≤b):msN y a≤msN y b:=by
 induction h with
 |refl=>exact Nat.le_refl _
 |step _ ih=>rw[msN];omega
theorem ysN_130:ysN 130=47482:=by decide+kernel
theorem mdN_pos(y m:Nat):28≤mdN y m∧mdN y m≤31:=by
 unfold mdN;split<;>split<;>omega
theorem ydN_bnd(y:Nat):365≤ydN y∧ydN y≤366:=by unfold ydN;split<;>omega
structure IsDay(day n p d:Nat):Prop where
 hn:n<130
 hp:p<12
 hd:d<mdN (1970+n) (p+1)
 eq:day=ysN n+msN (1970+n) p+d
theorem step_ex(f:Nat→Nat)(h0:f 0=0):∀(N x:Nat),x<f N→∃n,n<N∧f n≤x∧x<f (n+1):=by
 intro N
 induction N with
 |zero=>intro x h;omega
 |succ N ih=>
  intro x h
  by_cases c:x<f N
  ·obtain⟨n,h1,h2,h3⟩:=ih x c
   exact⟨n,by omega,h2,h3⟩
  ·exact⟨N,by omega,by omega,h⟩
theorem isDay_ex{day:Nat}(h:day≤47481):∃n p d,IsDay day n p d:=by
 obtain⟨n,h1,h2,h3⟩:=step_ex ysN rfl 130 day (by rw[ysN_130];omega)
 rw[ysN]at h3
 obtain⟨p,g1,g2,g3⟩:=step_ex (msN (1970+n)) rfl 12 (day -ysN n) (by rw[msN_12];omega)
 rw[msN]at g3
 exact⟨n,p,day -ysN n -msN (1970+n) p,h1,g1,by omega,by omega⟩
theorem IsDay.ltY{day n p d:Nat}(h:IsDay day n p d):msN (1970+n) p+d<ydN (1970+n):=by
 have h1:=h.hd
 have h2:msN (1970+n) (p+1)≤msN (1970+n) 12:=msN_mono (by have:=h.hp;omega)
 rw[msN_12,msN]at h2
 omega
theorem IsDay.lt{day n p d:Nat}(h:IsDay day n p d):day<ysN (n+1):=by
 have:=h.ltY
 rw[ysN,h.eq];omega
theorem IsDay.le{day n p d:Nat}(h:IsDay day n p d):day≤47481:=by
 have h1:=h.lt
 have h2:ysN (n+1)≤ysN 130:=ysN_mono (by have:=h.hn;omega)
 rw[ysN_130]at h2;omega
def wkN(day:Nat):Nat:=(day % 7+4) % 7
theorem wkN_lt(day:Nat):wkN day<7:=by unfold wkN;omega
theorem md_nat{a b:Nat}(h:b≠0):md (a:Int) (b:Int)=some ((a % b:Nat):Int):=by
 unfold md
 rw[if_neg (by omega),Int.tmod_eq_emod_of_nonneg (by omega)];rfl
theorem dv_nat{a b:Nat}(h:b≠0):dv (a:Int) (b:Int)=some ((a/b:Nat):Int):=by
 unfold dv
 rw[if_neg (by omega),Int.tdiv_eq_ediv_of_nonneg (by omega)];rfl
theorem inR_t{n a b:Int}(h1:a≤n)(h2:n≤b):inR n a b=true:=by unfold inR;rw[decide_eq_true h1,decide_eq_true h2];rfl
theorem nat_beq0(n:Nat):(((n:Nat):Int)==(0:Int))=(n==0):=by
 by_cases h:n=0
 ·subst h;rfl
 ·rw[beq_ne h,beq_ne (by omega)]
theorem nat_bne0(n:Nat):(((n:Nat):Int) !=(0:Int))=(n !=0):=by rw[bne,nat_beq0];rfl
theorem leapN_def(y:Nat):leapN y=(y % 4==0&&(y % 100 !=0||y % 400==0)):=rfl
theorem wrap_nat{n:Nat}(h:n≤9223372036854775807):IntKind.wrap .i64 (n:Int)=(n:Int):=wrap_id (by omega) (by omega)
theorem S_Mod_nat{k:Nat}(a b:Nat)(h1:1≤b)(h2:b≤1000000000)(h3:a≤1000000000000):S_Mod k (a:Int) (b:Int)=some ((a % b:Nat):Int):=by
 have hb:a % b<b:=Nat.mod_lt _ (by omega)
 have e:(((a % b:Nat):Int)+(b:Int))=((a % b+b:Nat):Int):=by push_cast;rfl
 rw[S_Mod,S_l1In_eq,Option.bind_some,inR_t (by omega) (by omega),Bool.not_true,cond_false,md_nat (by omega),Option.bind_some,e,wrap_nat (by omega),md_nat (by omega),Option.bind_some,Nat.add_mod_right,Nat.mod_mod]
theorem S_IsLeap_nat{k:Nat}(y:Nat)(h:y≤1000000):S_IsLeap k (y:Int)=some (leapN y):=by
 have e4:S_Mod k (y:Int) 4=some ((y % 4:Nat):Int):=S_Mod_nat y 4 (by omega) (by omega) (by omega)
 have e100:S_Mod k (y:Int) 100=some ((y % 100:Nat):Int):=S_Mod_nat y 100 (by omega) (by omega) (by omega)
 have e400:S_Mod k (y:Int) 400=some ((y % 400:Nat):Int):=S_Mod_nat y 400 (by omega) (by omega) (by omega)
 rw[S_IsLeap,e4,Option.bind_some,e100,Option.bind_some,e400,Option.bind_some,nat_beq0,nat_bne0,nat_beq0,leapN_def]
 cases (y % 4==0)<;>cases (y % 100 !=0)<;>cases (y % 400==0)<;>rfl
theorem S_WeekdayOf_nat{k:Nat}(day:Nat)(h:day≤1000000):S_WeekdayOf k (day:Int)=some ((wkN day:Nat):Int):=by
 have e1:S_Mod k (day:Int) 7=some ((day % 7:Nat):Int):=S_Mod_nat day 7 (by omega) (by omega) (by omega)
 have e2:S_Mod k ((day % 7+4:Nat):Int) 7=some (((day % 7+4) % 7:Nat):Int):=S_Mod_nat _ 7 (by omega) (by omega) (by omega)
 have e3:(((day % 7:Nat):Int)+4)=((day % 7+4:Nat):Int):=by push_cast;rfl
 rw[S_WeekdayOf,e1,Option.bind_some,e3,wrap_nat (by omega),e2];rfl
theorem I_Mod_nat{k:Nat}(a b:Nat)(h1:1≤b)(h2:b≤1000000000)(h3:a≤1000000000000):I_Mod k (a:Int) (b:Int)=some ((a % b:Nat):Int):=by
 have hb:a % b<b:=Nat.mod_lt _ (by omega)
 have e:(((a % b:Nat):Int)+(b:Int))=((a % b+b:Nat):Int):=by push_cast;rfl
 rw[I_Mod,I_inRange_eq,Option.bind_some,inR_t (by omega) (by omega),Bool.not_true,cond_false,md_nat (by omega),Option.bind_some,e,wrap_nat (by omega),md_nat (by omega),Option.bind_some,Nat.add_mod_right,Nat.mod_mod]
theorem I_IsLeap_nat{k:Nat}(y:Nat)(h:y≤1000000):I_IsLeap k (y:Int)=some (leapN y):=by
 have e4:I_Mod k (y:Int) 4=some ((y % 4:Nat):Int):=I_Mod_nat y 4 (by omega) (by omega) (by omega)
 have e100:I_Mod k (y:Int) 100=some ((y % 100:Nat):Int):=I_Mod_nat y 100 (by omega) (by omega) (by omega)
 have e400:I_Mod k (y:Int) 400=some ((y % 400:Nat):Int):=I_Mod_nat y 400 (by omega) (by omega) (by omega)
 rw[I_IsLeap,e4,Option.bind_some,e100,Option.bind_some,e400,Option.bind_some,nat_beq0,nat_bne0,nat_beq0,leapN_def]
 cases (y % 4==0)<;>cases (y % 100 !=0)<;>cases (y % 400==0)<;>rfl
theorem I_WeekdayOf_nat{k:Nat}(day:Nat)(h:day≤1000000):I_WeekdayOf k (day:Int)=some ((wkN day:Nat):Int):=by
 have e1:I_Mod k (day:Int) 7=some ((day % 7:Nat):Int):=I_Mod_nat day 7 (by omega) (by omega) (by omega)
 have e2:I_Mod k ((day % 7+4:Nat):Int) 7=some (((day % 7+4) % 7:Nat):Int):=I_Mod_nat _ 7 (by omega) (by omega) (by omega)
 have e3:(((day % 7:Nat):Int)+4)=((day % 7+4:Nat):Int):=by push_cast;rfl
 rw[I_WeekdayOf,e1,Option.bind_some,e3,wrap_nat (by omega),e2];rfl
theorem mon_cases{m:Nat}(h1:1≤m)(h2:m≤12):m=1∨m=2∨m=3∨m=4∨m=5∨m=6∨m=7∨m=8∨m=9∨m=10∨m=11∨m=12:=by omega
theorem I_monthDays_nat{k:Nat}(y m:Nat)(h:y≤1000000)(h1:1≤m)(h2:m≤12):I_monthDays k (y:Int) (m:Int)=some ((mdN y m:Nat):Int):=by
 rw[I_monthDays,I_monthDays_b0,I_monthDays_c6,I_IsLeap_nat y h]
 unfold mdN
 rcases mon_cases h1 h2 with rfl|rfl|rfl|rfl|rfl|rfl|rfl|rfl|rfl|rfl|rfl|rfl<;>cases leapN y<;>rfl
theorem S_l3Long_nat{k:Nat}(y m:Nat)(h:y≤1000000)(h1:1≤m)(h2:m≤12):S_l3Long k (y:Int) (m:Int)=some ((mdN y m:Nat):Int):=by
 rw[S_l3Long,S_IsLeap_nat y h]
 unfold mdN
 rcases mon_cases h1 h2 with rfl|rfl|rfl|rfl|rfl|rfl|rfl|rfl|rfl|rfl|rfl|rfl<;>cases leapN y<;>rfl
theorem I_yearDays_nat{k:Nat}(y:Nat)(h:y≤1000000):I_yearDays k (y:Int)=some ((ydN y:Nat):Int):=by
 rw[I_yearDays,I_IsLeap_nat y h]
 unfold ydN
 cases leapN y<;>rfl
theorem I_Civ_y{k:Nat}{x6:Int}{day N p d:Nat}(h:IsDay day N p d):∀(n i:Nat),i≤N→N -i<n→I_CivilOf_b0 k n ((day -ysN i:Nat):Int) ((1970+i:Nat):Int) x6=some (((day -ysN N:Nat):Int),((1970+N:Nat):Int)):=by
 intro n
 induction n with
 |zero=>intro i _ h;omega
 |succ n ih=>
  intro i hi hn
  have hN:=h.hn
  have hl:=h.le
  have he:=h.eq
  have hlt:=h.ltY
  rw[I_CivilOf_b0,I_yearDays_nat _ (by omega),Option.bind_some,Option.bind_some,bif_dec,wrap_succ (by omega)]
  have hb:=ydN_bnd (1970+i)
  by_cases c:i<N
  ·have h3:=ysN_mono (show i+1≤N by omega)
   rw[ysN]at h3
   have e:(((day -ysN i:Nat):Int) -((ydN (1970+i):Nat):Int))=((day -ysN (i+1):Nat):Int):=by rw[ysN];omega
   rw[if_pos (by omega),e,wrap_nat (by omega)]
   exact ih (i+1) (by omega) (by omega)
  ·rw[show i=N by omega,if_neg (by omega)]
theorem S_Civ_y{k:Nat}{day N p d:Nat}(h:IsDay day N p d):∀(n i:Nat),i≤N→N -i<n→S_CivilOf_b0 k n ((day -ysN i:Nat):Int) ((1970+i:Nat):Int)=some (((day -ysN N:Nat):Int),((1970+N:Nat):Int)):=by
 intro n
 induction n with
 |zero=>intro i _ h;omega
 |succ n ih=>
  intro i hi hn
  have hN:=h.hn
  have hl:=h.le
  have he:=h.eq
  have hlt:=h.ltY
  have e0:S_CivilOf_c12 k ((day -ysN i:Nat):Int) ((1970+i:Nat):Int) 365 (leapN (1970+i))=some ((ydN (1970+i):Nat):Int):=by
   rw[S_CivilOf_c12]
   unfold ydN
   cases leapN (1970+i)<;>rfl
  rw[S_CivilOf_b0,S_CivilOf_b1,S_IsLeap_nat _ (by omega),Option.bind_some,e0,Option.bind_some,bif_dec,wrap_succ (by omega)]
  have hb:=ydN_bnd (1970+i)
  by_cases c:i<N
  ·have h3:=ysN_mono (show i+1≤N by omega)
   rw[ysN]at h3
   have e:(((day -ysN i:Nat):Int) -((ydN (1970+i):Nat):Int))=((day -ysN (i+1):Nat):Int):=by rw[ysN];omega
   rw[if_neg (by omega),e,wrap_nat (by omega)]
   exact ih (i+1) (by omega) (by omega)
  ·rw[show i=N by omega,if_pos (by omega)];rfl
theorem S_Civ_m{k:Nat}{day N p d:Nat}(h:IsDay day N p d):∀(n i:Nat),i≤p→p -i<n→S_CivilOf_b2 k n ((day -ysN N -msN (1970+N) i:Nat):Int) ((1970+N:Nat):Int) ((i+1:Nat):Int)=some ((d:Int),((p+1:Nat):Int)):=by
 intro n
 induction n with
 |zero=>intro i _ h;omega
 |succ n ih=>
  intro i hi hn
  have hN:=h.hn
  have hp:=h.hp
  have hl:=h.le
  have he:=h.eq
  have hlt:=h.hd
  rw[S_CivilOf_b2,S_l3Long_nat _ _ (by omega) (by omega) (by omega),Option.bind_some,Option.bind_some,bif_dec,wrap_succ (by omega)]
  have hb:=mdN_pos (1970+N) (i+1)
  by_cases c:i<p
  ·have h3:=msN_mono (y:=1970+N) (show i+1≤p by omega)
   rw[msN]at h3
   have e:(((day -ysN N -msN (1970+N) i:Nat):Int) -((mdN (1970+N) (i+1):Nat):Int))=((day -ysN N -msN (1970+N) (i+1):Nat):Int):=by rw[msN];omega
   rw[if_pos (by omega),e,wrap_nat (by omega)]
   exact ih (i+1) (by omega) (by omega)
  ·have e:day -ysN N -msN (1970+N) p=d:=by omega
   rw[show i=p by omega,e,if_neg (by omega)]
theorem S_CivilOf_eq{k:Nat}(hk:1073741824≤k){day N p d:Nat}(h:IsDay day N p d):S_CivilOf k (day:Int)=some (((1970+N:Nat):Int),((p+1:Nat):Int),((d+1:Nat):Int)):=by
 have hN:=h.hn
 have hp:=h.hp
 have hl:=h.le
 have hd:=h.hd
 have hb:=mdN_pos (1970+N) (p+1)
 have b1:=S_Civ_y (k:=k) h k 0 (by omega) (by omega)
 have b2:=S_Civ_m (k:=k) h k 0 (by omega) (by omega)
 have b1':S_CivilOf_b0 k k (day:Int) 1970=some (((day -ysN N:Nat):Int),((1970+N:Nat):Int)):=b1
 have b2':S_CivilOf_b2 k k ((day -ysN N:Nat):Int) ((1970+N:Nat):Int) 1=some ((d:Int),((p+1:Nat):Int)):=b2
 rw[S_CivilOf,S_l1In_eq,Option.bind_some,inR_t (by omega) (by omega),Bool.not_true,cond_false,b1',Option.bind_some,b2',Option.bind_some,wrap_succ (by omega)]
theorem I_Civ_m{k:Nat}{day N p d:Nat}(h:IsDay day N p d):∀(n i:Nat),i≤p→p -i<n→I_CivilOf_b2 k n ((day -ysN N -msN (1970+N) i:Nat):Int) ((1970+N:Nat):Int) ((i+1:Nat):Int)=some ((d:Int),((p+1:Nat):Int)):=by
 intro n
 induction n with
 |zero=>intro i _ h;omega
 |succ n ih=>
  intro i hi hn
  have hN:=h.hn
  have hp:=h.hp
  have hl:=h.le
  have he:=h.eq
  have hlt:=h.hd
  rw[I_CivilOf_b2,I_monthDays_nat _ _ (by omega) (by omega) (by omega),Option.bind_some,Option.bind_some,bif_dec,wrap_succ (by omega)]
  have hb:=mdN_pos (1970+N) (i+1)
  by_cases c:i<p
  ·have h3:=msN_mono (y:=1970+N) (show i+1≤p by omega)
   rw[msN]at h3
   have e:(((day -ysN N -msN (1970+N) i:Nat):Int) -((mdN (1970+N) (i+1):Nat):Int))=((day -ysN N -msN (1970+N) (i+1):Nat):Int):=by rw[msN];omega
   rw[if_pos (by omega),e,wrap_nat (by omega)]
   exact ih (i+1) (by omega) (by omega)
  ·have e:day -ysN N -msN (1970+N) p=d:=by omega
   rw[show i=p by omega,e,if_neg (by omega)]
theorem I_CivilOf_eq{k:Nat}(hk:1073741824≤k){day N p d:Nat}(h:IsDay day N p d):I_CivilOf k (day:Int)=some (((1970+N:Nat):Int),((p+1:Nat):Int),((d+1:Nat):Int)):=by
 have hN:=h.hn
 have hp:=h.hp
 have hl:=h.le
 have hd:=h.hd
 have hb:=mdN_pos (1970+N) (p+1)
 have b1:=I_Civ_y (k:=k) (x6:=1) h k 0 (by omega) (by omega)
 have b2:=I_Civ_m (k:=k) h k 0 (by omega) (by omega)
 have b1':I_CivilOf_b0 k k (day:Int) 1970 1=some (((day -ysN N:Nat):Int),((1970+N:Nat):Int)):=b1
 have b2':I_CivilOf_b2 k k ((day -ysN N:Nat):Int) ((1970+N:Nat):Int) 1=some ((d:Int),((p+1:Nat):Int)):=b2
 rw[I_CivilOf,I_inRange_eq,Option.bind_some,inR_t (by omega) (by omega),Bool.not_true,cond_false,b1',Option.bind_some,b2',Option.bind_some,wrap_succ (by omega)]
def d2(n:Nat):List UInt8:=[UInt8.ofNat (48+n/10),UInt8.ofNat (48+n % 10)]
def d4(n:Nat):List UInt8:=[UInt8.ofNat (48+n/1000),UInt8.ofNat (48+n/100 % 10),UInt8.ofNat (48+n/10 % 10),UInt8.ofNat (48+n % 10)]
def dFull(w:Nat):List UInt8:=[[83,117,110,100,97,121],[77,111,110,100,97,121],[84,117,101,115,100,97,121],[87,101,100,110,101,115,100,97,121],[84,104,117,114,115,100,97,121],[70,114,105,100,97,121],[83,97,116,117,114,100,97,121]].getD w []
def mon3(p:Nat):List UInt8:=[[74,97,110],[70,101,98],[77,97,114],[65,112,114],[77,97,121],[74,117,110],[74,117,108],[65,117,103],[83,101,112],[79,99,116],[78,111,118],[68,101,99]].getD p []
def clkT(r:Nat):List UInt8:=d2 (r/3600)++[58]++d2 (r/60 % 60)++[58]++d2 (r % 60)
def T1(w n p d r:Nat):List UInt8:=(dFull w).take 3++[44,32]++d2 (d+1)++[32]++mon3 p++[32]++d4 (1970+n)++[32]++clkT r++[32,71,77,84]
def T2(w n p d r:Nat):List UInt8:=dFull w++[44,32]++d2 (d+1)++[45]++mon3 p++[45]++d2 ((1970+n) % 100)++[32]++clkT r++[32,71,77,84]
def T3(w n p d r:Nat):List UInt8:=(dFull w).take 3++[32]++mon3 p++[32]++(if d+1<10 then [32,UInt8.ofNat (48+(d+1))]else d2 (d+1))++[32]++clkT r++[32]++d4 (1970+n)
theorem dF3{w:Nat}(h:w<7):∃a b c r,dFull w=a::b::c::r∧3≤r.length∧r.length≤6:=by
 have:w=0∨w=1∨w=2∨w=3∨w=4∨w=5∨w=6:=by omega
 rcases this with rfl|rfl|rfl|rfl|rfl|rfl|rfl<;>exact⟨_,_,_,_,rfl,by decide,by decide⟩
theorem mon3e{p:Nat}(h:p<12):∃a b c,mon3 p=[a,b,c]:=by
 have:p=0∨p=1∨p=2∨p=3∨p=4∨p=5∨p=6∨p=7∨p=8∨p=9∨p=10∨p=11:=by omega
 rcases this with rfl|rfl|rfl|rfl|rfl|rfl|rfl|rfl|rfl|rfl|rfl|rfl<;>exact⟨_,_,_,rfl⟩
theorem itoa_small{n:Nat}(h:n<100):Lib.itoa (n:Int)=if n<10 then [UInt8.ofNat (48+n)]else d2 n:=by
 rw[itoa_dd]
 by_cases h0:n=0
 ·subst h0;rfl
 ·rw[if_neg (by omega),if_neg (by omega),Int.natAbs_natCast,dd_step h0]
  by_cases c:n<10
  ·rw[if_pos c,show n/10=0 by omega,Nat.mod_eq_of_lt c];rfl
  ·rw[if_neg c,dd_step (by omega),show n/10/10=0 by omega,show n/10 % 10=n/10 by omega];rfl
theorem itoa_year{n:Nat}(h1:1000≤n)(h2:n<10000):Lib.itoa (n:Int)=d4 n:=by
 rw[itoa_dd,if_neg (by omega),if_neg (by omega),Int.natAbs_natCast,dd_step (by omega),dd_step (by omega),dd_step (by omega),dd_step (by omega),show n/10/10/10/10=0 by omega,show n/10/10/10 % 10=n/1000 by omega,show n/10/10 % 10=n/100 % 10 by omega]
 rfl
theorem ite_max0{n:Nat}:(if(n:Int)>(0:Int)then(n:Int)else(0:Int))=(n:Int):=by split<;>omega
theorem S_Max_0{k n:Nat}:S_Max k 0 (n:Int)=some (n:Int):=by
 rw[S_Max,bif_dec]
 by_cases h:n=0
 ·subst h;rfl
 ·rw[if_pos (by omega)]
theorem S_Dig_done{k n:Nat}{x1:Int}{x5:List UInt8}(h:x1≤(x5.length:Int)):S_Digits_b0 k (n+1) x1 x5=some x5:=by
 rw[S_Digits_b0,bif_dec,if_neg (by omega)]
theorem S_Dig_pad{k n:Nat}{c:UInt8}:S_Digits_b0 k (n+2) 2 [c]=some [48,c]:=by
 rw[S_Digits_b0,bif_dec,if_pos (by simp),bif_dec,if_pos (by simp),cat_ok (by simp),Option.bind_some]
 exact S_Dig_done (by simp)
theorem S_Digits2{k:Nat}(hk:1073741824≤k){n:Nat}(h:n<100):S_Digits k (n:Int) 2=some (d2 n):=by
 obtain⟨k',e⟩:∃k',k=k'+2:=⟨k -2,by omega⟩
 rw[S_Digits,S_Max_0,Option.bind_some,S_FormatInt_eq hk _ (by omega) (by omega),Option.bind_some,itoa_small h]
 by_cases c:n<10
 ·have:S_Digits_b0 k k 2 [UInt8.ofNat (48+n)]=some [48,UInt8.ofNat (48+n)]:=by
   conv=>lhs;arg 2;rw[e]
   exact S_Dig_pad
  rw[if_pos c,this,Option.bind_some]
  unfold d2
  rw[show n/10=0 by omega,Nat.mod_eq_of_lt c];rfl
 ·have:S_Digits_b0 k k 2 (d2 n)=some (d2 n):=by
   conv=>lhs;arg 2;rw[e]
   exact S_Dig_done (by simp[d2])
  rw[if_neg c,this];rfl
theorem I_Dig_done{k n:Nat}{x1:Int}{x5:List UInt8}(h:x1≤(x5.length:Int)):I_Digits_b0 k (n+1) x1 x5=some x5:=by
 rw[I_Digits_b0,bif_dec,if_neg (by omega)]
theorem I_Dig_pad{k n:Nat}{c:UInt8}:I_Digits_b0 k (n+2) 2 [c]=some [48,c]:=by
 rw[I_Digits_b0,bif_dec,if_pos (by simp),bif_dec,if_pos (by simp),cat_ok (by simp),Option.bind_some]
 exact I_Dig_done (by simp)
theorem I_Digits2{k:Nat}(hk:1073741824≤k){n:Nat}(h:n<100):I_Digits k (n:Int) 2=some (d2 n):=by
 obtain⟨k',e⟩:∃k',k=k'+2:=⟨k -2,by omega⟩
 rw[I_Digits,ite_max0,I_FormatInt_eq _ (by omega) (by omega),Option.bind_some,itoa_small h]
 by_cases c:n<10
 ·have:I_Digits_b0 k k 2 [UInt8.ofNat (48+n)]=some [48,UInt8.ofNat (48+n)]:=by
   conv=>lhs;arg 2;rw[e]
   exact I_Dig_pad
  rw[if_pos c,this,Option.bind_some]
  unfold d2
  rw[show n/10=0 by omega,Nat.mod_eq_of_lt c];rfl
 ·have:I_Digits_b0 k k 2 (d2 n)=some (d2 n):=by
   conv=>lhs;arg 2;rw[e]
   exact I_Dig_done (by simp[d2])
  rw[if_neg c,this];rfl
theorem S_Digits4{k:Nat}(hk:1073741824≤k){n:Nat}(h1:1000≤n)(h2:n<10000):S_Digits k (n:Int) 4=some (d4 n):=by
 obtain⟨k',e⟩:∃k',k=k'+2:=⟨k -2,by omega⟩
 have:S_Digits_b0 k k 4 (d4 n)=some (d4 n):=by
  conv=>lhs;arg 2;rw[e]
  exact S_Dig_done (by simp[d4])
 rw[S_Digits,S_Max_0,Option.bind_some,S_FormatInt_eq hk _ (by omega) (by omega),Option.bind_some,itoa_year h1 h2,this];rfl
theorem S_l3Clock_eq{k:Nat}(hk:1073741824≤k){t:Nat}(ht:t≤4102444799):S_l3Clock k (t:Int)=some (clkT (t % 86400)):=by
 have e1:md (t:Int) 86400=some ((t % 86400:Nat):Int):=md_nat (b:=86400) (by omega)
 have e2:dv ((t % 86400:Nat):Int) 3600=some ((t % 86400/3600:Nat):Int):=dv_nat (b:=3600) (by omega)
 have e3:dv ((t % 86400:Nat):Int) 60=some ((t % 86400/60:Nat):Int):=dv_nat (b:=60) (by omega)
 have e4:md ((t % 86400/60:Nat):Int) 60=some ((t % 86400/60 % 60:Nat):Int):=md_nat (b:=60) (by omega)
 have e5:md ((t % 86400:Nat):Int) 60=some ((t % 86400 % 60:Nat):Int):=md_nat (b:=60) (by omega)
 rw[S_l3Clock,e1,Option.bind_some,e2,Option.bind_some,wrap_nat (by omega),S_Digits2 hk (by omega),Option.bind_some,cat_ok (by simp[d2]),Option.bind_some,e3,Option.bind_some,wrap_nat (by omega),e4,Option.bind_some,S_Digits2 hk (by omega),Option.bind_some,cat_ok (by simp[d2]),Option.bind_some,cat_ok (by simp[d2]),Option.bind_some,e5,Option.bind_some,S_Digits2 hk (by omega),Option.bind_some,cat_ok (by simp[d2])]
 rfl
theorem day_tab:∀w:Fin 7,idx ([[83,117,110,100,97,121],[77,111,110,100,97,121],[84,117,101,115,100,97,121],[87,101,100,110,101,115,100,97,121],[84,104,117,114,115,100,97,121],[70,114,105,100,97,121],[83,97,116,117,114,100,97,121]]:List (List UInt8)) ((w.val:Nat):Int)=some (dFull w.val)∧ssub (dFull w.val) 0 3=some ((dFull w.val).take 3)∧ssub ([83,117,110,77,111,110,84,117,101,87,101,100,84,104,117,70,114,105,83,97,116]:List UInt8) (IntKind.wrap .i64 ((3:Int)*((w.val:Nat):Int))) (IntKind.wrap .i64 ((IntKind.wrap .i64 ((3:Int)*((w.val:Nat):Int)))+(3:Int)))=some ((dFull w.val).take 3):=by decide+kernel
theorem mon_tab:∀p:Fin 12,idx ([[74,97,110],[70,101,98],[77,97,114],[65,112,114],[77,97,121],[74,117,110],[74,117,108],[65,117,103],[83,101,112],[79,99,116],[78,111,118],[68,101,99]]:List (List UInt8)) (IntKind.wrap .i64 (((p.val+1:Nat):Int) -(1:Int)))=some (mon3 p.val)∧ssub ([74,97,110,70,101,98,77,97,114,65,112,114,77,97,121,74,117,110,74,117,108,65,117,103,83,101,112,79,99,116,78,111,118,68,101,99]:List UInt8) (IntKind.wrap .i64 ((IntKind.wrap .i64 ((3:Int)*((p.val+1:Nat):Int))) -(3:Int))) (IntKind.wrap .i64 ((3:Int)*((p.val+1:Nat):Int)))=some (mon3 p.val):=by decide+kernel
theorem dF3_len{w:Nat}(h:w<7):((dFull w).take 3).length=3:=by
 obtain⟨a,b,c,q,e,_⟩:=dF3 h
 rw[e];rfl
theorem dF_len{w:Nat}(h:w<7):(dFull w).length≤9:=by
 obtain⟨a,b,c,q,e,_⟩:=dF3 h
 rw[e];simp;omega
theorem mon3_len{p:Nat}(h:p<12):(mon3 p).length=3:=by
 obtain⟨a,b,c,e⟩:=mon3e h
 rw[e];rfl
theorem clkT_len(r:Nat):(clkT r).length=8:=rfl
theorem S_l3Forms_eq{k:Nat}(hk:1073741824≤k){t n p d:Nat}(ht:t≤4102444799)(h:IsDay (t/86400) n p d):S_l3Forms k (t:Int)=some [T1 (wkN (t/86400)) n p d (t % 86400),T2 (wkN (t/86400)) n p d (t % 86400),T3 (wkN (t/86400)) n p d (t % 86400)]:=by
 have hn:=h.hn
 have hp:=h.hp
 have hd:=h.hd
 have hm:=mdN_pos (1970+n) (p+1)
 have hw:=wkN_lt (t/86400)
 have e1:dv (t:Int) 86400=some ((t/86400:Nat):Int):=dv_nat (b:=86400) (by omega)
 have e2:md ((1970+n:Nat):Int) 100=some (((1970+n) % 100:Nat):Int):=md_nat (b:=100) (by omega)
 obtain⟨f1,f2,_⟩:=day_tab ⟨wkN (t/86400),hw⟩
 obtain⟨g1,_⟩:=mon_tab ⟨p,hp⟩
 simp only at f1 f2 g1
 have c1:=S_Digits2 hk (n:=d+1) (by omega)
 have c2:=S_Digits2 hk (n:=(1970+n) % 100) (by omega)
 have c3:=S_Digits4 hk (n:=1970+n) (by omega) (by omega)
 have c4:=S_l3Clock_eq hk ht
 have c5:=S_FormatInt_eq hk ((d+1:Nat):Int) (by omega) (by omega)
 have c6:decide (((d+1:Nat):Int)<10)=decide (d+1<10):=by by_cases c:d+1<10<;>simp[c]<;>omega
 have l1:=dF3_len hw
 have l2:=mon3_len hp
 have l3:=dF_len hw
 have l4:=clkT_len (t % 86400)
 rw[S_l3Forms,e1,Option.bind_some,wrap_nat (show t/86400≤9223372036854775807 by omega),S_CivilOf_eq hk h,Option.bind_some,S_l3Days,Option.bind_some,Option.bind_some,wrap_nat (show t/86400≤9223372036854775807 by omega),S_WeekdayOf_nat (k:=k) (t/86400) (by omega),Option.bind_some,f1,Option.bind_some,Option.bind_some,S_l3Months,Option.bind_some]
 simp only
 rw[g1,Option.bind_some,Option.bind_some,f2,Option.bind_some,cat_ok (by simp only[List.length_append,List.length_cons,List.length_nil,l1,l2,l4,d2,d4];omega),Option.bind_some,c1,Option.bind_some,cat_ok (by simp only[List.length_append,List.length_cons,List.length_nil,l1,l2,l4,d2,d4];omega),Option.bind_some,cat_ok (by simp only[List.length_append,List.length_cons,List.length_nil,l1,l2,l4,d2,d4];omega),Option.bind_some,cat_ok (by simp only[List.length_append,List.length_cons,List.length_nil,l1,l2,l4,d2,d4];omega),Option.bind_some,cat_ok (by simp only[List.length_append,List.length_cons,List.length_nil,l1,l2,l4,d2,d4];omega),Option.bind_some,c3,Option.bind_some,cat_ok (by simp only[List.length_append,List.length_cons,List.length_nil,l1,l2,l4,d2,d4];omega),Option.bind_some,cat_ok (by simp only[List.length_append,List.length_cons,List.length_nil,l1,l2,l4,d2,d4];omega),Option.bind_some,c4,Option.bind_some,cat_ok (by simp only[List.length_append,List.length_cons,List.length_nil,l1,l2,l4,d2,d4];omega),Option.bind_some,cat_ok (by simp only[List.length_append,List.length_cons,List.length_nil,l1,l2,l4,d2,d4];omega),Option.bind_some]
 rw[cat_ok (by simp only[List.length_append,List.length_cons,List.length_nil,l1,l2,l4,d2,d4];omega),Option.bind_some,Option.bind_some,cat_ok (by simp only[List.length_append,List.length_cons,List.length_nil,l1,l2,l4,d2,d4];omega),Option.bind_some,cat_ok (by simp only[List.length_append,List.length_cons,List.length_nil,l1,l2,l4,d2,d4];omega),Option.bind_some,cat_ok (by simp only[List.length_append,List.length_cons,List.length_nil,l1,l2,l4,d2,d4];omega),Option.bind_some,cat_ok (by simp only[List.length_append,List.length_cons,List.length_nil,l1,l2,l4,d2,d4];omega),Option.bind_some,e2,Option.bind_some,c2,Option.bind_some,cat_ok (by simp only[List.length_append,List.length_cons,List.length_nil,l1,l2,l4,d2,d4];omega),Option.bind_some,cat_ok (by simp only[List.length_append,List.length_cons,List.length_nil,l1,l2,l4,d2,d4];omega),Option.bind_some,Option.bind_some,cat_ok (by simp only[List.length_append,List.length_cons,List.length_nil,l1,l2,l4,d2,d4];omega),Option.bind_some,cat_ok (by simp only[List.length_append,List.length_cons,List.length_nil,l1,l2,l4,d2,d4];omega),Option.bind_some,Option.bind_some,c6,S_l3Forms_c69,c5,Option.bind_some,itoa_small (show d+1<100 by omega)]
 by_cases c:d+1<10
 ·rw[decide_eq_true c,cond_true,if_pos c,cat_ok (by simp only[List.length_append,List.length_cons,List.length_nil,l1,l2,l4,d2,d4];omega),Option.bind_some,Option.bind_some]
  rw[Option.bind_some,cat_ok (by simp only[List.length_append,List.length_cons,List.length_nil,l1,l2,l4,d2,d4];omega),Option.bind_some,cat_ok (by simp only[List.length_append,List.length_cons,List.length_nil,l1,l2,l4,d2,d4];omega),Option.bind_some,cat_ok (by simp only[List.length_append,List.length_cons,List.length_nil,l1,l2,l4,d2,d4];omega),Option.bind_some,cat_ok (by simp only[List.length_append,List.length_cons,List.length_nil,l1,l2,l4,d2,d4];omega),Option.bind_some,cat_ok (by simp only[List.length_append,List.length_cons,List.length_nil,l1,l2,l4,d2,d4];omega),Option.bind_some,Option.bind_some,cat_ok (by simp only[List.length_append,List.length_cons,List.length_nil,l1,l2,l4,d2,d4];omega),Option.bind_some,cat_ok (by simp only[List.length_append,List.length_cons,List.length_nil,l1,l2,l4,d2,d4];omega),Option.bind_some,Option.bind_some,cat_ok (by simp only[List.length_append,List.length_cons,List.length_nil,l1,l2,l4,d2,d4];omega),Option.bind_some]
  unfold T1 T2 T3
  rw[if_pos c];rfl
 ·rw[decide_eq_false c,cond_false,Option.bind_some]
  rw[Option.bind_some,cat_ok (by simp only[List.length_append,List.length_cons,List.length_nil,l1,l2,l4,d2,d4];omega),Option.bind_some,cat_ok (by simp only[List.length_append,List.length_cons,List.length_nil,l1,l2,l4,d2,d4];omega),Option.bind_some,cat_ok (by simp only[List.length_append,List.length_cons,List.length_nil,l1,l2,l4,d2,d4];omega),Option.bind_some,cat_ok (by simp only[List.length_append,List.length_cons,List.length_nil,l1,l2,l4,d2,d4];omega),Option.bind_some,cat_ok (by simp only[List.length_append,List.length_cons,List.length_nil,l1,l2,l4,d2,d4];omega),Option.bind_some,Option.bind_some,cat_ok (by simp only[List.length_append,List.length_cons,List.length_nil,l1,l2,l4,d2,d4];omega),Option.bind_some,cat_ok (by simp only[List.length_append,List.length_cons,List.length_nil,l1,l2,l4,d2,d4];omega),Option.bind_some,Option.bind_some,cat_ok (by simp only[List.length_append,List.length_cons,List.length_nil,l1,l2,l4,d2,d4];omega),Option.bind_some]
  unfold T1 T2 T3
  rw[if_neg c]
theorem I_dateText_1{k:Nat}(hk:1073741824≤k){t n p d:Nat}(ht:t≤4102444799)(h:IsDay (t/86400) n p d):I_dateText k (t:Int) 1=some (T1 (wkN (t/86400)) n p d (t % 86400)):=by
 have hn:=h.hn
 have hp:=h.hp
 have hd:=h.hd
 have hm:=mdN_pos (1970+n) (p+1)
 have hw:=wkN_lt (t/86400)
 have l1:=dF3_len hw
 have l2:=mon3_len hp
 have l3:=dF_len hw
 have e1:dv (t:Int) 86400=some ((t/86400:Nat):Int):=dv_nat (b:=86400) (by omega)
 have e2:dv (t:Int) 3600=some ((t/3600:Nat):Int):=dv_nat (b:=3600) (by omega)
 have e3:md ((t/3600:Nat):Int) 24=some ((t % 86400/3600:Nat):Int):=by
  rw[show t % 86400/3600=t/3600 % 24 by omega];exact md_nat (b:=24) (by omega)
 have e4:dv (t:Int) 60=some ((t/60:Nat):Int):=dv_nat (b:=60) (by omega)
 have e5:md ((t/60:Nat):Int) 60=some ((t % 86400/60 % 60:Nat):Int):=by
  rw[show t % 86400/60 % 60=t/60 % 60 by omega];exact md_nat (b:=60) (by omega)
 have e6:md (t:Int) 60=some ((t % 86400 % 60:Nat):Int):=by
  rw[show t % 86400 % 60=t % 60 by omega];exact md_nat (b:=60) (by omega)
 have e7:md ((1970+n:Nat):Int) 100=some (((1970+n) % 100:Nat):Int):=md_nat (b:=100) (by omega)
 obtain⟨f1,_,f3⟩:=day_tab ⟨wkN (t/86400),hw⟩
 obtain⟨_,g2⟩:=mon_tab ⟨p,hp⟩
 simp only at f1 f3 g2
 have c1:=I_Digits2 hk (n:=d+1) (by omega)
 have c2:=I_Digits2 hk (n:=(1970+n) % 100) (by omega)
 have c3:=I_Digits2 hk (n:=t % 86400/3600) (by omega)
 have c4:=I_Digits2 hk (n:=t % 86400/60 % 60) (by omega)
 have c5:=I_Digits2 hk (n:=t % 86400 % 60) (by omega)
 have c6:=I_FormatInt_eq (k:=k) ((1970+n:Nat):Int) (by omega) (by omega)
 have c7:=I_FormatInt_eq (k:=k) ((d+1:Nat):Int) (by omega) (by omega)
 rw[itoa_year (by omega) (by omega)]at c6
 rw[itoa_small (by omega)]at c7
 have c8:decide (((d+1:Nat):Int)<10)=decide (d+1<10):=by by_cases c:d+1<10<;>simp[c]<;>omega
 rw[I_dateText,I_inRange_eq,Option.bind_some,inR_t (by omega) (by omega),Bool.not_true,cond_false,e1,Option.bind_some,wrap_nat (show t/86400≤9223372036854775807 by omega),I_CivilOf_eq hk h,Option.bind_some,Option.bind_some,wrap_nat (show t/86400≤9223372036854775807 by omega),I_WeekdayOf_nat (k:=k) (t/86400) (by omega),Option.bind_some,e2,Option.bind_some,wrap_nat (show t/3600≤9223372036854775807 by omega),e3,Option.bind_some,c3,Option.bind_some,cat_ok (by simp only[List.length_append,List.length_cons,List.length_nil,l1,l2,d2,d4];omega),Option.bind_some,e4,Option.bind_some,wrap_nat (show t/60≤9223372036854775807 by omega),e5,Option.bind_some,c4,Option.bind_some,cat_ok (by simp only[List.length_append,List.length_cons,List.length_nil,l1,l2,d2,d4];omega),Option.bind_some,cat_ok (by simp only[List.length_append,List.length_cons,List.length_nil,l1,l2,d2,d4];omega),Option.bind_some,e6,Option.bind_some,c5,Option.bind_some,cat_ok (by simp only[List.length_append,List.length_cons,List.length_nil,l1,l2,d2,d4];omega),Option.bind_some,f3,Option.bind_some]
 simp only
 rw[g2,Option.bind_some]
 rw[show((1:Int)==1)=true from rfl,cond_true,cat_ok (by simp only[List.length_append,List.length_cons,List.length_nil,l1,l2,d2,d4];omega),Option.bind_some,c1,Option.bind_some,cat_ok (by simp only[List.length_append,List.length_cons,List.length_nil,l1,l2,d2,d4];omega),Option.bind_some,cat_ok (by simp only[List.length_append,List.length_cons,List.length_nil,l1,l2,d2,d4];omega),Option.bind_some,cat_ok (by simp only[List.length_append,List.length_cons,List.length_nil,l1,l2,d2,d4];omega),Option.bind_some,cat_ok (by simp only[List.length_append,List.length_cons,List.length_nil,l1,l2,d2,d4];omega),Option.bind_some,c6,Option.bind_some,cat_ok (by simp only[List.length_append,List.length_cons,List.length_nil,l1,l2,d2,d4];omega),Option.bind_some,cat_ok (by simp only[List.length_append,List.length_cons,List.length_nil,l1,l2,d2,d4];omega),Option.bind_some,cat_ok (by simp only[List.length_append,List.length_cons,List.length_nil,l1,l2,d2,d4];omega),Option.bind_some,cat_ok (by simp only[List.length_append,List.length_cons,List.length_nil,l1,l2,d2,d4];omega),Option.bind_some]
 rfl
def tagB(c:UInt8):Bool:=inR (c.toNat:Int) 33 126&& !(c==34)
def isTagT(x:List UInt8):Bool:=x.all tagB&&decide ((x.length:Int)≤40)
theorem u8_34(c:UInt8):((c.toNat:Int)==34)=(c==34):=u8_eq c 34
theorem S_IsTag_loop{k:Nat}{w:Bool}{x:List UInt8}(hx:x.length<1073741824):∀(n i:Nat),i≤x.length→x.length -i<n→S_IsTag_b0 k n (i:Int) w x=some (if(x.drop i).all tagB then .nrm ()else .oth false):=by
 intro n
 induction n with
 |zero=>intro i _ h;omega
 |succ n ih=>
  intro i hi hn
  rw[S_IsTag_b0,bif_dec]
  by_cases c:i<x.length
  ·have hb:=UInt8.toNat_lt x[i]
   rw[if_pos (by omega),idx_nat c,Option.bind_some,wrap_id (by omega) (by omega),S_l1In_eq,Option.bind_some,Option.bind_some,u8_34,wrap_succ (by omega),ih (i+1) (by omega) (by omega),List.drop_eq_getElem_cons c,List.all_cons]
   unfold tagB
   cases inR (x[i].toNat:Int) 33 126<;>cases (x[i]==34)<;>rfl
  ·rw[if_neg (by omega),List.drop_of_length_le (by omega)];rfl
theorem I_IsTag_loop{k:Nat}{w:Bool}{x:List UInt8}(hx:x.length<1073741824):∀(n i:Nat),i≤x.length→x.length -i<n→I_IsTag_b0 k n (x.length:Int) (i:Int) w x=some (if(x.drop i).all tagB then .nrm ()else .oth false):=by
 intro n
 induction n with
 |zero=>intro i _ h;omega
 |succ n ih=>
  intro i hi hn
  rw[I_IsTag_b0,bif_dec]
  by_cases c:i<x.length
  ·have hb:=UInt8.toNat_lt x[i]
   rw[if_pos (by omega),idx_nat c,Option.bind_some,wrap_id (by omega) (by omega),I_inRange_eq,Option.bind_some,Option.bind_some,u8_34,wrap_succ (by omega),ih (i+1) (by omega) (by omega),List.drop_eq_getElem_cons c,List.all_cons]
   unfold tagB
   cases inR (x[i].toNat:Int) 33 126<;>cases (x[i]==34)<;>rfl
  ·rw[if_neg (by omega),List.drop_of_length_le (by omega)];rfl
theorem S_IsTag_eq{k:Nat}(hk:1073741824≤k)(t:ITag)(hx:t.Text.length<1073741824):S_IsTag k t=some (isTagT t.Text):=by
 have:S_IsTag_b0 k k 0 t.Weak t.Text=some (if(t.Text.drop 0).all tagB then .nrm ()else .oth false):=S_IsTag_loop hx k 0 (by omega) (by omega)
 rw[S_IsTag,this,Option.bind_some,List.drop_zero]
 unfold isTagT
 cases t.Text.all tagB<;>rfl
theorem I_IsTag_eq{k:Nat}(hk:1073741824≤k)(t:ITag)(hx:t.Text.length<1073741824):I_IsTag k t=some (isTagT t.Text):=by
 have:I_IsTag_b0 k k (t.Text.length:Int) 0 t.Weak t.Text=some (if(t.Text.drop 0).all tagB then .nrm ()else .oth false):=I_IsTag_loop hx k 0 (by omega) (by omega)
 rw[I_IsTag,this,Option.bind_some,List.drop_zero]
 unfold isTagT
 cases t.Text.all tagB<;>rfl
def fmtTag(t:ITag):List UInt8:=bif isTagT t.Text then(bif t.Weak then [87,47,34]++t.Text++[34]else [34]++t.Text++[34])else []
theorem I_FormatTag_eq{k:Nat}(hk:1073741824≤k)(t:ITag)(hx:t.Text.length<1073741824):I_FormatTag k t=some (fmtTag t):=by
 rw[I_FormatTag,I_IsTag_eq hk t hx,Option.bind_some,cat_ok (by simp;omega),Option.bind_some,cat_ok (by simp;omega),Option.bind_some,cat_ok (by simp;omega),Option.bind_some,cat_ok (by simp;omega),Option.bind_some]
 unfold fmtTag
 cases isTagT t.Text<;>cases t.Weak<;>rfl
theorem S_FormatTag_eq{k:Nat}(hk:1073741824≤k)(t:ITag)(hx:t.Text.length<1073741824):S_FormatTag k t=some (fmtTag t):=by
 rw[S_FormatTag,S_IsTag_eq hk t hx,Option.bind_some,cat_ok (by simp;omega),Option.bind_some,cat_ok (by simp;omega),Option.bind_some,cat_ok (by simp;omega),Option.bind_some,cat_ok (by simp;omega),Option.bind_some]
 unfold fmtTag
 cases isTagT t.Text<;>cases t.Weak<;>rfl
def ctlOf(r:IResource):List UInt8:=bif r.Private then(bif r.Control==[]then [112,114,105,118,97,116,101]else [112,114,105,118,97,116,101,44,32]++r.Control)else r.Control
theorem S_ControlOf_eq{k:Nat}(r:IResource)(h:r.Control.length≤1048576):S_ControlOf k r=some (ctlOf r):=by
 unfold S_ControlOf ctlOf
 rw[cat_ok (by simp;omega)]
 cases r.Private<;>cases (r.Control==[])<;>rfl
theorem I_ControlOf_eq{k:Nat}(r:IResource)(h:r.Control.length≤1048576):I_ControlOf k r=some (ctlOf r):=by
 unfold I_ControlOf ctlOf
 rw[cat_ok (by simp;omega)]
 cases r.Private<;>cases (r.Control==[])<;>rfl
theorem S_BodyOf_some(k:Nat)(v:IVersion)(a b:List UInt8)(h0:v.Text.length≤1048576)(h1:a.length≤1048576)(h2:b.length≤1048576):∃r,S_BodyOf k v a b=some r:=by
 unfold S_BodyOf S_BodyOf_c11
 cases ha:(a==[])with
 |true=>
  simp only[Bool.not_true,cond_false,Option.bind_some,S_BodyOf_c18]
  cases hb:(b==[])with
  |true=>exact⟨_,rfl⟩
  |false=>
   rw[Bool.not_false,cond_true,cat_ok (by simp;omega),Option.bind_some,cat_ok (by simp;omega)]
   exact⟨_,rfl⟩
 |false=>
  rw[Bool.not_false,cond_true,cat_ok (by simp;omega),Option.bind_some,cat_ok (by simp;omega),Option.bind_some,cat_ok (by simp;omega)]
  simp only[Option.bind_some,S_BodyOf_c18]
  cases hb:(b==[])with
  |true=>exact⟨_,rfl⟩
  |false=>
   rw[Bool.not_false,cond_true,cat_ok (by simp;omega),Option.bind_some,cat_ok (by simp;omega)]
   exact⟨_,rfl⟩
def vLast(p:Nat→Bool):Nat→Int
 |0=> -1
 |j+1=>bif p j then(j:Int)else vLast p j
def atP(x:List IVersion)(t:Int)(i:Nat):Bool:=match x[i]? with|some e=>decide (e.At≤t)|none=>false
theorem atP_idx{x:List IVersion}{t:Int}{i:Nat}(h:i<x.length):atP x t i=decide (x[i].At≤t):=by simp only[atP,List.getElem?_eq_getElem h]
theorem S_VersionAt_loop{k:Nat}{t:Int}{a b c:List UInt8}{d:Bool}{e:List (List UInt8)}{x:List IVersion}(hx:x.length<1073741824):∀(n i:Nat),i≤x.length→x.length -i<n→
 S_VersionAt_b0 k n t (vLast (atP x t) i) (i:Int) a b c d e x=some (vLast (atP x t) x.length):=by
 intro n
 induction n with
 |zero=>intro i _ h;omega
 |succ n ih=>
  intro i hi hn
  rw[S_VersionAt_b0,bif_dec]
  by_cases h:i<x.length
  ·rw[if_pos (by omega),S_VersionAt_b1,idx_nat h,Option.bind_some,S_VersionAt_c21,wrap_succ (by omega)]
   have:=ih (i+1) (by omega) (by omega)
   rw[vLast,atP_idx h]at this
   cases hd:decide (x[i].At≤t)with
   |true=>rw[hd,cond_true]at this;rw[cond_true,Option.bind_some,Option.bind_some];exact this
   |false=>rw[hd,cond_false]at this;rw[cond_false,Option.bind_some,Option.bind_some];exact this
  ·rw[if_neg (by omega),show i=x.length by omega]
theorem I_VersionAt_loop{k:Nat}{t:Int}{a b c:List UInt8}{d:Bool}{e:List (List UInt8)}{x:List IVersion}(hx:x.length<1073741824):∀(n j:Nat),j≤x.length→j<n→
 ∃o,I_VersionAt_b0 k n t ((j:Int) -1) a b c d e x=some o∧(oc o (fun _=>some (-1:Int)) fun r=>some r)=some (vLast (atP x t) j):=by
 intro n
 induction n with
 |zero=>intro j _ h;omega
 |succ n ih=>
  intro j hj hn
  rw[I_VersionAt_b0,bif_dec]
  cases j with
  |zero=>rw[if_neg (by omega)];exact⟨_,rfl,rfl⟩
  |succ j=>
   have h:j<x.length:=by omega
   rw[if_pos (by omega),show((j+1:Nat):Int) -1=(j:Int)by omega,idx_nat h,Option.bind_some,wrap_id (by omega) (by omega),vLast,atP_idx h]
   cases decide (x[j].At≤t)with
   |true=>exact⟨_,rfl,rfl⟩
   |false=>rw[cond_false,cond_false];exact ih j (by omega) (by omega)
theorem S_VersionAt_eq{k:Nat}(hk:1073741824≤k)(r:IResource)(t:Int)(h:r.Versions.length<1073741824):S_VersionAt k r t=some (vLast (atP r.Versions t) r.Versions.length):=by
 rw[S_VersionAt]
 have:=S_VersionAt_loop (k:=k) (t:=t) (a:=r.Target) (b:=r.Control) (c:=r.Keys) (d:=r.Private) (e:=r.Langs) (x:=r.Versions) h k 0 (by omega) (by omega)
 rw[show(-1:Int)=vLast (atP r.Versions t) 0 from rfl,show(0:Int)=((0:Nat):Int)from rfl,this];rfl
theorem I_VersionAt_eq{k:Nat}(hk:1073741824≤k)(r:IResource)(t:Int)(h:r.Versions.length<1073741824):I_VersionAt k r t=some (vLast (atP r.Versions t) r.Versions.length):=by
 rw[I_VersionAt,wrap_id (by omega) (by omega)]
 obtain⟨o,h1,h2⟩:=I_VersionAt_loop (k:=k) (t:=t) (a:=r.Target) (b:=r.Control) (c:=r.Keys) (d:=r.Private) (e:=r.Langs) (x:=r.Versions) h k r.Versions.length (by omega) (by omega)
 rw[h1,Option.bind_some]
 cases o<;>exact h2
theorem vLast_lt(p:Nat→Bool):∀n,-1≤vLast p n∧vLast p n<(n:Int)
 |0=>by unfold vLast;omega
 |n+1=>by
  have:=vLast_lt p n
  rw[vLast]
  cases p n with
  |true=>rw[cond_true];omega
  |false=>rw[cond_false];omega
theorem date_eq{k:Nat}(hk:1073741824≤k)(t:Int):∃d,S_FormatDate k t=some d∧I_FormatDate k t=some d:=by
 rw[S_FormatDate,I_FormatDate,S_l1In_eq,Option.bind_some]
 cases hb:inR t 0 4102444799 with
 |false=>exact⟨[],rfl,by rw[I_dateText,I_inRange_eq,Option.bind_some,hb];rfl⟩
 |true=>
  unfold inR at hb
  simp only[Bool.and_eq_true,decide_eq_true_eq]at hb
  obtain⟨u,rfl⟩:=Int.eq_ofNat_of_zero_le hb.1
  obtain⟨n,p,d,hd⟩:=isDay_ex (day:=u/86400) (by omega)
  rw[Bool.not_true,cond_false,S_l3Forms_eq hk (by omega) hd,Option.bind_some,I_dateText_1 hk (by omega) hd,Option.bind_some]
  exact⟨_,rfl,rfl⟩
def opt(n v:List UInt8):List IField:=bif v==[]then []else [⟨n,v⟩]
theorem opt_app{l:List IField}{n v:List UInt8}{m:Nat}(h:l.length≤m):(l++opt n v).length≤m+1:=by
 unfold opt
 cases v==[]with
 |true=>rw[cond_true,List.append_nil];omega
 |false=>rw[cond_false,List.length_append,List.length_cons,List.length_nil];omega
theorem app_opt{l:List IField}(h:l.length≤100)(n v:List UInt8):(bif(!(v==([]:List UInt8)))then((app 32 l ([(⟨n,v⟩:IField)]:List IField)).bind fun u=>some (u))else some (l))=some (l++opt n v):=by
 unfold opt
 cases v==[]with
 |true=>rw[Bool.not_true,cond_false,cond_true,List.append_nil]
 |false=>rw[Bool.not_false,cond_true,cond_false,appn_ok (by simp only[List.length_cons,List.length_nil];omega),Option.bind_some]
theorem app_if{l:List (List UInt8)}(h:l.length≤100)(b:Bool)(s:List UInt8):(bif b then((app 16 l ([s]:List (List UInt8))).bind fun u=>some (u))else some (l))=some (l++bif b then [s]else []):=by
 cases b with
 |true=>rw[cond_true,cond_true,appn_ok (by simp only[List.length_cons,List.length_nil];omega),Option.bind_some]
 |false=>rw[cond_false,cond_false,List.append_nil]
def optA:List IField→List IField
 |[]=>[]
 |e::l=>opt e.Name e.Value++optA l
theorem plain_loop{k:Nat}{x15 x16:List UInt8}{a c:Int}{b d:List UInt8}{g:Bool}{rs:List IField}(hr:rs.length≤50):∀(n i:Nat) (l:List IField),i≤rs.length→rs.length -i<n→l.length≤10+i→
 I_PlainAnswer_b0 k n x15 x16 (rs.length:Int) (i:Int) a b c d g l rs=some (l++optA (rs.drop i)):=by
 intro n
 induction n with
 |zero=>intro i l _ h;omega
 |succ n ih=>
  intro i l hi hn hl
  rw[I_PlainAnswer_b0,bif_dec]
  by_cases h:i<rs.length
  ·have ap:=opt_app (n:=rs[i].Name) (v:=rs[i].Value) hl
   rw[if_pos (by omega),I_PlainAnswer_b1,idx_nat h,Option.bind_some,Option.bind_some,I_PlainAnswer_c150,app_opt (by omega),Option.bind_some,Option.bind_some,wrap_succ (by omega),ih (i+1) _ (by omega) (by omega) (by omega),List.drop_eq_getElem_cons h,optA,List.append_assoc]
  ·rw[if_neg (by omega),List.drop_of_length_le (by omega),optA,List.append_nil]
structure ResZ(e:IResource):Prop where
 c:e.Control.length≤1048576
 l:e.Langs.length≤1048576
 le:∀x∈e.Langs,x.length≤1048576
 n:e.Versions.length≤1048576
 t:∀x∈e.Versions,x.Text.length≤1048576
theorem resZ_of{a:LOrigin}(h:sz_LOrigin a≤1048576):∀e∈(to_LOrigin a).Resources,ResZ e:=by
 unfold sz_LOrigin at h
 intro e he
 simp only[to_LOrigin,List.mem_map]at he
 obtain⟨r,hr,rfl⟩:=he
 have h5:=sz_mem (g:=sz_LResource) hr
 have h6:sz_LResource r≤1048576:=by omega
 unfold sz_LResource at h6
 have h7:r.Langs.length≤szL List.length r.Langs:=by unfold szL;omega
 have h8:r.Versions.length≤szL sz_LVersion r.Versions:=by unfold szL;omega
 refine⟨by simp only[to_LResource];omega,by simp only[to_LResource];omega,fun x hx=> ?_,by simp only[to_LResource,List.length_map];omega,fun x hx=> ?_⟩
 ·have hx:x∈r.Langs:=hx
  have:=sz_mem (g:=List.length) hx
  omega
 ·simp only[to_LResource,List.mem_map]at hx
  obtain⟨y,hy,rfl⟩:=hx
  have:=sz_mem (g:=sz_LVersion) hy
  have h9:y.Text.length≤sz_LVersion y:=Nat.le_refl _
  show y.Text.length≤_
  omega
theorem Plain_eq{k:Nat}(hk:1073741824≤k){o:IOrigin}(ho:OrgIn o)(hz:∀e∈o.Resources,ResZ e){r:IRequest}(hr:ReqIn r)(hf:fsz r.Fields<67108864)(ht:r.Target.length<134217728)(t:Int):
 ∃x,S_PlainAnswer k o r t=some x∧I_PlainAnswer k o r t=some x∧x.Fields.length≤7:=by
 have hn:=ho.hr
 have fr:=fun s=>S_FindResource_eq hk o s (by omega)
 have fi:=fun s=>I_FindResource_eq hk o s (by omega)
 obtain⟨d1,q1,q1'⟩:=date_eq hk t
 rw[S_PlainAnswer,I_PlainAnswer]
 simp only[S_NormalTarget_eq hk _ ht,I_NormalTarget_eq hk _ ht,S_IsOrigin_eq hk o ho,I_IsOrigin_eq hk o ho,S_IsRequest_eq hk r hr,I_IsRequest_eq hk r hr,S_l1In_eq,I_inRange_eq,q1',fr,fi,Option.bind_some,S_l16Error,q1]
 cases orgT o with
 |false=>exact⟨_,rfl,rfl,by simp⟩
 |true=>
 cases isReq r with
 |false=>exact⟨_,rfl,rfl,by simp⟩
 |true=>
 cases (normT r.Target).2 with
 |false=>exact⟨_,rfl,rfl,by simp⟩
 |true=>
 cases (r.Host==o.Host)with
 |false=>exact⟨_,rfl,rfl,by simp⟩
 |true=>
 cases inR t 0 4102444799 with
 |false=>exact⟨_,rfl,rfl,by simp⟩
 |true=>
 simp only[Bool.not_true,cond_false]
 obtain⟨a,b⟩:=findR_lt o.Resources (normT r.Target).1
 generalize findR o.Resources (normT r.Target).1=fi at*
 cases (r.Method==([71,69,84]:List UInt8))<;>cases (r.Method==([72,69,65,68]:List UInt8))<;>simp only[Bool.not_true,Bool.not_false,cond_false,cond_true]
 ·exact⟨_,rfl,rfl,by simp⟩
 all_goals
  by_cases c:fi<0
  ·rw[decide_eq_true c];exact⟨_,rfl,rfl,by simp⟩
  obtain⟨i,rfl⟩:=Int.eq_ofNat_of_zero_le (by omega:0≤fi)
  have hi:i<o.Resources.length:=by omega
  have hx:idx o.Resources ((i:Nat):Int)=some o.Resources[i]:=idx_nat hi
  have he:=hz _ (List.getElem_mem hi)
  generalize o.Resources[i]=e at hx he
  have hv:=he.n
  simp only[decide_eq_false c,cond_false,hx,Option.bind_some,S_VersionAt_eq hk e t (by omega),I_VersionAt_eq hk e t (by omega)]
  obtain⟨a2,b2⟩:=vLast_lt (atP e.Versions t) e.Versions.length
  generalize vLast (atP e.Versions t) e.Versions.length=vi at*
  by_cases c2:vi<0
  ·rw[decide_eq_true c2];exact⟨_,rfl,rfl,by simp⟩
  obtain⟨m,rfl⟩:=Int.eq_ofNat_of_zero_le (by omega:0≤vi)
  have hm:m<e.Versions.length:=by omega
  have hy:idx e.Versions ((m:Nat):Int)=some e.Versions[m]:=idx_nat hm
  have htx:=he.t _ (List.getElem_mem hm)
  generalize e.Versions[m]=v at hy htx
  simp only[decide_eq_false c2,cond_false,hy,Option.bind_some]
  cases v.Gone with
  |true=>exact⟨_,rfl,rfl,by simp⟩
  |false=>
   obtain⟨d2,q2,q2'⟩:=date_eq hk v.At
   have hl:=he.l
   have hc:=he.c
   have v1:(variantT e r.Fields).1.length≤1048576:=chooseT_len he.le
   have v2:(variantT e r.Fields).2.length≤20:=by
    have:=visitor_len r.Fields
    unfold variantT
    cases e.Private with
    |true=>exact this
    |false=>simp
   have s1:=S_VariantOf_eq hk e r (by omega) hf
   have s2:=I_VariantOf_eq hk e r (by omega) hf
   generalize variantT e r.Fields=w at*
   obtain⟨bd,hb⟩:=S_BodyOf_some k v w.1 w.2 htx v1 (by omega)
   have hb':I_BodyOf k v w.1 w.2=some bd:=hb
   have hil:=itoa_len (n:=(m:Int)) (by omega) (by omega)
   have t1:S_TagOf k (m:Int) w.1 w.2=some ⟨false,Lib.itoa (m:Int)++[47]++w.1++[47]++w.2⟩:=by
    rw[S_TagOf,S_FormatInt_eq hk (m:Int) (by omega) (by omega),Option.bind_some,cat_ok (by simp;omega),Option.bind_some,cat_ok (by simp;omega),Option.bind_some,cat_ok (by simp;omega),Option.bind_some,cat_ok (by simp;omega)];rfl
   have t2:I_TagOf k (m:Int) w.1 w.2=some ⟨false,Lib.itoa (m:Int)++[47]++w.1++[47]++w.2⟩:=by
    rw[I_TagOf,I_FormatInt_eq (m:Int) (by omega) (by omega),Option.bind_some,cat_ok (by simp;omega),Option.bind_some,cat_ok (by simp;omega),Option.bind_some,cat_ok (by simp;omega),Option.bind_some,cat_ok (by simp;omega)];rfl
   have tl:(Lib.itoa (m:Int)++[47]++w.1++[47]++w.2).length<1073741824:=by simp;omega
   generalize Lib.itoa (m:Int)++[47]++w.1++[47]++w.2=tx at*
   have t3:=S_FormatTag_eq hk ⟨false,tx⟩ tl
   have t4:=I_FormatTag_eq hk ⟨false,tx⟩ tl
   have e0:∀a b c:IField,app 32 ([]:List IField) [a,b,c]=some [a,b,c]:=fun a b c=>appn_ok (by simp)
   have u1:=app_if (l:=[]) (by simp) (decide ((e.Langs.length:Int)>(0:Int))) [97,99,99,101,112,116,45,108,97,110,103,117,97,103,101]
   have u2:=app_if (l:=[]++bif(decide ((e.Langs.length:Int)>(0:Int)))then [[97,99,99,101,112,116,45,108,97,110,103,117,97,103,101]]else []) (by cases (decide ((e.Langs.length:Int)>(0:Int)))<;>simp) e.Private [97,117,116,104,111,114,105,122,97,116,105,111,110]
   have u3:∀(b1 b2:Bool),(2*(([]++bif b1 then [[97,99,99,101,112,116,45,108,97,110,103,117,97,103,101]]else [])++bif b2 then [[97,117,116,104,111,114,105,122,97,116,105,111,110]]else []:List (List UInt8)).length+Lib.lens (([]++bif b1 then [[97,99,99,101,112,116,45,108,97,110,103,117,97,103,101]]else [])++bif b2 then [[97,117,116,104,111,114,105,122,97,116,105,111,110]]else []:List (List UInt8))<1073741824)∧decide (((([]++bif b1 then [[97,99,99,101,112,116,45,108,97,110,103,117,97,103,101]]else [])++bif b2 then [[97,117,116,104,111,114,105,122,97,116,105,111,110]]else []:List (List UInt8)).length:Int)>(0:Int))= !(joinT (([]++bif b1 then [[97,99,99,101,112,116,45,108,97,110,103,117,97,103,101]]else [])++bif b2 then [[97,117,116,104,111,114,105,122,97,116,105,111,110]]else [])==[]):=by decide
   obtain⟨u4,u5⟩:=u3 (decide ((e.Langs.length:Int)>(0:Int))) e.Private
   clear u3
   generalize (([]++bif(decide ((e.Langs.length:Int)>(0:Int)))then [[97,99,99,101,112,116,45,108,97,110,103,117,97,103,101]]else [])++bif e.Private then [[97,117,116,104,111,114,105,122,97,116,105,111,110]]else []:List (List UInt8))=wv at*
   have j1:=S_JoinList_eq hk wv u4
   have j2:=I_JoinList_eq (k:=k) wv u4
   simp only[cond_false,s1,s2,hb,hb',q2,q2',t1,t2,t3,t4,S_ControlOf_eq e hc,I_ControlOf_eq e hc,Option.bind_some,e0,S_PlainAnswer_c127,S_PlainAnswer_c139,S_PlainAnswer_c144,S_PlainAnswer_c150,S_PlainAnswer_c160,S_PlainAnswer_c170,I_PlainAnswer_c122,I_PlainAnswer_c127,u1,u2,j1,j2,u5]
   generalize hl0:[(⟨[100,97,116,101],d1⟩:IField),⟨[108,97,115,116,45,109,111,100,105,102,105,101,100],d2⟩,⟨[101,116,97,103],fmtTag ⟨false,tx⟩⟩]=l0
   have L0:l0.length≤3:=by rw[←hl0];simp
   have g1:=opt_app (n:=[99,97,99,104,101,45,99,111,110,116,114,111,108]) (v:=ctlOf e) L0
   have g2:=opt_app (n:=[118,97,114,121]) (v:=joinT wv) g1
   have g3:=opt_app (n:=[99,111,110,116,101,110,116,45,108,97,110,103,117,97,103,101]) (v:=w.1) g2
   have g4:=opt_app (n:=[115,117,114,114,111,103,97,116,101,45,107,101,121]) (v:=e.Keys) g3
   have k1:=app_opt (by omega) [99,97,99,104,101,45,99,111,110,116,114,111,108] (ctlOf e) (l:=l0)
   have k2:=app_opt (Nat.le_trans g1 (by omega)) [118,97,114,121] (joinT wv)
   have k3:=app_opt (Nat.le_trans g2 (by omega)) [99,111,110,116,101,110,116,45,108,97,110,103,117,97,103,101] w.1
   have k4:=app_opt (Nat.le_trans g3 (by omega)) [115,117,114,114,111,103,97,116,101,45,107,101,121] e.Keys
   have k5:=plain_loop (k:=k) (x15:=w.1) (x16:=w.2) (a:=0) (b:=[]) (c:=v.At) (d:=v.Text) (g:=false) (rs:=[(⟨[99,97,99,104,101,45,99,111,110,116,114,111,108],ctlOf e⟩:IField),⟨[118,97,114,121],joinT wv⟩,⟨[99,111,110,116,101,110,116,45,108,97,110,103,117,97,103,101],w.1⟩,⟨[115,117,114,114,111,103,97,116,101,45,107,101,121],e.Keys⟩]) (by simp) k 0 l0 (by omega) (by simp;omega) (by omega)
   rw[show(((0:Nat)):Int)=0 from rfl]at k5
   simp only[k1,k2,k3,k4,k5,Option.bind_some]
   refine⟨_,rfl, ?_,g4⟩
   simp only[optA,List.drop_zero,List.append_assoc,List.append_nil]
theorem L_markRequest_eqm{k:Nat}(hk:1073741824≤k)(r:IRequest)(h:r.Fields.length<1073741824)(m:Int)(hm0:0<m)(hm1:m≤1073741824):∃x,L_markRequest_f k (r.Method,r.Host,r.Target,r.Fields,()) m=some (m+((2:Nat):Int)*(r.Fields.length:Int),x):=by
 rw[L_markRequest_f,L_markRequest,L_markFieldS_eqm hk _ h m hm0 (by omega)];exact⟨_,rfl⟩
theorem FnExactPlainAnswer_pure{k:Nat}(hk:1073741824≤k)(a0:LOrigin)(a1:LRequest)(a2:Int)(h0:V_LOrigin a0)(h1:V_LRequest a1)(h2:InI a2):L_FnExactPlainAnswer k a0 a1 a2=some true:=by
 unfold L_FnExactPlainAnswer
 rw[L_szOrigin_eq hk h0 _ (by omega) (by omega),Option.bind_some,bif_dec]
 by_cases c3:(sz_LOrigin a0:Int)≤1048576
 case neg=>rw[if_neg c3,if_pos (by omega)]
 have c4:sz_LOrigin a0≤1048576:=by omega
 rw[if_pos c3,if_neg (by omega),L_szRequest_eq hk h1 _ (by omega) (by omega),Option.bind_some,bif_dec]
 by_cases c5:(sz_LRequest a1:Int)≤1048576 -(sz_LOrigin a0:Int)
 case neg=>rw[if_neg c5,if_pos (by omega)]
 have c6:sz_LRequest a1≤1048576:=by omega
 rw[if_pos c5,if_neg (by omega)]
 obtain⟨r1,r2⟩:=orgIn_of c4
 have r3:=r1.hr
 have r4:(to_LOrigin a0).Resources.length<1073741824:=by omega
 have rt:=totV_org c4
 obtain⟨p1,p2,p3,p4,p5,p6⟩:=reqIn_of c6
 obtain⟨x,x1,x2,x3⟩:=Plain_eq hk r1 (resZ_of c4) p1 (by omega) (by omega) a2
 have xl:x.Fields.length<1073741824:=by omega
 have q1:=L_eqOrigin_eq hk (to_LOrigin a0) (to_LOrigin a0) r4 r2
 have q2:=L_eqRequest_eq hk (to_LRequest a1) (to_LRequest a1) p6
 have q3:=L_eqResponse_eq hk x x xl
 rw[decide_eq_true rfl]at q1 q2 q3
 have m1:=L_markOrigin_eq hk (to_LOrigin a0) r4 r2 (by omega)
 obtain⟨y,m2⟩:=L_markRequest_eqm hk (to_LRequest a1) p6 (1+(totV (to_LOrigin a0).Resources:Int)) (by omega) (by omega)
 have m3:=L_markResponse_eq hk x xl
 have m4:=L_heldResponse_eq hk x xl
 simp only[L_toOrigin_eq hk a0 c4,L_toRequest_eq hk a1 c6,Option.bind_some,x1,x2,q1,q2,q3,Bool.not_true,cond_false,m1,m2,m3,m4,bne_self_eq_false]
 rw[decide_eq_false (by omega),cond_false,decide_eq_false (by omega),cond_false]
 rfl
end
end Go.YtnidlohhndpjdaaGreatDoor
