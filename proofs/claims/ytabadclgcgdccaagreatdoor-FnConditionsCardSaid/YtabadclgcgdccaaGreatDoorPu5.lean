/- Plain lemmas and definitions. Nothing is claimed here. -/
import Derived.Test.YtabadclgcgdccaaGreatDoorPu4
import Derived.Lib.IndexMore
set_option linter.unusedSimpArgs false
set_option linter.unusedVariables false
namespace Go.Pu
open Go Go.RowKit Go.Pv
theorem firstI_unique{p:Nat→Bool}{m i:Nat}(h:i<m)(hp:p i=true)(hb:∀j,j<i→p j=false):firstI p m 0=some i:=by
 cases hf:firstI p m 0 with
 |none=>have:=firstI_none _ _ hf i (by omega) (by omega);rw[this]at hp;cases hp
 |some j=>
  obtain⟨_,h1,h2,h3⟩:=firstI_some _ _ _ hf
  rcases Nat.lt_trichotomy i j with e|e|e
  ·have:=h3 i (by omega) e;rw[this]at hp;cases hp
  ·rw[e]
  ·have:=hb j e;rw[this]at h2;cases h2
theorem firstI_no{p:Nat→Bool}{m:Nat}(h:∀j,j<m→p j=false):firstI p m 0=none:=by
 cases hf:firstI p m 0 with
 |none=>rfl
 |some j=>
  obtain⟨_,h1,h2,h3⟩:=firstI_some _ _ _ hf
  have:=h j (by omega);rw[this]at h2;cases h2
def byteP(s:List UInt8)(c:UInt8)(i:Nat):Bool:=s[i]? ==some c
def textP(s sub:List UInt8)(i:Nat):Bool:=Lib.occAt s sub i
def oInt:Option Nat→Int
 |some i=>i
 |none=> -1
theorem index_first{s sub:List UInt8}(h0:sub≠[]):Lib.index s sub=oInt (firstI (textP s sub) s.length 0):=by
 rcases Lib.index_spec s sub with⟨h1,h2⟩|⟨i,h1,h2,h3,h4⟩
 ·rw[h1,firstI_no (p:=textP s sub) (m:=s.length) fun j hj=>h2 j (by omega)];rfl
 ·have hi:i<s.length:=by
   rcases Nat.lt_or_ge i s.length with h|h
   ·exact h
   ·unfold Lib.occAt at h3
    rw[List.drop_of_length_le h]at h3
    cases sub with
    |nil=>exact absurd rfl h0
    |cons a l=>cases h3
  rw[h1,firstI_unique (p:=textP s sub) hi h3 fun j hj=>h4 j hj];rfl
theorem cut_first{s sub:List UInt8}(h0:sub≠[]):Lib.cut s sub=match firstI (textP s sub) s.length 0 with|some i=>(s.take i,s.drop (i+sub.length),true)|none=>(s,[],false):=by
 unfold Lib.cut
 rw[index_first h0]
 cases firstI (textP s sub) s.length 0 with
 |none=>simp[oInt]
 |some i=>simp[oInt]
theorem ssub_take{A:Type}{x:List A}{i:Nat}(h:i≤x.length):ssub x 0 (i:Int)=some (x.take i):=by
 unfold ssub
 rw[if_pos (by omega)]
 simp
theorem ssub_mid{A:Type}{x:List A}{i j:Nat}(h1:i≤j)(h:j≤x.length):ssub x (i:Int) (j:Int)=some ((x.take j).drop i):=by
 unfold ssub
 rw[if_pos (by omega)]
 simp
theorem u8_eq(c d:UInt8):((UInt8.toNat c:Int)==(UInt8.toNat d:Int))=(c==d):=by
 by_cases h:c=d
 ·subst h;rw[beq_self_eq_true,beq_self_eq_true]
 ·have h2:¬c.toNat=d.toNat:=fun e=>h (UInt8.toNat_inj.1 e)
  have h3:¬((UInt8.toNat c:Int)=(UInt8.toNat d:Int)):=by omega
  rw[beq_eq_false_iff_ne.2 h3,beq_eq_false_iff_ne.2 h]
theorem byteP_at{s:List UInt8}{c:UInt8}{i:Nat}(h:i<s.length):byteP s c i=(s[i]==c):=by
 unfold byteP;rw[List.getElem?_eq_getElem h]
 by_cases e:s[i]=c
 ·rw[e];simp
 ·have h2:(s[i]==c)=false:=by simpa using e
  have h3:(some s[i]==some c)=false:=by simpa using e
  rw[h2,h3]
end Go.Pu
