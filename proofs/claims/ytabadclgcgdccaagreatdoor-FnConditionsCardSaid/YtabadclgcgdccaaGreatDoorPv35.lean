/- Plain lemmas and definitions. Nothing is claimed here. -/
import Derived.Test.YtabadclgcgdccaaGreatDoorPv34
import Derived.Sort.EncStr
import Derived.Sort.Grow
import Derived.Lib.TrimByte
set_option linter.unusedSimpArgs false
set_option linter.unusedVariables false
namespace Go.Pv
open Go Go.RowKit Go.Sort Go.Proofs
section
variable {D:Nat→Type} {P:Program} {X:CT D}
def indexO(s sub:List UInt8):Option Int:=bif decide (s.length<4294967281)then some (Lib.index s sub)else none
theorem does_index{g:Nat}(he:Enters P g)(hc:∀(s sub:ByteArray) (w:World),X.C.gi w→s.size<4294967281→Calls P g #[.string s,.string sub] w fun e w'=>e= .returned (.int .i64 (Lib.index s.data.toList sub.data.toList))∧w'=w):
 Does P X g [.c .ks,.c .ks] (fun x=>indexO x.1 x.2.1) (fun r=> .p (.c (.int .i64 r))):=by
 refine does_lib he fun x r hx w vs hg hl ha=> ?_
 obtain⟨v0,v1,rfl⟩:=two_args hl rfl
 obtain⟨s,rfl,hs⟩:=reads_str (ha 0 v0 (.str x.1) rfl rfl)
 obtain⟨sub,rfl,hp⟩:=reads_str (ha 1 v1 (.str x.2.1) rfl rfl)
 unfold indexO at hx
 cases hd:decide (x.1.length<4294967281)with
 |false=>rw[hd]at hx;cases hx
 |true=>
  rw[hd]at hx
  cases hx
  have hsz:s.size<4294967281:=by
   have:s.size=x.1.length:=by rw[←hs];rfl
   rw[this];exact of_decide_eq_true hd
  refine(hc s sub w hg hsz).mono fun e w' ⟨h1,h2⟩=>⟨_,h1,h2▸Below.refl _ _, ?_⟩
  rw[hs,hp]
  exact .int _ _ _
def trimLeftO(s cs:List UInt8):Option (List UInt8):=match cs with|[c]=>bif decide (c.toNat<128)then some (Lib.trimLeftB s c)else none|_=>none
theorem does_trimLeft{g:Nat}(he:Enters P g)(hc:∀(s:ByteArray) (c:UInt8) (w:World),X.C.gi w→c.toNat<128→Calls P g #[.string s,.string ⟨#[c]⟩] w fun e w'=>e= .returned (.string ⟨(Lib.trimLeftB s.data.toList c).toArray⟩)∧w'=w):
 Does P X g [.c .ks,.c .ks] (fun x=>trimLeftO x.1 x.2.1) (fun r=> .p (.c (.str r))):=by
 refine does_lib he fun x r hx w vs hg hl ha=> ?_
 obtain⟨v0,v1,rfl⟩:=two_args hl rfl
 obtain⟨s,rfl,hs⟩:=reads_str (ha 0 v0 (.str x.1) rfl rfl)
 obtain⟨cs,rfl,hp⟩:=reads_str (ha 1 v1 (.str x.2.1) rfl rfl)
 have hx:trimLeftO x.1 x.2.1=some r:=hx
 unfold trimLeftO at hx
 split at hx
 ·rename_i c hcs
  rw[hcs]at hp
  obtain⟨⟨l⟩⟩:=cs
  have hl:l=[c]:=hp
  subst hl
  cases hd:decide (c.toNat<128)with
  |false=>rw[hd]at hx;cases hx
  |true=>
   rw[hd]at hx
   cases hx
   refine(hc s c w hg (of_decide_eq_true hd)).mono fun e w' ⟨h1,h2⟩=>⟨_,h1,h2▸Below.refl _ _, ?_⟩
   rw[hs]
   exact owns_str _ _ _
 ·cases hx
end
end Go.Pv
