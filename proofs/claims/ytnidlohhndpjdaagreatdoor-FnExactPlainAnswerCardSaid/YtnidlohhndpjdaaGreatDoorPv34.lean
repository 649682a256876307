/- Plain lemmas and definitions. Nothing is claimed here. -/
import Derived.Test.YtnidlohhndpjdaaGreatDoorPv33
import Derived.Lib.AtoiAll
import Derived.Lib.Case
import Derived.Lib.ConvBytes
import Derived.LaidLaws
set_option linter.unusedSimpArgs false
set_option linter.unusedVariables false
namespace Go.Pv
open Go Go.RowKit
section
variable {D:Nat→Type} {P:Program} {X:CT D}
def toUpperO(s:List UInt8):Option (List UInt8):=bif decide (s.length≤140737488355328)&&s.all (fun b=>decide (b.toNat<128))then some (Lib.toUpperA s)else none
theorem does_toUpper{g:Nat}(he:Enters P g)(hc:∀(s:ByteArray) (w:World),X.C.gi w→s.size≤140737488355328→(∀(j:Nat) b,s.data.toList[j]? =some b→b.toNat<128)→Calls P g #[.string s] w fun e w'=>
 e= .returned (.string ⟨(Lib.toUpperA s.data.toList).toArray⟩)∧Below w.heap.size w w'):Does P X g [.c .ks] (fun x=>toUpperO x.1) (fun r=> .p (.c (.str r))):=by
 refine does_lib he fun x r hx w vs hg hl ha=> ?_
 obtain⟨v0,rfl⟩:=one_arg hl rfl
 obtain⟨s,rfl,hs⟩:=reads_str (ha 0 v0 (.str x.1) rfl rfl)
 unfold toUpperO at hx
 cases hd:(decide (x.1.length≤140737488355328)&&x.1.all (fun b=>decide (b.toNat<128)))with
 |false=>rw[hd]at hx;cases hx
 |true=>
  rw[hd]at hx
  cases hx
  simp only[Bool.and_eq_true]at hd
  refine(hc s w hg ?_ ?_).mono fun e w' ⟨h1,h2⟩=>⟨_,h1,h2, ?_⟩
  ·have:s.size=x.1.length:=by rw[←hs];rfl
   rw[this];exact of_decide_eq_true hd.1
  ·intro j b hb
   rw[hs]at hb
   exact of_decide_eq_true (List.all_eq_true.1 hd.2 b (List.mem_of_getElem? hb))
  ·rw[hs];exact owns_str _ _ _
end
end Go.Pv
