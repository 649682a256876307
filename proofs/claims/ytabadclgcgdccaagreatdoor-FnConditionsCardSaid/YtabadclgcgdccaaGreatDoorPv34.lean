/- Plain lemmas and definitions. Nothing is claimed here. -/
import Derived.Test.YtabadclgcgdccaaGreatDoorPv33
import Derived.Lib.AtoiAll
import Derived.Lib.Case
import Derived.Lib.ConvBytes
import Derived.LaidLaws
set_option linter.unusedSimpArgs false
set_option linter.unusedVariables false
namespace Go.Pv
open Go Go.RowKit
section
variable {D:Nat→Type} {P:Program} {X:CT D}
theorem below_bytesW(w:World)(e:TypeId)(s:ByteArray):Below w.heap.size w (Lib.bytesWorld w e s):=
 ⟨rfl,rfl,rfl,by rw[Lib.bytesWorld_size];omega,fun k hk=>Lib.bytesWorld_at_old w e s k hk⟩
theorem var_stays{W w':World}{name:String}{cs:Array Value}(h:W.var? P name=some cs)(b:BelowW (fun _=>False) W.heap.size W w'):w'.var? P name=some cs:=by
 unfold World.var? at h ⊢
 cases hg:P.globalNamed name with
 |none=>rw[hg]at h;simp at h
 |some g=>
  rw[hg]at h
  simp only[Option.bind_eq_bind,Option.bind_some]at h ⊢
  have hlt:g<W.heap.size:=by
   rcases Nat.lt_or_ge g W.heap.size with h1|h1
   ·exact h1
   ·rw[Array.getElem?_eq_none h1]at h;simp at h
  rw[b.block g hlt (fun h=>h)]
  exact h
theorem errvar_stays{W w':World}{name:String}(h:∃tp p,W.var? P name=some #[.iface tp p])(b:BelowW (fun _=>False) W.heap.size W w'):∃tp p,w'.var? P name=some #[.iface tp p]:=by
 obtain⟨tp,p,h⟩:=h
 exact⟨tp,p,var_stays h b⟩
theorem errvar_at{W:World}{L:List (String×DataW Unit)}(h:laidMet P L W)(i:Nat){n nm:String}{text:List UInt8}{g:Nat}{ti tp te ts:TypeId}
 (hi:L.drop i=(n,.iface ("*" ++nm) (.ptr (.agg [.lit (.string text)])))::L.drop (i+1))
 (hg:P.globalNamed n=some g) (ht:(P.globals[g]?).map (·.type)=some ti) (hu:(match P.underlying ti with|some (.interface _)=>true|_=>false)=true)
 (hrows:((List.range P.types.size).all fun u=>P.typeName? 3 u !=some ("*" ++nm)||u==tp)=true)
 (hnamed:((List.range P.types.size).all fun e=>P.typeName? 2 e !=some nm||(match(P.info? e).map (·.desc)with|some (TypeDesc.named _ _)=>true|_=>false))=true)
 (hstar:nm.toList.head? ≠some (Char.ofNat 42))
 (hp:P.underlying tp=some (.pointer te)) (he:(match P.underlying te with|some (.struct ⟨[f]⟩)=>f.type==ts&&f.offset==0|_=>false)=true) (hs:P.underlying ts=some .string) (hc:P.cellsOf te=1) (hcs:P.cellsOf ts=1):
 ∃tp p,W.var? P n=some #[.iface tp p]:=by
 have:=laidMet_drop i L h
 rw[hi]at this
 split at hu
 ·rename_i ms hms
  split at he
  ·rename_i f hf
   simp only[Bool.and_eq_true,beq_iff_eq]at he
   obtain⟨a,_,hv,_⟩:=laid_sentinel this hg ht hms (fun u hu=>typeName_ptr_named hrows hnamed hstar u hu) hp hf he.1 he.2 hs hc hcs
   exact⟨_,_,hv⟩
  ·cases he
 ·cases hu
theorem atoi_bad{l:List UInt8}(h1:∀v,Lib.atoiAll l≠ .ok v)(h2:Lib.atoiAll l≠ .range):Lib.atoiAll l=Lib.atoiAll []:=by
 cases h:Lib.atoiAll l with
 |ok v=>exact absurd h (h1 v)
 |range=>exact absurd h h2
 |_=>rfl
def atoiO(s:List UInt8):Option (Int×Bool):=
 bif decide (s.length≤281474976710656)then
  (match Lib.atoiAll s with
  | .ok v=>some (v,false)
  | .range=>some (Lib.atoiSat s,true)
  |_=>some (0,true))else none
theorem does_atoi{g t1 t2:Nat}(he:Enters P g)
 (hok:∀(s:ByteArray) (v:Int) (w:World),X.C.gi w→s.size≤9223372036854775806→Lib.atoiAll s.data.toList= .ok v→Calls P g #[.string s] w fun e w'=>e= .returned (.tuple #[.int .i64 v,.nilIface])∧(w'=w∨∃t,w'=Lib.bytesWorld w t1 t))
 (hrg:∀(s:ByteArray) (w:World),X.C.gi w→s.size≤281474976710656→Lib.atoiAll s.data.toList= .range→Calls P g #[.string s] w fun e w'=>∃p,e= .returned (.tuple #[.int .i64 (Lib.atoiSat s.data.toList),.iface t2 p])∧Below w.heap.size w w')
 (hno:∀(s:ByteArray) (w:World),X.C.gi w→s.size≤281474976710656→(∀v,Lib.atoiAll s.data.toList≠ .ok v)→Lib.atoiAll s.data.toList≠ .range→Calls P g #[.string s] w fun e w'=>∃p,e= .returned (.tuple #[.int .i64 0,.iface t2 p])∧Below w.heap.size w w'):
 Does P X g [.c .ks] (fun x=>atoiO x.1) (fun r=> .tup [.c (.int .i64 r.1),.c (.err r.2)]):=by
 refine does_lib he fun x r hx w vs hg hl ha=> ?_
 obtain⟨v0,rfl⟩:=one_arg hl rfl
 obtain⟨s,rfl,hs⟩:=reads_str (ha 0 v0 (.str x.1) rfl rfl)
 have pair:∀(w':World) (n:Int) (v:Value) (b:Bool),Owns w' (fun _=>False) v (.err b)→Owns w' (fun _=>False) (.tuple #[.int .i64 n,v]) (X.eR (.tup [.c (.int .i64 n),.c (.err b)])):=fun w' n v b hv=>
  owns_tup (vs:=[.int .i64 n,v]) rfl fun i u t h3 h4=>by
   match i,h3,h4 with
   |0,h3,h4=>cases h3;cases h4;exact .int _ _ _
   |1,h3,h4=>cases h3;cases h4;exact hv
 have hx:atoiO x.1=some r:=hx
 unfold atoiO at hx
 cases hd:decide (x.1.length≤281474976710656)with
 |false=>rw[hd]at hx;cases hx
 |true=>
  rw[hd]at hx
  have hsz:s.size≤281474976710656:=by
   have:s.size=x.1.length:=by rw[←hs];rfl
   rw[this];exact of_decide_eq_true hd
  rw[cond_true]at hx
  split at hx
  ·rename_i v hv
   cases hx
   refine(hok s v w hg (by omega) (by rw[hs];exact hv)).mono fun e w' ⟨h1,h2⟩=>⟨_,h1, ?_,pair _ _ _ _ (.errN _)⟩
   rcases h2 with rfl|⟨t,rfl⟩
   ·exact Below.refl _ _
   ·exact below_bytesW w t1 t
  ·rename_i hv
   cases hx
   refine(hrg s w hg hsz (by rw[hs];exact hv)).mono fun e w' ⟨p,h1,h2⟩=>⟨_,h1,h2, ?_⟩
   rw[hs]
   exact pair _ _ _ _ (.errS _ _ _)
  ·rename_i h1 h2
   cases hx
   exact(hno s w hg hsz (by rw[hs];exact fun v h=>h1 v h) (by rw[hs];exact h2)).mono fun e w' ⟨p,h1,h2⟩=>⟨_,h1,h2,pair _ _ _ _ (.errS _ _ _)⟩
end
end Go.Pv
