/- Plain lemmas and definitions. Nothing is claimed here. -/
import Derived.Test.YtabadclgcgdccaaGreatDoorPv31
import Derived.Deep.Draws
import Derived.Lib.IndexMore
import Derived.Sort.Grow
import Derived.Lib.ItoaNum
import Derived.Lib.SlTrimSet
import Derived.Lib.Join
import Derived.Lib.Split
set_option linter.unusedSimpArgs false
set_option linter.unusedVariables false
namespace Go.Pv
open Go Go.RowKit
section
variable {D:Nat→Type} {P:Program} {X:CT D}
theorem below_grow(w:World)(n:Nat)(os:Array Obj):Below w.heap.size w (Sort.grow (w.drewN n) os):=
 ⟨rfl,rfl,rfl,by simp[Sort.grow,World.drewN],fun k hk=>by
  show(w.heap++os)[k]? =w.heap[k]?
  rw[Array.getElem?_append_left hk]⟩
theorem below_drew(w:World)(n B:Nat):Below B w (w.drewN n):=⟨rfl,rfl,rfl,Nat.le_refl _,fun _ _=>rfl⟩
theorem does_lib{α:Type}{g:Nat}{l:List Ar}{f:TupA D l→Option α}{vr:α→VR D}(he:Enters P g)
 (h:∀x r,f x=some r→∀(w:World) (vs:List Value),X.C.gi w→vs.length=(tsOf X l x).length→(∀(i:Nat) v t,vs[i]? =some v→(tsOf X l x)[i]? =some t→Reads w (fun b=>b<w.heap.size) v t)→
  Calls P g ⟨vs⟩ w fun e w'=>∃v,e= .returned v∧Below w.heap.size w w'∧Owns w' (fun _=>False) v (X.eR (vr r))):Does P X g l f vr:=by
 intro x r hx
 refine⟨he,fun w vs hgi hl ha=> ?_⟩
 have hg:X.C.gi w:=hgi w ⟨rfl,rfl,rfl,Nat.le_refl _,fun _ _ _=>rfl⟩
 exact(h x r hx w vs hg hl ha).mono fun e w' ⟨v,h1,h2,h3⟩=>⟨v,_,h1,h3,fun b hb=>hb.elim,h2⟩
theorem reads_str{w:World}{Fr:Nat→Prop}{v:Value}{s:List UInt8}(h:Reads w Fr v (.str s)):∃b:ByteArray,v= .string b∧b.data.toList=s:=by
 cases h
 exact⟨_,rfl,rfl⟩
theorem reads_int{w:World}{Fr:Nat→Prop}{v:Value}{k:IntKind}{n:Int}(h:Reads w Fr v (.int k n)):v= .int k n:=by
 cases h;rfl
theorem owns_str(w:World)(F:Nat→Prop)(l:List UInt8):Owns w F (.string ⟨l.toArray⟩) (.str l):=by
 have:=Owns.str (w:=w) F (⟨l.toArray⟩:ByteArray)
 simpa using this
theorem owns_tup{w:World}:∀{vs:List Value} {ts:List T},vs.length=ts.length→(∀(i:Nat) v t,vs[i]? =some v→ts[i]? =some t→Owns w (fun _=>False) v t)→Owns w (fun _=>False) (.tuple ⟨vs⟩) (.tup ts):=
 fun hl h=> .tup _ _ _ (fun _ _=>False) hl (fun _ _ hf=>hf) (fun _ _ _ hf=>hf.elim) h
theorem two_args{vs:List Value}{n:Nat}(h:vs.length=n)(hn:n=2):∃a b,vs=[a,b]:=by
 subst hn
 match vs,h with
 |[a,b],_=>exact⟨a,b,rfl⟩
theorem one_arg{vs:List Value}{n:Nat}(h:vs.length=n)(hn:n=1):∃a,vs=[a]:=by
 subst hn
 match vs,h with
 |[a],_=>exact⟨a,rfl⟩
theorem maxlen_of{g:Nat}{W w':World}(h:∃m,W.cell? ⟨g,0,none⟩=some (.int .i64 m))(b:BelowW (fun _=>False) W.heap.size W w'):∃m,w'.cell? ⟨g,0,none⟩=some (.int .i64 m):=by
 obtain⟨m,hm⟩:=h
 have hlt:g<W.heap.size:=by
  simp only[World.cell?]at hm
  rcases Nat.lt_or_ge g W.heap.size with h|h
  ·exact h
  ·rw[Array.getElem?_eq_none h]at hm;simp at hm
 exact⟨m,(cell_of_block (b.block g hlt (fun h=>h)) 0).trans hm⟩
def cutO(a b:List UInt8):Option (List UInt8×List UInt8×Bool):=bif decide (a.length<4294967281)then some (Lib.cut a b)else none
theorem does_cut{g:Nat}(he:Enters P g)(hc:∀(s sep:ByteArray) (w:World),X.C.gi w→s.size<4294967281→Calls P g #[.string s,.string sep] w fun e w'=>
 e= .returned (.tuple #[.string ⟨(Lib.cut s.data.toList sep.data.toList).1.toArray⟩,.string ⟨(Lib.cut s.data.toList sep.data.toList).2.1.toArray⟩,.bool (Lib.cut s.data.toList sep.data.toList).2.2])∧∃n,w'=w.drewN n):
 Does P X g [.c .ks,.c .ks] (fun x=>cutO x.1 x.2.1) (fun r=> .tup [.c (.str r.1),.c (.str r.2.1),.c (.bool r.2.2)]):=by
 refine does_lib he fun x r hx w vs hg hl ha=> ?_
 obtain⟨v0,v1,rfl⟩:=two_args hl rfl
 obtain⟨s,rfl,hs⟩:=reads_str (ha 0 v0 (.str x.1) rfl rfl)
 obtain⟨sep,rfl,hp⟩:=reads_str (ha 1 v1 (.str x.2.1) rfl rfl)
 unfold cutO at hx
 cases hd:decide (x.1.length<4294967281)with
 |false=>rw[hd]at hx;cases hx
 |true=>
  rw[hd]at hx
  cases hx
  have hsz:s.size<4294967281:=by
   have:s.size=x.1.length:=by rw[←hs];rfl
   rw[this];exact of_decide_eq_true hd
  refine(hc s sep w hg hsz).mono fun e w' ⟨h1,⟨n,h2⟩⟩=>⟨_,h1,h2▸below_drew w n _, ?_⟩
  rw[hs,hp]
  refine owns_tup rfl fun i v t h3 h4=> ?_
  match i,h3,h4 with
  |0,h3,h4=>cases h3;cases h4;exact owns_str _ _ _
  |1,h3,h4=>cases h3;cases h4;exact owns_str _ _ _
  |2,h3,h4=>cases h3;cases h4;exact .bool _ _
def itoaO(n:Int):Option (List UInt8):=bif decide (-9223372036854775808≤n)&&decide (n≤9223372036854775807)then some (Lib.itoa n)else none
theorem does_itoa{g:Nat}(he:Enters P g)(hc:∀(n:Int) (w:World),X.C.gi w→-9223372036854775808≤n→n≤9223372036854775807→Calls P g #[.int .i64 n] w fun e w'=>
 e= .returned (.string ⟨(Lib.itoa n).toArray⟩)∧∃k os,w'=Sort.grow (w.drewN k) os):Does P X g [.c (.ki .i64)] (fun x=>itoaO x.1) (fun r=> .p (.c (.str r))):=by
 refine does_lib he fun x r hx w vs hg hl ha=> ?_
 obtain⟨v0,rfl⟩:=one_arg hl rfl
 have hn:=reads_int (ha 0 v0 (.int .i64 x.1) rfl rfl)
 subst hn
 unfold itoaO at hx
 cases hd:(decide (-9223372036854775808≤x.1)&&decide (x.1≤9223372036854775807))with
 |false=>rw[hd]at hx;cases hx
 |true=>
  rw[hd]at hx
  cases hx
  simp only[Bool.and_eq_true]at hd
  exact(hc x.1 w hg (of_decide_eq_true hd.1) (of_decide_eq_true hd.2)).mono fun e w' ⟨h1,⟨k,os,h2⟩⟩=>⟨_,h1,h2▸below_grow w k os,owns_str _ _ _⟩
def trimO(s cs:List UInt8):Option (List UInt8):=bif decide (s.length≤9223372036854775807)&&decide (cs.length<4294967281)&&cs.all (fun b=>decide (b.toNat<128))then some (Lib.trimS s cs)else none
theorem does_trim{g:Nat}(he:Enters P g)(hc:∀(s cs:ByteArray) (w:World),X.C.gi w→s.size≤9223372036854775807→cs.size<4294967281→(∀(j:Nat) b,cs.data.toList[j]? =some b→b.toNat<128)→Calls P g #[.string s,.string cs] w fun e w'=>
 e= .returned (.string ⟨(Lib.trimS s.data.toList cs.data.toList).toArray⟩)∧Below w.heap.size w w'):Does P X g [.c .ks,.c .ks] (fun x=>trimO x.1 x.2.1) (fun r=> .p (.c (.str r))):=by
 refine does_lib he fun x r hx w vs hg hl ha=> ?_
 obtain⟨v0,v1,rfl⟩:=two_args hl rfl
 obtain⟨s,rfl,hs⟩:=reads_str (ha 0 v0 (.str x.1) rfl rfl)
 obtain⟨cs,rfl,hp⟩:=reads_str (ha 1 v1 (.str x.2.1) rfl rfl)
 unfold trimO at hx
 cases hd:(decide (x.1.length≤9223372036854775807)&&decide (x.2.1.length<4294967281)&&x.2.1.all (fun b=>decide (b.toNat<128)))with
 |false=>rw[hd]at hx;cases hx
 |true=>
  rw[hd]at hx
  cases hx
  simp only[Bool.and_eq_true]at hd
  obtain⟨⟨d1,d2⟩,d3⟩:=hd
  refine(hc s cs w hg ?_ ?_ ?_).mono fun e w' ⟨h1,h2⟩=>⟨_,h1,h2, ?_⟩
  ·have:s.size=x.1.length:=by rw[←hs];rfl
   rw[this];exact of_decide_eq_true d1
  ·have:cs.size=x.2.1.length:=by rw[←hp];rfl
   rw[this];exact of_decide_eq_true d2
  ·intro j b hb
   rw[hp]at hb
   exact of_decide_eq_true (List.all_eq_true.1 d3 b (List.mem_of_getElem? hb))
  ·rw[hs,hp];exact owns_str _ _ _
def joinO(l:List (List UInt8))(sep:List UInt8):Option (List UInt8):=bif decide (l.length≤140737488355328)&&decide ((Lib.join l sep).length≤140737488355328)then some (Lib.join l sep)else none
theorem does_join{g el:Nat}(he:Enters P g)(toS:D el→List UInt8)(f:List (D el)→List UInt8→Option (List UInt8))(hR:∀x,X.R el x=[.str (toS x)])(hz:(X.C.i el).size=1)(hf:∀l s,f l s=joinO (l.map toS) s)
 (h0:∀(a:Option Addr) (c:Nat) (sep:ByteArray) (w:World),Calls P g #[.slice a 0 c,.string sep] w fun e w'=>e= .returned (.string ⟨#[]⟩)∧w'=w)
 (hc:∀(bk o c:Nat) (xs:List ByteArray) (sep:ByteArray) (w:World),X.C.gi w→(∀(j:Nat) x,xs[j]? =some x→w.cell? ⟨bk,o+j,none⟩=some (.string x))→bk<w.heap.size→xs.length≤140737488355328→xs.length≤c→
  (Lib.join (xs.map (·.data.toList)) sep.data.toList).length≤140737488355328→Calls P g #[.slice (some ⟨bk,o,none⟩) xs.length c,.string sep] w fun e w'=>e= .returned (.string ⟨(Lib.join (xs.map (·.data.toList)) sep.data.toList).toArray⟩)∧Below w.heap.size w w'):
 Does P X g [.c (.kl el),.c .ks] (fun x=>f x.1 x.2.1) (fun r=> .p (.c (.str r))):=by
 refine does_lib he fun x r hx w vs hg hl ha=> ?_
 obtain⟨v0,v1,rfl⟩:=two_args hl rfl
 obtain⟨sep,rfl,hp⟩:=reads_str (ha 1 v1 (.str x.2.1) rfl rfl)
 have hx:f x.1 x.2.1=some r:=hx
 rw[hf]at hx
 have hv:Reads w (fun b=>b<w.heap.size) v0 (.sl (X.C.i el).size (x.1.map (X.R el))):=ha 0 v0 _ rfl rfl
 unfold joinO at hx
 cases hd:(decide ((x.1.map toS).length≤140737488355328)&&decide ((Lib.join (x.1.map toS) x.2.1).length≤140737488355328))with
 |false=>rw[hd]at hx;cases hx
 |true=>
  rw[hd]at hx
  cases hx
  simp only[Bool.and_eq_true]at hd
  have d1:=of_decide_eq_true hd.1
  have d2:=of_decide_eq_true hd.2
  rw[hz]at hv
  generalize hrows:x.1.map (X.R el)=rows at hv
  have hrl:rows.length=x.1.length:=by rw[←hrows];simp
  cases hv with
  |sl0 a c sz=>
   have hnil:x.1=[]:=by cases hx1:x.1 with
    |nil=>rfl
    |cons a l=>rw[hx1]at hrl;simp at hrl
   refine(h0 a c sep w).mono fun e w' ⟨h1,h2⟩=>⟨_,h1,h2▸Below.refl _ _, ?_⟩
   rw[hnil]
   exact owns_str _ _ _
  |sl b o n c sz rs f' hn hcap hb hr hw hh=>
   have key:∀(j:Nat),j<x.1.length→∃y:ByteArray,w.cell? ⟨b,o+j,none⟩=some (.string y)∧(x.1.map toS)[j]? =some y.data.toList:=fun j hj=>by
    have hrow:rows[j]? =some [T.str (toS x.1[j])]:=by rw[←hrows,List.getElem?_map,List.getElem?_eq_getElem hj,Option.map_some,hR]
    have h1:=hw j _ 0 _ hrow rfl
    obtain⟨y,hy,hy2⟩:=reads_str (hh j _ 0 _ hrow rfl)
    refine⟨y, ?_, ?_⟩
    ·rw[hy]at h1;simpa using h1
    ·rw[List.getElem?_map,List.getElem?_eq_getElem hj,Option.map_some,hy2]
   obtain⟨xs,hxl,hxs⟩:∃xs:List ByteArray,xs.length=x.1.length∧∀(j:Nat) y,xs[j]? =some y→w.cell? ⟨b,o+j,none⟩=some (.string y)∧(x.1.map toS)[j]? =some y.data.toList:=by
    obtain⟨l,h1,h2⟩:=choose_list (Q:=fun j (y:ByteArray)=>w.cell? ⟨b,o+j,none⟩=some (.string y)∧(x.1.map toS)[j]? =some y.data.toList) x.1.length key
    exact⟨l,h1,h2⟩
   have hmap:xs.map (·.data.toList)=x.1.map toS:=by
    apply List.ext_getElem?
    intro j
    by_cases hj:j<xs.length
    ·rw[List.getElem?_map,List.getElem?_eq_getElem hj,Option.map_some,(hxs j _ (List.getElem?_eq_getElem hj)).2]
    ·rw[List.getElem?_eq_none (by simp;omega),List.getElem?_eq_none (by simp;omega)]
   have hn':n=xs.length:=by rw[hxl,←hrl,hn]
   subst hn'
   refine(hc b o c xs sep w hg (fun j y hy=>(hxs j y hy).1) hb (by rw[hxl];simpa using d1) hcap (by rw[hmap,hp];exact d2)).mono fun e w' ⟨h1,h2⟩=>⟨_,h1,h2, ?_⟩
   rw[hmap,hp]
   exact owns_str _ _ _
end
end Go.Pv
