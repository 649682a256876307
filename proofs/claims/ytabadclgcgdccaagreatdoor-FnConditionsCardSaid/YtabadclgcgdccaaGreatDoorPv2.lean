/- Plain lemmas and definitions. Nothing is claimed here. -/
import Derived.Test.YtabadclgcgdccaaGreatDoorPv1
import Derived.Laws.AppendOwn
import Derived.WalkKit
namespace Go.Pv
open Go Go.RowKit
inductive Reads(w:World)(Fr:Nat→Prop):Value→T→Prop
 |int (k:IntKind) (n:Int):Reads w Fr (.int k n) (.int k n)
 |bool (b:Bool):Reads w Fr (.bool b) (.bool b)
 |str (s:ByteArray):Reads w Fr (.string s) (.str s.data.toList)
 |errN:Reads w Fr .nilIface (.err false)
 |errS (t:TypeId) (v:Value):Reads w Fr (.iface t v) (.err true)
 |agg (cs:List Value) (ts:List T) (hl:cs.length=ts.length)
  (h:∀(i:Nat) v t,cs[i]? =some v→ts[i]? =some t→Reads w Fr v t):Reads w Fr (.agg ⟨cs⟩) (.agg ts)
 |tup (cs:List Value) (ts:List T) (hl:cs.length=ts.length)
  (h:∀(i:Nat) v t,cs[i]? =some v→ts[i]? =some t→Reads w Fr v t):Reads w Fr (.tuple ⟨cs⟩) (.tup ts)
 |sl0 (a:Option Addr) (c sz:Nat):Reads w Fr (.slice a 0 c) (.sl sz [])
 |sl (b o n c sz:Nat) (rows:List (List T)) (f:Nat→Nat→Value) (hn:rows.length=n) (hc:n≤c) (hb:Fr b)
  (hr:∀(i:Nat) row,rows[i]? =some row→row.length=sz)
  (hw:∀(i:Nat) row (j:Nat) t,rows[i]? =some row→row[j]? =some t→w.cell? ⟨b,o+(i*sz+j),none⟩=some (f i j))
  (h:∀(i:Nat) row (j:Nat) t,rows[i]? =some row→row[j]? =some t→Reads w Fr (f i j) t):Reads w Fr (.slice (some ⟨b,o,none⟩) n c) (.sl sz rows)
 |box (b o:Nat) (ts:List T) (f:Nat→Value) (hb:Fr b) (hw:∀(j:Nat) t,ts[j]? =some t→w.cell? ⟨b,o+j,none⟩=some (f j))
  (h:∀(j:Nat) t,ts[j]? =some t→Reads w Fr (f j) t):Reads w Fr (.pointer (some ⟨b,o,none⟩)) (.box ts)
 |clo (g:FuncId) (cs:List Value) (ts:List T) (hl:cs.length=ts.length)
  (h:∀(i:Nat) v t,cs[i]? =some v→ts[i]? =some t→Reads w Fr v t):Reads w Fr (.func (.func g) #[] ⟨cs⟩) (.clo g ts)
theorem cell_of_block{w w':World}{b:Nat}(h:w'.heap[b]? =w.heap[b]?)(o:Nat):w'.cell? ⟨b,o,none⟩=w.cell? ⟨b,o,none⟩:=
 World.cell?_of_block (w:=w) (a:=⟨b,o,none⟩) h
theorem Reads.mono{w w':World}{Fr Fr':Nat→Prop}{v:Value}{t:T}(h:Reads w Fr v t)(hF:∀b,Fr b→Fr' b)
 (hw:∀b,Fr b→w'.heap[b]? =w.heap[b]?):Reads w' Fr' v t:=by
 induction h with
 |int k n=>exact .int k n
 |bool b=>exact .bool b
 |str s=>exact .str s
 |errN=>exact .errN
 |errS t v=>exact .errS t v
 |agg cs ts hl _ ih=>exact .agg cs ts hl ih
 |tup cs ts hl _ ih=>exact .tup cs ts hl ih
 |sl0 a c sz=>exact .sl0 a c sz
 |sl b o n c sz rows f hn hc hb hr hcell _ ih=>
  exact .sl b o n c sz rows f hn hc (hF b hb) hr (fun i row j t h1 h2=>by rw[cell_of_block (hw b hb)];exact hcell i row j t h1 h2) ih
 |box b o ts f hb hcell _ ih=>exact .box b o ts f (hF b hb) (fun j t h1=>by rw[cell_of_block (hw b hb)];exact hcell j t h1) ih
 |clo g cs ts hl _ ih=>exact .clo g cs ts hl ih
inductive Owns(w:World):(Nat→Prop)→Value→T→Prop
 |int (F:Nat→Prop) (k:IntKind) (n:Int):Owns w F (.int k n) (.int k n)
 |bool (F:Nat→Prop) (b:Bool):Owns w F (.bool b) (.bool b)
 |str (F:Nat→Prop) (s:ByteArray):Owns w F (.string s) (.str s.data.toList)
 |errN (F:Nat→Prop):Owns w F .nilIface (.err false)
 |errS (F:Nat→Prop) (t:TypeId) (v:Value):Owns w F (.iface t v) (.err true)
 |agg (F:Nat→Prop) (cs:List Value) (ts:List T) (G:Nat→Nat→Prop) (hl:cs.length=ts.length) (hG:∀i b,G i b→F b)
  (hD:∀i j b,G i b→G j b→i=j) (h:∀(i:Nat) v t,cs[i]? =some v→ts[i]? =some t→Owns w (G i) v t):Owns w F (.agg ⟨cs⟩) (.agg ts)
 |tup (F:Nat→Prop) (cs:List Value) (ts:List T) (G:Nat→Nat→Prop) (hl:cs.length=ts.length) (hG:∀i b,G i b→F b)
  (hD:∀i j b,G i b→G j b→i=j) (h:∀(i:Nat) v t,cs[i]? =some v→ts[i]? =some t→Owns w (G i) v t):Owns w F (.tuple ⟨cs⟩) (.tup ts)
 |sl0 (F:Nat→Prop) (a:Option Addr) (sz:Nat):Owns w F (.slice a 0 0) (.sl sz [])
 |sl (F:Nat→Prop) (b bo n c sz:Nat) (rows:List (List T)) (cells:List Value) (el lo hi:Nat) (f:Nat→Nat→Value) (G:Nat→Nat→Nat→Prop)
  (hn:rows.length=n) (hc:n≤c) (hb:w.heap[b]? =some (.cells ⟨cells⟩ el (lo,hi))) (hs:bo+c*sz≤cells.length) (hz:bo+c*sz≤lo∨hi≤lo) (hF:F b)
  (hr:∀(i:Nat) row,rows[i]? =some row→row.length=sz)
  (hcell:∀(i:Nat) row (j:Nat) t,rows[i]? =some row→row[j]? =some t→cells[bo+(i*sz+j)]? =some (f i j))
  (hone:∀(i:Nat) row (j:Nat) t,rows[i]? =some row→row[j]? =some t→(f i j).oneCell'=true)
  (hG:∀i j x,G i j x→F x∧x≠b) (hD:∀i j i' j' x,G i j x→G i' j' x→i=i'∧j=j')
  (h:∀(i:Nat) row (j:Nat) t,rows[i]? =some row→row[j]? =some t→Owns w (G i j) (f i j) t):Owns w F (.slice (some ⟨b,bo,none⟩) n c) (.sl sz rows)
theorem Owns.mk0{w:World}(F:Nat→Prop)(b n c sz:Nat)(rows:List (List T))(cells:List Value)(el lo hi:Nat)(f:Nat→Nat→Value)(G:Nat→Nat→Nat→Prop)
 (hn:rows.length=n) (hc:n≤c) (hb:w.heap[b]? =some (.cells ⟨cells⟩ el (lo,hi))) (hs:c*sz≤cells.length) (hz:c*sz≤lo∨hi≤lo) (hF:F b)
 (hr:∀(i:Nat) row,rows[i]? =some row→row.length=sz)
 (hcell:∀(i:Nat) row (j:Nat) t,rows[i]? =some row→row[j]? =some t→cells[i*sz+j]? =some (f i j))
 (hone:∀(i:Nat) row (j:Nat) t,rows[i]? =some row→row[j]? =some t→(f i j).oneCell'=true)
 (hG:∀i j x,G i j x→F x∧x≠b) (hD:∀i j i' j' x,G i j x→G i' j' x→i=i'∧j=j')
 (h:∀(i:Nat) row (j:Nat) t,rows[i]? =some row→row[j]? =some t→Owns w (G i j) (f i j) t):Owns w F (.slice (some ⟨b,0,none⟩) n c) (.sl sz rows):=
 .sl F b 0 n c sz rows cells el lo hi f G hn hc hb (by rw[Nat.zero_add];exact hs) (by rw[Nat.zero_add];exact hz) hF hr (fun i row j t h1 h2=>by rw[Nat.zero_add];exact hcell i row j t h1 h2) hone hG hD h
theorem Owns.mono{w w':World}{F:Nat→Prop}{v:Value}{t:T}(h:Owns w F v t):
 ∀{F':Nat→Prop},(∀b,F b→F' b)→(∀b,F b→w'.heap[b]? =w.heap[b]?)→Owns w' F' v t:=by
 induction h with
 |int F k n=>exact fun _ _=> .int _ k n
 |bool F b=>exact fun _ _=> .bool _ b
 |str F s=>exact fun _ _=> .str _ s
 |errN F=>exact fun _ _=> .errN _
 |errS F t v=>exact fun _ _=> .errS _ t v
 |agg F cs ts G hl hG hD _ ih=>exact fun hF hw=> .agg _ cs ts G hl (fun i b hb=>hF b (hG i b hb)) hD (fun i v t h1 h2=>ih i v t h1 h2 (fun _ h=>h) (fun b hb=>hw b (hG i b hb)))
 |tup F cs ts G hl hG hD _ ih=>exact fun hF hw=> .tup _ cs ts G hl (fun i b hb=>hF b (hG i b hb)) hD (fun i v t h1 h2=>ih i v t h1 h2 (fun _ h=>h) (fun b hb=>hw b (hG i b hb)))
 |sl0 F a sz=>exact fun _ _=> .sl0 _ a sz
 |sl F b bo n c sz rows cells el lo hi f G hn hc hb hs hz hFb hr hcell hone hG hD _ ih=>
  exact fun hF hw=> .sl _ b bo n c sz rows cells el lo hi f G hn hc (by rw[hw b hFb];exact hb) hs hz (hF b hFb) hr hcell hone (fun i j x hx=>⟨hF x (hG i j x hx).1,(hG i j x hx).2⟩) hD
   (fun i row j t h1 h2=>ih i row j t h1 h2 (fun _ h=>h) (fun x hx=>hw x (hG i j x hx).1))
theorem Owns.reads{w:World}{F:Nat→Prop}{v:Value}{t:T}(h:Owns w F v t):Reads w F v t:=by
 induction h with
 |int F k n=>exact .int k n
 |bool F b=>exact .bool b
 |str F s=>exact .str s
 |errN F=>exact .errN
 |errS F t v=>exact .errS t v
 |agg F cs ts G hl hG hD _ ih=>exact .agg cs ts hl (fun i v t h1 h2=>(ih i v t h1 h2).mono (hG i) (fun _ _=>rfl))
 |tup F cs ts G hl hG hD _ ih=>exact .tup cs ts hl (fun i v t h1 h2=>(ih i v t h1 h2).mono (hG i) (fun _ _=>rfl))
 |sl0 F a sz=>exact .sl0 a 0 sz
 |sl F b bo n c sz rows cells el lo hi f G hn hc hb hs hz hFb hr hcell hone hG hD _ ih=>
  refine .sl b bo n c sz rows f hn hc hFb hr (fun i row j t h1 h2=> ?_) (fun i row j t h1 h2=>(ih i row j t h1 h2).mono (fun x hx=>(hG i j x hx).1) (fun _ _=>rfl))
  have:=hcell i row j t h1 h2
  simp only[World.cell?,hb]
  simpa using this
theorem Reads.owns_scalar{w:World}{Fr:Nat→Prop}{v:Value}{t:T}(h:Reads w Fr v t)(hs:t.scalar=true)(w':World)(F:Nat→Prop):Owns w' F v t:=by
 cases h with
 |int k n=>exact .int _ k n
 |bool b=>exact .bool _ b
 |str s=>exact .str _ s
 |errN=>exact .errN _
 |errS t v=>exact .errS _ t v
 |_=>simp[T.scalar]at hs
theorem Reads.oneCell{w:World}{Fr:Nat→Prop}{v:Value}{t:T}(h:Reads w Fr v t)(hs:t.scalar=true):v.oneCell'=true:=by
 cases h<;>simp_all [T.scalar,Value.oneCell']
theorem Owns.slice{w:World}{F:Nat→Prop}{v:Value}{sz:Nat}{rows:List (List T)}(h:Owns w F v (.sl sz rows)):∃a n c,v= .slice a n c∧rows.length=n:=by
 cases h
 ·exact⟨_,0,0,rfl,rfl⟩
 ·exact⟨_,_,_,rfl,by assumption⟩
def IsFull(v:Value):Prop:=∃a n,v= .slice a n n
inductive VRel(w:World)(Fr:Nat→Prop)(m:Nat→Option MO)(bv:Nat→Nat)(hd:Nat→Value):SV→Value→Prop
 |t (x:T) (v:Value) (h:Reads w Fr v x):VRel w Fr m bv hd (.t x) v
 |nil (a:Option Addr):VRel w Fr m bv hd .nil (.slice a 0 0)
 |gone (v:Value):VRel w Fr m bv hd .gone v
 |ref (id ver:Nat) (v:Value) (sh:∃a n c,v= .slice a n c) (h:∀sz rows,asRow (m id)=some (.row ver sz rows)→v=hd id):VRel w Fr m bv hd (.ref id ver) v
 |ptr (id off:Nat) (v:Value) (sh:∃p,v= .pointer p) (h:∀l,m id=some (.var l)→v= .pointer (some ⟨bv id,off,none⟩)):VRel w Fr m bv hd (.ptr id off) v
 |rptr (b o:Nat) (ts:List T) (f:Nat→Value) (hb:Fr b) (hw:∀(j:Nat) t,ts[j]? =some t→w.cell? ⟨b,o+j,none⟩=some (f j))
  (h:∀(j:Nat) t,ts[j]? =some t→Reads w Fr (f j) t):VRel w Fr m bv hd (.rptr ts) (.pointer (some ⟨b,o,none⟩))
 |eptr (id ver:Nat) (i:Int) (off:Nat) (v:Value) (sh:∃p,v= .pointer p)
  (h:∀sz rows,asRow (m id)=some (.row ver sz rows)→0≤i∧∃b bo n c,hd id= .slice (some ⟨b,bo,none⟩) n c∧v= .pointer (some ⟨b,bo+(i.toNat*sz+off),none⟩)):VRel w Fr m bv hd (.eptr id ver i off) v
 |vw (id ver:Nat) (lo:Int) (v:Value) (sh:∃a n c,v= .slice a n c)
  (h:∀sz rows,asRow (m id)=some (.row ver sz rows)→0≤lo∧∃a n c M,hd id= .slice a n c∧lo.toNat≤n∧n≤M∧M≤c∧v= .slice (if M=lo.toNat then a else a.map (·.add (lo.toNat*sz))) (n -lo.toNat) (M -lo.toNat)):VRel w Fr m bv hd (.vw id ver lo) v
 |fs (sz:Nat) (rows:List (List T)) (v:Value) (h:Reads w Fr v (.sl sz rows)) (hf:IsFull v):VRel w Fr m bv hd (.fs sz rows) v
 |agg (l:List SV) (cs:List Value) (hl:cs.length=l.length)
  (h:∀(i:Nat) v s,cs[i]? =some v→l[i]? =some s→VRel w Fr m bv hd s v):VRel w Fr m bv hd (.agg l) (.agg ⟨cs⟩)
 |tup (l:List SV) (cs:List Value) (hl:cs.length=l.length)
  (h:∀(i:Nat) v s,cs[i]? =some v→l[i]? =some s→VRel w Fr m bv hd s v):VRel w Fr m bv hd (.tup l) (.tuple ⟨cs⟩)
 |clo (g:FuncId) (l:List SV) (cs:List Value) (hl:cs.length=l.length)
  (h:∀(i:Nat) v s,cs[i]? =some v→l[i]? =some s→VRel w Fr m bv hd s v):VRel w Fr m bv hd (.clo g l) (.func (.func g) #[] ⟨cs⟩)
structure Keeps(w w':World)(Fr Fr':Nat→Prop)(m m':Nat→Option MO)(bv bv':Nat→Nat)(hd hd':Nat→Value)(tok:List (Nat×Nat)):Prop where
 fr:∀b,Fr b→Fr' b
 heap:∀b,Fr b→w'.heap[b]? =w.heap[b]?
 row:∀id ver sz rows,asRow (m' id)=some (.row ver sz rows)→(∃rows0,asRow (m id)=some (.row ver sz rows0)∧hd' id=hd id)∨(id,ver)∈tok
 var:∀id l,m' id=some (.var l)→(∃l0,m id=some (.var l0)∧bv' id=bv id)∨∃ver,(id,ver)∈tok
theorem mentionL_false{f:SV→Bool}{l:List SV}(h:mention.mentionL f l=false):∀s∈l,f s=false:=by
 induction l with
 |nil=>intro s hs;cases hs
 |cons a r ih=>
  simp only[mention.mentionL,Bool.or_eq_false_iff]at h
  intro s hs
  cases hs with
  |head=>exact h.1
  |tail _ h'=>exact ih h.2 s h'
theorem tok_any{tok:List (Nat×Nat)}{id ver:Nat}(h:(tok.any fun p=>Nat.beq p.1 id&&Nat.beq p.2 ver)=false):(id,ver)∉tok:=by
 intro hm
 simp only[List.any_eq_false,Bool.and_eq_true,not_and]at h
 exact h _ hm (Nat.beq_refl _) (Nat.beq_refl _)
theorem tok_any1{tok:List (Nat×Nat)}{id:Nat}(h:(tok.any fun p=>Nat.beq p.1 id)=false):∀ver,(id,ver)∉tok:=by
 intro ver hm
 simp only[List.any_eq_false]at h
 exact h _ hm (Nat.beq_refl _)
theorem VRel.step{w w':World}{Fr Fr':Nat→Prop}{m m':Nat→Option MO}{bv bv':Nat→Nat}{hd hd':Nat→Value}{tok:List (Nat×Nat)}
 (k:Keeps w w' Fr Fr' m m' bv bv' hd hd' tok) {s:SV} {v:Value} (h:VRel w Fr m bv hd s v):
 ∀n,mention tok n s=false→VRel w' Fr' m' bv' hd' s v:=by
 induction h with
 |t x v h=>exact fun _ _=> .t x v (h.mono k.fr k.heap)
 |fs sz rows v h hf=>exact fun _ _=> .fs sz rows v (h.mono k.fr k.heap) hf
 |nil a=>exact fun _ _=> .nil a
 |gone v=>exact fun _ _=> .gone v
 |ref id ver v sh h=>
  intro n hn
  cases n with
  |zero=>simp[mention]at hn
  |succ n=>
   simp only[mention]at hn
   refine .ref id ver v sh fun sz rows hm=> ?_
   rcases k.row id ver sz rows hm with⟨r0,h0,e⟩|ht
   ·rw[e];exact h sz r0 h0
   ·exact absurd ht (tok_any hn)
 |ptr id off v sh h=>
  intro n hn
  cases n with
  |zero=>simp[mention]at hn
  |succ n=>
   simp only[mention]at hn
   refine .ptr id off v sh fun l hm=> ?_
   rcases k.var id l hm with⟨l0,h0,e⟩|⟨ver,ht⟩
   ·rw[e];exact h l0 h0
   ·exact absurd ht (tok_any1 hn ver)
 |rptr b o ts f hb hw h=>exact fun _ _=> .rptr b o ts f (k.fr b hb) (fun j t hj=>by rw[cell_of_block (k.heap b hb)];exact hw j t hj) (fun j t hj=>(h j t hj).mono k.fr k.heap)
 |eptr id ver i off v sh h=>
  intro n hn
  cases n with
  |zero=>simp[mention]at hn
  |succ n=>
   simp only[mention]at hn
   refine .eptr id ver i off v sh fun sz rows hm=> ?_
   rcases k.row id ver sz rows hm with⟨r0,h0,e⟩|ht
   ·rw[e];exact h sz r0 h0
   ·exact absurd ht (tok_any hn)
 |vw id ver lo v sh h=>
  intro n hn
  cases n with
  |zero=>simp[mention]at hn
  |succ n=>
   simp only[mention]at hn
   refine .vw id ver lo v sh fun sz rows hm=> ?_
   rcases k.row id ver sz rows hm with⟨r0,h0,e⟩|ht
   ·rw[e];exact h sz r0 h0
   ·exact absurd ht (tok_any hn)
 |agg l cs hl _ ih=>
  intro n hn
  cases n with
  |zero=>simp[mention]at hn
  |succ n=>exact .agg l cs hl fun i v s h1 h2=>ih i v s h1 h2 n (mentionL_false hn s (List.mem_of_getElem? h2))
 |tup l cs hl _ ih=>
  intro n hn
  cases n with
  |zero=>simp[mention]at hn
  |succ n=>exact .tup l cs hl fun i v s h1 h2=>ih i v s h1 h2 n (mentionL_false hn s (List.mem_of_getElem? h2))
 |clo g l cs hl _ ih=>
  intro n hn
  cases n with
  |zero=>simp[mention]at hn
  |succ n=>exact .clo g l cs hl fun i v s h1 h2=>ih i v s h1 h2 n (mentionL_false hn s (List.mem_of_getElem? h2))
theorem VRel.step0{w w':World}{Fr Fr':Nat→Prop}{m m':Nat→Option MO}{bv bv':Nat→Nat}{hd hd':Nat→Value}
 (k:Keeps w w' Fr Fr' m m' bv bv' hd hd' []) {s:SV} {v:Value} (h:VRel w Fr m bv hd s v):VRel w' Fr' m' bv' hd' s v:=by
 induction h with
 |t x v h=>exact .t x v (h.mono k.fr k.heap)
 |fs sz rows v h hf=>exact .fs sz rows v (h.mono k.fr k.heap) hf
 |nil a=>exact .nil a
 |gone v=>exact .gone v
 |ref id ver v sh h=>
  refine .ref id ver v sh fun sz rows hm=> ?_
  rcases k.row id ver sz rows hm with⟨r0,h0,e⟩|ht
  ·rw[e];exact h sz r0 h0
  ·cases ht
 |ptr id off v sh h=>
  refine .ptr id off v sh fun l hm=> ?_
  rcases k.var id l hm with⟨l0,h0,e⟩|⟨ver,ht⟩
  ·rw[e];exact h l0 h0
  ·cases ht
 |rptr b o ts f hb hw h=>exact .rptr b o ts f (k.fr b hb) (fun j t hj=>by rw[cell_of_block (k.heap b hb)];exact hw j t hj) (fun j t hj=>(h j t hj).mono k.fr k.heap)
 |eptr id ver i off v sh h=>
  refine .eptr id ver i off v sh fun sz rows hm=> ?_
  rcases k.row id ver sz rows hm with⟨r0,h0,e⟩|ht
  ·rw[e];exact h sz r0 h0
  ·cases ht
 |vw id ver lo v sh h=>
  refine .vw id ver lo v sh fun sz rows hm=> ?_
  rcases k.row id ver sz rows hm with⟨r0,h0,e⟩|ht
  ·rw[e];exact h sz r0 h0
  ·cases ht
 |agg l cs hl _ ih=>exact .agg l cs hl ih
 |tup l cs hl _ ih=>exact .tup l cs hl ih
 |clo g l cs hl _ ih=>exact .clo g l cs hl ih
def svsOf:Option MO→List SV
 |some (.var l)=>l
 |some (.rowv _ _ _ _ l)=>l
 |_=>[]
theorem asRow_ne{o:Option MO}{x:MO}(h:asRow o=some x):o≠none:=fun e=>by rw[e]at h;cases h
theorem asRow_row{o:Option MO}{v z:Nat}{r:List (List T)}(h:o=some (.row v z r)):asRow o=some (.row v z r):=by rw[h];rfl
def Cl(tok:List (Nat×Nat))(s:SV):Prop:=tok=[]∨∃n,mention tok n s=false
theorem VRel.stepC{w w':World}{Fr Fr':Nat→Prop}{m m':Nat→Option MO}{bv bv':Nat→Nat}{hd hd':Nat→Value}{tok:List (Nat×Nat)}
 (k:Keeps w w' Fr Fr' m m' bv bv' hd hd' tok) {s:SV} {v:Value} (h:VRel w Fr m bv hd s v) (c:Cl tok s):VRel w' Fr' m' bv' hd' s v:=by
 rcases c with rfl|⟨n,hn⟩
 ·exact h.step0 k
 ·exact h.step k n hn
structure BelowW(W:Nat→Prop)(base:Nat)(w w':World):Prop where
 os:w'.os=w.os
 tape:w'.tape=w.tape
 output:w'.output=w.output
 size:w.heap.size≤w'.heap.size
 block:∀k,k<base→¬W k→w'.heap[k]? =w.heap[k]?
theorem BelowW.grown{W:Nat→Prop}{base:Nat}{w0 w w':World}{row:Option Nat}(h:BelowW W base w0 w)(g:w.grownBy w' row)(hb:base≤w.heap.size)
 (hr:∀k,row=some k→base≤k∨W k):BelowW W base w0 w':=
 ⟨g.os.trans h.os,g.tape.trans h.tape,g.output.trans h.output,Nat.le_trans h.size g.size,fun k hk hW=>(g.block k (by omega) (fun e=>by
  rcases hr k e.symm with h1|h1
  ·omega
  ·exact hW h1)).trans (h.block k hk hW)⟩
theorem BelowW.trans0{W:Nat→Prop}{base:Nat}{w0 w w':World}(h:BelowW W base w0 w)(g:BelowW (fun _=>False) w.heap.size w w')(hb:base≤w.heap.size):BelowW W base w0 w':=
 ⟨g.os.trans h.os,g.tape.trans h.tape,g.output.trans h.output,Nat.le_trans h.size g.size,fun k hk hW=>(g.block k (by omega) id).trans (h.block k hk hW)⟩
def VarOK(w:World)(Fr:Nat→Prop)(m:Nat→Option MO)(bv:Nat→Nat)(hd:Nat→Value)(b:Nat)(l:List SV):Prop:=
 ∃cs el,w.heap[b]? =some (.cells ⟨cs⟩ el (0,0))∧cs.length=l.length∧∀(i:Nat) v s,cs[i]? =some v→l[i]? =some s→VRel w Fr m bv hd s v
structure RowvAt(w:World)(Fr:Nat→Prop)(m:Nat→Option MO)(bv:Nat→Nat)(hd:Nat→Value)(F:Nat→Prop)(v:Value)(sz:Nat)(rows:List (List T))(l:List SV)(b bo n c q:Nat)(cells:List Value)(el lo hi:Nat)(f:Nat→Nat→Value)(G:Nat→Nat→Nat→Prop):Prop where
 hv:v= .slice (some ⟨b,bo,none⟩) n c
 hn:rows.length=n
 hq:q<n
 hc:n≤c
 hb:w.heap[b]? =some (.cells ⟨cells⟩ el (lo,hi))
 hs:bo+c*sz≤cells.length
 hz:bo+c*sz≤lo∨hi≤lo
 hF:F b
 hr:∀(i:Nat) row,rows[i]? =some row→row.length=sz
 hl:l.length=sz
 hcell:∀(i:Nat) row (j:Nat) t,rows[i]? =some row→row[j]? =some t→cells[bo+(i*sz+j)]? =some (f i j)
 hone:∀(i:Nat) row (j:Nat) t,rows[i]? =some row→row[j]? =some t→(f i j).oneCell'=true
 hG:∀i j x,G i j x→F x∧x≠b
 hD:∀i j i' j' x,G i j x→G i' j' x→i=i'∧j=j'
 h:∀(i:Nat) row (j:Nat) t,i≠q→rows[i]? =some row→row[j]? =some t→Owns w (G i j) (f i j) t
 ho:∀(j:Nat) s,l[j]? =some s→VRel w Fr m bv hd s (f q j)
def RowvOK(w:World)(Fr:Nat→Prop)(m:Nat→Option MO)(bv:Nat→Nat)(hd:Nat→Value)(F:Nat→Prop)(v:Value)(sz:Nat)(rows:List (List T))(q:Int)(l:List SV):Prop:=
 ∃b bo n c q0 cells el lo hi f G,q=(q0:Nat)∧RowvAt w Fr m bv hd F v sz rows l b bo n c q0 cells el lo hi f G
theorem RowvOK.keep{w w':World}{Fr Fr':Nat→Prop}{m m':Nat→Option MO}{bv bv':Nat→Nat}{hd hd':Nat→Value}{tok:List (Nat×Nat)}{F F':Nat→Prop}{v:Value}{sz:Nat}{rows:List (List T)}{q:Int}{l:List SV}(h:RowvOK w Fr m bv hd F v sz rows q l)
 (k:Keeps w w' Fr Fr' m m' bv bv' hd hd' tok) (hF:∀b,F b→F' b) (hh:∀b,F b→w'.heap[b]? =w.heap[b]?) (cl:∀s∈l,Cl tok s):RowvOK w' Fr' m' bv' hd' F' v sz rows q l:=by
 obtain⟨b,bo,n,c,q0,cells,el,lo,hi,f,G,rfl,X⟩:=h
 exact⟨b,bo,n,c,q0,cells,el,lo,hi,f,G,rfl,X.hv,X.hn,X.hq,X.hc,by rw[hh b X.hF];exact X.hb,X.hs,X.hz,hF b X.hF,X.hr,X.hl,X.hcell,X.hone,fun i j x hx=>⟨hF x (X.hG i j x hx).1,(X.hG i j x hx).2⟩,X.hD,
  fun i row j t h1 h2 h3=>(X.h i row j t h1 h2 h3).mono (fun _ hx=>hx) (fun x hx=>hh x (X.hG i j x hx).1),fun j s hs=>(X.ho j s hs).stepC k (cl s (List.mem_of_getElem? hs))⟩
structure MemOK(W:Nat→Prop)(base:Nat)(m:Nat→Option MO)(bv:Nat→Nat)(hd:Nat→Value)(fp:Nat→Nat→Prop)(Fr:Nat→Prop)(w:World):Prop where
 vars:∀id l,m id=some (.var l)→fp id (bv id)∧VarOK w Fr m bv hd (bv id) l
 rows:∀id ver sz rows,m id=some (.row ver sz rows)→Owns w (fp id) (hd id) (.sl sz rows)
 rowv:∀id ver sz rows q l,m id=some (.rowv ver sz rows q l)→RowvOK w Fr m bv hd (fp id) (hd id) sz rows q l
 apart:∀id id' b,m id≠none→m id'≠none→fp id b→fp id' b→id=id'
 own:∀id b,m id≠none→fp id b→(base≤b∨W b)∧b<w.heap.size∧¬Fr b
 fr:∀b,Fr b→b<w.heap.size
 full:∀id sz rows,asRow (m id)=some (.row 1 sz rows)→IsFull (hd id)
structure FrP where
 n:Nat
 lo:Nat
 pin:Nat→Value
 gi:World→Prop
 fr:Nat→Prop
def FrP.ok(N:FrP)(d:Nat):Prop:=d<N.n∧N.lo≤d
structure RelE(N:FrP)(W:Nat→Prop)(base:Nat)(w0:World)(s:Nat→SV)(m:Nat→Option MO)(bv:Nat→Nat)(hd:Nat→Value)(fp:Nat→Nat→Prop)(Fr:Nat→Prop)(a:Act)(w:World):Prop where
 defs:a.defers=[]
 size:a.tmps.size=N.n
 pins:∀t,t<N.lo→a.tmps.getD t undef=N.pin t
 inv:∀w',BelowW W base w0 w'→N.gi w'
 bnd:∀b,Fr b→N.fr b∨base≤b∨W b
 below:BelowW W base w0 w
 base_le:base≤w.heap.size
 slots:∀t,VRel w Fr m bv hd (s t) (a.tmps.getD t undef)
 mem:MemOK W base m bv hd fp Fr w
def Rel(N:FrP)(W:Nat→Prop)(base:Nat)(w0:World)(s:Nat→SV)(m:Nat→Option MO)(a:Act)(w:World):Prop:=
 ∃bv hd fp Fr,RelE N W base w0 s m bv hd fp Fr a w
def updS(s:Nat→SV)(dst:Option Nat)(v:SV):Nat→SV:=fun t=>match dst with|some d=>if d=t then v else s t|none=>s t
def updM(m:Nat→Option MO)(mw:List (Nat×Option MO)):Nat→Option MO:=fun id=>look mw id (m id)
theorem mentionL_true{f:SV→Bool}{l:List SV}(h:∀s∈l,f s=false):mention.mentionL f l=false:=by
 induction l with
 |nil=>rfl
 |cons a r ih=>simp only[mention.mentionL,Bool.or_eq_false_iff];exact⟨h a (by simp),ih fun s hs=>h s (by simp[hs])⟩
theorem put_getD(a:Act)(dst:Option Nat)(v:Value)(t:Nat)(h:∀d,dst=some d→d<a.tmps.size):
 (a.put dst v).tmps.getD t undef=(match dst with|some d=>if d=t then v else a.tmps.getD t undef|none=>a.tmps.getD t undef):=by
 cases dst with
 |none=>rfl
 |some d=>
  have hd:=h d rfl
  simp only[Act.put,Array.getD_eq_getD_getElem?]
  by_cases e:d=t
  ·subst e;simp[hd]
  ·simp[Array.getElem?_setIfInBounds_ne e,e]
theorem put_pins{N:FrP}{W:Nat→Prop}{base:Nat}{w0:World}{s:Nat→SV}{m:Nat→Option MO}{bv:Nat→Nat}{hd:Nat→Value}{fp:Nat→Nat→Prop}{Fr:Nat→Prop}{a:Act}{w:World}
 (R:RelE N W base w0 s m bv hd fp Fr a w) (dst:Option Nat) (hdst:∀d,dst=some d→N.ok d) {v:Value}:∀t,t<N.lo→(a.put dst v).tmps.getD t undef=N.pin t:=by
 intro t ht
 rw[put_getD a dst v t (fun d e=>R.size▸(hdst d e).1)]
 cases dst with
 |none=>exact R.pins t ht
 |some d=>
  have:=(hdst d rfl).2
  simp only[show ¬d=t by omega,if_false]
  exact R.pins t ht
theorem put_rel{N:FrP}{W:Nat→Prop}{base:Nat}{w0:World}{s:Nat→SV}{m m':Nat→Option MO}{bv bv':Nat→Nat}{hd hd':Nat→Value}{fp fp':Nat→Nat→Prop}{Fr Fr':Nat→Prop}{a:Act}{w w':World}{tok:List (Nat×Nat)}
 (R:RelE N W base w0 s m bv hd fp Fr a w) (k:Keeps w w' Fr Fr' m m' bv bv' hd hd' tok) (cl:∀t,Cl tok (s t)) (below:BelowW W base w0 w') (hb:base≤w'.heap.size)
 (M:MemOK W base m' bv' hd' fp' Fr' w') (hbd:∀b,Fr' b→N.fr b∨base≤b∨W b) (dst:Option Nat) (hdst:∀d,dst=some d→N.ok d) {val:SV} {v:Value} (hv:VRel w' Fr' m' bv' hd' val v):
 RelE N W base w0 (updS s dst val) m' bv' hd' fp' Fr' (a.put dst v) w':=by
 refine⟨?_, ?_,put_pins R dst hdst,R.inv,hbd,below,hb,fun t=> ?_,M⟩
 ·cases dst<;>exact R.defs
 ·cases dst<;>simp[Act.put,R.size]
 ·rw[put_getD a dst v t (fun d e=>R.size▸(hdst d e).1)]
  have old:=(R.slots t).stepC k (cl t)
  cases dst with
  |none=>exact old
  |some d=>
   simp only[updS]
   by_cases e:d=t
   ·simp only[e,if_true];exact hv
   ·simp only[e,if_false];exact old
theorem pure_rel{N:FrP}{W:Nat→Prop}{base:Nat}{w0:World}{s:Nat→SV}{m:Nat→Option MO}{bv:Nat→Nat}{hd:Nat→Value}{fp:Nat→Nat→Prop}{Fr:Nat→Prop}{a:Act}{w:World}
 (R:RelE N W base w0 s m bv hd fp Fr a w) (dst:Option Nat) (hdst:∀d,dst=some d→N.ok d) {val:SV} {v:Value} (hv:VRel w Fr m bv hd val v):
 RelE N W base w0 (updS s dst val) m bv hd fp Fr (a.put dst v) w:=by
 refine⟨?_, ?_,put_pins R dst hdst,R.inv,R.bnd,R.below,R.base_le,fun t=> ?_,R.mem⟩
 ·cases dst<;>exact R.defs
 ·cases dst<;>simp[Act.put,R.size]
 ·rw[put_getD a dst v t (fun d e=>R.size▸(hdst d e).1)]
  cases dst with
  |none=>exact R.slots t
  |some d=>
   simp only[updS]
   by_cases e:d=t
   ·simp only[e,if_true];exact hv
   ·simp only[e,if_false];exact R.slots t
theorem full_of{W:Nat→Prop}{base:Nat}{m m':Nat→Option MO}{bv bv':Nat→Nat}{hd hd':Nat→Value}{fp:Nat→Nat→Prop}{Fr Fr':Nat→Prop}{w w':World}{tok:List (Nat×Nat)}(k:Keeps w w' Fr Fr' m m' bv bv' hd hd' tok)(M:MemOK W base m bv hd fp Fr w)
 (ht:∀id,(id,1)∈tok→False):∀id sz rows,asRow (m' id)=some (.row 1 sz rows)→IsFull (hd' id):=fun id sz rows h=>by
 rcases k.row id 1 sz rows h with⟨r0,h1,h2⟩|h1
 ·rw[h2];exact M.full id sz r0 h1
 ·exact(ht id h1).elim
theorem toks_no{l:List (Nat×Option MO)}{id:Nat}(h:(id,1)∈toks l):False:=by
 obtain⟨p,_,h⟩:=List.mem_map.1 h
 cases h
theorem MemOK.change{W:Nat→Prop}{base:Nat}{m m':Nat→Option MO}{bv bv':Nat→Nat}{hd hd':Nat→Value}{fp fp':Nat→Nat→Prop}{Fr:Nat→Prop}{w w':World}{tok:List (Nat×Nat)}
 (M:MemOK W base m bv hd fp Fr w) (k:Keeps w w' Fr Fr m m' bv bv' hd hd' tok) (cl:∀id s,s∈svsOf (m id)→Cl tok s) (hsz:w.heap.size≤w'.heap.size) (A:Nat→Prop)
 (same:∀id,¬A id→m' id=m id∧bv' id=bv id∧hd' id=hd id∧(∀b,fp' id b↔fp id b)∧(∀b,m id≠none→fp id b→w'.heap[b]? =w.heap[b]?))
 (vars:∀id,A id→∀l,m' id=some (.var l)→fp' id (bv' id)∧VarOK w' Fr m' bv' hd' (bv' id) l)
 (rows:∀id,A id→∀ver sz rs,m' id=some (.row ver sz rs)→Owns w' (fp' id) (hd' id) (.sl sz rs))
 (rowv:∀id,A id→∀ver sz rs q l,m' id=some (.rowv ver sz rs q l)→RowvOK w' Fr m' bv' hd' (fp' id) (hd' id) sz rs q l)
 (apart:∀id id' b,A id→m' id≠none→m' id'≠none→fp' id b→fp' id' b→id=id')
 (own:∀id b,A id→m' id≠none→fp' id b→(base≤b∨W b)∧b<w'.heap.size∧¬Fr b)
 (full:∀id,A id→∀sz rs,asRow (m' id)=some (.row 1 sz rs)→IsFull (hd' id)):MemOK W base m' bv' hd' fp' Fr w':=by
 have old:∀id,¬A id→∀l,m id=some (.var l)→VarOK w' Fr m' bv' hd' (bv id) l:=by
  intro id hA l hm
  obtain⟨hf,cs,el,hh,hl,hr⟩:=M.vars id l hm
  obtain⟨_,_,_,_,hheap⟩:=same id hA
  exact⟨cs,el,by rw[hheap _ (by simp[hm]) hf];exact hh,hl,fun i v s h1 h2=>(hr i v s h1 h2).stepC k (cl id s (by rw[hm];exact List.mem_of_getElem? h2))⟩
 refine⟨fun id l hm=> ?_,fun id ver sz rs hm=> ?_,fun id ver sz rs q l hm=> ?_,fun id id' b h1 h2 h3 h4=> ?_,fun id b h1 h2=> ?_,fun b hb=>Nat.lt_of_lt_of_le (M.fr b hb) hsz,fun id sz rs hm=> ?_⟩
 ·by_cases hA:A id
  ·exact vars id hA l hm
  ·obtain⟨e1,e2,e3,e4,e5⟩:=same id hA
   rw[e2]
   rw[e1]at hm
   exact⟨(e4 _).2 (M.vars id l hm).1,old id hA l hm⟩
 ·by_cases hA:A id
  ·exact rows id hA ver sz rs hm
  ·obtain⟨e1,e2,e3,e4,e5⟩:=same id hA
   rw[e3]
   rw[e1]at hm
   exact(M.rows id ver sz rs hm).mono (fun b hb=>(e4 b).2 hb) (fun b hb=>e5 b (by simp[hm]) hb)
 ·by_cases hA:A id
  ·exact rowv id hA ver sz rs q l hm
  ·obtain⟨e1,e2,e3,e4,e5⟩:=same id hA
   rw[e3]
   rw[e1]at hm
   exact(M.rowv id ver sz rs _ l hm).keep k (fun b hb=>(e4 b).2 hb) (fun b hb=>e5 b (by simp[hm]) hb) (fun s hs=>cl id s (by rw[hm];exact hs))
 ·by_cases hA:A id
  ·exact apart id id' b hA h1 h2 h3 h4
  ·by_cases hA':A id'
   ·exact(apart id' id b hA' h2 h1 h4 h3).symm
   ·obtain⟨e1,_,_,e4,_⟩:=same id hA
    obtain⟨f1,_,_,f4,_⟩:=same id' hA'
    rw[e1]at h1
    rw[f1]at h2
    exact M.apart id id' b h1 h2 ((e4 b).1 h3) ((f4 b).1 h4)
 ·by_cases hA:A id
  ·exact own id b hA h1 h2
  ·obtain⟨e1,_,_,e4,_⟩:=same id hA
   rw[e1]at h1
   obtain⟨a1,a2,a3⟩:=M.own id b h1 ((e4 b).1 h2)
   exact⟨a1,Nat.lt_of_lt_of_le a2 hsz,a3⟩
 ·by_cases hA:A id
  ·exact full id hA sz rs hm
  ·obtain⟨e1,_,e3,_,_⟩:=same id hA
   rw[e3]
   rw[e1]at hm
   exact M.full id sz rs hm
end Go.Pv
