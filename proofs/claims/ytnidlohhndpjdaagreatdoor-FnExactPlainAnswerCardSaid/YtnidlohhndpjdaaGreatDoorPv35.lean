/- Plain lemmas and definitions. Nothing is claimed here. -/
import Derived.Test.YtnidlohhndpjdaaGreatDoorPv34
import Derived.Sort.EncStr
import Derived.Sort.Grow
import Derived.Lib.TrimByte
set_option linter.unusedSimpArgs false
set_option linter.unusedVariables false
namespace Go.Pv
open Go Go.RowKit Go.Sort Go.Proofs
section
variable {D:Nat→Type} {P:Program} {X:CT D}
def sortO(l:List (List UInt8)):Option (List (List UInt8)):=bif decide (l.length<4611686018427387904)then some (l.mergeSort fun x y=>decide (x≤y))else none
theorem sort_hf(l r:List (List UInt8))(h:sortO l=some r):l.length<4611686018427387904∧r.map (fun s=>s)=(l.map fun s=>s).mergeSort fun x y=>decide (x≤y):=by
 unfold sortO at h
 cases hd:decide (l.length<4611686018427387904)with
 |false=>rw[hd]at h;cases h
 |true=>
  rw[hd]at h
  cases h
  exact⟨of_decide_eq_true hd,by simp⟩
theorem owns_str_inv{w:World}{F:Nat→Prop}{v:Value}{s:List UInt8}(h:Owns w F v (.str s)):v=encStr s:=by
 cases h with
 |str _ b=>rfl
theorem does_sort{g el:Nat}(he:Enters P g)(toS:D el→List UInt8)(f:List (D el)→Option (List (D el)))(hR:∀x,X.R el x=[.str (toS x)])(hz1:(X.C.i el).size=1)
 (hf:∀l r,f l=some r→l.length<4611686018427387904∧r.map toS=(l.map toS).mergeSort fun x y=>decide (x≤y))
 (h0:∀(p:Option Addr) (cap:Nat) (w:World),Calls P g #[.slice p 0 cap] w fun e w'=>e= .returned (.tuple #[])∧w'=w)
 (hc:∀(blk off cap:Nat) (ss:List (List UInt8)) (w:World),Holds encStr w blk off ss.toArray→blk<w.heap.size→ss.length<4611686018427387904→
  Calls P g #[.slice (some ⟨blk,off,none⟩) ss.length cap] w fun e w'=>e= .returned (.tuple #[])∧∃n os,w'=grow (putRow encStr (Sort.ahead w n) blk off (ss.mergeSort fun x y=>decide (x≤y)).toArray) os):
 DoesT P X g el [] (fun l _=>f l) (fun _=> .tup []) some:=by
 intro l x r hx
 obtain⟨hlen,hr⟩:=hf l r hx
 have hrl:r.length=l.length:=by
  have:=congrArg List.length hr
  simpa using this
 refine⟨he,fun w v0 vs G Fr hgi hGb hfr hlenv hown hargs=> ?_⟩
 have hvs:vs=[]:=List.length_eq_zero_iff.1 hlenv
 subst hvs
 have unit:∀(w':World),Owns w' (fun _=>False) (.tuple #[]) (X.eR (.tup [])):=fun w'=> .tup _ [] [] (fun _ _=>False) rfl (fun _ _ h=>h.elim) (fun _ _ _ h=>h.elim) fun i v t h1 _=>by simp at h1
 generalize hrows:l.map (X.R el)=rows at hown
 have hrowl:rows.length=l.length:=by rw[←hrows,List.length_map]
 have hrow:∀(i:Nat) (hi:i<l.length),rows[i]? =some [T.str (toS l[i])]:=fun i hi=>by
  rw[←hrows,List.getElem?_map,List.getElem?_eq_getElem hi,Option.map_some,hR]
 rw[hz1]at hown ⊢
 cases hown with
 |sl0 _ a _=>
  have hl:l=[]:=by cases l with
   |nil=>rfl
   |cons a l=>simp at hrowl
  have hr0:r=[]:=List.length_eq_zero_iff.1 (by rw[hrl,hl];rfl)
  refine(h0 a 0 w).mono fun e w' ⟨h1,h2⟩=> ?_
  subst h2
  refine⟨_,fun _=>False,h1,unit w',fun _ h=>h.elim,⟨rfl,rfl,rfl,Nat.le_refl _,fun _ _ _=>rfl⟩,fun rs e=> ?_⟩
  subst hr0
  cases e
  exact .sl0 _ a _
 |sl _ b bo n c _ _ cells ce lo hi fv G' hn hcap hb hs hz hF hrz hcell hone hG' hD' hh=>
  have hn:l.length=n:=by rw[←hrowl];exact hn
  have hbl:b<w.heap.size:=(Array.getElem?_eq_some_iff.1 hb).1
  have hval:∀(i:Nat) (hi:i<l.length),cells[bo+i]? =some (encStr (toS l[i])):=fun i hi=>by
   have h1:=hcell i _ 0 _ (hrow i hi) rfl
   have h2:=owns_str_inv (hh i _ 0 _ (hrow i hi) rfl)
   rw[h2]at h1
   simpa using h1
  have hH:Holds encStr w b bo (l.map toS).toArray:=fun j hj=>by
   have hj:j<l.length:=by simpa using hj
   refine⟨?_, ?_⟩
   ·simp only[World.cell?,hb]
    have:=hval j hj
    simp[hj,this]
   ·simp only[World.frozen?,hb]
    simp
    omega
  have hC:=hc b bo c (l.map toS) w hH hbl (by simpa using hlen)
  rw[List.length_map,hn]at hC
  refine hC.mono fun e w' ⟨h1,k,os,h2⟩=> ?_
  have hw'b:w'.heap[b]? =some (.cells (putCells encStr bo ((l.map toS).mergeSort fun x y=>decide (x≤y)).toArray ⟨cells⟩) ce (lo,hi)):=by
   rw[h2]
   simp only[grow,putRow,mapBlock,Sort.ahead]
   rw[Array.getElem?_append_left (by simpa using hbl),Array.getElem?_modify,if_pos rfl,hb]
   rfl
  refine⟨_,fun _=>False,h1,unit w',fun _ h=>h.elim,⟨?_, ?_, ?_, ?_,fun q hq hG=> ?_⟩,fun rs e=> ?_⟩
  ·rw[h2];rfl
  ·rw[h2];rfl
  ·rw[h2];rfl
  ·rw[h2];simp[grow,putRow,mapBlock,Sort.ahead]
  ·have hne:b≠q:=fun e=>hG (e▸hF)
   rw[h2]
   simp only[grow,putRow,mapBlock,Sort.ahead]
   rw[Array.getElem?_append_left (by simpa using hq),Array.getElem?_modify,if_neg hne]
  ·cases e
   rw[←hr]at hw'b
   have hsz:(putCells encStr bo (r.map toS).toArray ⟨cells⟩).size=cells.length:=by simp[putCells]
   refine .sl G b bo n c 1 _ (putCells encStr bo (r.map toS).toArray ⟨cells⟩).toList ce lo hi (fun i _=>encStr ((r.map toS)[i]?.getD [])) (fun _ _ _=>False) (by rw[List.length_map,hrl,hn]) hcap (by rw[hw'b]) (by rw[Array.length_toList,hsz];exact hs) hz hF (fun i row h=> ?_) (fun i row j t h3 h4=> ?_) (fun i row j t _ _=>rfl) (fun _ _ _ h=>h.elim) (fun _ _ _ _ _ h=>h.elim) (fun i row j t h3 h4=> ?_)
   ·rw[List.getElem?_map,Option.map_eq_some_iff]at h
    obtain⟨y,_,rfl⟩:=h
    rw[hR];rfl
   ·rw[List.getElem?_map,Option.map_eq_some_iff]at h3
    obtain⟨y,hy,rfl⟩:=h3
    rw[hR]at h4
    have hj:j=0:=by cases j with
     |zero=>rfl
     |succ j=>simp at h4
    subst hj
    have hi:i<r.length:=(List.getElem?_eq_some_iff.1 hy).1
    have hib:bo+i<cells.length:=by rw[hrl,hn]at hi;simp at hs;omega
    simp only[Nat.mul_one,Nat.add_zero]
    rw[Array.getElem?_toList]
    simp only[putCells,Array.getElem?_mapIdx]
    have:(⟨cells⟩:Array Value)[bo+i]? =some cells[bo+i]:=by simp[hib]
    rw[this,Option.map_some,if_pos ⟨by omega,by simp;omega⟩]
    congr 2
    rw[show bo+i -bo=i by omega]
    simp[hi]
   ·rw[List.getElem?_map,Option.map_eq_some_iff]at h3
    obtain⟨y,hy,rfl⟩:=h3
    rw[hR]at h4
    have hj:j=0:=by cases j with
     |zero=>rfl
     |succ j=>simp at h4
    subst hj
    simp at h4
    subst h4
    have e:(r.map toS)[i]?.getD []=toS y:=by rw[List.getElem?_map,hy];rfl
    simp only[e]
    exact .str _ ⟨(toS y).toArray⟩
end
end Go.Pv
