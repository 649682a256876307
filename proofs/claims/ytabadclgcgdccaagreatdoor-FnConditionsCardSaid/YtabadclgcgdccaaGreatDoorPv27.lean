/- Plain lemmas and definitions. Nothing is claimed here. -/
import Derived.Test.YtabadclgcgdccaaGreatDoorPv26
set_option linter.unusedSimpArgs false
set_option linter.unusedVariables false
namespace Go.Pv
open Go Go.RowKit
section
variable {D:Nat→Type} {X:CT D} {m:Nat→Option (VM D)} {n:Nat}
def vI(k:IntKind)(v:V D)(K:Int→Prop):Prop:=match v with| .int k' n=>bcond (decide (k'=k)) (K n) False|_=>False
def vB(v:V D)(K:Bool→Prop):Prop:=match v with| .bool b=>K b|_=>False
def vS(v:V D)(K:List UInt8→Prop):Prop:=match v with| .str b=>K b|_=>False
def vL(ty:Nat)(v:V D)(K:List (D ty)→Prop):Prop:=match v with| .sl ty' l=>if h:ty'=ty then K (h▸l)else False|_=>False
def vC(l:List (V D))(K:V D→List (V D)→Prop):Prop:=match l with|a::r=>K a r|[]=>False
def vN(l:List (V D))(K:Prop):Prop:=match l with|[]=>K|_::_=>False
def oI{α:Type}(k:IntKind)(v:V D)(K:Int→Option α):Option α:=match v with| .int k' n=>bif decide (k'=k)then K n else none|_=>none
def oB{α:Type}(v:V D)(K:Bool→Option α):Option α:=match v with| .bool b=>K b|_=>none
def oS{α:Type}(v:V D)(K:List UInt8→Option α):Option α:=match v with| .str b=>K b|_=>none
def oL{α:Type}(ty:Nat)(v:V D)(K:List (D ty)→Option α):Option α:=match v with| .sl ty' l=>if h:ty'=ty then K (h▸l)else none|_=>none
def oC{α:Type}(l:List (V D))(K:V D→List (V D)→Option α):Option α:=match l with|a::r=>K a r|[]=>none
def oN{α:Type}(l:List (V D))(K:Option α):Option α:=match l with|[]=>K|_::_=>none
theorem oI_ok{α:Type}{k:IntKind}{v:V D}{K:Int→Option α}{y:α}(h:oI k v K=some y):∃x,v= .int k x∧K x=some y:=by
 unfold oI at h
 split at h
 ·rename_i k' n
  cases hb:decide (k'=k)with
  |false=>rw[hb]at h;cases h
  |true=>
   rw[hb]at h
   simp only[decide_eq_true_eq]at hb
   subst hb
   exact⟨_,rfl,h⟩
 ·cases h
theorem oB_ok{α:Type}{v:V D}{K:Bool→Option α}{y:α}(h:oB v K=some y):∃x,v= .bool x∧K x=some y:=by
 unfold oB at h
 split at h
 ·exact⟨_,rfl,h⟩
 ·cases h
theorem oS_ok{α:Type}{v:V D}{K:List UInt8→Option α}{y:α}(h:oS v K=some y):∃x,v= .str x∧K x=some y:=by
 unfold oS at h
 split at h
 ·exact⟨_,rfl,h⟩
 ·cases h
theorem oL_ok{α:Type}{ty:Nat}{v:V D}{K:List (D ty)→Option α}{y:α}(h:oL ty v K=some y):∃x,v= .sl ty x∧K x=some y:=by
 unfold oL at h
 split at h
 ·split at h
  ·rename_i hty
   subst hty
   exact⟨_,rfl,h⟩
  ·cases h
 ·cases h
theorem oC_ok{α:Type}{l:List (V D)}{K:V D→List (V D)→Option α}{y:α}(h:oC l K=some y):∃a r,l=a::r∧K a r=some y:=by
 cases l with
 |nil=>cases h
 |cons a r=>exact⟨a,r,rfl,h⟩
theorem oN_ok{α:Type}{l:List (V D)}{K:Option α}{y:α}(h:oN l K=some y):l=[]∧K=some y:=by
 cases l with
 |nil=>exact⟨rfl,h⟩
 |cons a r=>cases h
theorem CallsOK.nil(h:CodOK X):CallsOK X ⟨[],[],[],[],[]⟩:=⟨h,fun g m vs K h=>h.elim,fun g m vs K h=>h.elim,fun g m c r K h=>h.elim,fun g m vs K h=>h.elim,fun g m el rows r K h=>h.elim⟩
section
variable {g:Nat} {cl:List (Nat×Entry D)} {cw:List (Nat×EntryW D)} {cq:List (Nat×EntryP D)} {cb:List (Nat×EntryB D)} {ct:List (Nat×EntryT D)}
theorem CallsOK.cons{en:Entry D}(he:EntryOK X g en)(h:CallsOK X ⟨cl,cw,cq,cb,ct⟩):CallsOK X ⟨(g,en)::cl,cw,cq,cb,ct⟩:=by
 refine⟨h.cod,fun g'=> ?_,h.callsW,h.callsP,h.callsB,h.callsT⟩
 simp only[look]
 cases hb:Nat.beq g g' with
 |true=>have:=beqN hb;subst this;exact he
 |false=>exact h.calls g'
theorem CallsOK.consW{en:EntryW D}(he:EntryWOK X g en)(h:CallsOK X ⟨cl,cw,cq,cb,ct⟩):CallsOK X ⟨cl,(g,en)::cw,cq,cb,ct⟩:=by
 refine⟨h.cod,h.calls,fun g'=> ?_,h.callsP,h.callsB,h.callsT⟩
 simp only[look]
 cases hb:Nat.beq g g' with
 |true=>have:=beqN hb;subst this;exact he
 |false=>exact h.callsW g'
theorem CallsOK.consP{en:EntryP D}(he:EntryPOK X g en)(h:CallsOK X ⟨cl,cw,cq,cb,ct⟩):CallsOK X ⟨cl,cw,(g,en)::cq,cb,ct⟩:=by
 refine⟨h.cod,h.calls,h.callsW,fun g'=> ?_,h.callsB,h.callsT⟩
 simp only[look]
 cases hb:Nat.beq g g' with
 |true=>have:=beqN hb;subst this;exact he
 |false=>exact h.callsP g'
theorem CallsOK.consB{en:EntryB D}(he:EntryBOK X g en)(h:CallsOK X ⟨cl,cw,cq,cb,ct⟩):CallsOK X ⟨cl,cw,cq,(g,en)::cb,ct⟩:=by
 refine⟨h.cod,h.calls,h.callsW,h.callsP,fun g'=> ?_,h.callsT⟩
 simp only[look]
 cases hb:Nat.beq g g' with
 |true=>have:=beqN hb;subst this;exact he
 |false=>exact h.callsB g'
theorem CallsOK.consT{en:EntryT D}(he:EntryTOK X g en)(h:CallsOK X ⟨cl,cw,cq,cb,ct⟩):CallsOK X ⟨cl,cw,cq,cb,(g,en)::ct⟩:=by
 refine⟨h.cod,h.calls,h.callsW,h.callsP,h.callsB,fun g'=> ?_⟩
 simp only[look]
 cases hb:Nat.beq g g' with
 |true=>have:=beqN hb;subst this;exact he
 |false=>exact h.callsT g'
end
def cutList(cu:Cuts D):Code→List (Cut D×Code)
 | .seq a b=>cutList cu a++cutList cu b
 | .cond c a b=>
   match look cu.cnd (condKey c) none with
   |some cut=>[(cut,.cond c a b)]
   |none=>cutList cu a++cutList cu b
 | .block id c=>
   match look cu.blk id none with
   |some cut=>[(cut,.block id c)]
   |none=>cutList cu c
 |_=>[]
def AllP{α:Type}(p:α→Prop):List α→Prop
 |[]=>True
 |a::l=>p a∧AllP p l
theorem AllP_mem{α:Type}{p:α→Prop}:∀{l:List α},AllP p l→∀a∈l,p a
 |a::l,h,b,hb=>by
  cases hb with
  |head=>exact h.1
  |tail _ hb=>exact AllP_mem h.2 b hb
theorem cutOK_all{pl:Plan}{k:Nat}{cu:Cuts D}{rs:List ResultVar}:∀(c:Code),(∀x∈cutList cu c,CutFor X pl k rs x.1 x.2)→CutOK X pl k cu rs c
 | .seq a b,h=>⟨cutOK_all a fun x hx=>h x (List.mem_append_left _ hx),cutOK_all b fun x hx=>h x (List.mem_append_right _ hx)⟩
 | .cond c a b,h=>by
   unfold CutOK
   unfold cutList at h
   split
   ·rename_i cut hc
    rw[hc]at h
    exact h (cut,.cond c a b) (by simp)
   ·rename_i hc
    rw[hc]at h
    exact⟨cutOK_all a fun x hx=>h x (List.mem_append_left _ hx),cutOK_all b fun x hx=>h x (List.mem_append_right _ hx)⟩
 | .block id c,h=>by
   unfold CutOK
   unfold cutList at h
   split
   ·rename_i cut hc
    rw[hc]at h
    exact h (cut,.block id c) (by simp)
   ·rename_i hc
    rw[hc]at h
    exact cutOK_all c h
 | .skip,h=>trivial
 | .region ..,h=>trivial
 | .loop ..,h=>trivial
 | .exit ..,h=>trivial
 | .ret,h=>trivial
 | .rangeFunc ..,h=>trivial
 | .scope ..,h=>trivial
 | .label ..,h=>trivial
 | .goto ..,h=>trivial
 | .refuse ..,h=>trivial
theorem cutOK_of{pl:Plan}{k:Nat}{cu:Cuts D}{rs:List ResultVar}{c:Code}{l:List (Cut D×Code)}(h:cutList cu c=l)(hl:AllP (fun x:Cut D×Code=>CutFor X pl k rs x.1 x.2) l):CutOK X pl k cu rs c:=
 cutOK_all c fun x hx=>AllP_mem hl x (h▸hx)
theorem loopCut_of{pl:Plan}{k:Nat}{cu:Cuts D}{cl:Calls' D}{rs:List ResultVar}{tys:List (List Nat)}{id:Nat}{c:Code}{tm:Tm}{F:Nat→List (V D)→(Ex→VSt D→Prop)→(VR D→Prop)→Prop}
 (ok:CallsOK X cl) (hc:CutOK X pl k cu rs c) (h0:∀vs Q R,¬F 0 vs Q R)
 (hs:∀n vs Q R,F (n+1) vs Q R→wpT X cl pl cu rs tys c (mkSt tm vs) (fun e st'=>
  match e with
  | .normal=>cutAt tm (F n) st' Q R
  | .exit j=>bcond (Nat.beq j id) (Q .normal (keepT X (look pl.blk id []) st')) (Q (.exit j) st')
  | .ret=>False) R):CutFor X pl k rs (cutAt tm (F k)) (.block id (.loop c)):=by
 intro st Q R QQ hI h
 refine loop_cut (tys:=tys) ok hc hI (fun n st=>cutAt tm (F n) st Q R) (fun st h=> ?_) (fun n st h=> ?_) st h
 ·obtain⟨vs,_,h⟩:=optK_some h
  exact h0 vs Q R h
 ·obtain⟨vs,hv,h⟩:=optK_some h
  have:=hs n vs Q R h
  rw[rdSt_mk hv]at this
  exact this
theorem joinCut_of{pl:Plan}{k:Nat}{cu:Cuts D}{cl:Calls' D}{rs:List ResultVar}{tys:List (List Nat)}{c:Code}{tm:Tm}{F:List (V D)→(Ex→VSt D→Prop)→(VR D→Prop)→Prop}
 (ok:CallsOK X cl) (hc:CutOK X pl k cu rs c) (hs:∀vs Q R,F vs Q R→wpT X cl pl cu rs tys c (mkSt tm vs) Q R):CutFor X pl k rs (cutAt tm F) c:=
 cutAt_of fun vs Q R QQ hI h=>wpT_sound ok c _ Q R QQ hc hI (hs vs Q R h)
end
def mkC(P:Program)(gi:World→Prop)(ti:List (Nat×TInfo))(wr kp kb kt eqs kq:List Nat):Ctx:=⟨ti,CallOK P gi,CallW P gi,CallPQ P gi kq,CallB P gi,CallT P gi,wr,kp,kb,kt,eqs,gi,kq⟩
theorem ctx_ok{P:Program}{gi:World→Prop}{ti:List (Nat×TInfo)}{wr kp kb kt eqs kq:List Nat}(h:ti.map (fun p=>tiOf P p.1)=ti.map fun p=>some p.2)(h0:(look ti 0 default).kind=0)
 (he:∀t,t∈eqs→(look ti t default).kind=3∧P.stoodInHeld t=false∧P.eqGuardType P.depth t=false∧∀f∈(P.fieldsOf t).toList,f.name≠ "_"):CtxOK P (mkC P gi ti wr kp kb kt eqs kq):=by
 refine⟨fun t ht=> ?_,h0,he,fun g ts r h=>h,fun g ts r outs h=>h,fun g l0 ts r l1 h=>h,fun g ts l1 h=>h,fun g sz rows ts r out h=>h⟩
 rcases look_key (rfl:look ti t default=look ti t default)with h1|h1
 ·exfalso
  apply ht
  show(look ti t default).kind=0
  rw[h1];rfl
 ·obtain⟨i,hi,e⟩:=List.mem_iff_getElem.1 h1
  have:=congrArg (fun l=>l[i]?) h
  simp only[List.getElem?_map,List.getElem?_eq_getElem hi,Option.map_some,e,Option.some.injEq]at this
  exact this
theorem ctx_okB{P:Program}{gi:World→Prop}{ti:List (Nat×TInfo)}{wr kp kb kt eqs kq:List Nat}(h:ti.map (fun p=>tiOf P p.1)=ti.map fun p=>some p.2)(h0:(look ti 0 default).kind=0)
 (he:(eqs.all fun t=>Nat.beq (look ti t default).kind 3&& !P.stoodInHeld t&& !P.eqGuardType P.depth t&&(P.fieldsOf t).toList.all fun f=> !(f.name== "_"))=true):CtxOK P (mkC P gi ti wr kp kb kt eqs kq):=by
 refine ctx_ok h h0 fun t ht=> ?_
 have:=List.all_eq_true.1 he t ht
 simp only[Bool.and_eq_true,Bool.not_eq_true',List.all_eq_true]at this
 exact⟨beqN this.1.1.1,this.1.1.2,this.1.2,fun f hf e=>by have:=this.2 f hf;rw[e]at this;simp at this⟩
def sub:Code→List Nat→Code
 |c,[]=>c
 | .seq a b,i::r=>match i with|0=>sub a r|_=>sub b r
 | .cond _ a b,i::r=>match i with|0=>sub a r|_=>sub b r
 | .block _ c,_::r=>sub c r
 | .loop c,_::r=>sub c r
 |c,_=>c
def bodyOf(f:Func):Code:=f.body.getD .skip
end Go.Pv
