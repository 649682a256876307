/- Plain lemmas and definitions. Nothing is claimed here. -/
import Derived.Test.YtabadclgcgdccaaGreatDoorPv32
import Derived.Handed
import Derived.Lib.LaidTab
import Derived.MakeChecks
import Derived.Stop.LaidErr
import Derived.Stop.Joined
set_option linter.unusedSimpArgs false
set_option linter.unusedVariables false
namespace Go.Pv
open Go Go.RowKit Go.ChangeShapes Go.WideShapes
section
variable {D:Nat→Type} {H:Type} {enc:TypeId×Value→H}
theorem said_laid{C:Checked}{os:Os}{f:FuncId}{fn:Func}{s:ChangeSpec}{X:CT D}{els:List Nat}{l:List Ar}{F:TupA D l→Option Bool}{vr:Bool→VR D}{bt:Nat}(L:List (String×DataW Unit))
 (own:ownKnob C.prog.godebug=none) (started:os.Started) (noInit:C.prog.inits.idxOf? f=none) (hfn:C.prog.funcs[f]? =some fn) (hvars:s.vars=[])
 (witness:∃(w:World) (tape:Tape) (i:Input),w.os=os∧(w.forCall tape i).Shaped C.prog∧i.vars=[]∧Input.okWide C.prog (w.forCall tape i) .any w.heap.size f i∧
  ((s.pre enc C.prog fn [] false (w.forCall tape i).memory i.args∧laidMetH C.prog L (w.forCall tape i).memory)∧sizedMet enc C.prog fn (OpenSpec.ofChange s) false (w.forCall tape i).memory i.args)∧
  ({}:Assume).holds C.prog (lone (Frame.enter C.prog f i.args .normal) [] (w.forCall tape i)))
 (K:CtxOK C.prog X.C) (cod:CodOK X) (hE:∀e∈els,ElOK X els e) (ht:fn.params.toList.map (arTy X.C els)=l.map some) (hres:fn.resultTypes= #[bt]) (hbt:C.prog.underlying bt=some .bool)
 (hl:laidOutB C.prog=true) (hr:(fn.params.toList.all fun t=>C.prog.readableRec t&&decide (t<C.prog.types.size))=true)
 (hs:∀(ds:List (DataW H)),ds.length=l.length→s.fn H ds={ results:=[.lit (.bool true)],args:=ds })
 (hv:∀b,X.eR (vr b)= .bool b) (hplain:(L.all fun x=>x.2.handleName?.isNone)=true) (gi:∀(W:World),W.ShapedOpen C.prog→laidMet C.prog L W→∀w',BelowW (fun _=>False) W.heap.size W w'→X.C.gi w')
 (hd:Does C.prog X f l F vr) (hp:∀x,VA X l x→F x=some true):
 ReturnsInHanded {} C os f .any (fun w args=>(s.pre enc C.prog fn [] false w args∧laidMetH C.prog L w)∧sizedMet enc C.prog fn (OpenSpec.ofChange s) false w args) (s.post enc C.prog fn false true false false):=by
 refine returnsInHanded_of_calls own started noInit witness ?_
 intro w tape i _ hsh _ hok hpre hholds
 obtain⟨_,_,_,fn',hfn',_,_,_,_,hval⟩:=hok
 have e:fn'=fn:=Option.some.inj (hfn'.symm.trans hfn)
 subst e
 obtain⟨⟨⟨ds,gs,before,hw,hc⟩,hx⟩,hz⟩:=hpre
 have hw':=DataW.Whole.of_heap (w':=w.forCall tape i) (by rfl) hw
 have hx':laidMetH C.prog L (w.forCall tape i):=laidMetH.of_heap (w:=(w.forCall tape i).memory) (by rfl) hx
 rw[MakeChecks.laidMetH_plain _ _ _ hplain]at hx'
 refine(said_core hvars K cod hE ht hres hbt hl hr hs hv hd hp (fun w' b=>gi _ hsh hx' w' b) hval hw').mono fun e W' ⟨v,he,hp⟩=> ?_
 subst he
 exact ChangeSpec.post_blind hp
theorem tab_stays{P:Program}{W w':World}{name:String}{k:IntKind}{zs:List Int}(h:Lib.TabIs P W name k zs)(b:BelowW (fun _=>False) W.heap.size W w'):Lib.TabIs P w' name k zs:=by
 unfold Lib.TabIs at h ⊢
 rw[←h]
 unfold World.var? at h ⊢
 cases hg:P.globalNamed name with
 |none=>rw[hg]at h;simp at h
 |some g=>
  rw[hg]at h
  simp only[Option.bind_eq_bind,Option.bind_some]at h ⊢
  have hlt:g<W.heap.size:=by
   rcases Nat.lt_or_ge g W.heap.size with h1|h1
   ·exact h1
   ·rw[Array.getElem?_eq_none h1]at h;simp at h
  rw[b.block g hlt (fun h=>h)]
theorem laidMet_drop{P:Program}{W:World}:∀(i:Nat) (L:List (String×DataW Unit)),laidMet P L W→laidMet P (L.drop i) W
 |0,L,h=>h
 |i+1,[],h=>h
 |i+1,x::r,h=>laidMet_drop i r h.tail
theorem tab_at{P:Program}{W:World}{L:List (String×DataW Unit)}(h:laidMet P L W)(i:Nat){name:String}{k:IntKind}{zs:List Int}{g:Nat}{t e:TypeId}{n:Nat}(hi:L.drop i=(name,Lib.tabData k zs)::L.drop (i+1))
 (hg:P.globalNamed name=some g) (hty:(P.globals[g]?).map (·.type)=some t) (ht:P.underlying t=some (.array n e)) (he:P.underlying e=some (.int k)) (hce:P.cellsOf e=1) (hct:P.cellsOf t=n):Lib.TabIs P W name k zs:=by
 have:=laidMet_drop i L h
 rw[hi]at this
 exact Lib.tabIs_of_head hg hty ht he hce hct this
end
end Go.Pv
