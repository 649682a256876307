/- The program's PlainAnswer returns what the reference's PlainAnswer returns, whatever the arguments; no conditions. -/
import Derived.Test.YtnidlohhndpjdaaGreatDoorRows
import Derived.Test.YtnidlohhndpjdaaGreatDoorCards
import Derived.Test.YtnidlohhndpjdaaGreatDoorTie
import Derived.Test.YtnidlohhndpjdaaGreatDoorKp
import Derived.Test.YtnidlohhndpjdaaGreatDoorKv
import Derived.SevenTiedAt
import Derived.LaidMore
import Derived.Lay
import Derived.Stop.Joined
namespace Go.Proofs.YtnidlohhndpjdaaGreatDoor.fnExactPlainAnswer
open Go Go.RowKit Go.Pv Go.Pu Go.YtnidlohhndpjdaaGreatDoor Go.ChangeShapes Go.WideShapes
set_option linter.unusedVariables false
set_option maxRecDepth 100000
theorem own:ownKnob Tryz.prog.godebug=none:=by kernel_rfl
def fuel:Nat:=1073741824
theorem yes:∀x,VA X L_FnExactPlainAnswer_ar x→L_FnExactPlainAnswer_f fuel x=some true:=fun x hx=>FnExactPlainAnswer_pure (k:=fuel) (by unfold fuel;omega) (⟨x.1.1,x.1.2.1⟩:LOrigin) (⟨x.2.1.1,x.2.1.2.1,x.2.1.2.2.1,x.2.1.2.2.2.1⟩:LRequest) x.2.2.1 ⟨(vv_s (hx.1 _ (.head _))),(vv_l (hx.1 _ (.tail _ (.head _))) (fun x h=>V_LResource_of h))⟩ ⟨(vv_s (hx.2.1 _ (.head _))),(vv_s (hx.2.1 _ (.tail _ (.head _)))),(vv_s (hx.2.1 _ (.tail _ (.tail _ (.head _))))),(vv_l (hx.2.1 _ (.tail _ (.tail _ (.tail _ (.head _))))) (fun x h=>V_LField_of h))⟩ (vv_i hx.2.2.1)
theorem els:∀e∈([177,9,77,179]:List Nat),ElOK X [177,9,77,179] e:=AllP_mem (p:=ElOK X [177,9,77,179]) ⟨⟨[.ks,.ks,.ks,.kb,.kl 9,.kl 77],by kernel_rfl,fun x=>⟨_,rfl,rfl⟩⟩,⟨[.ks],by kernel_rfl,fun x=>⟨_,rfl,rfl⟩⟩,⟨[.ki .i64,.ks,.kb],by kernel_rfl,fun x=>⟨_,rfl,rfl⟩⟩,⟨[.ks,.ks],by kernel_rfl,fun x=>⟨_,rfl,rfl⟩⟩,trivial⟩
def laidL:List (String×DataW Unit):=Rows.fnExactPlainAnswerRow.laid
theorem door_met(os:Os)(args:Array Value):laidMetH Tryz.prog laidL ((World.laidAll Tryz.prog os laidL).forCall (fun _ _=>0) ⟨#[],args,[]⟩).memory:=by
 rw[MakeChecks.laidMetH_plain _ _ _ (by kernel_rfl)];exact laidMet_laidAll _ (by kernel_rfl) (by kernel_rfl)
theorem lifted(os:Os)(started:os.Started)(H:Type)(enc:TypeId×Value→H):
 ReturnsInHanded {} Tryz.checked os 6 .any (fun w args=>(Rows.fnExactPlainAnswerSpec.pre enc Tryz.prog Tryz.f6 [] false w args∧laidMetH Tryz.prog laidL w)∧sizedMet enc Tryz.prog Tryz.f6 (OpenSpec.ofChange Rows.fnExactPlainAnswerSpec) false w args) (Rows.fnExactPlainAnswerSpec.post enc Tryz.prog Tryz.f6 false true false false):=
 said_laid (C:=Tryz.checked) (fn:=Tryz.f6) (X:=X) (els:=[177,9,77,179]) (l:=L_FnExactPlainAnswer_ar) (F:=L_FnExactPlainAnswer_f fuel) (vr:=L_FnExactPlainAnswer_vr) (bt:=4) laidL own started (by kernel_rfl) Tryz.func6 rfl
  (ChangeSpec.witness_shaped (enc:=enc) (C:=Tryz.checked) (os:=os) (X:=fun w _=>laidMetH Tryz.prog laidL w) false (World.laidAll Tryz.prog os laidL) #[.agg #[.string ⟨#[]⟩,.slice none 0 0],.agg #[.string ⟨#[]⟩,.string ⟨#[]⟩,.string ⟨#[]⟩,.slice none 0 0],.int .i64 0] 8 (World.laidAll_os _ _ _) (World.shaped_of_ZipB (by kernel_rfl) (by kernel_rfl)) (by kernel_rfl) (by kernel_rfl) (by kernel_rfl) (door_met os _))
  ctx cod els (by kernel_rfl) rfl Tryz.underlying4 (by kernel_rfl) (by kernel_rfl)
  (fun ds h=>match ds,h with|[d0,d1,d2],_=>rfl) (fun _=>rfl) (by kernel_rfl) (fun W h hL w' b=>⟨maxlen_of (Go.Proofs.cell_of_shapedOpen_int (zero:= #[.int .i64 0]) (t:=3) h (of_decide_eq_true (by kernel_rfl)) (by kernel_rfl) rfl (by kernel_rfl) (by kernel_rfl) Go.Proofs.Tryz.underlying3) b,tab_stays (tab_at hL 2 (by kernel_rfl) (g:=3) (t:=281) (by kernel_rfl) (by kernel_rfl) Go.Proofs.Tryz.underlying281 Go.Proofs.Tryz.underlying247 (by kernel_rfl) (by kernel_rfl)) b⟩) (L_FnExactPlainAnswer_ok fuel) yes
theorem heavy0:(Rows.fnExactPlainAnswerRow.inPlace==Tryz.pinned.checked.prog.inPlace 6)=true:=by kernel_rfl
theorem heavy1:(Rows.fnExactPlainAnswerRow.unfollowed==Tryz.pinned.checked.prog.unfollowed 6)=true:=by kernel_rfl
theorem heavy2:(Rows.fnExactPlainAnswerRow.recurses==Tryz.pinned.checked.prog.recurses 6)=true:=by kernel_rfl
theorem heavy3:(Rows.fnExactPlainAnswerRow.named==Tryz.pinned.checked.prog.varsNamed 6)=true:=by kernel_rfl
theorem heavy4:(Rows.fnExactPlainAnswerRow.lifted==Tryz.pinned.checked.prog.liftsFinal)=true:=by kernel_rfl
theorem heavy5:Tryz.pinned.checked.prog.stopsHeard=true:=by kernel_rfl
theorem heavy6:Tryz.pinned.checked.prog.mayEnter=true:=by kernel_rfl
theorem heavy7:(Tryz.pinned.checked.prog.stops==[])=true:=by kernel_rfl
theorem heavy8:(Tryz.pinned.checked.prog.stopKnobs==[])=true:=by kernel_rfl
theorem heavy9:(Rows.fnExactPlainAnswerRow.plainKeys==Tryz.pinned.checked.prog.plainKeys)=true:=by kernel_rfl
theorem heavy10:(Tryz.pinned.checked.prog.make==some Rows.fnExactPlainAnswerRow.make)=true:=by kernel_rfl
theorem heavy11:laidOutB Tryz.pinned.checked.prog=true:=by kernel_rfl
theorem heavy12:mapsRowed Tryz.pinned.checked.prog=true:=by kernel_rfl
theorem closed:joinedFacts Tryz.pinned.checked.prog 6 Tryz.f6 Rows.fnExactPlainAnswerSpec Rows.fnExactPlainAnswerRow=true:=by
 unfold joinedFacts
 simp only[Bool.and_eq_true]
 repeat' apply And.intro
 all_goals first|(with_reducible first|exact heavy0|exact heavy1|exact heavy2|exact heavy3|exact heavy4|exact heavy5|exact heavy6|exact heavy7|exact heavy8|exact heavy9|exact heavy10|exact heavy11|exact heavy12)|(as_aux_lemma=>kernel_rfl)
theorem over:Rows.fnExactPlainAnswerRow.holds Tryz.pinned (OpenSpec.ofChange Rows.fnExactPlainAnswerSpec):=
 OpenClaim.holds_of_wide 6 Tryz.f6 rfl rfl rfl rfl rfl rfl rfl ⟨rfl,rfl,rfl,rfl,rfl⟩ rfl rfl rfl rfl rfl (by kernel_rfl) Tryz.func6 closed
  (of_decide_eq_true (by kernel_rfl)) (by unfold Func.isWrapper;first|(rw[if_pos (by decide+kernel)];kernel_rfl)|(rw[if_neg (by decide+kernel)];exact⟨rfl,rfl⟩))
  (fun os started H enc _=>lifted os started H enc)
end Go.Proofs.YtnidlohhndpjdaaGreatDoor.fnExactPlainAnswer
namespace Go.Proofs.YtnidlohhndpjdaaGreatDoor
open Go
theorem fnExactPlainAnswer_holds:Rows.FnExactPlainAnswerCardSaid:=
 Claim7.holds_tied_plain_at .later [] [.data,.data,.data,.data,.pinned,.pinned] true (true, "f086bebfb626ec7489bcc2d52231f4b768b08caf8a8ce390371972d6c323e8c9") true
  fnExactPlainAnswer.over (fun _ h=>by cases h) (by as_aux_lemma=>kernel_rfl) (fun _ h=>by cases h) fnExactPlainAnswer_row_tie rfl ⟨rfl,rfl⟩ (by as_aux_lemma=>kernel_rfl) rfl
  (fun f fn hf hfn=>by
   obtain rfl:f=6:=Option.some.inj ((show Tryz.prog.funcNamed "loop.example/g03012/laws.FnExactPlainAnswer" =some 6 by as_aux_lemma=>kernel_rfl).symm.trans hf)|>.symm
   obtain rfl:fn=Tryz.f6:=(Option.some.inj (Tryz.func6.symm.trans hfn)).symm
   exact⟨by as_aux_lemma=>kernel_rfl,fun j t ht=>by
    rw[Tryz.params6]at ht
    have hm:t∈[57,60,3]:=by simpa using Array.mem_of_getElem? ht
    have hall:([57,60,3].all fun u=> !Tryz.prog.wantsStandIn u)=true:=by as_aux_lemma=>kernel_rfl
    exact(show Tryz.prog.wantsStandIn t=false by simpa using List.all_eq_true.1 hall t hm)⟩)
  (by as_aux_lemma=>kernel_rfl)
#print axioms fnExactPlainAnswer_holds
end Go.Proofs.YtnidlohhndpjdaaGreatDoor
