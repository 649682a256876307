/- The law FnConditions is true of every input; no conditions. -/
import Derived.Test.YtabadclgcgdccaaGreatDoorRows
import Derived.Test.YtabadclgcgdccaaGreatDoorCards
import Derived.Test.YtabadclgcgdccaaGreatDoorTie
import Derived.Test.YtabadclgcgdccaaGreatDoorKp
import Derived.Test.YtabadclgcgdccaaGreatDoorKv
import Derived.SevenTiedAt
import Derived.LaidMore
import Derived.Lay
import Derived.Stop.Joined
namespace Go.Proofs.YtabadclgcgdccaaGreatDoor.fnConditions
open Go Go.RowKit Go.Pv Go.Pu Go.YtabadclgcgdccaaGreatDoor Go.ChangeShapes Go.WideShapes
set_option linter.unusedVariables false
set_option maxRecDepth 100000
theorem own:ownKnob Tryz.prog.godebug=none:=by kernel_rfl
def fuel:Nat:=1073741824
theorem yes:∀x,VA X L_FnConditions_ar x→L_FnConditions_f fuel x=some true:=fun x hx=>FnConditions_pure (k:=fuel) (by unfold fuel;omega) x.1 (vv_l hx.1 (fun x h=>(vv_b (h _ (.head _)))))
theorem els:∀e∈([5]:List Nat),ElOK X [5] e:=AllP_mem (p:=ElOK X [5]) ⟨⟨[.ki .u8],by kernel_rfl,fun x=>⟨_,rfl,rfl⟩⟩,trivial⟩
def laidL:List (String×DataW Unit):=Rows.fnConditionsRow.laid
theorem door_met(os:Os)(args:Array Value):laidMetH Tryz.prog laidL ((World.laidAll Tryz.prog os laidL).forCall (fun _ _=>0) ⟨#[],args,[]⟩).memory:=by
 rw[MakeChecks.laidMetH_plain _ _ _ (by kernel_rfl)];exact laidMet_laidAll _ (by kernel_rfl) (by kernel_rfl)
theorem lifted(os:Os)(started:os.Started)(H:Type)(enc:TypeId×Value→H):
 ReturnsInHanded {} Tryz.checked os 3 .any (fun w args=>(Rows.fnConditionsSpec.pre enc Tryz.prog Tryz.f3 [] false w args∧laidMetH Tryz.prog laidL w)∧sizedMet enc Tryz.prog Tryz.f3 (OpenSpec.ofChange Rows.fnConditionsSpec) false w args) (Rows.fnConditionsSpec.post enc Tryz.prog Tryz.f3 false true false false):=
 said_laid (C:=Tryz.checked) (fn:=Tryz.f3) (X:=X) (els:=[5]) (l:=L_FnConditions_ar) (F:=L_FnConditions_f fuel) (vr:=L_FnConditions_vr) (bt:=4) laidL own started (by kernel_rfl) Tryz.func3 rfl
  (ChangeSpec.witness_shaped (enc:=enc) (C:=Tryz.checked) (os:=os) (X:=fun w _=>laidMetH Tryz.prog laidL w) false (World.laidAll Tryz.prog os laidL) #[.slice none 0 0] 8 (World.laidAll_os _ _ _) (World.shaped_of_ZipB (by kernel_rfl) (by kernel_rfl)) (by kernel_rfl) (by kernel_rfl) (by kernel_rfl) (door_met os _))
  ctx cod els (by kernel_rfl) rfl Tryz.underlying4 (by kernel_rfl) (by kernel_rfl)
  (fun ds h=>match ds,h with|[d0],_=>rfl) (fun _=>rfl) (by kernel_rfl) (fun W h hL w' b=>⟨maxlen_of (Go.Proofs.cell_of_shapedOpen_int (zero:= #[.int .i64 0]) (t:=3) h (of_decide_eq_true (by kernel_rfl)) (by kernel_rfl) rfl (by kernel_rfl) (by kernel_rfl) Go.Proofs.Tryz.underlying3) b,errvar_stays (errvar_at hL 4 (nm:= "errors.errorString") (text:=[118,97,108,117,101,32,111,117,116,32,111,102,32,114,97,110,103,101]) (g:=4) (ti:=110) (tp:=180) (te:=182) (ts:=9) (by kernel_rfl) (by kernel_rfl) (by kernel_rfl) (by kernel_rfl) (by kernel_rfl) (by kernel_rfl) (by decide) (by kernel_rfl) (by kernel_rfl) (by kernel_rfl) (by kernel_rfl) (by kernel_rfl)) b,errvar_stays (errvar_at hL 5 (nm:= "errors.errorString") (text:=[105,110,118,97,108,105,100,32,115,121,110,116,97,120]) (g:=3) (ti:=110) (tp:=180) (te:=182) (ts:=9) (by kernel_rfl) (by kernel_rfl) (by kernel_rfl) (by kernel_rfl) (by kernel_rfl) (by kernel_rfl) (by decide) (by kernel_rfl) (by kernel_rfl) (by kernel_rfl) (by kernel_rfl) (by kernel_rfl)) b,tab_stays (tab_at hL 2 (by kernel_rfl) (g:=5) (t:=184) (by kernel_rfl) (by kernel_rfl) Go.Proofs.Tryz.underlying184 Go.Proofs.Tryz.underlying168 (by kernel_rfl) (by kernel_rfl)) b⟩) (L_FnConditions_ok fuel) yes
theorem heavy0:(Rows.fnConditionsRow.inPlace==Tryz.pinned.checked.prog.inPlace 3)=true:=by kernel_rfl
theorem heavy1:(Rows.fnConditionsRow.unfollowed==Tryz.pinned.checked.prog.unfollowed 3)=true:=by kernel_rfl
theorem heavy2:(Rows.fnConditionsRow.recurses==Tryz.pinned.checked.prog.recurses 3)=true:=by kernel_rfl
theorem heavy3:(Rows.fnConditionsRow.named==Tryz.pinned.checked.prog.varsNamed 3)=true:=by kernel_rfl
theorem heavy4:(Rows.fnConditionsRow.lifted==Tryz.pinned.checked.prog.liftsFinal)=true:=by kernel_rfl
theorem heavy5:Tryz.pinned.checked.prog.stopsHeard=true:=by kernel_rfl
theorem heavy6:Tryz.pinned.checked.prog.mayEnter=true:=by kernel_rfl
theorem heavy7:(Tryz.pinned.checked.prog.stops==[])=true:=by kernel_rfl
theorem heavy8:(Tryz.pinned.checked.prog.stopKnobs==[])=true:=by kernel_rfl
theorem heavy9:(Rows.fnConditionsRow.plainKeys==Tryz.pinned.checked.prog.plainKeys)=true:=by kernel_rfl
theorem heavy10:(Tryz.pinned.checked.prog.make==some Rows.fnConditionsRow.make)=true:=by kernel_rfl
theorem heavy11:laidOutB Tryz.pinned.checked.prog=true:=by kernel_rfl
theorem heavy12:mapsRowed Tryz.pinned.checked.prog=true:=by kernel_rfl
theorem closed:joinedFacts Tryz.pinned.checked.prog 3 Tryz.f3 Rows.fnConditionsSpec Rows.fnConditionsRow=true:=by
 unfold joinedFacts
 simp only[Bool.and_eq_true]
 repeat' apply And.intro
 all_goals first|(with_reducible first|exact heavy0|exact heavy1|exact heavy2|exact heavy3|exact heavy4|exact heavy5|exact heavy6|exact heavy7|exact heavy8|exact heavy9|exact heavy10|exact heavy11|exact heavy12)|(as_aux_lemma=>kernel_rfl)
theorem over:Rows.fnConditionsRow.holds Tryz.pinned (OpenSpec.ofChange Rows.fnConditionsSpec):=
 OpenClaim.holds_of_wide 3 Tryz.f3 rfl rfl rfl rfl rfl rfl rfl ⟨rfl,rfl,rfl,rfl,rfl⟩ rfl rfl rfl rfl rfl (by kernel_rfl) Tryz.func3 closed
  (of_decide_eq_true (by kernel_rfl)) (by unfold Func.isWrapper;first|(rw[if_pos (by decide+kernel)];kernel_rfl)|(rw[if_neg (by decide+kernel)];exact⟨rfl,rfl⟩))
  (fun os started H enc _=>lifted os started H enc)
end Go.Proofs.YtabadclgcgdccaaGreatDoor.fnConditions
namespace Go.Proofs.YtabadclgcgdccaaGreatDoor
open Go
theorem fnConditions_holds:Rows.FnConditionsCardSaid:=
 Claim7.holds_tied_plain_at .later [] [.data,.data,.data,.data,.sentinel,.sentinel,.pinned] true (true, "af6a0aaa8ddc117b06d09c07858a27d93dabfbc3dfe159115e37c8dc7bf873a2") true
  fnConditions.over (fun _ h=>by cases h) (by as_aux_lemma=>kernel_rfl) (fun _ h=>by cases h) fnConditions_row_tie rfl ⟨rfl,rfl⟩ (by as_aux_lemma=>kernel_rfl) rfl
  (fun f fn hf hfn=>by
   obtain rfl:f=3:=Option.some.inj ((show Tryz.prog.funcNamed "loop.example/g03012/laws.FnConditions" =some 3 by as_aux_lemma=>kernel_rfl).symm.trans hf)|>.symm
   obtain rfl:fn=Tryz.f3:=(Option.some.inj (Tryz.func3.symm.trans hfn)).symm
   exact⟨by as_aux_lemma=>kernel_rfl,fun j t ht=>by
    rw[Tryz.params3]at ht
    have hm:t∈[22]:=by simpa using Array.mem_of_getElem? ht
    have hall:([22].all fun u=> !Tryz.prog.wantsStandIn u)=true:=by as_aux_lemma=>kernel_rfl
    exact(show Tryz.prog.wantsStandIn t=false by simpa using List.all_eq_true.1 hall t hm)⟩)
  (by as_aux_lemma=>kernel_rfl)
#print axioms fnConditions_holds
end Go.Proofs.YtabadclgcgdccaaGreatDoor
