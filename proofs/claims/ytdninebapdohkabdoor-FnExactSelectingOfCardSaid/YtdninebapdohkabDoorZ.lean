/- The program's SelectingOf returns what the reference's SelectingOf returns, whatever the arguments; no conditions. -/
import Derived.Test.YtdninebapdohkabDoorRows
import Derived.Test.YtdninebapdohkabDoorCards
import Derived.Test.YtdninebapdohkabDoorTie
import Derived.Test.YtdninebapdohkabDoorKp
import Derived.Test.YtdninebapdohkabDoorKv
import Derived.SevenTiedAt
import Derived.LaidMore
import Derived.Lay
import Derived.Stop.Joined
namespace Go.Proofs.YtdninebapdohkabDoor.fnExactSelectingOf
open Go Go.RowKit Go.Pv Go.Pu Go.YtdninebapdohkabDoor Go.ChangeShapes Go.WideShapes
set_option linter.unusedVariables false
set_option maxRecDepth 100000
theorem own : ownKnob Tryd.prog.godebug = none := by kernel_rfl
def fuel : Nat := 1073741824
theorem yes : ∀ x, VA X L_FnExactSelectingOf_ar x → L_FnExactSelectingOf_f fuel x = some true := fun x hx => FnExactSelectingOf_pure (k := fuel) (by unfold fuel; omega) (⟨x.1.1, x.1.2.1, x.1.2.2.1, x.1.2.2.2.1⟩ : LRequest) x.2.1 ⟨(vv_s (hx.1 _ (.head _))), (vv_s (hx.1 _ (.tail _ (.head _)))), (vv_s (hx.1 _ (.tail _ (.tail _ (.head _))))), (vv_l (hx.1 _ (.tail _ (.tail _ (.tail _ (.head _))))) (fun x h => V_LField_of h))⟩ (vv_l hx.2.1 (fun x h => (vv_s (h _ (.head _)))))
theorem els : ∀ e ∈ ([93, 9] : List Nat), ElOK X [93, 9] e := AllP_mem (p := ElOK X [93, 9]) ⟨⟨[.ks, .ks], by kernel_rfl, fun x => ⟨_, rfl, rfl⟩⟩, ⟨[.ks], by kernel_rfl, fun x => ⟨_, rfl, rfl⟩⟩, trivial⟩
def laidL : List (String × DataW Unit) := Rows.fnExactSelectingOfRow.laid
theorem door_met (os : Os) (args : Array Value) : laidMetH Tryd.prog laidL ((World.laidAll Tryd.prog os laidL).forCall (fun _ _ => 0) ⟨#[], args, []⟩).memory := by
  rw [MakeChecks.laidMetH_plain _ _ _ (by kernel_rfl)]; exact laidMet_laidAll _ (by kernel_rfl) (by kernel_rfl)
theorem lifted (os : Os) (started : os.Started) (H : Type) (enc : TypeId × Value → H) :
    ReturnsInHanded {} Tryd.checked os 9 .any (fun w args => (Rows.fnExactSelectingOfSpec.pre enc Tryd.prog Tryd.f9 [] false w args ∧ laidMetH Tryd.prog laidL w) ∧ sizedMet enc Tryd.prog Tryd.f9 (OpenSpec.ofChange Rows.fnExactSelectingOfSpec) false w args) (Rows.fnExactSelectingOfSpec.post enc Tryd.prog Tryd.f9 false true false false) :=
  said_laid (C := Tryd.checked) (fn := Tryd.f9) (X := X) (els := [93, 9]) (l := L_FnExactSelectingOf_ar) (F := L_FnExactSelectingOf_f fuel) (vr := L_FnExactSelectingOf_vr) (bt := 4) laidL own started (by kernel_rfl) Tryd.func9 rfl
    (ChangeSpec.witness_shaped (enc := enc) (C := Tryd.checked) (os := os) (X := fun w _ => laidMetH Tryd.prog laidL w) false (World.laidAll Tryd.prog os laidL) #[.agg #[.string ⟨#[]⟩, .string ⟨#[]⟩, .string ⟨#[]⟩, .slice none 0 0], .slice none 0 0] 8 (World.laidAll_os _ _ _) (World.shaped_of_ZipB (by kernel_rfl) (by kernel_rfl)) (by kernel_rfl) (by kernel_rfl) (by kernel_rfl) (door_met os _))
    ctx cod els (by kernel_rfl) rfl Tryd.underlying4 (by kernel_rfl) (by kernel_rfl)
    (fun ds h => match ds, h with | [d0, d1], _ => rfl) (fun _ => rfl) (by kernel_rfl) (fun W h hL w' b => trivial) (L_FnExactSelectingOf_ok fuel) yes
theorem heavy0 : (Rows.fnExactSelectingOfRow.inPlace == Tryd.pinned.checked.prog.inPlace 9) = true := by kernel_rfl
theorem heavy1 : (Rows.fnExactSelectingOfRow.unfollowed == Tryd.pinned.checked.prog.unfollowed 9) = true := by kernel_rfl
theorem heavy2 : (Rows.fnExactSelectingOfRow.recurses == Tryd.pinned.checked.prog.recurses 9) = true := by kernel_rfl
theorem heavy3 : (Rows.fnExactSelectingOfRow.named == Tryd.pinned.checked.prog.varsNamed 9) = true := by kernel_rfl
theorem heavy4 : (Rows.fnExactSelectingOfRow.lifted == Tryd.pinned.checked.prog.liftsFinal) = true := by kernel_rfl
theorem heavy5 : Tryd.pinned.checked.prog.stopsHeard = true := by kernel_rfl
theorem heavy6 : Tryd.pinned.checked.prog.mayEnter = true := by kernel_rfl
theorem heavy7 : (Tryd.pinned.checked.prog.stops == []) = true := by kernel_rfl
theorem heavy8 : (Tryd.pinned.checked.prog.stopKnobs == []) = true := by kernel_rfl
theorem heavy9 : (Rows.fnExactSelectingOfRow.plainKeys == Tryd.pinned.checked.prog.plainKeys) = true := by kernel_rfl
theorem heavy10 : (Tryd.pinned.checked.prog.make == some Rows.fnExactSelectingOfRow.make) = true := by kernel_rfl
theorem heavy11 : laidOutB Tryd.pinned.checked.prog = true := by kernel_rfl
theorem heavy12 : mapsRowed Tryd.pinned.checked.prog = true := by kernel_rfl
theorem closed : joinedFacts Tryd.pinned.checked.prog 9 Tryd.f9 Rows.fnExactSelectingOfSpec Rows.fnExactSelectingOfRow = true := by
  unfold joinedFacts
  simp only [Bool.and_eq_true]
  repeat' apply And.intro
  all_goals first | (with_reducible first | exact heavy0 | exact heavy1 | exact heavy2 | exact heavy3 | exact heavy4 | exact heavy5 | exact heavy6 | exact heavy7 | exact heavy8 | exact heavy9 | exact heavy10 | exact heavy11 | exact heavy12) | (as_aux_lemma => kernel_rfl)
theorem over : Rows.fnExactSelectingOfRow.holds Tryd.pinned (OpenSpec.ofChange Rows.fnExactSelectingOfSpec) :=
  OpenClaim.holds_of_wide 9 Tryd.f9 rfl rfl rfl rfl rfl rfl rfl ⟨rfl, rfl, rfl, rfl, rfl⟩ rfl rfl rfl rfl rfl (by kernel_rfl) Tryd.func9 closed
    (of_decide_eq_true (by kernel_rfl)) (by unfold Func.isWrapper; first | (rw [if_pos (by decide +kernel)]; kernel_rfl) | (rw [if_neg (by decide +kernel)]; exact ⟨rfl, rfl⟩))
    (fun os started H enc _ => lifted os started H enc)
end Go.Proofs.YtdninebapdohkabDoor.fnExactSelectingOf
namespace Go.Proofs.YtdninebapdohkabDoor
open Go
theorem fnExactSelectingOf_holds : Rows.FnExactSelectingOfCardSaid :=
  Claim7.holds_tied_plain_at .later [] [.data, .pinned] true (true, "3c8795eeb8ec8e2b52111ba8a40dd82a67910051f5ba31627a33b61c892a66ec") true
    fnExactSelectingOf.over (fun _ h => by cases h) (by kernel_rfl) (fun _ h => by cases h) fnExactSelectingOf_row_tie rfl ⟨rfl, rfl⟩ (by kernel_rfl) rfl
    (fun f fn hf hfn => by
      obtain rfl : f = 9 := Option.some.inj ((show Tryd.prog.funcNamed "loop.example/g03012/laws.FnExactSelectingOf" = some 9 by kernel_rfl).symm.trans hf) |>.symm
      obtain rfl : fn = Tryd.f9 := (Option.some.inj (Tryd.func9.symm.trans hfn)).symm
      exact ⟨by kernel_rfl, fun j t ht => by
        rw [Tryd.params9] at ht
        have hm : t ∈ [37, 56] := by simpa using Array.mem_of_getElem? ht
        have hall : ([37, 56].all fun u => !Tryd.prog.wantsStandIn u) = true := by kernel_rfl
        exact (show Tryd.prog.wantsStandIn t = false by simpa using List.all_eq_true.1 hall t hm)⟩)
    (by kernel_rfl)
#print axioms fnExactSelectingOf_holds
end Go.Proofs.YtdninebapdohkabDoor
