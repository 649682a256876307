/- The program's VisitorOf returns what the reference's VisitorOf returns, whatever the arguments; no conditions. -/
import Derived.Test.YtgdjicnefdnofaaDoorRows
import Derived.Test.YtgdjicnefdnofaaDoorCards
import Derived.Test.YtgdjicnefdnofaaDoorTie
import Derived.Test.YtgdjicnefdnofaaDoorKp
import Derived.Test.YtgdjicnefdnofaaDoorKv
import Derived.SevenTiedAt
import Derived.LaidMore
import Derived.Lay
import Derived.Stop.Joined
namespace Go.Proofs.YtgdjicnefdnofaaDoor.fnExactVisitorOf
open Go Go.RowKit Go.Pv Go.Pu Go.YtgdjicnefdnofaaDoor Go.ChangeShapes Go.WideShapes
set_option linter.unusedVariables false
set_option maxRecDepth 100000
theorem own : ownKnob Tryd.prog.godebug = none := by kernel_rfl
def fuel : Nat := 1073741824
theorem yes : ∀ x, VA X L_FnExactVisitorOf_ar x → L_FnExactVisitorOf_f fuel x = some true := fun x hx => FnExactVisitorOf_pure (k := fuel) (by unfold fuel; omega) (⟨x.1.1, x.1.2.1, x.1.2.2.1, x.1.2.2.2.1⟩ : LRequest) ⟨(vv_s (hx.1 _ (.head _))), (vv_s (hx.1 _ (.tail _ (.head _)))), (vv_s (hx.1 _ (.tail _ (.tail _ (.head _))))), (vv_l (hx.1 _ (.tail _ (.tail _ (.tail _ (.head _))))) (fun x h => V_LField_of h))⟩
theorem els : ∀ e ∈ ([85] : List Nat), ElOK X [85] e := AllP_mem (p := ElOK X [85]) ⟨⟨[.ks, .ks], by kernel_rfl, fun x => ⟨_, rfl, rfl⟩⟩, trivial⟩
def laidL : List (String × DataW Unit) := Rows.fnExactVisitorOfRow.laid
theorem door_met (os : Os) (args : Array Value) : laidMetH Tryd.prog laidL ((World.laidAll Tryd.prog os laidL).forCall (fun _ _ => 0) ⟨#[], args, []⟩).memory := by
  rw [MakeChecks.laidMetH_plain _ _ _ (by kernel_rfl)]; exact laidMet_laidAll _ (by kernel_rfl) (by kernel_rfl)
theorem lifted (os : Os) (started : os.Started) (H : Type) (enc : TypeId × Value → H) :
    ReturnsInHanded {} Tryd.checked os 6 .any (fun w args => (Rows.fnExactVisitorOfSpec.pre enc Tryd.prog Tryd.f6 [] false w args ∧ laidMetH Tryd.prog laidL w) ∧ sizedMet enc Tryd.prog Tryd.f6 (OpenSpec.ofChange Rows.fnExactVisitorOfSpec) false w args) (Rows.fnExactVisitorOfSpec.post enc Tryd.prog Tryd.f6 false true false false) :=
  said_laid (C := Tryd.checked) (fn := Tryd.f6) (X := X) (els := [85]) (l := L_FnExactVisitorOf_ar) (F := L_FnExactVisitorOf_f fuel) (vr := L_FnExactVisitorOf_vr) (bt := 4) laidL own started (by kernel_rfl) Tryd.func6 rfl
    (ChangeSpec.witness_shaped (enc := enc) (C := Tryd.checked) (os := os) (X := fun w _ => laidMetH Tryd.prog laidL w) false (World.laidAll Tryd.prog os laidL) #[.agg #[.string ⟨#[]⟩, .string ⟨#[]⟩, .string ⟨#[]⟩, .slice none 0 0]] 8 (World.laidAll_os _ _ _) (World.shaped_of_ZipB (by kernel_rfl) (by kernel_rfl)) (by kernel_rfl) (by kernel_rfl) (by kernel_rfl) (door_met os _))
    ctx cod els (by kernel_rfl) rfl Tryd.underlying4 (by kernel_rfl) (by kernel_rfl)
    (fun ds h => match ds, h with | [d0], _ => rfl) (fun _ => rfl) (by kernel_rfl) (fun W h hL w' b => trivial) (L_FnExactVisitorOf_ok fuel) yes
theorem heavy0 : (Rows.fnExactVisitorOfRow.inPlace == Tryd.pinned.checked.prog.inPlace 6) = true := by kernel_rfl
theorem heavy1 : (Rows.fnExactVisitorOfRow.unfollowed == Tryd.pinned.checked.prog.unfollowed 6) = true := by kernel_rfl
theorem heavy2 : (Rows.fnExactVisitorOfRow.recurses == Tryd.pinned.checked.prog.recurses 6) = true := by kernel_rfl
theorem heavy3 : (Rows.fnExactVisitorOfRow.named == Tryd.pinned.checked.prog.varsNamed 6) = true := by kernel_rfl
theorem heavy4 : (Rows.fnExactVisitorOfRow.lifted == Tryd.pinned.checked.prog.liftsFinal) = true := by kernel_rfl
theorem heavy5 : Tryd.pinned.checked.prog.stopsHeard = true := by kernel_rfl
theorem heavy6 : Tryd.pinned.checked.prog.mayEnter = true := by kernel_rfl
theorem heavy7 : (Tryd.pinned.checked.prog.stops == []) = true := by kernel_rfl
theorem heavy8 : (Tryd.pinned.checked.prog.stopKnobs == []) = true := by kernel_rfl
theorem heavy9 : (Rows.fnExactVisitorOfRow.plainKeys == Tryd.pinned.checked.prog.plainKeys) = true := by kernel_rfl
theorem heavy10 : (Tryd.pinned.checked.prog.make == some Rows.fnExactVisitorOfRow.make) = true := by kernel_rfl
theorem heavy11 : laidOutB Tryd.pinned.checked.prog = true := by kernel_rfl
theorem heavy12 : mapsRowed Tryd.pinned.checked.prog = true := by kernel_rfl
theorem closed : joinedFacts Tryd.pinned.checked.prog 6 Tryd.f6 Rows.fnExactVisitorOfSpec Rows.fnExactVisitorOfRow = true := by
  unfold joinedFacts
  simp only [Bool.and_eq_true]
  repeat' apply And.intro
  all_goals first | (with_reducible first | exact heavy0 | exact heavy1 | exact heavy2 | exact heavy3 | exact heavy4 | exact heavy5 | exact heavy6 | exact heavy7 | exact heavy8 | exact heavy9 | exact heavy10 | exact heavy11 | exact heavy12) | (as_aux_lemma => kernel_rfl)
theorem over : Rows.fnExactVisitorOfRow.holds Tryd.pinned (OpenSpec.ofChange Rows.fnExactVisitorOfSpec) :=
  OpenClaim.holds_of_wide 6 Tryd.f6 rfl rfl rfl rfl rfl rfl rfl ⟨rfl, rfl, rfl, rfl, rfl⟩ rfl rfl rfl rfl rfl (by kernel_rfl) Tryd.func6 closed
    (of_decide_eq_true (by kernel_rfl)) (by unfold Func.isWrapper; first | (rw [if_pos (by decide +kernel)]; kernel_rfl) | (rw [if_neg (by decide +kernel)]; exact ⟨rfl, rfl⟩))
    (fun os started H enc _ => lifted os started H enc)
end Go.Proofs.YtgdjicnefdnofaaDoor.fnExactVisitorOf
namespace Go.Proofs.YtgdjicnefdnofaaDoor
open Go
theorem fnExactVisitorOf_holds : Rows.FnExactVisitorOfCardSaid :=
  Claim7.holds_tied_plain_at .later [] [.data, .pinned] true (true, "b4c3fbb2dac444bc97f357f1b655b31e42849ec8b7d328cb4958c15d08929af1") true
    fnExactVisitorOf.over (fun _ h => by cases h) (by as_aux_lemma => kernel_rfl) (fun _ h => by cases h) fnExactVisitorOf_row_tie rfl ⟨rfl, rfl⟩ (by as_aux_lemma => kernel_rfl) rfl
    (fun f fn hf hfn => by
      obtain rfl : f = 6 := Option.some.inj ((show Tryd.prog.funcNamed "loop.example/g03012/laws.FnExactVisitorOf" = some 6 by kernel_rfl).symm.trans hf) |>.symm
      obtain rfl : fn = Tryd.f6 := (Option.some.inj (Tryd.func6.symm.trans hfn)).symm
      exact ⟨by as_aux_lemma => kernel_rfl, fun j t ht => by
        rw [Tryd.params6] at ht
        have hm : t ∈ [34] := by simpa using Array.mem_of_getElem? ht
        have hall : ([34].all fun u => !Tryd.prog.wantsStandIn u) = true := by kernel_rfl
        exact (show Tryd.prog.wantsStandIn t = false by simpa using List.all_eq_true.1 hall t hm)⟩)
    (by as_aux_lemma => kernel_rfl)
#print axioms fnExactVisitorOf_holds
end Go.Proofs.YtgdjicnefdnofaaDoor
