/- The program's VaryOf returns what the reference's VaryOf returns, whatever the arguments; no conditions. -/
import Derived.Test.YtgdjicnefdnofaaDoorRows
import Derived.Test.YtgdjicnefdnofaaDoorCards
import Derived.Test.YtgdjicnefdnofaaDoorTie
import Derived.Test.YtgdjicnefdnofaaDoorKp
import Derived.Test.YtgdjicnefdnofaaDoorKv
import Derived.SevenTiedAt
import Derived.LaidMore
import Derived.Lay
import Derived.Stop.Joined
namespace Go.Proofs.YtgdjicnefdnofaaDoor.fnExactVaryOf
open Go Go.RowKit Go.Pv Go.Pu Go.YtgdjicnefdnofaaDoor Go.ChangeShapes Go.WideShapes
set_option linter.unusedVariables false
set_option maxRecDepth 100000
theorem own : ownKnob Tryd.prog.godebug = none := by kernel_rfl
def fuel : Nat := 1073741824
theorem yes : ∀ x, VA X L_FnExactVaryOf_ar x → L_FnExactVaryOf_f fuel x = some true := fun x hx => FnExactVaryOf_pure (k := fuel) (by unfold fuel; omega) x.1 (vv_l hx.1 (fun x h => V_LField_of h))
theorem els : ∀ e ∈ ([85] : List Nat), ElOK X [85] e := AllP_mem (p := ElOK X [85]) ⟨⟨[.ks, .ks], by kernel_rfl, fun x => ⟨_, rfl, rfl⟩⟩, trivial⟩
def laidL : List (String × DataW Unit) := Rows.fnExactVaryOfRow.laid
theorem door_met (os : Os) (args : Array Value) : laidMetH Tryd.prog laidL ((World.laidAll Tryd.prog os laidL).forCall (fun _ _ => 0) ⟨#[], args, []⟩).memory := by
  rw [MakeChecks.laidMetH_plain _ _ _ (by kernel_rfl)]; exact laidMet_laidAll _ (by kernel_rfl) (by kernel_rfl)
theorem lifted (os : Os) (started : os.Started) (H : Type) (enc : TypeId × Value → H) :
    ReturnsInHanded {} Tryd.checked os 7 .any (fun w args => (Rows.fnExactVaryOfSpec.pre enc Tryd.prog Tryd.f7 [] false w args ∧ laidMetH Tryd.prog laidL w) ∧ sizedMet enc Tryd.prog Tryd.f7 (OpenSpec.ofChange Rows.fnExactVaryOfSpec) false w args) (Rows.fnExactVaryOfSpec.post enc Tryd.prog Tryd.f7 false true false false) :=
  said_laid (C := Tryd.checked) (fn := Tryd.f7) (X := X) (els := [85]) (l := L_FnExactVaryOf_ar) (F := L_FnExactVaryOf_f fuel) (vr := L_FnExactVaryOf_vr) (bt := 4) laidL own started (by kernel_rfl) Tryd.func7 rfl
    (ChangeSpec.witness_shaped (enc := enc) (C := Tryd.checked) (os := os) (X := fun w _ => laidMetH Tryd.prog laidL w) false (World.laidAll Tryd.prog os laidL) #[.slice none 0 0] 8 (World.laidAll_os _ _ _) (World.shaped_of_ZipB (by kernel_rfl) (by kernel_rfl)) (by kernel_rfl) (by kernel_rfl) (by kernel_rfl) (door_met os _))
    ctx cod els (by kernel_rfl) rfl Tryd.underlying4 (by kernel_rfl) (by kernel_rfl)
    (fun ds h => match ds, h with | [d0], _ => rfl) (fun _ => rfl) (by kernel_rfl) (fun W h hL w' b => trivial) (L_FnExactVaryOf_ok fuel) yes
theorem heavy0 : (Rows.fnExactVaryOfRow.inPlace == Tryd.pinned.checked.prog.inPlace 7) = true := by kernel_rfl
theorem heavy1 : (Rows.fnExactVaryOfRow.unfollowed == Tryd.pinned.checked.prog.unfollowed 7) = true := by kernel_rfl
theorem heavy2 : (Rows.fnExactVaryOfRow.recurses == Tryd.pinned.checked.prog.recurses 7) = true := by kernel_rfl
theorem heavy3 : (Rows.fnExactVaryOfRow.named == Tryd.pinned.checked.prog.varsNamed 7) = true := by kernel_rfl
theorem heavy4 : (Rows.fnExactVaryOfRow.lifted == Tryd.pinned.checked.prog.liftsFinal) = true := by kernel_rfl
theorem heavy5 : Tryd.pinned.checked.prog.stopsHeard = true := by kernel_rfl
theorem heavy6 : Tryd.pinned.checked.prog.mayEnter = true := by kernel_rfl
theorem heavy7 : (Tryd.pinned.checked.prog.stops == []) = true := by kernel_rfl
theorem heavy8 : (Tryd.pinned.checked.prog.stopKnobs == []) = true := by kernel_rfl
theorem heavy9 : (Rows.fnExactVaryOfRow.plainKeys == Tryd.pinned.checked.prog.plainKeys) = true := by kernel_rfl
theorem heavy10 : (Tryd.pinned.checked.prog.make == some Rows.fnExactVaryOfRow.make) = true := by kernel_rfl
theorem heavy11 : laidOutB Tryd.pinned.checked.prog = true := by kernel_rfl
theorem heavy12 : mapsRowed Tryd.pinned.checked.prog = true := by kernel_rfl
theorem closed : joinedFacts Tryd.pinned.checked.prog 7 Tryd.f7 Rows.fnExactVaryOfSpec Rows.fnExactVaryOfRow = true := by
  unfold joinedFacts
  simp only [Bool.and_eq_true]
  repeat' apply And.intro
  all_goals first | (with_reducible first | exact heavy0 | exact heavy1 | exact heavy2 | exact heavy3 | exact heavy4 | exact heavy5 | exact heavy6 | exact heavy7 | exact heavy8 | exact heavy9 | exact heavy10 | exact heavy11 | exact heavy12) | (as_aux_lemma => kernel_rfl)
theorem over : Rows.fnExactVaryOfRow.holds Tryd.pinned (OpenSpec.ofChange Rows.fnExactVaryOfSpec) :=
  OpenClaim.holds_of_wide 7 Tryd.f7 rfl rfl rfl rfl rfl rfl rfl ⟨rfl, rfl, rfl, rfl, rfl⟩ rfl rfl rfl rfl rfl (by kernel_rfl) Tryd.func7 closed
    (of_decide_eq_true (by kernel_rfl)) (by unfold Func.isWrapper; first | (rw [if_pos (by decide +kernel)]; kernel_rfl) | (rw [if_neg (by decide +kernel)]; exact ⟨rfl, rfl⟩))
    (fun os started H enc _ => lifted os started H enc)
end Go.Proofs.YtgdjicnefdnofaaDoor.fnExactVaryOf
namespace Go.Proofs.YtgdjicnefdnofaaDoor
open Go
theorem fnExactVaryOf_holds : Rows.FnExactVaryOfCardSaid :=
  Claim7.holds_tied_plain_at .later [] [.data, .pinned] true (true, "b4c3fbb2dac444bc97f357f1b655b31e42849ec8b7d328cb4958c15d08929af1") true
    fnExactVaryOf.over (fun _ h => by cases h) (by as_aux_lemma => kernel_rfl) (fun _ h => by cases h) fnExactVaryOf_row_tie rfl ⟨rfl, rfl⟩ (by as_aux_lemma => kernel_rfl) rfl
    (fun f fn hf hfn => by
      obtain rfl : f = 7 := Option.some.inj ((show Tryd.prog.funcNamed "loop.example/g03012/laws.FnExactVaryOf" = some 7 by kernel_rfl).symm.trans hf) |>.symm
      obtain rfl : fn = Tryd.f7 := (Option.some.inj (Tryd.func7.symm.trans hfn)).symm
      exact ⟨by as_aux_lemma => kernel_rfl, fun j t ht => by
        rw [Tryd.params7] at ht
        have hm : t ∈ [22] := by simpa using Array.mem_of_getElem? ht
        have hall : ([22].all fun u => !Tryd.prog.wantsStandIn u) = true := by kernel_rfl
        exact (show Tryd.prog.wantsStandIn t = false by simpa using List.all_eq_true.1 hall t hm)⟩)
    (by as_aux_lemma => kernel_rfl)
#print axioms fnExactVaryOf_holds
end Go.Proofs.YtgdjicnefdnofaaDoor
