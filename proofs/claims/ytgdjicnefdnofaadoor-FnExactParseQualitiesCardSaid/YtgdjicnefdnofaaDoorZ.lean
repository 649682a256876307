/- The program's ParseQualities returns what the reference's ParseQualities returns, whatever the arguments; no conditions. -/
import Derived.Test.YtgdjicnefdnofaaDoorRows
import Derived.Test.YtgdjicnefdnofaaDoorCards
import Derived.Test.YtgdjicnefdnofaaDoorTie
import Derived.Test.YtgdjicnefdnofaaDoorKp
import Derived.Test.YtgdjicnefdnofaaDoorKv
import Derived.SevenTiedAt
import Derived.LaidMore
import Derived.Lay
import Derived.Stop.Joined
namespace Go.Proofs.YtgdjicnefdnofaaDoor.fnExactParseQualities
open Go Go.RowKit Go.Pv Go.Pu Go.YtgdjicnefdnofaaDoor Go.ChangeShapes Go.WideShapes
set_option linter.unusedVariables false
set_option maxRecDepth 100000
theorem own : ownKnob Tryd.prog.godebug = none := by kernel_rfl
def fuel : Nat := 1073741824
theorem yes : ∀ x, VA X L_FnExactParseQualities_ar x → L_FnExactParseQualities_f fuel x = some true := fun x hx => FnExactParseQualities_pure (k := fuel) (by unfold fuel; omega) x.1 (vv_s hx.1)
theorem els : ∀ e ∈ ([] : List Nat), ElOK X [] e := fun e h => by cases h
def laidL : List (String × DataW Unit) := Rows.fnExactParseQualitiesRow.laid
theorem door_met (os : Os) (args : Array Value) : laidMetH Tryd.prog laidL ((World.laidAll Tryd.prog os laidL).forCall (fun _ _ => 0) ⟨#[], args, []⟩).memory := by
  rw [MakeChecks.laidMetH_plain _ _ _ (by kernel_rfl)]; exact laidMet_laidAll _ (by kernel_rfl) (by kernel_rfl)
theorem lifted (os : Os) (started : os.Started) (H : Type) (enc : TypeId × Value → H) :
    ReturnsInHanded {} Tryd.checked os 8 .any (fun w args => (Rows.fnExactParseQualitiesSpec.pre enc Tryd.prog Tryd.f8 [] false w args ∧ laidMetH Tryd.prog laidL w) ∧ sizedMet enc Tryd.prog Tryd.f8 (OpenSpec.ofChange Rows.fnExactParseQualitiesSpec) false w args) (Rows.fnExactParseQualitiesSpec.post enc Tryd.prog Tryd.f8 false true false false) :=
  said_laid (C := Tryd.checked) (fn := Tryd.f8) (X := X) (els := []) (l := L_FnExactParseQualities_ar) (F := L_FnExactParseQualities_f fuel) (vr := L_FnExactParseQualities_vr) (bt := 4) laidL own started (by kernel_rfl) Tryd.func8 rfl
    (ChangeSpec.witness_shaped (enc := enc) (C := Tryd.checked) (os := os) (X := fun w _ => laidMetH Tryd.prog laidL w) false (World.laidAll Tryd.prog os laidL) #[.string ⟨#[]⟩] 8 (World.laidAll_os _ _ _) (World.shaped_of_ZipB (by kernel_rfl) (by kernel_rfl)) (by kernel_rfl) (by kernel_rfl) (by kernel_rfl) (door_met os _))
    ctx cod els (by kernel_rfl) rfl Tryd.underlying4 (by kernel_rfl) (by kernel_rfl)
    (fun ds h => match ds, h with | [d0], _ => rfl) (fun _ => rfl) (by kernel_rfl) (fun W h hL w' b => maxlen_of (Go.Proofs.cell_of_shapedOpen_int (zero := #[.int .i64 0]) (t := 3) h (of_decide_eq_true (by kernel_rfl)) (by kernel_rfl) rfl (by kernel_rfl) (by kernel_rfl) Go.Proofs.Tryd.underlying3) b) (L_FnExactParseQualities_ok fuel) yes
theorem heavy0 : (Rows.fnExactParseQualitiesRow.inPlace == Tryd.pinned.checked.prog.inPlace 8) = true := by kernel_rfl
theorem heavy1 : (Rows.fnExactParseQualitiesRow.unfollowed == Tryd.pinned.checked.prog.unfollowed 8) = true := by kernel_rfl
theorem heavy2 : (Rows.fnExactParseQualitiesRow.recurses == Tryd.pinned.checked.prog.recurses 8) = true := by kernel_rfl
theorem heavy3 : (Rows.fnExactParseQualitiesRow.named == Tryd.pinned.checked.prog.varsNamed 8) = true := by kernel_rfl
theorem heavy4 : (Rows.fnExactParseQualitiesRow.lifted == Tryd.pinned.checked.prog.liftsFinal) = true := by kernel_rfl
theorem heavy5 : Tryd.pinned.checked.prog.stopsHeard = true := by kernel_rfl
theorem heavy6 : Tryd.pinned.checked.prog.mayEnter = true := by kernel_rfl
theorem heavy7 : (Tryd.pinned.checked.prog.stops == []) = true := by kernel_rfl
theorem heavy8 : (Tryd.pinned.checked.prog.stopKnobs == []) = true := by kernel_rfl
theorem heavy9 : (Rows.fnExactParseQualitiesRow.plainKeys == Tryd.pinned.checked.prog.plainKeys) = true := by kernel_rfl
theorem heavy10 : (Tryd.pinned.checked.prog.make == some Rows.fnExactParseQualitiesRow.make) = true := by kernel_rfl
theorem heavy11 : laidOutB Tryd.pinned.checked.prog = true := by kernel_rfl
theorem heavy12 : mapsRowed Tryd.pinned.checked.prog = true := by kernel_rfl
theorem closed : joinedFacts Tryd.pinned.checked.prog 8 Tryd.f8 Rows.fnExactParseQualitiesSpec Rows.fnExactParseQualitiesRow = true := by
  unfold joinedFacts
  simp only [Bool.and_eq_true]
  repeat' apply And.intro
  all_goals first | (with_reducible first | exact heavy0 | exact heavy1 | exact heavy2 | exact heavy3 | exact heavy4 | exact heavy5 | exact heavy6 | exact heavy7 | exact heavy8 | exact heavy9 | exact heavy10 | exact heavy11 | exact heavy12) | (as_aux_lemma => kernel_rfl)
theorem over : Rows.fnExactParseQualitiesRow.holds Tryd.pinned (OpenSpec.ofChange Rows.fnExactParseQualitiesSpec) :=
  OpenClaim.holds_of_wide 8 Tryd.f8 rfl rfl rfl rfl rfl rfl rfl ⟨rfl, rfl, rfl, rfl, rfl⟩ rfl rfl rfl rfl rfl (by kernel_rfl) Tryd.func8 closed
    (of_decide_eq_true (by kernel_rfl)) (by unfold Func.isWrapper; first | (rw [if_pos (by decide +kernel)]; kernel_rfl) | (rw [if_neg (by decide +kernel)]; exact ⟨rfl, rfl⟩))
    (fun os started H enc _ => lifted os started H enc)
end Go.Proofs.YtgdjicnefdnofaaDoor.fnExactParseQualities
namespace Go.Proofs.YtgdjicnefdnofaaDoor
open Go
theorem fnExactParseQualities_holds : Rows.FnExactParseQualitiesCardSaid :=
  Claim7.holds_tied_plain_at .later [] [.data, .pinned] true (true, "b4c3fbb2dac444bc97f357f1b655b31e42849ec8b7d328cb4958c15d08929af1") true
    fnExactParseQualities.over (fun _ h => by cases h) (by as_aux_lemma => kernel_rfl) (fun _ h => by cases h) fnExactParseQualities_row_tie rfl ⟨rfl, rfl⟩ (by as_aux_lemma => kernel_rfl) rfl
    (fun f fn hf hfn => by
      obtain rfl : f = 8 := Option.some.inj ((show Tryd.prog.funcNamed "loop.example/g03012/laws.FnExactParseQualities" = some 8 by kernel_rfl).symm.trans hf) |>.symm
      obtain rfl : fn = Tryd.f8 := (Option.some.inj (Tryd.func8.symm.trans hfn)).symm
      exact ⟨by as_aux_lemma => kernel_rfl, fun j t ht => by
        rw [Tryd.params8] at ht
        have hm : t ∈ [9] := by simpa using Array.mem_of_getElem? ht
        have hall : ([9].all fun u => !Tryd.prog.wantsStandIn u) = true := by kernel_rfl
        exact (show Tryd.prog.wantsStandIn t = false by simpa using List.all_eq_true.1 hall t hm)⟩)
    (by as_aux_lemma => kernel_rfl)
#print axioms fnExactParseQualities_holds
end Go.Proofs.YtgdjicnefdnofaaDoor
