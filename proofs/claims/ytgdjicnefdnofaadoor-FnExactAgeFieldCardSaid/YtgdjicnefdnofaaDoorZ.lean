/- The program's AgeField returns what the reference's AgeField returns, whatever the arguments; no conditions. -/
import Derived.Test.YtgdjicnefdnofaaDoorRows
import Derived.Test.YtgdjicnefdnofaaDoorCards
import Derived.Test.YtgdjicnefdnofaaDoorTie
import Derived.Test.YtgdjicnefdnofaaDoorKp
import Derived.Test.YtgdjicnefdnofaaDoorKv
import Derived.SevenTiedAt
import Derived.LaidMore
import Derived.Lay
import Derived.Stop.Joined
namespace Go.Proofs.YtgdjicnefdnofaaDoor.fnExactAgeField
open Go Go.RowKit Go.Pv Go.Pu Go.YtgdjicnefdnofaaDoor Go.ChangeShapes Go.WideShapes
set_option linter.unusedVariables false
set_option maxRecDepth 100000
theorem own : ownKnob Tryd.prog.godebug = none := by kernel_rfl
def fuel : Nat := 1073741824
theorem yes : ∀ x, VA X L_FnExactAgeField_ar x → L_FnExactAgeField_f fuel x = some true := fun x hx => FnExactAgeField_pure (k := fuel) (by unfold fuel; omega) (⟨x.1.1, x.1.2.1, x.1.2.2.1⟩ : LResponse) ⟨(vv_i (hx.1 _ (.head _))), (vv_l (hx.1 _ (.tail _ (.head _))) (fun x h => V_LField_of h)), (vv_s (hx.1 _ (.tail _ (.tail _ (.head _)))))⟩
theorem els : ∀ e ∈ ([85] : List Nat), ElOK X [85] e := AllP_mem (p := ElOK X [85]) ⟨⟨[.ks, .ks], by kernel_rfl, fun x => ⟨_, rfl, rfl⟩⟩, trivial⟩
def laidL : List (String × DataW Unit) := Rows.fnExactAgeFieldRow.laid
theorem door_met (os : Os) (args : Array Value) : laidMetH Tryd.prog laidL ((World.laidAll Tryd.prog os laidL).forCall (fun _ _ => 0) ⟨#[], args, []⟩).memory := by
  rw [MakeChecks.laidMetH_plain _ _ _ (by kernel_rfl)]; exact laidMet_laidAll _ (by kernel_rfl) (by kernel_rfl)
theorem lifted (os : Os) (started : os.Started) (H : Type) (enc : TypeId × Value → H) :
    ReturnsInHanded {} Tryd.checked os 9 .any (fun w args => (Rows.fnExactAgeFieldSpec.pre enc Tryd.prog Tryd.f9 [] false w args ∧ laidMetH Tryd.prog laidL w) ∧ sizedMet enc Tryd.prog Tryd.f9 (OpenSpec.ofChange Rows.fnExactAgeFieldSpec) false w args) (Rows.fnExactAgeFieldSpec.post enc Tryd.prog Tryd.f9 false true false false) :=
  said_laid (C := Tryd.checked) (fn := Tryd.f9) (X := X) (els := [85]) (l := L_FnExactAgeField_ar) (F := L_FnExactAgeField_f fuel) (vr := L_FnExactAgeField_vr) (bt := 4) laidL own started (by kernel_rfl) Tryd.func9 rfl
    (ChangeSpec.witness_shaped (enc := enc) (C := Tryd.checked) (os := os) (X := fun w _ => laidMetH Tryd.prog laidL w) false (World.laidAll Tryd.prog os laidL) #[.agg #[.int .i64 0, .slice none 0 0, .string ⟨#[]⟩]] 8 (World.laidAll_os _ _ _) (World.shaped_of_ZipB (by kernel_rfl) (by kernel_rfl)) (by kernel_rfl) (by kernel_rfl) (by kernel_rfl) (door_met os _))
    ctx cod els (by kernel_rfl) rfl Tryd.underlying4 (by kernel_rfl) (by kernel_rfl)
    (fun ds h => match ds, h with | [d0], _ => rfl) (fun _ => rfl) (by kernel_rfl) (fun W h hL w' b => ⟨errvar_stays (errvar_at hL 3 (nm := "errors.errorString") (text := [118, 97, 108, 117, 101, 32, 111, 117, 116, 32, 111, 102, 32, 114, 97, 110, 103, 101]) (g := 3) (ti := 123) (tp := 194) (te := 196) (ts := 9) (by kernel_rfl) (by kernel_rfl) (by kernel_rfl) (by kernel_rfl) (by kernel_rfl) (by kernel_rfl) (by decide) (by kernel_rfl) (by kernel_rfl) (by kernel_rfl) (by kernel_rfl) (by kernel_rfl)) b, errvar_stays (errvar_at hL 4 (nm := "errors.errorString") (text := [105, 110, 118, 97, 108, 105, 100, 32, 115, 121, 110, 116, 97, 120]) (g := 2) (ti := 123) (tp := 194) (te := 196) (ts := 9) (by kernel_rfl) (by kernel_rfl) (by kernel_rfl) (by kernel_rfl) (by kernel_rfl) (by kernel_rfl) (by decide) (by kernel_rfl) (by kernel_rfl) (by kernel_rfl) (by kernel_rfl) (by kernel_rfl)) b, tab_stays (tab_at hL 2 (by kernel_rfl) (g := 6) (t := 198) (by kernel_rfl) (by kernel_rfl) Go.Proofs.Tryd.underlying198 Go.Proofs.Tryd.underlying171 (by kernel_rfl) (by kernel_rfl)) b⟩) (L_FnExactAgeField_ok fuel) yes
theorem heavy0 : (Rows.fnExactAgeFieldRow.inPlace == Tryd.pinned.checked.prog.inPlace 9) = true := by kernel_rfl
theorem heavy1 : (Rows.fnExactAgeFieldRow.unfollowed == Tryd.pinned.checked.prog.unfollowed 9) = true := by kernel_rfl
theorem heavy2 : (Rows.fnExactAgeFieldRow.recurses == Tryd.pinned.checked.prog.recurses 9) = true := by kernel_rfl
theorem heavy3 : (Rows.fnExactAgeFieldRow.named == Tryd.pinned.checked.prog.varsNamed 9) = true := by kernel_rfl
theorem heavy4 : (Rows.fnExactAgeFieldRow.lifted == Tryd.pinned.checked.prog.liftsFinal) = true := by kernel_rfl
theorem heavy5 : Tryd.pinned.checked.prog.stopsHeard = true := by kernel_rfl
theorem heavy6 : Tryd.pinned.checked.prog.mayEnter = true := by kernel_rfl
theorem heavy7 : (Tryd.pinned.checked.prog.stops == []) = true := by kernel_rfl
theorem heavy8 : (Tryd.pinned.checked.prog.stopKnobs == []) = true := by kernel_rfl
theorem heavy9 : (Rows.fnExactAgeFieldRow.plainKeys == Tryd.pinned.checked.prog.plainKeys) = true := by kernel_rfl
theorem heavy10 : (Tryd.pinned.checked.prog.make == some Rows.fnExactAgeFieldRow.make) = true := by kernel_rfl
theorem heavy11 : laidOutB Tryd.pinned.checked.prog = true := by kernel_rfl
theorem heavy12 : mapsRowed Tryd.pinned.checked.prog = true := by kernel_rfl
theorem closed : joinedFacts Tryd.pinned.checked.prog 9 Tryd.f9 Rows.fnExactAgeFieldSpec Rows.fnExactAgeFieldRow = true := by
  unfold joinedFacts
  simp only [Bool.and_eq_true]
  repeat' apply And.intro
  all_goals first | (with_reducible first | exact heavy0 | exact heavy1 | exact heavy2 | exact heavy3 | exact heavy4 | exact heavy5 | exact heavy6 | exact heavy7 | exact heavy8 | exact heavy9 | exact heavy10 | exact heavy11 | exact heavy12) | (as_aux_lemma => kernel_rfl)
theorem over : Rows.fnExactAgeFieldRow.holds Tryd.pinned (OpenSpec.ofChange Rows.fnExactAgeFieldSpec) :=
  OpenClaim.holds_of_wide 9 Tryd.f9 rfl rfl rfl rfl rfl rfl rfl ⟨rfl, rfl, rfl, rfl, rfl⟩ rfl rfl rfl rfl rfl (by kernel_rfl) Tryd.func9 closed
    (of_decide_eq_true (by kernel_rfl)) (by unfold Func.isWrapper; first | (rw [if_pos (by decide +kernel)]; kernel_rfl) | (rw [if_neg (by decide +kernel)]; exact ⟨rfl, rfl⟩))
    (fun os started H enc _ => lifted os started H enc)
end Go.Proofs.YtgdjicnefdnofaaDoor.fnExactAgeField
namespace Go.Proofs.YtgdjicnefdnofaaDoor
open Go
theorem fnExactAgeField_holds : Rows.FnExactAgeFieldCardSaid :=
  Claim7.holds_tied_plain_at .later [] [.data, .data, .data, .sentinel, .sentinel] true (true, "b4c3fbb2dac444bc97f357f1b655b31e42849ec8b7d328cb4958c15d08929af1") true
    fnExactAgeField.over (fun _ h => by cases h) (by kernel_rfl) (fun _ h => by cases h) fnExactAgeField_row_tie rfl ⟨rfl, rfl⟩ (by kernel_rfl) rfl
    (fun f fn hf hfn => by
      obtain rfl : f = 9 := Option.some.inj ((show Tryd.prog.funcNamed "loop.example/g03012/laws.FnExactAgeField" = some 9 by kernel_rfl).symm.trans hf) |>.symm
      obtain rfl : fn = Tryd.f9 := (Option.some.inj (Tryd.func9.symm.trans hfn)).symm
      exact ⟨by kernel_rfl, fun j t ht => by
        rw [Tryd.params9] at ht
        have hm : t ∈ [24] := by simpa using Array.mem_of_getElem? ht
        have hall : ([24].all fun u => !Tryd.prog.wantsStandIn u) = true := by kernel_rfl
        exact (show Tryd.prog.wantsStandIn t = false by simpa using List.all_eq_true.1 hall t hm)⟩)
    (by kernel_rfl)
#print axioms fnExactAgeField_holds
end Go.Proofs.YtgdjicnefdnofaaDoor
