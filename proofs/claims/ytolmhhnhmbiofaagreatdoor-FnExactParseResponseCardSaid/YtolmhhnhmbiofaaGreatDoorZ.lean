/- The program's ParseResponse returns what the reference's ParseResponse returns, whatever the arguments; no conditions. -/
import Derived.Test.YtolmhhnhmbiofaaGreatDoorRows
import Derived.Test.YtolmhhnhmbiofaaGreatDoorCards
import Derived.Test.YtolmhhnhmbiofaaGreatDoorTie
import Derived.Test.YtolmhhnhmbiofaaGreatDoorKp
import Derived.Test.YtolmhhnhmbiofaaGreatDoorKv
import Derived.SevenTiedAt
import Derived.LaidMore
import Derived.Lay
import Derived.Stop.Joined
namespace Go.Proofs.YtolmhhnhmbiofaaGreatDoor.fnExactParseResponse
open Go Go.RowKit Go.Pv Go.Pu Go.YtolmhhnhmbiofaaGreatDoor Go.ChangeShapes Go.WideShapes
set_option linter.unusedVariables false
set_option maxRecDepth 100000
theorem own : ownKnob Tryz.prog.godebug = none := by kernel_rfl
def fuel : Nat := 1073741824
theorem yes : ∀ x, VA X L_FnExactParseResponse_ar x → L_FnExactParseResponse_f fuel x = some true := fun x hx => FnExactParseResponse_pure (k := fuel) (by unfold fuel; omega) x.1 (vv_s hx.1)
theorem els : ∀ e ∈ ([] : List Nat), ElOK X [] e := fun e h => by cases h
def laidL : List (String × DataW Unit) := Rows.fnExactParseResponseRow.laid
theorem door_met (os : Os) (args : Array Value) : laidMetH Tryz.prog laidL ((World.laidAll Tryz.prog os laidL).forCall (fun _ _ => 0) ⟨#[], args, []⟩).memory := by
  rw [MakeChecks.laidMetH_plain _ _ _ (by kernel_rfl)]; exact laidMet_laidAll _ (by kernel_rfl) (by kernel_rfl)
theorem lifted (os : Os) (started : os.Started) (H : Type) (enc : TypeId × Value → H) :
    ReturnsInHanded {} Tryz.checked os 6 .any (fun w args => (Rows.fnExactParseResponseSpec.pre enc Tryz.prog Tryz.f6 [] false w args ∧ laidMetH Tryz.prog laidL w) ∧ sizedMet enc Tryz.prog Tryz.f6 (OpenSpec.ofChange Rows.fnExactParseResponseSpec) false w args) (Rows.fnExactParseResponseSpec.post enc Tryz.prog Tryz.f6 false true false false) :=
  said_laid (C := Tryz.checked) (fn := Tryz.f6) (X := X) (els := []) (l := L_FnExactParseResponse_ar) (F := L_FnExactParseResponse_f fuel) (vr := L_FnExactParseResponse_vr) (bt := 4) laidL own started (by kernel_rfl) Tryz.func6 rfl
    (ChangeSpec.witness_shaped (enc := enc) (C := Tryz.checked) (os := os) (X := fun w _ => laidMetH Tryz.prog laidL w) false (World.laidAll Tryz.prog os laidL) #[.string ⟨#[]⟩] 8 (World.laidAll_os _ _ _) (World.shaped_of_ZipB (by kernel_rfl) (by kernel_rfl)) (by kernel_rfl) (by kernel_rfl) (by kernel_rfl) (door_met os _))
    ctx cod els (by kernel_rfl) rfl Tryz.underlying4 (by kernel_rfl) (by kernel_rfl)
    (fun ds h => match ds, h with | [d0], _ => rfl) (fun _ => rfl) (by kernel_rfl) (fun W h hL w' b => ⟨maxlen_of (Go.Proofs.cell_of_shapedOpen_int (zero := #[.int .i64 0]) (t := 3) h (of_decide_eq_true (by kernel_rfl)) (by kernel_rfl) rfl (by kernel_rfl) (by kernel_rfl) Go.Proofs.Tryz.underlying3) b, errvar_stays (errvar_at hL 4 (nm := "errors.errorString") (text := [118, 97, 108, 117, 101, 32, 111, 117, 116, 32, 111, 102, 32, 114, 97, 110, 103, 101]) (g := 4) (ti := 202) (tp := 326) (te := 328) (ts := 9) (by kernel_rfl) (by kernel_rfl) (by kernel_rfl) (by kernel_rfl) (by kernel_rfl) (by kernel_rfl) (by decide) (by kernel_rfl) (by kernel_rfl) (by kernel_rfl) (by kernel_rfl) (by kernel_rfl)) b, errvar_stays (errvar_at hL 5 (nm := "errors.errorString") (text := [105, 110, 118, 97, 108, 105, 100, 32, 115, 121, 110, 116, 97, 120]) (g := 3) (ti := 202) (tp := 326) (te := 328) (ts := 9) (by kernel_rfl) (by kernel_rfl) (by kernel_rfl) (by kernel_rfl) (by kernel_rfl) (by kernel_rfl) (by decide) (by kernel_rfl) (by kernel_rfl) (by kernel_rfl) (by kernel_rfl) (by kernel_rfl)) b, tab_stays (tab_at hL 2 (by kernel_rfl) (g := 1) (t := 301) (by kernel_rfl) (by kernel_rfl) Go.Proofs.Tryz.underlying301 Go.Proofs.Tryz.underlying265 (by kernel_rfl) (by kernel_rfl)) b⟩) (L_FnExactParseResponse_ok fuel) yes
theorem heavy0 : (Rows.fnExactParseResponseRow.inPlace == Tryz.pinned.checked.prog.inPlace 6) = true := by kernel_rfl
theorem heavy1 : (Rows.fnExactParseResponseRow.unfollowed == Tryz.pinned.checked.prog.unfollowed 6) = true := by kernel_rfl
theorem heavy2 : (Rows.fnExactParseResponseRow.recurses == Tryz.pinned.checked.prog.recurses 6) = true := by kernel_rfl
theorem heavy3 : (Rows.fnExactParseResponseRow.named == Tryz.pinned.checked.prog.varsNamed 6) = true := by kernel_rfl
theorem heavy4 : (Rows.fnExactParseResponseRow.lifted == Tryz.pinned.checked.prog.liftsFinal) = true := by kernel_rfl
theorem heavy5 : Tryz.pinned.checked.prog.stopsHeard = true := by kernel_rfl
theorem heavy6 : Tryz.pinned.checked.prog.mayEnter = true := by kernel_rfl
theorem heavy7 : (Tryz.pinned.checked.prog.stops == []) = true := by kernel_rfl
theorem heavy8 : (Tryz.pinned.checked.prog.stopKnobs == []) = true := by kernel_rfl
theorem heavy9 : (Rows.fnExactParseResponseRow.plainKeys == Tryz.pinned.checked.prog.plainKeys) = true := by kernel_rfl
theorem heavy10 : (Tryz.pinned.checked.prog.make == some Rows.fnExactParseResponseRow.make) = true := by kernel_rfl
theorem heavy11 : laidOutB Tryz.pinned.checked.prog = true := by kernel_rfl
theorem heavy12 : mapsRowed Tryz.pinned.checked.prog = true := by kernel_rfl
theorem closed : joinedFacts Tryz.pinned.checked.prog 6 Tryz.f6 Rows.fnExactParseResponseSpec Rows.fnExactParseResponseRow = true := by
  unfold joinedFacts
  simp only [Bool.and_eq_true]
  repeat' apply And.intro
  all_goals first | (with_reducible first | exact heavy0 | exact heavy1 | exact heavy2 | exact heavy3 | exact heavy4 | exact heavy5 | exact heavy6 | exact heavy7 | exact heavy8 | exact heavy9 | exact heavy10 | exact heavy11 | exact heavy12) | (as_aux_lemma => kernel_rfl)
theorem over : Rows.fnExactParseResponseRow.holds Tryz.pinned (OpenSpec.ofChange Rows.fnExactParseResponseSpec) :=
  OpenClaim.holds_of_wide 6 Tryz.f6 rfl rfl rfl rfl rfl rfl rfl ⟨rfl, rfl, rfl, rfl, rfl⟩ rfl rfl rfl rfl rfl (by kernel_rfl) Tryz.func6 closed
    (of_decide_eq_true (by kernel_rfl)) (by unfold Func.isWrapper; first | (rw [if_pos (by decide +kernel)]; kernel_rfl) | (rw [if_neg (by decide +kernel)]; exact ⟨rfl, rfl⟩))
    (fun os started H enc _ => lifted os started H enc)
end Go.Proofs.YtolmhhnhmbiofaaGreatDoor.fnExactParseResponse
namespace Go.Proofs.YtolmhhnhmbiofaaGreatDoor
open Go
theorem fnExactParseResponse_holds : Rows.FnExactParseResponseCardSaid :=
  Claim7.holds_tied_plain_at .later [] [.data, .data, .data, .data, .sentinel, .sentinel, .pinned] true (true, "98e5794611884f3592c3e4706b43bfe48410afa47250c8b97eb114fbd4787cdf") true
    fnExactParseResponse.over (fun _ h => by cases h) (by as_aux_lemma => kernel_rfl) (fun _ h => by cases h) fnExactParseResponse_row_tie rfl ⟨rfl, rfl⟩ (by as_aux_lemma => kernel_rfl) rfl
    (fun f fn hf hfn => by
      obtain rfl : f = 6 := Option.some.inj ((show Tryz.prog.funcNamed "loop.example/g03012/laws.FnExactParseResponse" = some 6 by as_aux_lemma => kernel_rfl).symm.trans hf) |>.symm
      obtain rfl : fn = Tryz.f6 := (Option.some.inj (Tryz.func6.symm.trans hfn)).symm
      exact ⟨by as_aux_lemma => kernel_rfl, fun j t ht => by
        rw [Tryz.params6] at ht
        have hm : t ∈ [9] := by simpa using Array.mem_of_getElem? ht
        have hall : ([9].all fun u => !Tryz.prog.wantsStandIn u) = true := by as_aux_lemma => kernel_rfl
        exact (show Tryz.prog.wantsStandIn t = false by simpa using List.all_eq_true.1 hall t hm)⟩)
    (by as_aux_lemma => kernel_rfl)
#print axioms fnExactParseResponse_holds
end Go.Proofs.YtolmhhnhmbiofaaGreatDoor
