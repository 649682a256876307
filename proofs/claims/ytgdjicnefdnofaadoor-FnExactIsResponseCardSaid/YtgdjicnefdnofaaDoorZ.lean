/- The program's IsResponse returns what the reference's IsResponse returns, whatever the arguments; no conditions. -/
import Derived.Test.YtgdjicnefdnofaaDoorRows
import Derived.Test.YtgdjicnefdnofaaDoorCards
import Derived.Test.YtgdjicnefdnofaaDoorTie
import Derived.Test.YtgdjicnefdnofaaDoorKp
import Derived.Test.YtgdjicnefdnofaaDoorKv
import Derived.SevenTiedAt
import Derived.LaidMore
import Derived.Lay
import Derived.Stop.Joined
namespace Go.Proofs.YtgdjicnefdnofaaDoor.fnExactIsResponse
open Go Go.RowKit Go.Pv Go.Pu Go.YtgdjicnefdnofaaDoor Go.ChangeShapes Go.WideShapes
set_option linter.unusedVariables false
set_option maxRecDepth 100000
theorem own : ownKnob Tryd.prog.godebug = none := by kernel_rfl
def fuel : Nat := 1073741824
theorem yes : ∀ x, VA X L_FnExactIsResponse_ar x → L_FnExactIsResponse_f fuel x = some true := fun x hx => FnExactIsResponse_pure (k := fuel) (by unfold fuel; omega) (⟨x.1.1, x.1.2.1, x.1.2.2.1⟩ : LResponse) ⟨(vv_i (hx.1 _ (.head _))), (vv_l (hx.1 _ (.tail _ (.head _))) (fun x h => V_LField_of h)), (vv_s (hx.1 _ (.tail _ (.tail _ (.head _)))))⟩
theorem els : ∀ e ∈ ([85] : List Nat), ElOK X [85] e := AllP_mem (p := ElOK X [85]) ⟨⟨[.ks, .ks], by kernel_rfl, fun x => ⟨_, rfl, rfl⟩⟩, trivial⟩
def laidL : List (String × DataW Unit) := Rows.fnExactIsResponseRow.laid
theorem door_met (os : Os) (args : Array Value) : laidMetH Tryd.prog laidL ((World.laidAll Tryd.prog os laidL).forCall (fun _ _ => 0) ⟨#[], args, []⟩).memory := by
  rw [MakeChecks.laidMetH_plain _ _ _ (by kernel_rfl)]; exact laidMet_laidAll _ (by kernel_rfl) (by kernel_rfl)
theorem lifted (os : Os) (started : os.Started) (H : Type) (enc : TypeId × Value → H) :
    ReturnsInHanded {} Tryd.checked os 3 .any (fun w args => (Rows.fnExactIsResponseSpec.pre enc Tryd.prog Tryd.f3 [] false w args ∧ laidMetH Tryd.prog laidL w) ∧ sizedMet enc Tryd.prog Tryd.f3 (OpenSpec.ofChange Rows.fnExactIsResponseSpec) false w args) (Rows.fnExactIsResponseSpec.post enc Tryd.prog Tryd.f3 false true false false) :=
  said_laid (C := Tryd.checked) (fn := Tryd.f3) (X := X) (els := [85]) (l := L_FnExactIsResponse_ar) (F := L_FnExactIsResponse_f fuel) (vr := L_FnExactIsResponse_vr) (bt := 4) laidL own started (by kernel_rfl) Tryd.func3 rfl
    (ChangeSpec.witness_shaped (enc := enc) (C := Tryd.checked) (os := os) (X := fun w _ => laidMetH Tryd.prog laidL w) false (World.laidAll Tryd.prog os laidL) #[.agg #[.int .i64 0, .slice none 0 0, .string ⟨#[]⟩]] 8 (World.laidAll_os _ _ _) (World.shaped_of_ZipB (by kernel_rfl) (by kernel_rfl)) (by kernel_rfl) (by kernel_rfl) (by kernel_rfl) (door_met os _))
    ctx cod els (by kernel_rfl) rfl Tryd.underlying4 (by kernel_rfl) (by kernel_rfl)
    (fun ds h => match ds, h with | [d0], _ => rfl) (fun _ => rfl) (by kernel_rfl) (fun W h hL w' b => trivial) (L_FnExactIsResponse_ok fuel) yes
theorem heavy0 : (Rows.fnExactIsResponseRow.inPlace == Tryd.pinned.checked.prog.inPlace 3) = true := by kernel_rfl
theorem heavy1 : (Rows.fnExactIsResponseRow.unfollowed == Tryd.pinned.checked.prog.unfollowed 3) = true := by kernel_rfl
theorem heavy2 : (Rows.fnExactIsResponseRow.recurses == Tryd.pinned.checked.prog.recurses 3) = true := by kernel_rfl
theorem heavy3 : (Rows.fnExactIsResponseRow.named == Tryd.pinned.checked.prog.varsNamed 3) = true := by kernel_rfl
theorem heavy4 : (Rows.fnExactIsResponseRow.lifted == Tryd.pinned.checked.prog.liftsFinal) = true := by kernel_rfl
theorem heavy5 : Tryd.pinned.checked.prog.stopsHeard = true := by kernel_rfl
theorem heavy6 : Tryd.pinned.checked.prog.mayEnter = true := by kernel_rfl
theorem heavy7 : (Tryd.pinned.checked.prog.stops == []) = true := by kernel_rfl
theorem heavy8 : (Tryd.pinned.checked.prog.stopKnobs == []) = true := by kernel_rfl
theorem heavy9 : (Rows.fnExactIsResponseRow.plainKeys == Tryd.pinned.checked.prog.plainKeys) = true := by kernel_rfl
theorem heavy10 : (Tryd.pinned.checked.prog.make == some Rows.fnExactIsResponseRow.make) = true := by kernel_rfl
theorem heavy11 : laidOutB Tryd.pinned.checked.prog = true := by kernel_rfl
theorem heavy12 : mapsRowed Tryd.pinned.checked.prog = true := by kernel_rfl
theorem closed : joinedFacts Tryd.pinned.checked.prog 3 Tryd.f3 Rows.fnExactIsResponseSpec Rows.fnExactIsResponseRow = true := by
  unfold joinedFacts
  simp only [Bool.and_eq_true]
  repeat' apply And.intro
  all_goals first | (with_reducible first | exact heavy0 | exact heavy1 | exact heavy2 | exact heavy3 | exact heavy4 | exact heavy5 | exact heavy6 | exact heavy7 | exact heavy8 | exact heavy9 | exact heavy10 | exact heavy11 | exact heavy12) | (as_aux_lemma => kernel_rfl)
theorem over : Rows.fnExactIsResponseRow.holds Tryd.pinned (OpenSpec.ofChange Rows.fnExactIsResponseSpec) :=
  OpenClaim.holds_of_wide 3 Tryd.f3 rfl rfl rfl rfl rfl rfl rfl ⟨rfl, rfl, rfl, rfl, rfl⟩ rfl rfl rfl rfl rfl (by kernel_rfl) Tryd.func3 closed
    (of_decide_eq_true (by kernel_rfl)) (by unfold Func.isWrapper; first | (rw [if_pos (by decide +kernel)]; kernel_rfl) | (rw [if_neg (by decide +kernel)]; exact ⟨rfl, rfl⟩))
    (fun os started H enc _ => lifted os started H enc)
end Go.Proofs.YtgdjicnefdnofaaDoor.fnExactIsResponse
namespace Go.Proofs.YtgdjicnefdnofaaDoor
open Go
theorem fnExactIsResponse_holds : Rows.FnExactIsResponseCardSaid :=
  Claim7.holds_tied_plain_at .later [] [.data, .pinned] true (true, "b4c3fbb2dac444bc97f357f1b655b31e42849ec8b7d328cb4958c15d08929af1") true
    fnExactIsResponse.over (fun _ h => by cases h) (by as_aux_lemma => kernel_rfl) (fun _ h => by cases h) fnExactIsResponse_row_tie rfl ⟨rfl, rfl⟩ (by as_aux_lemma => kernel_rfl) rfl
    (fun f fn hf hfn => by
      obtain rfl : f = 3 := Option.some.inj ((show Tryd.prog.funcNamed "loop.example/g03012/laws.FnExactIsResponse" = some 3 by kernel_rfl).symm.trans hf) |>.symm
      obtain rfl : fn = Tryd.f3 := (Option.some.inj (Tryd.func3.symm.trans hfn)).symm
      exact ⟨by as_aux_lemma => kernel_rfl, fun j t ht => by
        rw [Tryd.params3] at ht
        have hm : t ∈ [24] := by simpa using Array.mem_of_getElem? ht
        have hall : ([24].all fun u => !Tryd.prog.wantsStandIn u) = true := by kernel_rfl
        exact (show Tryd.prog.wantsStandIn t = false by simpa using List.all_eq_true.1 hall t hm)⟩)
    (by as_aux_lemma => kernel_rfl)
#print axioms fnExactIsResponse_holds
end Go.Proofs.YtgdjicnefdnofaaDoor
