/- The program's PlanFor returns what the reference's PlanFor returns, whatever the arguments; no conditions. -/
import Derived.Test.YtbfkbplolhniiaaDoorRows
import Derived.Test.YtbfkbplolhniiaaDoorCards
import Derived.Test.YtbfkbplolhniiaaDoorTie
import Derived.Test.YtbfkbplolhniiaaDoorKp
import Derived.Test.YtbfkbplolhniiaaDoorKv
import Derived.SevenTiedAt
import Derived.LaidMore
import Derived.Lay
import Derived.Stop.Joined
namespace Go.Proofs.YtbfkbplolhniiaaDoor.fnExactPlanFor
open Go Go.RowKit Go.Pv Go.Pu Go.YtbfkbplolhniiaaDoor Go.ChangeShapes Go.WideShapes
set_option linter.unusedVariables false
set_option maxRecDepth 100000
theorem own : ownKnob Tryd.prog.godebug = none := by kernel_rfl
def fuel : Nat := 1073741824
theorem yes : ∀ x, VA X L_FnExactPlanFor_ar x → L_FnExactPlanFor_f fuel x = some true := fun x hx => FnExactPlanFor_pure (k := fuel) (by unfold fuel; omega) (⟨x.1.1, x.1.2.1, x.1.2.2.1, x.1.2.2.2.1⟩ : LRequest) (⟨x.2.1.1, x.2.1.2.1, x.2.1.2.2.1⟩ : LResponse) x.2.2.1 x.2.2.2.1 ⟨(vv_s (hx.1 _ (.head _))), (vv_s (hx.1 _ (.tail _ (.head _)))), (vv_s (hx.1 _ (.tail _ (.tail _ (.head _))))), (vv_l (hx.1 _ (.tail _ (.tail _ (.tail _ (.head _))))) (fun x h => V_LField_of h))⟩ ⟨(vv_i (hx.2.1 _ (.head _))), (vv_l (hx.2.1 _ (.tail _ (.head _))) (fun x h => V_LField_of h)), (vv_s (hx.2.1 _ (.tail _ (.tail _ (.head _)))))⟩ (vv_i hx.2.2.1) (vv_i hx.2.2.2.1)
theorem els : ∀ e ∈ ([90] : List Nat), ElOK X [90] e := AllP_mem (p := ElOK X [90]) ⟨⟨[.ks, .ks], by kernel_rfl, fun x => ⟨_, rfl, rfl⟩⟩, trivial⟩
def laidL : List (String × DataW Unit) := Rows.fnExactPlanForRow.laid
theorem door_met (os : Os) (args : Array Value) : laidMetH Tryd.prog laidL ((World.laidAll Tryd.prog os laidL).forCall (fun _ _ => 0) ⟨#[], args, []⟩).memory := by
  rw [MakeChecks.laidMetH_plain _ _ _ (by kernel_rfl)]; exact laidMet_laidAll _ (by kernel_rfl) (by kernel_rfl)
theorem lifted (os : Os) (started : os.Started) (H : Type) (enc : TypeId × Value → H) :
    ReturnsInHanded {} Tryd.checked os 6 .any (fun w args => (Rows.fnExactPlanForSpec.pre enc Tryd.prog Tryd.f6 [] false w args ∧ laidMetH Tryd.prog laidL w) ∧ sizedMet enc Tryd.prog Tryd.f6 (OpenSpec.ofChange Rows.fnExactPlanForSpec) false w args) (Rows.fnExactPlanForSpec.post enc Tryd.prog Tryd.f6 false true false false) :=
  said_laid (C := Tryd.checked) (fn := Tryd.f6) (X := X) (els := [90]) (l := L_FnExactPlanFor_ar) (F := L_FnExactPlanFor_f fuel) (vr := L_FnExactPlanFor_vr) (bt := 4) laidL own started (by kernel_rfl) Tryd.func6 rfl
    (ChangeSpec.witness_shaped (enc := enc) (C := Tryd.checked) (os := os) (X := fun w _ => laidMetH Tryd.prog laidL w) false (World.laidAll Tryd.prog os laidL) #[.agg #[.string ⟨#[]⟩, .string ⟨#[]⟩, .string ⟨#[]⟩, .slice none 0 0], .agg #[.int .i64 0, .slice none 0 0, .string ⟨#[]⟩], .int .i64 0, .int .i64 0] 8 (World.laidAll_os _ _ _) (World.shaped_of_ZipB (by kernel_rfl) (by kernel_rfl)) (by kernel_rfl) (by kernel_rfl) (by kernel_rfl) (door_met os _))
    ctx cod els (by kernel_rfl) rfl Tryd.underlying4 (by kernel_rfl) (by kernel_rfl)
    (fun ds h => match ds, h with | [d0, d1, d2, d3], _ => rfl) (fun _ => rfl) (by kernel_rfl) (fun W h hL w' b => maxlen_of (Go.Proofs.cell_of_shapedOpen_int (zero := #[.int .i64 0]) (t := 3) h (of_decide_eq_true (by kernel_rfl)) (by kernel_rfl) rfl (by kernel_rfl) (by kernel_rfl) Go.Proofs.Tryd.underlying3) b) (L_FnExactPlanFor_ok fuel) yes
theorem heavy0 : (Rows.fnExactPlanForRow.inPlace == Tryd.pinned.checked.prog.inPlace 6) = true := by kernel_rfl
theorem heavy1 : (Rows.fnExactPlanForRow.unfollowed == Tryd.pinned.checked.prog.unfollowed 6) = true := by kernel_rfl
theorem heavy2 : (Rows.fnExactPlanForRow.recurses == Tryd.pinned.checked.prog.recurses 6) = true := by kernel_rfl
theorem heavy3 : (Rows.fnExactPlanForRow.named == Tryd.pinned.checked.prog.varsNamed 6) = true := by kernel_rfl
theorem heavy4 : (Rows.fnExactPlanForRow.lifted == Tryd.pinned.checked.prog.liftsFinal) = true := by kernel_rfl
theorem heavy5 : Tryd.pinned.checked.prog.stopsHeard = true := by kernel_rfl
theorem heavy6 : Tryd.pinned.checked.prog.mayEnter = true := by kernel_rfl
theorem heavy7 : (Tryd.pinned.checked.prog.stops == []) = true := by kernel_rfl
theorem heavy8 : (Tryd.pinned.checked.prog.stopKnobs == []) = true := by kernel_rfl
theorem heavy9 : (Rows.fnExactPlanForRow.plainKeys == Tryd.pinned.checked.prog.plainKeys) = true := by kernel_rfl
theorem heavy10 : (Tryd.pinned.checked.prog.make == some Rows.fnExactPlanForRow.make) = true := by kernel_rfl
theorem heavy11 : laidOutB Tryd.pinned.checked.prog = true := by kernel_rfl
theorem heavy12 : mapsRowed Tryd.pinned.checked.prog = true := by kernel_rfl
theorem closed : joinedFacts Tryd.pinned.checked.prog 6 Tryd.f6 Rows.fnExactPlanForSpec Rows.fnExactPlanForRow = true := by
  unfold joinedFacts
  simp only [Bool.and_eq_true]
  repeat' apply And.intro
  all_goals first | (with_reducible first | exact heavy0 | exact heavy1 | exact heavy2 | exact heavy3 | exact heavy4 | exact heavy5 | exact heavy6 | exact heavy7 | exact heavy8 | exact heavy9 | exact heavy10 | exact heavy11 | exact heavy12) | (as_aux_lemma => kernel_rfl)
theorem over : Rows.fnExactPlanForRow.holds Tryd.pinned (OpenSpec.ofChange Rows.fnExactPlanForSpec) :=
  OpenClaim.holds_of_wide 6 Tryd.f6 rfl rfl rfl rfl rfl rfl rfl ⟨rfl, rfl, rfl, rfl, rfl⟩ rfl rfl rfl rfl rfl (by kernel_rfl) Tryd.func6 closed
    (of_decide_eq_true (by kernel_rfl)) (by unfold Func.isWrapper; first | (rw [if_pos (by decide +kernel)]; kernel_rfl) | (rw [if_neg (by decide +kernel)]; exact ⟨rfl, rfl⟩))
    (fun os started H enc _ => lifted os started H enc)
end Go.Proofs.YtbfkbplolhniiaaDoor.fnExactPlanFor
namespace Go.Proofs.YtbfkbplolhniiaaDoor
open Go
theorem fnExactPlanFor_holds : Rows.FnExactPlanForCardSaid :=
  Claim7.holds_tied_plain_at .later [] [.data, .pinned] true (true, "ad31fd3ec30a4ad0d5a86aa83ae7b56888066766f90485e8efe67dc4e16799f8") false
    fnExactPlanFor.over (fun _ h => by cases h) (by kernel_rfl) (fun _ h => by cases h) fnExactPlanFor_row_tie rfl ⟨rfl, rfl⟩ (by kernel_rfl) rfl
    (fun f fn hf hfn => by
      obtain rfl : f = 6 := Option.some.inj ((show Tryd.prog.funcNamed "loop.example/g03012/laws.FnExactPlanFor" = some 6 by kernel_rfl).symm.trans hf) |>.symm
      obtain rfl : fn = Tryd.f6 := (Option.some.inj (Tryd.func6.symm.trans hfn)).symm
      exact ⟨by kernel_rfl, fun j t ht => by
        rw [Tryd.params6] at ht
        have hm : t ∈ [27, 29, 3, 3] := by simpa using Array.mem_of_getElem? ht
        have hall : ([27, 29, 3, 3].all fun u => !Tryd.prog.wantsStandIn u) = true := by kernel_rfl
        exact (show Tryd.prog.wantsStandIn t = false by simpa using List.all_eq_true.1 hall t hm)⟩)
    (by kernel_rfl)
#print axioms fnExactPlanFor_holds
end Go.Proofs.YtbfkbplolhniiaaDoor
