/- The program's RangeHolds returns what the reference's RangeHolds returns, whatever the arguments; no conditions. -/
import Derived.Test.YtjpfnppiocloeaaGreatDoorRows
import Derived.Test.YtjpfnppiocloeaaGreatDoorCards
import Derived.Test.YtjpfnppiocloeaaGreatDoorTie
import Derived.Test.YtjpfnppiocloeaaGreatDoorKp
import Derived.Test.YtjpfnppiocloeaaGreatDoorKv
import Derived.SevenTiedAt
import Derived.LaidMore
import Derived.Lay
import Derived.Stop.Joined
namespace Go.Proofs.YtjpfnppiocloeaaGreatDoor.fnExactRangeHolds
open Go Go.RowKit Go.Pv Go.Pu Go.YtjpfnppiocloeaaGreatDoor Go.ChangeShapes Go.WideShapes
set_option linter.unusedVariables false
set_option maxRecDepth 100000
theorem own : ownKnob Tryz.prog.godebug = none := by kernel_rfl
def fuel : Nat := 1073741824
theorem yes : ∀ x, VA X L_FnExactRangeHolds_ar x → L_FnExactRangeHolds_f fuel x = some true := fun x hx => FnExactRangeHolds_pure (k := fuel) (by unfold fuel; omega) (⟨x.1.1, x.1.2.1, x.1.2.2.1, x.1.2.2.2.1⟩ : LRequest) (⟨x.2.1.1, x.2.1.2.1, x.2.1.2.2.1⟩ : LResponse) ⟨(vv_s (hx.1 _ (.head _))), (vv_s (hx.1 _ (.tail _ (.head _)))), (vv_s (hx.1 _ (.tail _ (.tail _ (.head _))))), (vv_l (hx.1 _ (.tail _ (.tail _ (.tail _ (.head _))))) (fun x h => V_LField_of h))⟩ ⟨(vv_i (hx.2.1 _ (.head _))), (vv_l (hx.2.1 _ (.tail _ (.head _))) (fun x h => V_LField_of h)), (vv_s (hx.2.1 _ (.tail _ (.tail _ (.head _)))))⟩
theorem els : ∀ e ∈ ([100] : List Nat), ElOK X [100] e := AllP_mem (p := ElOK X [100]) ⟨⟨[.ks, .ks], by kernel_rfl, fun x => ⟨_, rfl, rfl⟩⟩, trivial⟩
def laidL : List (String × DataW Unit) := Rows.fnExactRangeHoldsRow.laid
theorem door_met (os : Os) (args : Array Value) : laidMetH Tryz.prog laidL ((World.laidAll Tryz.prog os laidL).forCall (fun _ _ => 0) ⟨#[], args, []⟩).memory := by
  rw [MakeChecks.laidMetH_plain _ _ _ (by kernel_rfl)]; exact laidMet_laidAll _ (by kernel_rfl) (by kernel_rfl)
theorem lifted (os : Os) (started : os.Started) (H : Type) (enc : TypeId × Value → H) :
    ReturnsInHanded {} Tryz.checked os 6 .any (fun w args => (Rows.fnExactRangeHoldsSpec.pre enc Tryz.prog Tryz.f6 [] false w args ∧ laidMetH Tryz.prog laidL w) ∧ sizedMet enc Tryz.prog Tryz.f6 (OpenSpec.ofChange Rows.fnExactRangeHoldsSpec) false w args) (Rows.fnExactRangeHoldsSpec.post enc Tryz.prog Tryz.f6 false true false false) :=
  said_laid (C := Tryz.checked) (fn := Tryz.f6) (X := X) (els := [100]) (l := L_FnExactRangeHolds_ar) (F := L_FnExactRangeHolds_f fuel) (vr := L_FnExactRangeHolds_vr) (bt := 4) laidL own started (by kernel_rfl) Tryz.func6 rfl
    (ChangeSpec.witness_shaped (enc := enc) (C := Tryz.checked) (os := os) (X := fun w _ => laidMetH Tryz.prog laidL w) false (World.laidAll Tryz.prog os laidL) #[.agg #[.string ⟨#[]⟩, .string ⟨#[]⟩, .string ⟨#[]⟩, .slice none 0 0], .agg #[.int .i64 0, .slice none 0 0, .string ⟨#[]⟩]] 8 (World.laidAll_os _ _ _) (World.shaped_of_ZipB (by kernel_rfl) (by kernel_rfl)) (by kernel_rfl) (by kernel_rfl) (by kernel_rfl) (door_met os _))
    ctx cod els (by kernel_rfl) rfl Tryz.underlying4 (by kernel_rfl) (by kernel_rfl)
    (fun ds h => match ds, h with | [d0, d1], _ => rfl) (fun _ => rfl) (by kernel_rfl) (fun W h hL w' b => ⟨maxlen_of (Go.Proofs.cell_of_shapedOpen_int (zero := #[.int .i64 0]) (t := 3) h (of_decide_eq_true (by kernel_rfl)) (by kernel_rfl) rfl (by kernel_rfl) (by kernel_rfl) Go.Proofs.Tryz.underlying3) b, errvar_stays (errvar_at hL 4 (nm := "errors.errorString") (text := [118, 97, 108, 117, 101, 32, 111, 117, 116, 32, 111, 102, 32, 114, 97, 110, 103, 101]) (g := 5) (ti := 155) (tp := 260) (te := 262) (ts := 9) (by kernel_rfl) (by kernel_rfl) (by kernel_rfl) (by kernel_rfl) (by kernel_rfl) (by kernel_rfl) (by decide) (by kernel_rfl) (by kernel_rfl) (by kernel_rfl) (by kernel_rfl) (by kernel_rfl)) b, errvar_stays (errvar_at hL 5 (nm := "errors.errorString") (text := [105, 110, 118, 97, 108, 105, 100, 32, 115, 121, 110, 116, 97, 120]) (g := 4) (ti := 155) (tp := 260) (te := 262) (ts := 9) (by kernel_rfl) (by kernel_rfl) (by kernel_rfl) (by kernel_rfl) (by kernel_rfl) (by kernel_rfl) (by decide) (by kernel_rfl) (by kernel_rfl) (by kernel_rfl) (by kernel_rfl) (by kernel_rfl)) b, tab_stays (tab_at hL 2 (by kernel_rfl) (g := 6) (t := 268) (by kernel_rfl) (by kernel_rfl) Go.Proofs.Tryz.underlying268 Go.Proofs.Tryz.underlying202 (by kernel_rfl) (by kernel_rfl)) b⟩) (L_FnExactRangeHolds_ok fuel) yes
theorem heavy0 : (Rows.fnExactRangeHoldsRow.inPlace == Tryz.pinned.checked.prog.inPlace 6) = true := by kernel_rfl
theorem heavy1 : (Rows.fnExactRangeHoldsRow.unfollowed == Tryz.pinned.checked.prog.unfollowed 6) = true := by kernel_rfl
theorem heavy2 : (Rows.fnExactRangeHoldsRow.recurses == Tryz.pinned.checked.prog.recurses 6) = true := by kernel_rfl
theorem heavy3 : (Rows.fnExactRangeHoldsRow.named == Tryz.pinned.checked.prog.varsNamed 6) = true := by kernel_rfl
theorem heavy4 : (Rows.fnExactRangeHoldsRow.lifted == Tryz.pinned.checked.prog.liftsFinal) = true := by kernel_rfl
theorem heavy5 : Tryz.pinned.checked.prog.stopsHeard = true := by kernel_rfl
theorem heavy6 : Tryz.pinned.checked.prog.mayEnter = true := by kernel_rfl
theorem heavy7 : (Tryz.pinned.checked.prog.stops == []) = true := by kernel_rfl
theorem heavy8 : (Tryz.pinned.checked.prog.stopKnobs == []) = true := by kernel_rfl
theorem heavy9 : (Rows.fnExactRangeHoldsRow.plainKeys == Tryz.pinned.checked.prog.plainKeys) = true := by kernel_rfl
theorem heavy10 : (Tryz.pinned.checked.prog.make == some Rows.fnExactRangeHoldsRow.make) = true := by kernel_rfl
theorem heavy11 : laidOutB Tryz.pinned.checked.prog = true := by kernel_rfl
theorem heavy12 : mapsRowed Tryz.pinned.checked.prog = true := by kernel_rfl
theorem closed : joinedFacts Tryz.pinned.checked.prog 6 Tryz.f6 Rows.fnExactRangeHoldsSpec Rows.fnExactRangeHoldsRow = true := by
  unfold joinedFacts
  simp only [Bool.and_eq_true]
  repeat' apply And.intro
  all_goals first | (with_reducible first | exact heavy0 | exact heavy1 | exact heavy2 | exact heavy3 | exact heavy4 | exact heavy5 | exact heavy6 | exact heavy7 | exact heavy8 | exact heavy9 | exact heavy10 | exact heavy11 | exact heavy12) | (as_aux_lemma => kernel_rfl)
theorem over : Rows.fnExactRangeHoldsRow.holds Tryz.pinned (OpenSpec.ofChange Rows.fnExactRangeHoldsSpec) :=
  OpenClaim.holds_of_wide 6 Tryz.f6 rfl rfl rfl rfl rfl rfl rfl ⟨rfl, rfl, rfl, rfl, rfl⟩ rfl rfl rfl rfl rfl (by kernel_rfl) Tryz.func6 closed
    (of_decide_eq_true (by kernel_rfl)) (by unfold Func.isWrapper; first | (rw [if_pos (by decide +kernel)]; kernel_rfl) | (rw [if_neg (by decide +kernel)]; exact ⟨rfl, rfl⟩))
    (fun os started H enc _ => lifted os started H enc)
end Go.Proofs.YtjpfnppiocloeaaGreatDoor.fnExactRangeHolds
namespace Go.Proofs.YtjpfnppiocloeaaGreatDoor
open Go
theorem fnExactRangeHolds_holds : Rows.FnExactRangeHoldsCardSaid :=
  Claim7.holds_tied_plain_at .later [] [.data, .data, .data, .data, .sentinel, .sentinel, .pinned] true (true, "1286c1c8b8f4d0e9750ecb71e62bf6b3ea96bcfcb35b3442756a87a623d3f828") true
    fnExactRangeHolds.over (fun _ h => by cases h) (by kernel_rfl) (fun _ h => by cases h) fnExactRangeHolds_row_tie rfl ⟨rfl, rfl⟩ (by kernel_rfl) rfl
    (fun f fn hf hfn => by
      obtain rfl : f = 6 := Option.some.inj ((show Tryz.prog.funcNamed "loop.example/g03012/laws.FnExactRangeHolds" = some 6 by kernel_rfl).symm.trans hf) |>.symm
      obtain rfl : fn = Tryz.f6 := (Option.some.inj (Tryz.func6.symm.trans hfn)).symm
      exact ⟨by kernel_rfl, fun j t ht => by
        rw [Tryz.params6] at ht
        have hm : t ∈ [24, 46] := by simpa using Array.mem_of_getElem? ht
        have hall : ([24, 46].all fun u => !Tryz.prog.wantsStandIn u) = true := by kernel_rfl
        exact (show Tryz.prog.wantsStandIn t = false by simpa using List.all_eq_true.1 hall t hm)⟩)
    (by kernel_rfl)
#print axioms fnExactRangeHolds_holds
end Go.Proofs.YtjpfnppiocloeaaGreatDoor
