/- The program's IsOrigin returns what the reference's IsOrigin returns, whatever the arguments; no conditions. -/
import Derived.Test.YtjpfnppiocloeaaGreatDoorRows
import Derived.Test.YtjpfnppiocloeaaGreatDoorCards
import Derived.Test.YtjpfnppiocloeaaGreatDoorTie
import Derived.Test.YtjpfnppiocloeaaGreatDoorKp
import Derived.Test.YtjpfnppiocloeaaGreatDoorKv
import Derived.SevenTiedAt
import Derived.LaidMore
import Derived.Lay
import Derived.Stop.Joined
namespace Go.Proofs.YtjpfnppiocloeaaGreatDoor.fnExactIsOrigin
open Go Go.RowKit Go.Pv Go.Pu Go.YtjpfnppiocloeaaGreatDoor Go.ChangeShapes Go.WideShapes
set_option linter.unusedVariables false
set_option maxRecDepth 100000
theorem own : ownKnob Tryz.prog.godebug = none := by kernel_rfl
def fuel : Nat := 1073741824
theorem yes : ∀ x, VA X L_FnExactIsOrigin_ar x → L_FnExactIsOrigin_f fuel x = some true := fun x hx => FnExactIsOrigin_pure (k := fuel) (by unfold fuel; omega) (⟨x.1.1, x.1.2.1⟩ : LOrigin) ⟨(vv_s (hx.1 _ (.head _))), (vv_l (hx.1 _ (.tail _ (.head _))) (fun x h => V_LResource_of h))⟩
theorem els : ∀ e ∈ ([119, 9, 210] : List Nat), ElOK X [119, 9, 210] e := AllP_mem (p := ElOK X [119, 9, 210]) ⟨⟨[.ks, .ks, .ks, .kb, .kl 9, .kl 210], by kernel_rfl, fun x => ⟨_, rfl, rfl⟩⟩, ⟨[.ks], by kernel_rfl, fun x => ⟨_, rfl, rfl⟩⟩, ⟨[.ki .i64, .ks, .kb], by kernel_rfl, fun x => ⟨_, rfl, rfl⟩⟩, trivial⟩
def laidL : List (String × DataW Unit) := Rows.fnExactIsOriginRow.laid
theorem door_met (os : Os) (args : Array Value) : laidMetH Tryz.prog laidL ((World.laidAll Tryz.prog os laidL).forCall (fun _ _ => 0) ⟨#[], args, []⟩).memory := by
  rw [MakeChecks.laidMetH_plain _ _ _ (by kernel_rfl)]; exact laidMet_laidAll _ (by kernel_rfl) (by kernel_rfl)
theorem lifted (os : Os) (started : os.Started) (H : Type) (enc : TypeId × Value → H) :
    ReturnsInHanded {} Tryz.checked os 4 .any (fun w args => (Rows.fnExactIsOriginSpec.pre enc Tryz.prog Tryz.f4 [] false w args ∧ laidMetH Tryz.prog laidL w) ∧ sizedMet enc Tryz.prog Tryz.f4 (OpenSpec.ofChange Rows.fnExactIsOriginSpec) false w args) (Rows.fnExactIsOriginSpec.post enc Tryz.prog Tryz.f4 false true false false) :=
  said_laid (C := Tryz.checked) (fn := Tryz.f4) (X := X) (els := [119, 9, 210]) (l := L_FnExactIsOrigin_ar) (F := L_FnExactIsOrigin_f fuel) (vr := L_FnExactIsOrigin_vr) (bt := 4) laidL own started (by kernel_rfl) Tryz.func4 rfl
    (ChangeSpec.witness_shaped (enc := enc) (C := Tryz.checked) (os := os) (X := fun w _ => laidMetH Tryz.prog laidL w) false (World.laidAll Tryz.prog os laidL) #[.agg #[.string ⟨#[]⟩, .slice none 0 0]] 8 (World.laidAll_os _ _ _) (World.shaped_of_ZipB (by kernel_rfl) (by kernel_rfl)) (by kernel_rfl) (by kernel_rfl) (by kernel_rfl) (door_met os _))
    ctx cod els (by kernel_rfl) rfl Tryz.underlying4 (by kernel_rfl) (by kernel_rfl)
    (fun ds h => match ds, h with | [d0], _ => rfl) (fun _ => rfl) (by kernel_rfl) (fun W h hL w' b => maxlen_of (Go.Proofs.cell_of_shapedOpen_int (zero := #[.int .i64 0]) (t := 3) h (of_decide_eq_true (by kernel_rfl)) (by kernel_rfl) rfl (by kernel_rfl) (by kernel_rfl) Go.Proofs.Tryz.underlying3) b) (L_FnExactIsOrigin_ok fuel) yes
theorem heavy0 : (Rows.fnExactIsOriginRow.inPlace == Tryz.pinned.checked.prog.inPlace 4) = true := by kernel_rfl
theorem heavy1 : (Rows.fnExactIsOriginRow.unfollowed == Tryz.pinned.checked.prog.unfollowed 4) = true := by kernel_rfl
theorem heavy2 : (Rows.fnExactIsOriginRow.recurses == Tryz.pinned.checked.prog.recurses 4) = true := by kernel_rfl
theorem heavy3 : (Rows.fnExactIsOriginRow.named == Tryz.pinned.checked.prog.varsNamed 4) = true := by kernel_rfl
theorem heavy4 : (Rows.fnExactIsOriginRow.lifted == Tryz.pinned.checked.prog.liftsFinal) = true := by kernel_rfl
theorem heavy5 : Tryz.pinned.checked.prog.stopsHeard = true := by kernel_rfl
theorem heavy6 : Tryz.pinned.checked.prog.mayEnter = true := by kernel_rfl
theorem heavy7 : (Tryz.pinned.checked.prog.stops == []) = true := by kernel_rfl
theorem heavy8 : (Tryz.pinned.checked.prog.stopKnobs == []) = true := by kernel_rfl
theorem heavy9 : (Rows.fnExactIsOriginRow.plainKeys == Tryz.pinned.checked.prog.plainKeys) = true := by kernel_rfl
theorem heavy10 : (Tryz.pinned.checked.prog.make == some Rows.fnExactIsOriginRow.make) = true := by kernel_rfl
theorem heavy11 : laidOutB Tryz.pinned.checked.prog = true := by kernel_rfl
theorem heavy12 : mapsRowed Tryz.pinned.checked.prog = true := by kernel_rfl
theorem closed : joinedFacts Tryz.pinned.checked.prog 4 Tryz.f4 Rows.fnExactIsOriginSpec Rows.fnExactIsOriginRow = true := by
  unfold joinedFacts
  simp only [Bool.and_eq_true]
  repeat' apply And.intro
  all_goals first | (with_reducible first | exact heavy0 | exact heavy1 | exact heavy2 | exact heavy3 | exact heavy4 | exact heavy5 | exact heavy6 | exact heavy7 | exact heavy8 | exact heavy9 | exact heavy10 | exact heavy11 | exact heavy12) | (as_aux_lemma => kernel_rfl)
theorem over : Rows.fnExactIsOriginRow.holds Tryz.pinned (OpenSpec.ofChange Rows.fnExactIsOriginSpec) :=
  OpenClaim.holds_of_wide 4 Tryz.f4 rfl rfl rfl rfl rfl rfl rfl ⟨rfl, rfl, rfl, rfl, rfl⟩ rfl rfl rfl rfl rfl (by kernel_rfl) Tryz.func4 closed
    (of_decide_eq_true (by kernel_rfl)) (by unfold Func.isWrapper; first | (rw [if_pos (by decide +kernel)]; kernel_rfl) | (rw [if_neg (by decide +kernel)]; exact ⟨rfl, rfl⟩))
    (fun os started H enc _ => lifted os started H enc)
end Go.Proofs.YtjpfnppiocloeaaGreatDoor.fnExactIsOrigin
namespace Go.Proofs.YtjpfnppiocloeaaGreatDoor
open Go
theorem fnExactIsOrigin_holds : Rows.FnExactIsOriginCardSaid :=
  Claim7.holds_tied_plain_at .later [] [.data, .pinned, .pinned] true (true, "1286c1c8b8f4d0e9750ecb71e62bf6b3ea96bcfcb35b3442756a87a623d3f828") true
    fnExactIsOrigin.over (fun _ h => by cases h) (by kernel_rfl) (fun _ h => by cases h) fnExactIsOrigin_row_tie rfl ⟨rfl, rfl⟩ (by kernel_rfl) rfl
    (fun f fn hf hfn => by
      obtain rfl : f = 4 := Option.some.inj ((show Tryz.prog.funcNamed "loop.example/g03012/laws.FnExactIsOrigin" = some 4 by kernel_rfl).symm.trans hf) |>.symm
      obtain rfl : fn = Tryz.f4 := (Option.some.inj (Tryz.func4.symm.trans hfn)).symm
      exact ⟨by kernel_rfl, fun j t ht => by
        rw [Tryz.params4] at ht
        have hm : t ∈ [36] := by simpa using Array.mem_of_getElem? ht
        have hall : ([36].all fun u => !Tryz.prog.wantsStandIn u) = true := by kernel_rfl
        exact (show Tryz.prog.wantsStandIn t = false by simpa using List.all_eq_true.1 hall t hm)⟩)
    (by kernel_rfl)
#print axioms fnExactIsOrigin_holds
end Go.Proofs.YtjpfnppiocloeaaGreatDoor
