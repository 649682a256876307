/- The program's PublishPage returns what the reference's PublishPage returns, whatever the arguments; no conditions. -/
import Derived.Test.YtnidlohhndpjdaaGreatDoorRows
import Derived.Test.YtnidlohhndpjdaaGreatDoorCards
import Derived.Test.YtnidlohhndpjdaaGreatDoorTie
import Derived.Test.YtnidlohhndpjdaaGreatDoorKp
import Derived.Test.YtnidlohhndpjdaaGreatDoorKv
import Derived.SevenTiedAt
import Derived.LaidMore
import Derived.Lay
import Derived.Stop.Joined
namespace Go.Proofs.YtnidlohhndpjdaaGreatDoor.fnExactPublishPage
open Go Go.RowKit Go.Pv Go.Pu Go.YtnidlohhndpjdaaGreatDoor Go.ChangeShapes Go.WideShapes
set_option linter.unusedVariables false
set_option maxRecDepth 100000
theorem own : ownKnob Tryz.prog.godebug = none := by kernel_rfl
def fuel : Nat := 1073741824
theorem yes : ∀ x, VA X L_FnExactPublishPage_ar x → L_FnExactPublishPage_f fuel x = some true := fun x hx => FnExactPublishPage_pure (k := fuel) (by unfold fuel; omega) (⟨x.1.1, x.1.2.1⟩ : LOrigin) x.2.1 (⟨x.2.2.1.1, x.2.2.1.2.1, x.2.2.1.2.2.1⟩ : LVersion) ⟨(vv_s (hx.1 _ (.head _))), (vv_l (hx.1 _ (.tail _ (.head _))) (fun x h => V_LResource_of h))⟩ (vv_s hx.2.1) ⟨(vv_i (hx.2.2.1 _ (.head _))), (vv_s (hx.2.2.1 _ (.tail _ (.head _)))), trivial⟩
theorem els : ∀ e ∈ ([177, 9, 77] : List Nat), ElOK X [177, 9, 77] e := AllP_mem (p := ElOK X [177, 9, 77]) ⟨⟨[.ks, .ks, .ks, .kb, .kl 9, .kl 77], by kernel_rfl, fun x => ⟨_, rfl, rfl⟩⟩, ⟨[.ks], by kernel_rfl, fun x => ⟨_, rfl, rfl⟩⟩, ⟨[.ki .i64, .ks, .kb], by kernel_rfl, fun x => ⟨_, rfl, rfl⟩⟩, trivial⟩
def laidL : List (String × DataW Unit) := Rows.fnExactPublishPageRow.laid
theorem door_met (os : Os) (args : Array Value) : laidMetH Tryz.prog laidL ((World.laidAll Tryz.prog os laidL).forCall (fun _ _ => 0) ⟨#[], args, []⟩).memory := by
  rw [MakeChecks.laidMetH_plain _ _ _ (by kernel_rfl)]; exact laidMet_laidAll _ (by kernel_rfl) (by kernel_rfl)
theorem lifted (os : Os) (started : os.Started) (H : Type) (enc : TypeId × Value → H) :
    ReturnsInHanded {} Tryz.checked os 7 .any (fun w args => (Rows.fnExactPublishPageSpec.pre enc Tryz.prog Tryz.f7 [] false w args ∧ laidMetH Tryz.prog laidL w) ∧ sizedMet enc Tryz.prog Tryz.f7 (OpenSpec.ofChange Rows.fnExactPublishPageSpec) false w args) (Rows.fnExactPublishPageSpec.post enc Tryz.prog Tryz.f7 false true false false) :=
  said_laid (C := Tryz.checked) (fn := Tryz.f7) (X := X) (els := [177, 9, 77]) (l := L_FnExactPublishPage_ar) (F := L_FnExactPublishPage_f fuel) (vr := L_FnExactPublishPage_vr) (bt := 4) laidL own started (by kernel_rfl) Tryz.func7 rfl
    (ChangeSpec.witness_shaped (enc := enc) (C := Tryz.checked) (os := os) (X := fun w _ => laidMetH Tryz.prog laidL w) false (World.laidAll Tryz.prog os laidL) #[.agg #[.string ⟨#[]⟩, .slice none 0 0], .string ⟨#[]⟩, .agg #[.int .i64 0, .string ⟨#[]⟩, .bool false]] 8 (World.laidAll_os _ _ _) (World.shaped_of_ZipB (by kernel_rfl) (by kernel_rfl)) (by kernel_rfl) (by kernel_rfl) (by kernel_rfl) (door_met os _))
    ctx cod els (by kernel_rfl) rfl Tryz.underlying4 (by kernel_rfl) (by kernel_rfl)
    (fun ds h => match ds, h with | [d0, d1, d2], _ => rfl) (fun _ => rfl) (by kernel_rfl) (fun W h hL w' b => maxlen_of (Go.Proofs.cell_of_shapedOpen_int (zero := #[.int .i64 0]) (t := 3) h (of_decide_eq_true (by kernel_rfl)) (by kernel_rfl) rfl (by kernel_rfl) (by kernel_rfl) Go.Proofs.Tryz.underlying3) b) (L_FnExactPublishPage_ok fuel) yes
theorem heavy0 : (Rows.fnExactPublishPageRow.inPlace == Tryz.pinned.checked.prog.inPlace 7) = true := by kernel_rfl
theorem heavy1 : (Rows.fnExactPublishPageRow.unfollowed == Tryz.pinned.checked.prog.unfollowed 7) = true := by kernel_rfl
theorem heavy2 : (Rows.fnExactPublishPageRow.recurses == Tryz.pinned.checked.prog.recurses 7) = true := by kernel_rfl
theorem heavy3 : (Rows.fnExactPublishPageRow.named == Tryz.pinned.checked.prog.varsNamed 7) = true := by kernel_rfl
theorem heavy4 : (Rows.fnExactPublishPageRow.lifted == Tryz.pinned.checked.prog.liftsFinal) = true := by kernel_rfl
theorem heavy5 : Tryz.pinned.checked.prog.stopsHeard = true := by kernel_rfl
theorem heavy6 : Tryz.pinned.checked.prog.mayEnter = true := by kernel_rfl
theorem heavy7 : (Tryz.pinned.checked.prog.stops == []) = true := by kernel_rfl
theorem heavy8 : (Tryz.pinned.checked.prog.stopKnobs == []) = true := by kernel_rfl
theorem heavy9 : (Rows.fnExactPublishPageRow.plainKeys == Tryz.pinned.checked.prog.plainKeys) = true := by kernel_rfl
theorem heavy10 : (Tryz.pinned.checked.prog.make == some Rows.fnExactPublishPageRow.make) = true := by kernel_rfl
theorem heavy11 : laidOutB Tryz.pinned.checked.prog = true := by kernel_rfl
theorem heavy12 : mapsRowed Tryz.pinned.checked.prog = true := by kernel_rfl
theorem closed : joinedFacts Tryz.pinned.checked.prog 7 Tryz.f7 Rows.fnExactPublishPageSpec Rows.fnExactPublishPageRow = true := by
  unfold joinedFacts
  simp only [Bool.and_eq_true]
  repeat' apply And.intro
  all_goals first | (with_reducible first | exact heavy0 | exact heavy1 | exact heavy2 | exact heavy3 | exact heavy4 | exact heavy5 | exact heavy6 | exact heavy7 | exact heavy8 | exact heavy9 | exact heavy10 | exact heavy11 | exact heavy12) | (as_aux_lemma => kernel_rfl)
theorem over : Rows.fnExactPublishPageRow.holds Tryz.pinned (OpenSpec.ofChange Rows.fnExactPublishPageSpec) :=
  OpenClaim.holds_of_wide 7 Tryz.f7 rfl rfl rfl rfl rfl rfl rfl ⟨rfl, rfl, rfl, rfl, rfl⟩ rfl rfl rfl rfl rfl (by kernel_rfl) Tryz.func7 closed
    (of_decide_eq_true (by kernel_rfl)) (by unfold Func.isWrapper; first | (rw [if_pos (by decide +kernel)]; kernel_rfl) | (rw [if_neg (by decide +kernel)]; exact ⟨rfl, rfl⟩))
    (fun os started H enc _ => lifted os started H enc)
end Go.Proofs.YtnidlohhndpjdaaGreatDoor.fnExactPublishPage
namespace Go.Proofs.YtnidlohhndpjdaaGreatDoor
open Go
theorem fnExactPublishPage_holds : Rows.FnExactPublishPageCardSaid :=
  Claim7.holds_tied_plain_at .later [] [.data, .pinned, .pinned] true (true, "f086bebfb626ec7489bcc2d52231f4b768b08caf8a8ce390371972d6c323e8c9") true
    fnExactPublishPage.over (fun _ h => by cases h) (by as_aux_lemma => kernel_rfl) (fun _ h => by cases h) fnExactPublishPage_row_tie rfl ⟨rfl, rfl⟩ (by as_aux_lemma => kernel_rfl) rfl
    (fun f fn hf hfn => by
      obtain rfl : f = 7 := Option.some.inj ((show Tryz.prog.funcNamed "loop.example/g03012/laws.FnExactPublishPage" = some 7 by as_aux_lemma => kernel_rfl).symm.trans hf) |>.symm
      obtain rfl : fn = Tryz.f7 := (Option.some.inj (Tryz.func7.symm.trans hfn)).symm
      exact ⟨by as_aux_lemma => kernel_rfl, fun j t ht => by
        rw [Tryz.params7] at ht
        have hm : t ∈ [57, 9, 77] := by simpa using Array.mem_of_getElem? ht
        have hall : ([57, 9, 77].all fun u => !Tryz.prog.wantsStandIn u) = true := by as_aux_lemma => kernel_rfl
        exact (show Tryz.prog.wantsStandIn t = false by simpa using List.all_eq_true.1 hall t hm)⟩)
    (by as_aux_lemma => kernel_rfl)
#print axioms fnExactPublishPage_holds
end Go.Proofs.YtnidlohhndpjdaaGreatDoor
