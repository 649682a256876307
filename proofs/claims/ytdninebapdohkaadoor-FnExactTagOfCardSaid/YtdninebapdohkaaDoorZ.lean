/- The program's TagOf returns what the reference's TagOf returns, whatever the arguments; no conditions. -/
import Derived.Test.YtdninebapdohkaaDoorRows
import Derived.Test.YtdninebapdohkaaDoorCards
import Derived.Test.YtdninebapdohkaaDoorTie
import Derived.Test.YtdninebapdohkaaDoorKp
import Derived.Test.YtdninebapdohkaaDoorKv
import Derived.SevenTiedAt
import Derived.LaidMore
import Derived.Stop.Joined
namespace Go.Proofs.YtdninebapdohkaaDoor.fnExactTagOf
open Go Go.RowKit Go.Pv Go.Pu Go.YtdninebapdohkaaDoor Go.ChangeShapes Go.WideShapes
set_option linter.unusedVariables false
set_option maxRecDepth 100000
theorem own : ownKnob Tryd.prog.godebug = none := by kernel_rfl
def fuel : Nat := 1073741824
theorem yes : ∀ x, VA X L_FnExactTagOf_ar x → L_FnExactTagOf_f fuel x = some true := fun x hx => FnExactTagOf_pure (k := fuel) (by unfold fuel; omega) x.1 x.2.1 x.2.2.1 (vv_i hx.1) (vv_s hx.2.1) (vv_s hx.2.2.1)
theorem els : ∀ e ∈ ([] : List Nat), ElOK X [] e := fun e h => by cases h
def laidL : List (String × DataW Unit) := Rows.fnExactTagOfRow.laid
theorem door_met (os : Os) (args : Array Value) : laidMetH Tryd.prog laidL ((World.doorLaid Tryd.prog 24 os).forCall (fun _ _ => 0) ⟨#[], args, []⟩).memory :=
  laidMetH_of_parts3 (fuel := 8) (laidMet_of_run' 8 (by kernel_rfl) (by kernel_rfl)) (by kernel_rfl) (by kernel_rfl)
theorem lifted (os : Os) (started : os.Started) (H : Type) (enc : TypeId × Value → H) :
    ReturnsInHanded {} Tryd.checked os 3 .any (fun w args => (Rows.fnExactTagOfSpec.pre enc Tryd.prog Tryd.f3 [] false w args ∧ laidMetH Tryd.prog laidL w) ∧ sizedMet enc Tryd.prog Tryd.f3 (OpenSpec.ofChange Rows.fnExactTagOfSpec) false w args) (Rows.fnExactTagOfSpec.post enc Tryd.prog Tryd.f3 false true false false) :=
  said_laid (C := Tryd.checked) (fn := Tryd.f3) (X := X) (els := []) (l := L_FnExactTagOf_ar) (F := L_FnExactTagOf_f fuel) (vr := L_FnExactTagOf_vr) (bt := 4) laidL own started (by kernel_rfl) Tryd.func3 rfl
    (ChangeSpec.witness_shaped (enc := enc) (C := Tryd.checked) (os := os) (X := fun w _ => laidMetH Tryd.prog laidL w) false (World.doorLaid Tryd.prog 24 os) #[.int .i64 0, .string ⟨#[]⟩, .string ⟨#[]⟩] 8 rfl (World.shaped_of_RefB (by kernel_rfl) (by kernel_rfl)) (by kernel_rfl) (by kernel_rfl) (by kernel_rfl) (door_met os _))
    ctx cod els (by kernel_rfl) rfl Tryd.underlying4 (by kernel_rfl) (by kernel_rfl)
    (fun ds h => match ds, h with | [d0, d1, d2], _ => rfl) (fun _ => rfl) (by kernel_rfl) (fun W h hL w' b => tab_stays (tab_at hL 2 (by kernel_rfl) (g := 0) (t := 38) (by kernel_rfl) (by kernel_rfl) Go.Proofs.Tryd.underlying38 Go.Proofs.Tryd.underlying31 (by kernel_rfl) (by kernel_rfl)) b) (L_FnExactTagOf_ok fuel) yes
theorem over : Rows.fnExactTagOfRow.holds Tryd.pinned (OpenSpec.ofChange Rows.fnExactTagOfSpec) :=
  OpenClaim.holds_of_wide 3 Tryd.f3 rfl rfl rfl rfl rfl rfl rfl ⟨rfl, rfl, rfl, rfl, rfl⟩ rfl rfl rfl rfl rfl (by kernel_rfl) Tryd.func3 (by kernel_rfl)
    (of_decide_eq_true (by kernel_rfl)) (by unfold Func.isWrapper; first | (rw [if_pos (by decide +kernel)]; kernel_rfl) | (rw [if_neg (by decide +kernel)]; exact ⟨rfl, rfl⟩))
    (fun os started H enc _ => lifted os started H enc)
end Go.Proofs.YtdninebapdohkaaDoor.fnExactTagOf
namespace Go.Proofs.YtdninebapdohkaaDoor
open Go
theorem fnExactTagOf_holds : Rows.FnExactTagOfCardSaid :=
  Claim7.holds_tied_plain_at .later [] [.data, .data, .data] true (true, "2ab8d6e2fee1db2c8e67b6b0b64943e1869cd44674fd128a5daae9d3a0f646ba") false
    fnExactTagOf.over (fun _ h => by cases h) (by kernel_rfl) (fun _ h => by cases h) fnExactTagOf_row_tie rfl ⟨rfl, rfl⟩ (by kernel_rfl) rfl
    (fun f fn hf hfn => by
      obtain rfl : f = 3 := Option.some.inj ((show Tryd.prog.funcNamed "loop.example/g03012/laws.FnExactTagOf" = some 3 by kernel_rfl).symm.trans hf) |>.symm
      obtain rfl : fn = Tryd.f3 := (Option.some.inj (Tryd.func3.symm.trans hfn)).symm
      exact ⟨by kernel_rfl, fun j t ht => by
        rw [Tryd.params3] at ht
        have hm : t ∈ [3, 9, 9] := by simpa using Array.mem_of_getElem? ht
        have hall : ([3, 9, 9].all fun u => !Tryd.prog.wantsStandIn u) = true := by kernel_rfl
        exact (show Tryd.prog.wantsStandIn t = false by simpa using List.all_eq_true.1 hall t hm)⟩)
    (by kernel_rfl)
#print axioms fnExactTagOf_holds
end Go.Proofs.YtdninebapdohkaaDoor
