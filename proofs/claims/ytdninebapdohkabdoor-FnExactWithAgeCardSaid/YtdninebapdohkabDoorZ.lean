/- The program's WithAge returns what the reference's WithAge returns, whatever the arguments; no conditions. -/
import Derived.Test.YtdninebapdohkabDoorRows
import Derived.Test.YtdninebapdohkabDoorCards
import Derived.Test.YtdninebapdohkabDoorTie
import Derived.Test.YtdninebapdohkabDoorKp
import Derived.Test.YtdninebapdohkabDoorKv
import Derived.SevenTiedAt
import Derived.LaidMore
import Derived.Lay
import Derived.Stop.Joined
namespace Go.Proofs.YtdninebapdohkabDoor.fnExactWithAge
open Go Go.RowKit Go.Pv Go.Pu Go.YtdninebapdohkabDoor Go.ChangeShapes Go.WideShapes
set_option linter.unusedVariables false
set_option maxRecDepth 100000
theorem own : ownKnob Tryd.prog.godebug = none := by kernel_rfl
def fuel : Nat := 1073741824
theorem yes : ∀ x, VA X L_FnExactWithAge_ar x → L_FnExactWithAge_f fuel x = some true := fun x hx => FnExactWithAge_pure (k := fuel) (by unfold fuel; omega) (⟨x.1.1, x.1.2.1, x.1.2.2.1⟩ : LResponse) x.2.1 ⟨(vv_i (hx.1 _ (.head _))), (vv_l (hx.1 _ (.tail _ (.head _))) (fun x h => V_LField_of h)), (vv_s (hx.1 _ (.tail _ (.tail _ (.head _)))))⟩ (vv_i hx.2.1)
theorem els : ∀ e ∈ ([93] : List Nat), ElOK X [93] e := AllP_mem (p := ElOK X [93]) ⟨⟨[.ks, .ks], by kernel_rfl, fun x => ⟨_, rfl, rfl⟩⟩, trivial⟩
def laidL : List (String × DataW Unit) := Rows.fnExactWithAgeRow.laid
theorem door_met (os : Os) (args : Array Value) : laidMetH Tryd.prog laidL ((World.doorLaid Tryd.prog 72 os).forCall (fun _ _ => 0) ⟨#[], args, []⟩).memory :=
  laidMetH_of_parts3 (fuel := 8) (laidMet_of_run' 8 (by kernel_rfl) (by kernel_rfl)) (by kernel_rfl) (by kernel_rfl)
theorem lifted (os : Os) (started : os.Started) (H : Type) (enc : TypeId × Value → H) :
    ReturnsInHanded {} Tryd.checked os 3 .any (fun w args => (Rows.fnExactWithAgeSpec.pre enc Tryd.prog Tryd.f3 [] false w args ∧ laidMetH Tryd.prog laidL w) ∧ sizedMet enc Tryd.prog Tryd.f3 (OpenSpec.ofChange Rows.fnExactWithAgeSpec) false w args) (Rows.fnExactWithAgeSpec.post enc Tryd.prog Tryd.f3 false true false false) :=
  said_laid (C := Tryd.checked) (fn := Tryd.f3) (X := X) (els := [93]) (l := L_FnExactWithAge_ar) (F := L_FnExactWithAge_f fuel) (vr := L_FnExactWithAge_vr) (bt := 4) laidL own started (by kernel_rfl) Tryd.func3 rfl
    (ChangeSpec.witness_shaped (enc := enc) (C := Tryd.checked) (os := os) (X := fun w _ => laidMetH Tryd.prog laidL w) false (World.doorLaid Tryd.prog 72 os) #[.agg #[.int .i64 0, .slice none 0 0, .string ⟨#[]⟩], .int .i64 0] 8 rfl (World.shaped_of_RefB (by kernel_rfl) (by kernel_rfl)) (by kernel_rfl) (by kernel_rfl) (by kernel_rfl) (door_met os _))
    ctx cod els (by kernel_rfl) rfl Tryd.underlying4 (by kernel_rfl) (by kernel_rfl)
    (fun ds h => match ds, h with | [d0, d1], _ => rfl) (fun _ => rfl) (by kernel_rfl) (fun W h hL w' b => tab_stays (tab_at hL 2 (by kernel_rfl) (g := 3) (t := 179) (by kernel_rfl) (by kernel_rfl) Go.Proofs.Tryd.underlying179 Go.Proofs.Tryd.underlying163 (by kernel_rfl) (by kernel_rfl)) b) (L_FnExactWithAge_ok fuel) yes
theorem over : Rows.fnExactWithAgeRow.holds Tryd.pinned (OpenSpec.ofChange Rows.fnExactWithAgeSpec) :=
  OpenClaim.holds_of_wide 3 Tryd.f3 rfl rfl rfl rfl rfl rfl rfl ⟨rfl, rfl, rfl, rfl, rfl⟩ rfl rfl rfl rfl rfl (by kernel_rfl) Tryd.func3 (by kernel_rfl)
    (of_decide_eq_true (by kernel_rfl)) (by unfold Func.isWrapper; first | (rw [if_pos (by decide +kernel)]; kernel_rfl) | (rw [if_neg (by decide +kernel)]; exact ⟨rfl, rfl⟩))
    (fun os started H enc _ => lifted os started H enc)
end Go.Proofs.YtdninebapdohkabDoor.fnExactWithAge
namespace Go.Proofs.YtdninebapdohkabDoor
open Go
theorem fnExactWithAge_holds : Rows.FnExactWithAgeCardSaid :=
  Claim7.holds_tied_plain_at .later [] [.data, .data, .data] true (true, "3c8795eeb8ec8e2b52111ba8a40dd82a67910051f5ba31627a33b61c892a66ec") true
    fnExactWithAge.over (fun _ h => by cases h) (by kernel_rfl) (fun _ h => by cases h) fnExactWithAge_row_tie rfl ⟨rfl, rfl⟩ (by kernel_rfl) rfl
    (fun f fn hf hfn => by
      obtain rfl : f = 3 := Option.some.inj ((show Tryd.prog.funcNamed "loop.example/g03012/laws.FnExactWithAge" = some 3 by kernel_rfl).symm.trans hf) |>.symm
      obtain rfl : fn = Tryd.f3 := (Option.some.inj (Tryd.func3.symm.trans hfn)).symm
      exact ⟨by kernel_rfl, fun j t ht => by
        rw [Tryd.params3] at ht
        have hm : t ∈ [24, 3] := by simpa using Array.mem_of_getElem? ht
        have hall : ([24, 3].all fun u => !Tryd.prog.wantsStandIn u) = true := by kernel_rfl
        exact (show Tryd.prog.wantsStandIn t = false by simpa using List.all_eq_true.1 hall t hm)⟩)
    (by kernel_rfl)
#print axioms fnExactWithAge_holds
end Go.Proofs.YtdninebapdohkabDoor
