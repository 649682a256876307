/- Plain lemmas and definitions. Nothing is claimed here. -/
import Derived.Test.YtjpfnppiocloeaaGreatDoorPv27
set_option linter.unusedSimpArgs false
set_option linter.unusedVariables false
namespace Go.Pv
open Go Go.RowKit
section
variable {D : Nat → Type} {X : CT D} {cl : Calls' D}
def asF (g : Nat) (sv : VS D) (K : List (VS D) → Prop) : Prop := match sv with | .clo f l => bcond (Nat.beq f g) (K l) False | _ => False
def cloOf : List (VS D) → Nat
  | [] => 0
  | .clo g _ :: _ => g
  | _ :: r => cloOf r
def selE (l : List (Nat × Entry D)) : Entry D := fun m vs K => (look l (cloOf vs) fun _ _ _ => False) m vs K
theorem selE_ok {g : Nat} {l : List (Nat × Entry D)} (h : AllP (fun p : Nat × Entry D => EntryOK X g p.2) l) : EntryOK X g (selE l) := by
  intro m vs K hK
  unfold selE at hK
  rcases look_key (rfl : look l (cloOf vs) (fun _ _ _ => False) = look l (cloOf vs) fun _ _ _ => False) with h1 | h1
  · rw [h1] at hK; exact hK.elim
  · exact AllP_mem h _ h1 m vs K hK
end
end Go.Pv
