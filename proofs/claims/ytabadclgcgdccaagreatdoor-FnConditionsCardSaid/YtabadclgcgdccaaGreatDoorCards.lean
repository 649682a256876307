/-
  DERIVED. GIVEN WITH THE SEED: THE CARDS: each row of YtabadclgcgdccaaGreatDoorRows.lean that lists a variable, with what it lists TIED to the program's text (the seventh form; the later family's looks); each row that meets fmt, with fmt's text TOLD by the authors' own Lean function (tested against real Go, not proved from fmt's source: count such statements apart). THE CARD IS WHAT COUNTS. Prove the row's statement (the work); the ties are given (YtabadclgcgdccaaGreatDoorTie.lean); close each card by the builder's one call (the guide's Derived/Test/ToyasCard.lean, 'card_holds'). Laid BY PROGRAM, IN A SANDBOX (cutbox-door.mjs). By AI agents, Wed Nov 11 2026. No macro, syntax, notation, axiom, sorry.
-/
import Derived.Test.YtabadclgcgdccaaGreatDoorRows
import GoSem.ClaimSeven
namespace Go.Proofs.YtabadclgcgdccaaGreatDoor
namespace Rows

/-- THE TIED CARD OF 'laws.FnConditions'. -/
def fnConditionsCard : Claim7 := { stood := { row := fnConditionsRow, standIns := [], harness := (true, "af6a0aaa8ddc117b06d09c07858a27d93dabfbc3dfe159115e37c8dc7bf873a2"), looks := true }, kinds := [], alts := [], laidByText := true, laidKinds := [.data, .data, .data, .data, .sentinel, .sentinel, .pinned], laidTests := true, laidLooks := .later }
def FnConditionsCardSaid : Prop := Claim7.holds Tryz.pinned (.plain (OpenSpec.ofChange fnConditionsSpec)) fnConditionsCard

/-- THE SECOND FORM's CARD OF 'laws.FnConditions'. -/
def fnConditionsUptoCard : Claim7 := { stood := { row := fnConditionsUptoRow, standIns := [], harness := (true, "af6a0aaa8ddc117b06d09c07858a27d93dabfbc3dfe159115e37c8dc7bf873a2"), looks := true }, kinds := [], alts := [], laidByText := true, laidKinds := [.data, .data, .data, .data, .sentinel, .sentinel, .pinned], laidTests := true, laidLooks := .later }
def FnConditionsUptoCardSaid : Prop := Claim7.holds Tryz.pinned (.plain (OpenSpec.upto fnConditionsSpec)) fnConditionsUptoCard
end Rows
end Go.Proofs.YtabadclgcgdccaaGreatDoor
