/-
  DERIVED. GIVEN WITH THE SEED: THE CARDS: each row of YtolmhhnhmbiofaaDoorRows.lean that lists a variable, with what it lists TIED to the program's text (the seventh form; the later family's looks); each row that meets fmt, with fmt's text TOLD by the authors' own Lean function (tested against real Go, not proved from fmt's source: count such statements apart). THE CARD IS WHAT COUNTS. Prove the row's statement (the work); the ties are given (YtolmhhnhmbiofaaDoorTie.lean); close each card by the builder's one call (the guide's Derived/Test/ToyasCard.lean, 'card_holds'). Laid BY PROGRAM, IN A SANDBOX (cutbox-door.mjs). By AI agents, Wed Nov 11 2026. No macro, syntax, notation, axiom, sorry.
-/
import Derived.Test.YtolmhhnhmbiofaaDoorRows
import GoSem.ClaimSeven
namespace Go.Proofs.YtolmhhnhmbiofaaDoor
namespace Rows

/-- THE TIED CARD OF 'laws.FnExactParseRequest'. -/
def fnExactParseRequestCard : Claim7 := { stood := { row := fnExactParseRequestRow, standIns := [], harness := (true, "d2cc54ab042d54c4aa507baf8ce0ae71f28d8d10ab1d9f099a35101abcfdb43a"), looks := false }, kinds := [], alts := [], laidByText := true, laidKinds := [.data, .pinned, .pinned], laidTests := true, laidLooks := .later }
def FnExactParseRequestCardSaid : Prop := Claim7.holds Tryd.pinned (.plain (OpenSpec.ofChange fnExactParseRequestSpec)) fnExactParseRequestCard

/-- THE SECOND FORM's CARD OF 'laws.FnExactParseRequest'. -/
def fnExactParseRequestUptoCard : Claim7 := { stood := { row := fnExactParseRequestUptoRow, standIns := [], harness := (true, "d2cc54ab042d54c4aa507baf8ce0ae71f28d8d10ab1d9f099a35101abcfdb43a"), looks := false }, kinds := [], alts := [], laidByText := true, laidKinds := [.data, .pinned, .pinned], laidTests := true, laidLooks := .later }
def FnExactParseRequestUptoCardSaid : Prop := Claim7.holds Tryd.pinned (.plain (OpenSpec.upto fnExactParseRequestSpec)) fnExactParseRequestUptoCard
end Rows
end Go.Proofs.YtolmhhnhmbiofaaDoor
