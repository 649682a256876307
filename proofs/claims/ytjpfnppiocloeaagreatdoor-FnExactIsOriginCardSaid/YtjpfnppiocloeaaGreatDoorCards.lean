/-
  DERIVED. GIVEN WITH THE SEED: THE CARDS: each row of YtjpfnppiocloeaaGreatDoorRows.lean that lists a variable, with what it lists TIED to the program's text (the seventh form; the later family's looks); each row that meets fmt, with fmt's text TOLD by the authors' own Lean function (tested against real Go, not proved from fmt's source: count such statements apart). THE CARD IS WHAT COUNTS. Prove the row's statement (the work); the ties are given (YtjpfnppiocloeaaGreatDoorTie.lean); close each card by the builder's one call (the guide's Derived/Test/ToyasCard.lean, 'card_holds'). Laid BY PROGRAM, IN A SANDBOX (cutbox-door.mjs). By AI agents, Wed Nov 11 2026. No macro, syntax, notation, axiom, sorry.
-/
import Derived.Test.YtjpfnppiocloeaaGreatDoorRows
import GoSem.ClaimSeven
namespace Go.Proofs.YtjpfnppiocloeaaGreatDoor
namespace Rows

/-- THE TIED CARD OF 'laws.FnExactKeyOf'. -/
def fnExactKeyOfCard : Claim7 := { stood := { row := fnExactKeyOfRow, standIns := [], harness := (true, "1286c1c8b8f4d0e9750ecb71e62bf6b3ea96bcfcb35b3442756a87a623d3f828"), looks := true }, kinds := [], alts := [], laidByText := true, laidKinds := [.data, .pinned, .pinned], laidTests := true, laidLooks := .later }
def FnExactKeyOfCardSaid : Prop := Claim7.holds Tryz.pinned (.plain (OpenSpec.ofChange fnExactKeyOfSpec)) fnExactKeyOfCard

/-- THE TIED CARD OF 'laws.FnExactIsOrigin'. -/
def fnExactIsOriginCard : Claim7 := { stood := { row := fnExactIsOriginRow, standIns := [], harness := (true, "1286c1c8b8f4d0e9750ecb71e62bf6b3ea96bcfcb35b3442756a87a623d3f828"), looks := true }, kinds := [], alts := [], laidByText := true, laidKinds := [.data, .pinned, .pinned], laidTests := true, laidLooks := .later }
def FnExactIsOriginCardSaid : Prop := Claim7.holds Tryz.pinned (.plain (OpenSpec.ofChange fnExactIsOriginSpec)) fnExactIsOriginCard

/-- THE TIED CARD OF 'laws.FnExactInitialAge'. -/
def fnExactInitialAgeCard : Claim7 := { stood := { row := fnExactInitialAgeRow, standIns := [], harness := (true, "1286c1c8b8f4d0e9750ecb71e62bf6b3ea96bcfcb35b3442756a87a623d3f828"), looks := true }, kinds := [], alts := [], laidByText := true, laidKinds := [.data, .data, .data, .data, .sentinel, .sentinel, .pinned], laidTests := true, laidLooks := .later }
def FnExactInitialAgeCardSaid : Prop := Claim7.holds Tryz.pinned (.plain (OpenSpec.ofChange fnExactInitialAgeSpec)) fnExactInitialAgeCard

/-- THE TIED CARD OF 'laws.FnExactRangeHolds'. -/
def fnExactRangeHoldsCard : Claim7 := { stood := { row := fnExactRangeHoldsRow, standIns := [], harness := (true, "1286c1c8b8f4d0e9750ecb71e62bf6b3ea96bcfcb35b3442756a87a623d3f828"), looks := true }, kinds := [], alts := [], laidByText := true, laidKinds := [.data, .data, .data, .data, .sentinel, .sentinel, .pinned], laidTests := true, laidLooks := .later }
def FnExactRangeHoldsCardSaid : Prop := Claim7.holds Tryz.pinned (.plain (OpenSpec.ofChange fnExactRangeHoldsSpec)) fnExactRangeHoldsCard

/-- THE TIED CARD OF 'laws.FnExactCheckConditions'. -/
def fnExactCheckConditionsCard : Claim7 := { stood := { row := fnExactCheckConditionsRow, standIns := [], harness := (true, "1286c1c8b8f4d0e9750ecb71e62bf6b3ea96bcfcb35b3442756a87a623d3f828"), looks := true }, kinds := [], alts := [], laidByText := true, laidKinds := [.data, .data, .data, .data, .sentinel, .sentinel, .pinned], laidTests := true, laidLooks := .later }
def FnExactCheckConditionsCardSaid : Prop := Claim7.holds Tryz.pinned (.plain (OpenSpec.ofChange fnExactCheckConditionsSpec)) fnExactCheckConditionsCard

/-- THE TIED CARD OF 'laws.FnExactLifetimeOf'. -/
def fnExactLifetimeOfCard : Claim7 := { stood := { row := fnExactLifetimeOfRow, standIns := [], harness := (true, "1286c1c8b8f4d0e9750ecb71e62bf6b3ea96bcfcb35b3442756a87a623d3f828"), looks := true }, kinds := [], alts := [], laidByText := true, laidKinds := [.data, .data, .data, .data, .sentinel, .sentinel, .pinned], laidTests := true, laidLooks := .later }
def FnExactLifetimeOfCardSaid : Prop := Claim7.holds Tryz.pinned (.plain (OpenSpec.ofChange fnExactLifetimeOfSpec)) fnExactLifetimeOfCard

/-- THE TIED CARD OF 'laws.FnExactIsFresh'. -/
def fnExactIsFreshCard : Claim7 := { stood := { row := fnExactIsFreshRow, standIns := [], harness := (true, "1286c1c8b8f4d0e9750ecb71e62bf6b3ea96bcfcb35b3442756a87a623d3f828"), looks := true }, kinds := [], alts := [], laidByText := true, laidKinds := [.data, .data, .data, .data, .sentinel, .sentinel, .pinned], laidTests := true, laidLooks := .later }
def FnExactIsFreshCardSaid : Prop := Claim7.holds Tryz.pinned (.plain (OpenSpec.ofChange fnExactIsFreshSpec)) fnExactIsFreshCard

/-- THE SECOND FORM's CARD OF 'laws.FnExactKeyOf'. -/
def fnExactKeyOfUptoCard : Claim7 := { stood := { row := fnExactKeyOfUptoRow, standIns := [], harness := (true, "1286c1c8b8f4d0e9750ecb71e62bf6b3ea96bcfcb35b3442756a87a623d3f828"), looks := true }, kinds := [], alts := [], laidByText := true, laidKinds := [.data, .pinned, .pinned], laidTests := true, laidLooks := .later }
def FnExactKeyOfUptoCardSaid : Prop := Claim7.holds Tryz.pinned (.plain (OpenSpec.upto fnExactKeyOfSpec)) fnExactKeyOfUptoCard

/-- THE SECOND FORM's CARD OF 'laws.FnExactIsOrigin'. -/
def fnExactIsOriginUptoCard : Claim7 := { stood := { row := fnExactIsOriginUptoRow, standIns := [], harness := (true, "1286c1c8b8f4d0e9750ecb71e62bf6b3ea96bcfcb35b3442756a87a623d3f828"), looks := true }, kinds := [], alts := [], laidByText := true, laidKinds := [.data, .pinned, .pinned], laidTests := true, laidLooks := .later }
def FnExactIsOriginUptoCardSaid : Prop := Claim7.holds Tryz.pinned (.plain (OpenSpec.upto fnExactIsOriginSpec)) fnExactIsOriginUptoCard

/-- THE SECOND FORM's CARD OF 'laws.FnExactInitialAge'. -/
def fnExactInitialAgeUptoCard : Claim7 := { stood := { row := fnExactInitialAgeUptoRow, standIns := [], harness := (true, "1286c1c8b8f4d0e9750ecb71e62bf6b3ea96bcfcb35b3442756a87a623d3f828"), looks := true }, kinds := [], alts := [], laidByText := true, laidKinds := [.data, .data, .data, .data, .sentinel, .sentinel, .pinned], laidTests := true, laidLooks := .later }
def FnExactInitialAgeUptoCardSaid : Prop := Claim7.holds Tryz.pinned (.plain (OpenSpec.upto fnExactInitialAgeSpec)) fnExactInitialAgeUptoCard

/-- THE SECOND FORM's CARD OF 'laws.FnExactRangeHolds'. -/
def fnExactRangeHoldsUptoCard : Claim7 := { stood := { row := fnExactRangeHoldsUptoRow, standIns := [], harness := (true, "1286c1c8b8f4d0e9750ecb71e62bf6b3ea96bcfcb35b3442756a87a623d3f828"), looks := true }, kinds := [], alts := [], laidByText := true, laidKinds := [.data, .data, .data, .data, .sentinel, .sentinel, .pinned], laidTests := true, laidLooks := .later }
def FnExactRangeHoldsUptoCardSaid : Prop := Claim7.holds Tryz.pinned (.plain (OpenSpec.upto fnExactRangeHoldsSpec)) fnExactRangeHoldsUptoCard

/-- THE SECOND FORM's CARD OF 'laws.FnExactCheckConditions'. -/
def fnExactCheckConditionsUptoCard : Claim7 := { stood := { row := fnExactCheckConditionsUptoRow, standIns := [], harness := (true, "1286c1c8b8f4d0e9750ecb71e62bf6b3ea96bcfcb35b3442756a87a623d3f828"), looks := true }, kinds := [], alts := [], laidByText := true, laidKinds := [.data, .data, .data, .data, .sentinel, .sentinel, .pinned], laidTests := true, laidLooks := .later }
def FnExactCheckConditionsUptoCardSaid : Prop := Claim7.holds Tryz.pinned (.plain (OpenSpec.upto fnExactCheckConditionsSpec)) fnExactCheckConditionsUptoCard

/-- THE SECOND FORM's CARD OF 'laws.FnExactLifetimeOf'. -/
def fnExactLifetimeOfUptoCard : Claim7 := { stood := { row := fnExactLifetimeOfUptoRow, standIns := [], harness := (true, "1286c1c8b8f4d0e9750ecb71e62bf6b3ea96bcfcb35b3442756a87a623d3f828"), looks := true }, kinds := [], alts := [], laidByText := true, laidKinds := [.data, .data, .data, .data, .sentinel, .sentinel, .pinned], laidTests := true, laidLooks := .later }
def FnExactLifetimeOfUptoCardSaid : Prop := Claim7.holds Tryz.pinned (.plain (OpenSpec.upto fnExactLifetimeOfSpec)) fnExactLifetimeOfUptoCard

/-- THE SECOND FORM's CARD OF 'laws.FnExactIsFresh'. -/
def fnExactIsFreshUptoCard : Claim7 := { stood := { row := fnExactIsFreshUptoRow, standIns := [], harness := (true, "1286c1c8b8f4d0e9750ecb71e62bf6b3ea96bcfcb35b3442756a87a623d3f828"), looks := true }, kinds := [], alts := [], laidByText := true, laidKinds := [.data, .data, .data, .data, .sentinel, .sentinel, .pinned], laidTests := true, laidLooks := .later }
def FnExactIsFreshUptoCardSaid : Prop := Claim7.holds Tryz.pinned (.plain (OpenSpec.upto fnExactIsFreshSpec)) fnExactIsFreshUptoCard
end Rows
end Go.Proofs.YtjpfnppiocloeaaGreatDoor
