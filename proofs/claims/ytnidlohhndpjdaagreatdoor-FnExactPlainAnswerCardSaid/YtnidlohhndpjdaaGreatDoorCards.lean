/-
  DERIVED. GIVEN WITH THE SEED: THE CARDS: each row of YtnidlohhndpjdaaGreatDoorRows.lean that lists a variable, with what it lists TIED to the program's text (the seventh form; the later family's looks); each row that meets fmt, with fmt's text TOLD by the authors' own Lean function (tested against real Go, not proved from fmt's source: count such statements apart). THE CARD IS WHAT COUNTS. Prove the row's statement (the work); the ties are given (YtnidlohhndpjdaaGreatDoorTie.lean); close each card by the builder's one call (the guide's Derived/Test/ToyasCard.lean, 'card_holds'). Laid BY PROGRAM, IN A SANDBOX (cutbox-door.mjs). By AI agents, Wed Nov 11 2026. No macro, syntax, notation, axiom, sorry.
-/
import Derived.Test.YtnidlohhndpjdaaGreatDoorRows
import GoSem.ClaimSeven
namespace Go.Proofs.YtnidlohhndpjdaaGreatDoor
namespace Rows

/-- THE TIED CARD OF 'laws.FnAges'. -/
def fnAgesCard : Claim7 := { stood := { row := fnAgesRow, standIns := [], harness := (true, "f086bebfb626ec7489bcc2d52231f4b768b08caf8a8ce390371972d6c323e8c9"), looks := true }, kinds := [], alts := [], laidByText := true, laidKinds := [.data, .data, .data, .data, .sentinel, .sentinel, .pinned], laidTests := true, laidLooks := .later }
def FnAgesCardSaid : Prop := Claim7.holds Tryz.pinned (.plain (OpenSpec.ofChange fnAgesSpec)) fnAgesCard

/-- THE TIED CARD OF 'laws.FnLifetimes'. -/
def fnLifetimesCard : Claim7 := { stood := { row := fnLifetimesRow, standIns := [], harness := (true, "f086bebfb626ec7489bcc2d52231f4b768b08caf8a8ce390371972d6c323e8c9"), looks := true }, kinds := [], alts := [], laidByText := true, laidKinds := [.data, .data, .data, .data, .sentinel, .sentinel, .pinned], laidTests := true, laidLooks := .later }
def FnLifetimesCardSaid : Prop := Claim7.holds Tryz.pinned (.plain (OpenSpec.ofChange fnLifetimesSpec)) fnLifetimesCard

/-- THE TIED CARD OF 'laws.FnConditions'. -/
def fnConditionsCard : Claim7 := { stood := { row := fnConditionsRow, standIns := [], harness := (true, "f086bebfb626ec7489bcc2d52231f4b768b08caf8a8ce390371972d6c323e8c9"), looks := true }, kinds := [], alts := [], laidByText := true, laidKinds := [.data, .data, .data, .data, .sentinel, .sentinel, .pinned], laidTests := true, laidLooks := .later }
def FnConditionsCardSaid : Prop := Claim7.holds Tryz.pinned (.plain (OpenSpec.ofChange fnConditionsSpec)) fnConditionsCard

/-- THE TIED CARD OF 'laws.FnExactPlainAnswer'. -/
def fnExactPlainAnswerCard : Claim7 := { stood := { row := fnExactPlainAnswerRow, standIns := [], harness := (true, "f086bebfb626ec7489bcc2d52231f4b768b08caf8a8ce390371972d6c323e8c9"), looks := true }, kinds := [], alts := [], laidByText := true, laidKinds := [.data, .data, .data, .data, .pinned, .pinned], laidTests := true, laidLooks := .later }
def FnExactPlainAnswerCardSaid : Prop := Claim7.holds Tryz.pinned (.plain (OpenSpec.ofChange fnExactPlainAnswerSpec)) fnExactPlainAnswerCard

/-- THE TIED CARD OF 'laws.FnExactPublishPage'. -/
def fnExactPublishPageCard : Claim7 := { stood := { row := fnExactPublishPageRow, standIns := [], harness := (true, "f086bebfb626ec7489bcc2d52231f4b768b08caf8a8ce390371972d6c323e8c9"), looks := true }, kinds := [], alts := [], laidByText := true, laidKinds := [.data, .pinned, .pinned], laidTests := true, laidLooks := .later }
def FnExactPublishPageCardSaid : Prop := Claim7.holds Tryz.pinned (.plain (OpenSpec.ofChange fnExactPublishPageSpec)) fnExactPublishPageCard

/-- THE TIED CARD OF 'laws.FnVersions'. -/
def fnVersionsCard : Claim7 := { stood := { row := fnVersionsRow, standIns := [], harness := (true, "f086bebfb626ec7489bcc2d52231f4b768b08caf8a8ce390371972d6c323e8c9"), looks := true }, kinds := [], alts := [], laidByText := true, laidKinds := [.data, .pinned, .pinned], laidTests := true, laidLooks := .later }
def FnVersionsCardSaid : Prop := Claim7.holds Tryz.pinned (.plain (OpenSpec.ofChange fnVersionsSpec)) fnVersionsCard

/-- THE SECOND FORM's CARD OF 'laws.FnAges'. -/
def fnAgesUptoCard : Claim7 := { stood := { row := fnAgesUptoRow, standIns := [], harness := (true, "f086bebfb626ec7489bcc2d52231f4b768b08caf8a8ce390371972d6c323e8c9"), looks := true }, kinds := [], alts := [], laidByText := true, laidKinds := [.data, .data, .data, .data, .sentinel, .sentinel, .pinned], laidTests := true, laidLooks := .later }
def FnAgesUptoCardSaid : Prop := Claim7.holds Tryz.pinned (.plain (OpenSpec.upto fnAgesSpec)) fnAgesUptoCard

/-- THE SECOND FORM's CARD OF 'laws.FnLifetimes'. -/
def fnLifetimesUptoCard : Claim7 := { stood := { row := fnLifetimesUptoRow, standIns := [], harness := (true, "f086bebfb626ec7489bcc2d52231f4b768b08caf8a8ce390371972d6c323e8c9"), looks := true }, kinds := [], alts := [], laidByText := true, laidKinds := [.data, .data, .data, .data, .sentinel, .sentinel, .pinned], laidTests := true, laidLooks := .later }
def FnLifetimesUptoCardSaid : Prop := Claim7.holds Tryz.pinned (.plain (OpenSpec.upto fnLifetimesSpec)) fnLifetimesUptoCard

/-- THE SECOND FORM's CARD OF 'laws.FnConditions'. -/
def fnConditionsUptoCard : Claim7 := { stood := { row := fnConditionsUptoRow, standIns := [], harness := (true, "f086bebfb626ec7489bcc2d52231f4b768b08caf8a8ce390371972d6c323e8c9"), looks := true }, kinds := [], alts := [], laidByText := true, laidKinds := [.data, .data, .data, .data, .sentinel, .sentinel, .pinned], laidTests := true, laidLooks := .later }
def FnConditionsUptoCardSaid : Prop := Claim7.holds Tryz.pinned (.plain (OpenSpec.upto fnConditionsSpec)) fnConditionsUptoCard

/-- THE SECOND FORM's CARD OF 'laws.FnExactPlainAnswer'. -/
def fnExactPlainAnswerUptoCard : Claim7 := { stood := { row := fnExactPlainAnswerUptoRow, standIns := [], harness := (true, "f086bebfb626ec7489bcc2d52231f4b768b08caf8a8ce390371972d6c323e8c9"), looks := true }, kinds := [], alts := [], laidByText := true, laidKinds := [.data, .data, .data, .data, .pinned, .pinned], laidTests := true, laidLooks := .later }
def FnExactPlainAnswerUptoCardSaid : Prop := Claim7.holds Tryz.pinned (.plain (OpenSpec.upto fnExactPlainAnswerSpec)) fnExactPlainAnswerUptoCard

/-- THE SECOND FORM's CARD OF 'laws.FnExactPublishPage'. -/
def fnExactPublishPageUptoCard : Claim7 := { stood := { row := fnExactPublishPageUptoRow, standIns := [], harness := (true, "f086bebfb626ec7489bcc2d52231f4b768b08caf8a8ce390371972d6c323e8c9"), looks := true }, kinds := [], alts := [], laidByText := true, laidKinds := [.data, .pinned, .pinned], laidTests := true, laidLooks := .later }
def FnExactPublishPageUptoCardSaid : Prop := Claim7.holds Tryz.pinned (.plain (OpenSpec.upto fnExactPublishPageSpec)) fnExactPublishPageUptoCard

/-- THE SECOND FORM's CARD OF 'laws.FnVersions'. -/
def fnVersionsUptoCard : Claim7 := { stood := { row := fnVersionsUptoRow, standIns := [], harness := (true, "f086bebfb626ec7489bcc2d52231f4b768b08caf8a8ce390371972d6c323e8c9"), looks := true }, kinds := [], alts := [], laidByText := true, laidKinds := [.data, .pinned, .pinned], laidTests := true, laidLooks := .later }
def FnVersionsUptoCardSaid : Prop := Claim7.holds Tryz.pinned (.plain (OpenSpec.upto fnVersionsSpec)) fnVersionsUptoCard
end Rows
end Go.Proofs.YtnidlohhndpjdaaGreatDoor
