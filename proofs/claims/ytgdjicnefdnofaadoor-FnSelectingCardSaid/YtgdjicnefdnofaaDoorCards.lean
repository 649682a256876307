/-
  DERIVED. GIVEN WITH THE SEED: THE CARDS: each row of YtgdjicnefdnofaaDoorRows.lean that lists a variable, with what it lists TIED to the program's text (the seventh form; the later family's looks); each row that meets fmt, with fmt's text TOLD by the authors' own Lean function (tested against real Go, not proved from fmt's source: count such statements apart). THE CARD IS WHAT COUNTS. Prove the row's statement (the work); the ties are given (YtgdjicnefdnofaaDoorTie.lean); close each card by the builder's one call (the guide's Derived/Test/ToyasCard.lean, 'card_holds'). Laid BY PROGRAM, IN A SANDBOX (cutbox-door.mjs). By AI agents, Wed Nov 11 2026. No macro, syntax, notation, axiom, sorry.
-/
import Derived.Test.YtgdjicnefdnofaaDoorRows
import GoSem.ClaimSeven
namespace Go.Proofs.YtgdjicnefdnofaaDoor
namespace Rows

/-- THE TIED CARD OF 'laws.FnExactIsResponse'. -/
def fnExactIsResponseCard : Claim7 := { stood := { row := fnExactIsResponseRow, standIns := [], harness := (true, "b4c3fbb2dac444bc97f357f1b655b31e42849ec8b7d328cb4958c15d08929af1"), looks := true }, kinds := [], alts := [], laidByText := true, laidKinds := [.data, .pinned], laidTests := true, laidLooks := .later }
def FnExactIsResponseCardSaid : Prop := Claim7.holds Tryd.pinned (.plain (OpenSpec.ofChange fnExactIsResponseSpec)) fnExactIsResponseCard

/-- THE TIED CARD OF 'laws.FnExactAgrees'. -/
def fnExactAgreesCard : Claim7 := { stood := { row := fnExactAgreesRow, standIns := [], harness := (true, "b4c3fbb2dac444bc97f357f1b655b31e42849ec8b7d328cb4958c15d08929af1"), looks := true }, kinds := [], alts := [], laidByText := true, laidKinds := [.data, .pinned], laidTests := true, laidLooks := .later }
def FnExactAgreesCardSaid : Prop := Claim7.holds Tryd.pinned (.plain (OpenSpec.ofChange fnExactAgreesSpec)) fnExactAgreesCard

/-- THE TIED CARD OF 'laws.FnQualities'. -/
def fnQualitiesCard : Claim7 := { stood := { row := fnQualitiesRow, standIns := [], harness := (true, "b4c3fbb2dac444bc97f357f1b655b31e42849ec8b7d328cb4958c15d08929af1"), looks := true }, kinds := [], alts := [], laidByText := true, laidKinds := [.data, .pinned], laidTests := true, laidLooks := .later }
def FnQualitiesCardSaid : Prop := Claim7.holds Tryd.pinned (.plain (OpenSpec.ofChange fnQualitiesSpec)) fnQualitiesCard

/-- THE TIED CARD OF 'laws.FnExactVisitorOf'. -/
def fnExactVisitorOfCard : Claim7 := { stood := { row := fnExactVisitorOfRow, standIns := [], harness := (true, "b4c3fbb2dac444bc97f357f1b655b31e42849ec8b7d328cb4958c15d08929af1"), looks := true }, kinds := [], alts := [], laidByText := true, laidKinds := [.data, .pinned], laidTests := true, laidLooks := .later }
def FnExactVisitorOfCardSaid : Prop := Claim7.holds Tryd.pinned (.plain (OpenSpec.ofChange fnExactVisitorOfSpec)) fnExactVisitorOfCard

/-- THE TIED CARD OF 'laws.FnExactVaryOf'. -/
def fnExactVaryOfCard : Claim7 := { stood := { row := fnExactVaryOfRow, standIns := [], harness := (true, "b4c3fbb2dac444bc97f357f1b655b31e42849ec8b7d328cb4958c15d08929af1"), looks := true }, kinds := [], alts := [], laidByText := true, laidKinds := [.data, .pinned], laidTests := true, laidLooks := .later }
def FnExactVaryOfCardSaid : Prop := Claim7.holds Tryd.pinned (.plain (OpenSpec.ofChange fnExactVaryOfSpec)) fnExactVaryOfCard

/-- THE TIED CARD OF 'laws.FnExactParseQualities'. -/
def fnExactParseQualitiesCard : Claim7 := { stood := { row := fnExactParseQualitiesRow, standIns := [], harness := (true, "b4c3fbb2dac444bc97f357f1b655b31e42849ec8b7d328cb4958c15d08929af1"), looks := true }, kinds := [], alts := [], laidByText := true, laidKinds := [.data, .pinned], laidTests := true, laidLooks := .later }
def FnExactParseQualitiesCardSaid : Prop := Claim7.holds Tryd.pinned (.plain (OpenSpec.ofChange fnExactParseQualitiesSpec)) fnExactParseQualitiesCard

/-- THE TIED CARD OF 'laws.FnExactAgeField'. -/
def fnExactAgeFieldCard : Claim7 := { stood := { row := fnExactAgeFieldRow, standIns := [], harness := (true, "b4c3fbb2dac444bc97f357f1b655b31e42849ec8b7d328cb4958c15d08929af1"), looks := true }, kinds := [], alts := [], laidByText := true, laidKinds := [.data, .data, .data, .sentinel, .sentinel], laidTests := true, laidLooks := .later }
def FnExactAgeFieldCardSaid : Prop := Claim7.holds Tryd.pinned (.plain (OpenSpec.ofChange fnExactAgeFieldSpec)) fnExactAgeFieldCard

/-- THE TIED CARD OF 'laws.FnExactChooseName'. -/
def fnExactChooseNameCard : Claim7 := { stood := { row := fnExactChooseNameRow, standIns := [], harness := (true, "b4c3fbb2dac444bc97f357f1b655b31e42849ec8b7d328cb4958c15d08929af1"), looks := true }, kinds := [], alts := [], laidByText := true, laidKinds := [.data, .pinned], laidTests := true, laidLooks := .later }
def FnExactChooseNameCardSaid : Prop := Claim7.holds Tryd.pinned (.plain (OpenSpec.ofChange fnExactChooseNameSpec)) fnExactChooseNameCard

/-- THE TIED CARD OF 'laws.FnExactFormatResponse'. -/
def fnExactFormatResponseCard : Claim7 := { stood := { row := fnExactFormatResponseRow, standIns := [], harness := (true, "b4c3fbb2dac444bc97f357f1b655b31e42849ec8b7d328cb4958c15d08929af1"), looks := true }, kinds := [], alts := [], laidByText := true, laidKinds := [.data, .data, .data, .data, .pinned], laidTests := true, laidLooks := .later }
def FnExactFormatResponseCardSaid : Prop := Claim7.holds Tryd.pinned (.plain (OpenSpec.ofChange fnExactFormatResponseSpec)) fnExactFormatResponseCard

/-- THE TIED CARD OF 'laws.FnSelecting'. -/
def fnSelectingCard : Claim7 := { stood := { row := fnSelectingRow, standIns := [], harness := (true, "b4c3fbb2dac444bc97f357f1b655b31e42849ec8b7d328cb4958c15d08929af1"), looks := true }, kinds := [], alts := [], laidByText := true, laidKinds := [.data, .pinned], laidTests := true, laidLooks := .later }
def FnSelectingCardSaid : Prop := Claim7.holds Tryd.pinned (.plain (OpenSpec.ofChange fnSelectingSpec)) fnSelectingCard

/-- THE TIED CARD OF 'laws.FnExactIsRequest'. -/
def fnExactIsRequestCard : Claim7 := { stood := { row := fnExactIsRequestRow, standIns := [], harness := (true, "b4c3fbb2dac444bc97f357f1b655b31e42849ec8b7d328cb4958c15d08929af1"), looks := true }, kinds := [], alts := [], laidByText := true, laidKinds := [.data, .pinned, .pinned], laidTests := true, laidLooks := .later }
def FnExactIsRequestCardSaid : Prop := Claim7.holds Tryd.pinned (.plain (OpenSpec.ofChange fnExactIsRequestSpec)) fnExactIsRequestCard

/-- THE TIED CARD OF 'laws.FnExactFormatRequest'. -/
def fnExactFormatRequestCard : Claim7 := { stood := { row := fnExactFormatRequestRow, standIns := [], harness := (true, "b4c3fbb2dac444bc97f357f1b655b31e42849ec8b7d328cb4958c15d08929af1"), looks := true }, kinds := [], alts := [], laidByText := true, laidKinds := [.data, .pinned, .pinned], laidTests := true, laidLooks := .later }
def FnExactFormatRequestCardSaid : Prop := Claim7.holds Tryd.pinned (.plain (OpenSpec.ofChange fnExactFormatRequestSpec)) fnExactFormatRequestCard

/-- THE SECOND FORM's CARD OF 'laws.FnExactIsResponse'. -/
def fnExactIsResponseUptoCard : Claim7 := { stood := { row := fnExactIsResponseUptoRow, standIns := [], harness := (true, "b4c3fbb2dac444bc97f357f1b655b31e42849ec8b7d328cb4958c15d08929af1"), looks := true }, kinds := [], alts := [], laidByText := true, laidKinds := [.data, .pinned], laidTests := true, laidLooks := .later }
def FnExactIsResponseUptoCardSaid : Prop := Claim7.holds Tryd.pinned (.plain (OpenSpec.upto fnExactIsResponseSpec)) fnExactIsResponseUptoCard

/-- THE SECOND FORM's CARD OF 'laws.FnExactAgrees'. -/
def fnExactAgreesUptoCard : Claim7 := { stood := { row := fnExactAgreesUptoRow, standIns := [], harness := (true, "b4c3fbb2dac444bc97f357f1b655b31e42849ec8b7d328cb4958c15d08929af1"), looks := true }, kinds := [], alts := [], laidByText := true, laidKinds := [.data, .pinned], laidTests := true, laidLooks := .later }
def FnExactAgreesUptoCardSaid : Prop := Claim7.holds Tryd.pinned (.plain (OpenSpec.upto fnExactAgreesSpec)) fnExactAgreesUptoCard

/-- THE SECOND FORM's CARD OF 'laws.FnQualities'. -/
def fnQualitiesUptoCard : Claim7 := { stood := { row := fnQualitiesUptoRow, standIns := [], harness := (true, "b4c3fbb2dac444bc97f357f1b655b31e42849ec8b7d328cb4958c15d08929af1"), looks := true }, kinds := [], alts := [], laidByText := true, laidKinds := [.data, .pinned], laidTests := true, laidLooks := .later }
def FnQualitiesUptoCardSaid : Prop := Claim7.holds Tryd.pinned (.plain (OpenSpec.upto fnQualitiesSpec)) fnQualitiesUptoCard

/-- THE SECOND FORM's CARD OF 'laws.FnExactVisitorOf'. -/
def fnExactVisitorOfUptoCard : Claim7 := { stood := { row := fnExactVisitorOfUptoRow, standIns := [], harness := (true, "b4c3fbb2dac444bc97f357f1b655b31e42849ec8b7d328cb4958c15d08929af1"), looks := true }, kinds := [], alts := [], laidByText := true, laidKinds := [.data, .pinned], laidTests := true, laidLooks := .later }
def FnExactVisitorOfUptoCardSaid : Prop := Claim7.holds Tryd.pinned (.plain (OpenSpec.upto fnExactVisitorOfSpec)) fnExactVisitorOfUptoCard

/-- THE SECOND FORM's CARD OF 'laws.FnExactVaryOf'. -/
def fnExactVaryOfUptoCard : Claim7 := { stood := { row := fnExactVaryOfUptoRow, standIns := [], harness := (true, "b4c3fbb2dac444bc97f357f1b655b31e42849ec8b7d328cb4958c15d08929af1"), looks := true }, kinds := [], alts := [], laidByText := true, laidKinds := [.data, .pinned], laidTests := true, laidLooks := .later }
def FnExactVaryOfUptoCardSaid : Prop := Claim7.holds Tryd.pinned (.plain (OpenSpec.upto fnExactVaryOfSpec)) fnExactVaryOfUptoCard

/-- THE SECOND FORM's CARD OF 'laws.FnExactParseQualities'. -/
def fnExactParseQualitiesUptoCard : Claim7 := { stood := { row := fnExactParseQualitiesUptoRow, standIns := [], harness := (true, "b4c3fbb2dac444bc97f357f1b655b31e42849ec8b7d328cb4958c15d08929af1"), looks := true }, kinds := [], alts := [], laidByText := true, laidKinds := [.data, .pinned], laidTests := true, laidLooks := .later }
def FnExactParseQualitiesUptoCardSaid : Prop := Claim7.holds Tryd.pinned (.plain (OpenSpec.upto fnExactParseQualitiesSpec)) fnExactParseQualitiesUptoCard

/-- THE SECOND FORM's CARD OF 'laws.FnExactAgeField'. -/
def fnExactAgeFieldUptoCard : Claim7 := { stood := { row := fnExactAgeFieldUptoRow, standIns := [], harness := (true, "b4c3fbb2dac444bc97f357f1b655b31e42849ec8b7d328cb4958c15d08929af1"), looks := true }, kinds := [], alts := [], laidByText := true, laidKinds := [.data, .data, .data, .sentinel, .sentinel], laidTests := true, laidLooks := .later }
def FnExactAgeFieldUptoCardSaid : Prop := Claim7.holds Tryd.pinned (.plain (OpenSpec.upto fnExactAgeFieldSpec)) fnExactAgeFieldUptoCard

/-- THE SECOND FORM's CARD OF 'laws.FnExactChooseName'. -/
def fnExactChooseNameUptoCard : Claim7 := { stood := { row := fnExactChooseNameUptoRow, standIns := [], harness := (true, "b4c3fbb2dac444bc97f357f1b655b31e42849ec8b7d328cb4958c15d08929af1"), looks := true }, kinds := [], alts := [], laidByText := true, laidKinds := [.data, .pinned], laidTests := true, laidLooks := .later }
def FnExactChooseNameUptoCardSaid : Prop := Claim7.holds Tryd.pinned (.plain (OpenSpec.upto fnExactChooseNameSpec)) fnExactChooseNameUptoCard

/-- THE SECOND FORM's CARD OF 'laws.FnExactFormatResponse'. -/
def fnExactFormatResponseUptoCard : Claim7 := { stood := { row := fnExactFormatResponseUptoRow, standIns := [], harness := (true, "b4c3fbb2dac444bc97f357f1b655b31e42849ec8b7d328cb4958c15d08929af1"), looks := true }, kinds := [], alts := [], laidByText := true, laidKinds := [.data, .data, .data, .data, .pinned], laidTests := true, laidLooks := .later }
def FnExactFormatResponseUptoCardSaid : Prop := Claim7.holds Tryd.pinned (.plain (OpenSpec.upto fnExactFormatResponseSpec)) fnExactFormatResponseUptoCard

/-- THE SECOND FORM's CARD OF 'laws.FnSelecting'. -/
def fnSelectingUptoCard : Claim7 := { stood := { row := fnSelectingUptoRow, standIns := [], harness := (true, "b4c3fbb2dac444bc97f357f1b655b31e42849ec8b7d328cb4958c15d08929af1"), looks := true }, kinds := [], alts := [], laidByText := true, laidKinds := [.data, .pinned], laidTests := true, laidLooks := .later }
def FnSelectingUptoCardSaid : Prop := Claim7.holds Tryd.pinned (.plain (OpenSpec.upto fnSelectingSpec)) fnSelectingUptoCard

/-- THE SECOND FORM's CARD OF 'laws.FnExactIsRequest'. -/
def fnExactIsRequestUptoCard : Claim7 := { stood := { row := fnExactIsRequestUptoRow, standIns := [], harness := (true, "b4c3fbb2dac444bc97f357f1b655b31e42849ec8b7d328cb4958c15d08929af1"), looks := true }, kinds := [], alts := [], laidByText := true, laidKinds := [.data, .pinned, .pinned], laidTests := true, laidLooks := .later }
def FnExactIsRequestUptoCardSaid : Prop := Claim7.holds Tryd.pinned (.plain (OpenSpec.upto fnExactIsRequestSpec)) fnExactIsRequestUptoCard

/-- THE SECOND FORM's CARD OF 'laws.FnExactFormatRequest'. -/
def fnExactFormatRequestUptoCard : Claim7 := { stood := { row := fnExactFormatRequestUptoRow, standIns := [], harness := (true, "b4c3fbb2dac444bc97f357f1b655b31e42849ec8b7d328cb4958c15d08929af1"), looks := true }, kinds := [], alts := [], laidByText := true, laidKinds := [.data, .pinned, .pinned], laidTests := true, laidLooks := .later }
def FnExactFormatRequestUptoCardSaid : Prop := Claim7.holds Tryd.pinned (.plain (OpenSpec.upto fnExactFormatRequestSpec)) fnExactFormatRequestUptoCard
end Rows
end Go.Proofs.YtgdjicnefdnofaaDoor
