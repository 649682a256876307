/-
  DERIVED. GIVEN WITH THE SEED: THE CARDS: each row of YtbfkbplolhniiaaDoorRows.lean that lists a variable, with what it lists TIED to the program's text (the seventh form; the later family's looks); each row that meets fmt, with fmt's text TOLD by the authors' own Lean function (tested against real Go, not proved from fmt's source: count such statements apart). THE CARD IS WHAT COUNTS. Prove the row's statement (the work); the ties are given (YtbfkbplolhniiaaDoorTie.lean); close each card by the builder's one call (the guide's Derived/Test/ToyasCard.lean, 'card_holds'). Laid BY PROGRAM, IN A SANDBOX (cutbox-door.mjs). By AI agents, Wed Nov 11 2026. No macro, syntax, notation, axiom, sorry.
-/
import Derived.Test.YtbfkbplolhniiaaDoorRows
import GoSem.ClaimSeven
namespace Go.Proofs.YtbfkbplolhniiaaDoor
namespace Rows

/-- THE TIED CARD OF 'laws.FnExactNormalTarget'. -/
def fnExactNormalTargetCard : Claim7 := { stood := { row := fnExactNormalTargetRow, standIns := [], harness := (true, "ad31fd3ec30a4ad0d5a86aa83ae7b56888066766f90485e8efe67dc4e16799f8"), looks := false }, kinds := [], alts := [], laidByText := true, laidKinds := [.data, .pinned], laidTests := true, laidLooks := .later }
def FnExactNormalTargetCardSaid : Prop := Claim7.holds Tryd.pinned (.plain (OpenSpec.ofChange fnExactNormalTargetSpec)) fnExactNormalTargetCard

/-- THE TIED CARD OF 'laws.FnExactIsNormalTarget'. -/
def fnExactIsNormalTargetCard : Claim7 := { stood := { row := fnExactIsNormalTargetRow, standIns := [], harness := (true, "ad31fd3ec30a4ad0d5a86aa83ae7b56888066766f90485e8efe67dc4e16799f8"), looks := false }, kinds := [], alts := [], laidByText := true, laidKinds := [.data, .pinned], laidTests := true, laidLooks := .later }
def FnExactIsNormalTargetCardSaid : Prop := Claim7.holds Tryd.pinned (.plain (OpenSpec.ofChange fnExactIsNormalTargetSpec)) fnExactIsNormalTargetCard

/-- THE TIED CARD OF 'laws.FnExactMayUseOnError'. -/
def fnExactMayUseOnErrorCard : Claim7 := { stood := { row := fnExactMayUseOnErrorRow, standIns := [], harness := (true, "ad31fd3ec30a4ad0d5a86aa83ae7b56888066766f90485e8efe67dc4e16799f8"), looks := false }, kinds := [], alts := [], laidByText := true, laidKinds := [.data, .pinned], laidTests := true, laidLooks := .later }
def FnExactMayUseOnErrorCardSaid : Prop := Claim7.holds Tryd.pinned (.plain (OpenSpec.ofChange fnExactMayUseOnErrorSpec)) fnExactMayUseOnErrorCard

/-- THE TIED CARD OF 'laws.FnExactPlanFor'. -/
def fnExactPlanForCard : Claim7 := { stood := { row := fnExactPlanForRow, standIns := [], harness := (true, "ad31fd3ec30a4ad0d5a86aa83ae7b56888066766f90485e8efe67dc4e16799f8"), looks := false }, kinds := [], alts := [], laidByText := true, laidKinds := [.data, .pinned], laidTests := true, laidLooks := .later }
def FnExactPlanForCardSaid : Prop := Claim7.holds Tryd.pinned (.plain (OpenSpec.ofChange fnExactPlanForSpec)) fnExactPlanForCard

/-- THE SECOND FORM's CARD OF 'laws.FnExactNormalTarget'. -/
def fnExactNormalTargetUptoCard : Claim7 := { stood := { row := fnExactNormalTargetUptoRow, standIns := [], harness := (true, "ad31fd3ec30a4ad0d5a86aa83ae7b56888066766f90485e8efe67dc4e16799f8"), looks := false }, kinds := [], alts := [], laidByText := true, laidKinds := [.data, .pinned], laidTests := true, laidLooks := .later }
def FnExactNormalTargetUptoCardSaid : Prop := Claim7.holds Tryd.pinned (.plain (OpenSpec.upto fnExactNormalTargetSpec)) fnExactNormalTargetUptoCard

/-- THE SECOND FORM's CARD OF 'laws.FnExactIsNormalTarget'. -/
def fnExactIsNormalTargetUptoCard : Claim7 := { stood := { row := fnExactIsNormalTargetUptoRow, standIns := [], harness := (true, "ad31fd3ec30a4ad0d5a86aa83ae7b56888066766f90485e8efe67dc4e16799f8"), looks := false }, kinds := [], alts := [], laidByText := true, laidKinds := [.data, .pinned], laidTests := true, laidLooks := .later }
def FnExactIsNormalTargetUptoCardSaid : Prop := Claim7.holds Tryd.pinned (.plain (OpenSpec.upto fnExactIsNormalTargetSpec)) fnExactIsNormalTargetUptoCard

/-- THE SECOND FORM's CARD OF 'laws.FnExactMayUseOnError'. -/
def fnExactMayUseOnErrorUptoCard : Claim7 := { stood := { row := fnExactMayUseOnErrorUptoRow, standIns := [], harness := (true, "ad31fd3ec30a4ad0d5a86aa83ae7b56888066766f90485e8efe67dc4e16799f8"), looks := false }, kinds := [], alts := [], laidByText := true, laidKinds := [.data, .pinned], laidTests := true, laidLooks := .later }
def FnExactMayUseOnErrorUptoCardSaid : Prop := Claim7.holds Tryd.pinned (.plain (OpenSpec.upto fnExactMayUseOnErrorSpec)) fnExactMayUseOnErrorUptoCard

/-- THE SECOND FORM's CARD OF 'laws.FnExactPlanFor'. -/
def fnExactPlanForUptoCard : Claim7 := { stood := { row := fnExactPlanForUptoRow, standIns := [], harness := (true, "ad31fd3ec30a4ad0d5a86aa83ae7b56888066766f90485e8efe67dc4e16799f8"), looks := false }, kinds := [], alts := [], laidByText := true, laidKinds := [.data, .pinned], laidTests := true, laidLooks := .later }
def FnExactPlanForUptoCardSaid : Prop := Claim7.holds Tryd.pinned (.plain (OpenSpec.upto fnExactPlanForSpec)) fnExactPlanForUptoCard
end Rows
end Go.Proofs.YtbfkbplolhniiaaDoor
