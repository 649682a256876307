/-
  NARROWER THAN 'FOR EVERY INPUT', by the rows' own cells (each row's printed sentence says how): FnExactNormalTarget: laid · FnExactIsNormalTarget: laid · FnExactMayUseOnError: laid · FnExactPlanFor: laid.
  DERIVED. THE GIVEN ROWS OF THIS SEAT. 4 by the template 'for every input the law returns true; each argument reads behind the call as it read before'; 0 by the template 'total and deterministic' (their statements: YtbfkbplolhniiaaDoorTotals.lean).
  GIVEN WITH THE SEED: the statements are not yours to turn. If you find one false, say at which input.
  Laid BY PROGRAM, IN A SANDBOX (cutbox-rows.mjs): the forced cells as the released guide's own fill.sh prints them over the translation dec14d84bb26dfb1… (all of the seat's roots in one cut). By AI agents, Wed Nov 11 2026. No macro, syntax, notation, axiom, sorry.
-/
import Derived.Test.YtbfkbplolhniiaaDoorChecked
import GoSem.PinnedTables
import GoSem.Claim
import GoSem.ClaimJoined
import GoSem.ClaimMapViews
import Derived.JoinedTies
import Derived.KernelRfl
namespace Go.Proofs.YtbfkbplolhniiaaDoor
/- THE CELL 'sum', in the pinned program and in every row, IS THE sha256 OF THE DUMP (.gsa) THAT YtbfkbplolhniiaaDoorProg.lean LOADS. Nothing in Lean hashes anything: it is a label: what it is worth is what the hold of that sum in a sandbox is worth. -/
noncomputable def Tryd.pinned : Pinned := { name := "ytbfkbplolhniiaadoor", sum := "dec14d84bb26dfb15e2041c10a13c120db1526d02bb5f0f8a79af5ad67b3ecef", checked := Tryd.checked }
namespace Rows
def none {H : Type} : Left H := { results := [], args := [] }

/- WHAT THE LISTED PACKAGE-LEVEL VARIABLES READ AS WHEN THE CALL BEGINS. Each datum BY PROGRAM (the guide's laid-datum.mjs) off the statement by which the dump's own 'gosem.cut.vars' lays the variable. In a bare row this is a premise. The card (YtbfkbplolhniiaaDoorCards.lean) ties it to the program's text. -/
def laid_unicode_utf8_acceptRanges {H : Type} : DataW H := .agg [.agg [.lit (.int .u8 128), .lit (.int .u8 191)], .agg [.lit (.int .u8 160), .lit (.int .u8 191)], .agg [.lit (.int .u8 128), .lit (.int .u8 159)], .agg [.lit (.int .u8 144), .lit (.int .u8 191)], .agg [.lit (.int .u8 128), .lit (.int .u8 143)], .agg [.lit (.int .u8 0), .lit (.int .u8 0)], .agg [.lit (.int .u8 0), .lit (.int .u8 0)], .agg [.lit (.int .u8 0), .lit (.int .u8 0)], .agg [.lit (.int .u8 0), .lit (.int .u8 0)], .agg [.lit (.int .u8 0), .lit (.int .u8 0)], .agg [.lit (.int .u8 0), .lit (.int .u8 0)], .agg [.lit (.int .u8 0), .lit (.int .u8 0)], .agg [.lit (.int .u8 0), .lit (.int .u8 0)], .agg [.lit (.int .u8 0), .lit (.int .u8 0)], .agg [.lit (.int .u8 0), .lit (.int .u8 0)], .agg [.lit (.int .u8 0), .lit (.int .u8 0)]]
/-- One of Go's own tables, pinned by name: the form's constant. -/
def laid_unicode_utf8_first : DataW Unit := Go.Pinned.utf8First

/-- 'laws.FnExactNormalTarget': WHATEVER THE INPUT: true; the input reads as it did. -/
def fnExactNormalTargetSpec : ChangeSpec := { name := "fnExactNormalTarget", fn := fun _ => fun
  | [d] => { results := [.lit (.bool true)], args := [d] }
  | _ => none }
def fnExactNormalTargetRow : OpenClaim := { program := "ytbfkbplolhniiaadoor", sum := "dec14d84bb26dfb15e2041c10a13c120db1526d02bb5f0f8a79af5ad67b3ecef", func := "loop.example/g03012/laws.FnExactNormalTarget", spec := "fnExactNormalTarget", inPlace := ["internal/bytealg.IndexByteString", "internal/bytealg.IndexString", "internal/bytealg.CountString", "internal/abi.NoEscape", "internal/bytealg.MakeNoZero"], unfollowed := true, recurses := true, named := ["internal/bytealg.MaxLen", "unicode/utf8.first", "unicode/utf8.acceptRanges"], apart := false, laid := [("unicode/utf8.acceptRanges", laid_unicode_utf8_acceptRanges), ("unicode/utf8.first", laid_unicode_utf8_first)] }
def FnExactNormalTargetSaid : Prop := fnExactNormalTargetRow.holds Tryd.pinned (OpenSpec.ofChange fnExactNormalTargetSpec)

/-- ITS FALSE NEIGHBOUR: 'it returns false'. Refute it at one input. -/
def fnExactNormalTargetWrong : ChangeSpec := { name := "fnExactNormalTarget", fn := fun _ => fun
  | [d] => { results := [.lit (.bool false)], args := [d] }
  | _ => none }
def FnExactNormalTargetWrongFalsely : Prop := fnExactNormalTargetRow.holds Tryd.pinned (OpenSpec.ofChange fnExactNormalTargetWrong)

/-- 'laws.FnExactIsNormalTarget': WHATEVER THE INPUT: true; the input reads as it did. -/
def fnExactIsNormalTargetSpec : ChangeSpec := { name := "fnExactIsNormalTarget", fn := fun _ => fun
  | [d] => { results := [.lit (.bool true)], args := [d] }
  | _ => none }
def fnExactIsNormalTargetRow : OpenClaim := { program := "ytbfkbplolhniiaadoor", sum := "dec14d84bb26dfb15e2041c10a13c120db1526d02bb5f0f8a79af5ad67b3ecef", func := "loop.example/g03012/laws.FnExactIsNormalTarget", spec := "fnExactIsNormalTarget", inPlace := ["internal/bytealg.IndexByteString", "internal/bytealg.IndexString", "internal/bytealg.CountString", "internal/abi.NoEscape", "internal/bytealg.MakeNoZero"], unfollowed := true, recurses := true, named := ["internal/bytealg.MaxLen", "unicode/utf8.first", "unicode/utf8.acceptRanges"], apart := false, laid := [("unicode/utf8.acceptRanges", laid_unicode_utf8_acceptRanges), ("unicode/utf8.first", laid_unicode_utf8_first)] }
def FnExactIsNormalTargetSaid : Prop := fnExactIsNormalTargetRow.holds Tryd.pinned (OpenSpec.ofChange fnExactIsNormalTargetSpec)

/-- ITS FALSE NEIGHBOUR: 'it returns false'. Refute it at one input. -/
def fnExactIsNormalTargetWrong : ChangeSpec := { name := "fnExactIsNormalTarget", fn := fun _ => fun
  | [d] => { results := [.lit (.bool false)], args := [d] }
  | _ => none }
def FnExactIsNormalTargetWrongFalsely : Prop := fnExactIsNormalTargetRow.holds Tryd.pinned (OpenSpec.ofChange fnExactIsNormalTargetWrong)

/-- 'laws.FnExactMayUseOnError': WHATEVER THE INPUT: true; the input reads as it did. -/
def fnExactMayUseOnErrorSpec : ChangeSpec := { name := "fnExactMayUseOnError", fn := fun _ => fun
  | [d1, d2, d3, d4] => { results := [.lit (.bool true)], args := [d1, d2, d3, d4] }
  | _ => none }
def fnExactMayUseOnErrorRow : OpenClaim := { program := "ytbfkbplolhniiaadoor", sum := "dec14d84bb26dfb15e2041c10a13c120db1526d02bb5f0f8a79af5ad67b3ecef", func := "loop.example/g03012/laws.FnExactMayUseOnError", spec := "fnExactMayUseOnError", inPlace := ["internal/abi.NoEscape", "internal/bytealg.MakeNoZero", "internal/bytealg.IndexByteString", "internal/bytealg.IndexString"], named := ["unicode/utf8.first", "unicode/utf8.acceptRanges", "internal/bytealg.MaxLen"], apart := false, laid := [("unicode/utf8.acceptRanges", laid_unicode_utf8_acceptRanges), ("unicode/utf8.first", laid_unicode_utf8_first)] }
def FnExactMayUseOnErrorSaid : Prop := fnExactMayUseOnErrorRow.holds Tryd.pinned (OpenSpec.ofChange fnExactMayUseOnErrorSpec)

/-- ITS FALSE NEIGHBOUR: 'it returns false'. Refute it at one input. -/
def fnExactMayUseOnErrorWrong : ChangeSpec := { name := "fnExactMayUseOnError", fn := fun _ => fun
  | [d1, d2, d3, d4] => { results := [.lit (.bool false)], args := [d1, d2, d3, d4] }
  | _ => none }
def FnExactMayUseOnErrorWrongFalsely : Prop := fnExactMayUseOnErrorRow.holds Tryd.pinned (OpenSpec.ofChange fnExactMayUseOnErrorWrong)

/-- 'laws.FnExactPlanFor': WHATEVER THE INPUT: true; the input reads as it did. -/
def fnExactPlanForSpec : ChangeSpec := { name := "fnExactPlanFor", fn := fun _ => fun
  | [d1, d2, d3, d4] => { results := [.lit (.bool true)], args := [d1, d2, d3, d4] }
  | _ => none }
def fnExactPlanForRow : OpenClaim := { program := "ytbfkbplolhniiaadoor", sum := "dec14d84bb26dfb15e2041c10a13c120db1526d02bb5f0f8a79af5ad67b3ecef", func := "loop.example/g03012/laws.FnExactPlanFor", spec := "fnExactPlanFor", inPlace := ["internal/abi.NoEscape", "internal/bytealg.MakeNoZero", "internal/bytealg.IndexByteString", "internal/bytealg.IndexString"], named := ["unicode/utf8.first", "unicode/utf8.acceptRanges", "internal/bytealg.MaxLen"], apart := false, laid := [("unicode/utf8.acceptRanges", laid_unicode_utf8_acceptRanges), ("unicode/utf8.first", laid_unicode_utf8_first)] }
def FnExactPlanForSaid : Prop := fnExactPlanForRow.holds Tryd.pinned (OpenSpec.ofChange fnExactPlanForSpec)

/-- ITS FALSE NEIGHBOUR: 'it returns false'. Refute it at one input. -/
def fnExactPlanForWrong : ChangeSpec := { name := "fnExactPlanFor", fn := fun _ => fun
  | [d1, d2, d3, d4] => { results := [.lit (.bool false)], args := [d1, d2, d3, d4] }
  | _ => none }
def FnExactPlanForWrongFalsely : Prop := fnExactPlanForRow.holds Tryd.pinned (OpenSpec.ofChange fnExactPlanForWrong)

/- THE SECOND FORM. 'bulk': how many values and letters a reading holds, each counted each time it is reached (what is shared counts as often as it is met; a slice's spare places count too). A statement '..UptoSaid' is the law's where the arguments, and the package variables that the reading takes, are together of bulk at most 1048576: NARROWER than '..Said'. Prove '..Said' where nothing that the law and all that it calls make is longer than what came in: it says more and counts as full. Else prove '..UptoSaid'. A law counts once. -/
mutual
def uptoBulk {H : Type} : DataW H → Nat
  | .lit (.string bytes) => bytes.length + 1
  | .lit _ => 1
  | .nil => 1
  | .ptr d => uptoBulk d + 1
  | .slice elems spare => uptoBulkAll elems + uptoBulkAll spare + 1
  | .agg parts => uptoBulkAll parts + 1
  | .iface _ d => uptoBulk d + 1
  | .map entries => uptoBulkEntries entries + 1
  | .held _ => 1
def uptoBulkAll {H : Type} : List (DataW H) → Nat
  | [] => 0
  | d :: r => uptoBulk d + uptoBulkAll r
def uptoBulkEntries {H : Type} : List (Lit × DataW H) → Nat
  | [] => 0
  | x :: r => uptoBulkEntry x + uptoBulkEntries r
def uptoBulkEntry {H : Type} : Lit × DataW H → Nat
  | (.string bytes, d) => bytes.length + uptoBulk d + 1
  | (_, d) => uptoBulk d + 1
 end
def uptoSmall : (H : Type) → List (DataW H) → Bool := fun _ ds => decide (uptoBulkAll ds ≤ 1048576)
def OpenSpec.upto (s : _root_.Go.ChangeSpec) : _root_.Go.OpenSpec := { _root_.Go.OpenSpec.ofChange s with cond := some uptoSmall }

/-- 'laws.FnExactNormalTarget', WHERE WHAT IT READS IS OF BULK AT MOST 1048576: true; the input reads as it did. -/
def fnExactNormalTargetUptoRow : OpenClaim := { program := "ytbfkbplolhniiaadoor", sum := "dec14d84bb26dfb15e2041c10a13c120db1526d02bb5f0f8a79af5ad67b3ecef", func := "loop.example/g03012/laws.FnExactNormalTarget", spec := "fnExactNormalTarget", inPlace := ["internal/bytealg.IndexByteString", "internal/bytealg.IndexString", "internal/bytealg.CountString", "internal/abi.NoEscape", "internal/bytealg.MakeNoZero"], unfollowed := true, recurses := true, named := ["internal/bytealg.MaxLen", "unicode/utf8.first", "unicode/utf8.acceptRanges"], apart := false, laid := [("unicode/utf8.acceptRanges", laid_unicode_utf8_acceptRanges), ("unicode/utf8.first", laid_unicode_utf8_first)], narrowed := true }
def FnExactNormalTargetUptoSaid : Prop := fnExactNormalTargetUptoRow.holds Tryd.pinned (OpenSpec.upto fnExactNormalTargetSpec)

/-- 'laws.FnExactIsNormalTarget', WHERE WHAT IT READS IS OF BULK AT MOST 1048576: true; the input reads as it did. -/
def fnExactIsNormalTargetUptoRow : OpenClaim := { program := "ytbfkbplolhniiaadoor", sum := "dec14d84bb26dfb15e2041c10a13c120db1526d02bb5f0f8a79af5ad67b3ecef", func := "loop.example/g03012/laws.FnExactIsNormalTarget", spec := "fnExactIsNormalTarget", inPlace := ["internal/bytealg.IndexByteString", "internal/bytealg.IndexString", "internal/bytealg.CountString", "internal/abi.NoEscape", "internal/bytealg.MakeNoZero"], unfollowed := true, recurses := true, named := ["internal/bytealg.MaxLen", "unicode/utf8.first", "unicode/utf8.acceptRanges"], apart := false, laid := [("unicode/utf8.acceptRanges", laid_unicode_utf8_acceptRanges), ("unicode/utf8.first", laid_unicode_utf8_first)], narrowed := true }
def FnExactIsNormalTargetUptoSaid : Prop := fnExactIsNormalTargetUptoRow.holds Tryd.pinned (OpenSpec.upto fnExactIsNormalTargetSpec)

/-- 'laws.FnExactMayUseOnError', WHERE WHAT IT READS IS OF BULK AT MOST 1048576: true; the input reads as it did. -/
def fnExactMayUseOnErrorUptoRow : OpenClaim := { program := "ytbfkbplolhniiaadoor", sum := "dec14d84bb26dfb15e2041c10a13c120db1526d02bb5f0f8a79af5ad67b3ecef", func := "loop.example/g03012/laws.FnExactMayUseOnError", spec := "fnExactMayUseOnError", inPlace := ["internal/abi.NoEscape", "internal/bytealg.MakeNoZero", "internal/bytealg.IndexByteString", "internal/bytealg.IndexString"], named := ["unicode/utf8.first", "unicode/utf8.acceptRanges", "internal/bytealg.MaxLen"], apart := false, laid := [("unicode/utf8.acceptRanges", laid_unicode_utf8_acceptRanges), ("unicode/utf8.first", laid_unicode_utf8_first)], narrowed := true }
def FnExactMayUseOnErrorUptoSaid : Prop := fnExactMayUseOnErrorUptoRow.holds Tryd.pinned (OpenSpec.upto fnExactMayUseOnErrorSpec)

/-- 'laws.FnExactPlanFor', WHERE WHAT IT READS IS OF BULK AT MOST 1048576: true; the input reads as it did. -/
def fnExactPlanForUptoRow : OpenClaim := { program := "ytbfkbplolhniiaadoor", sum := "dec14d84bb26dfb15e2041c10a13c120db1526d02bb5f0f8a79af5ad67b3ecef", func := "loop.example/g03012/laws.FnExactPlanFor", spec := "fnExactPlanFor", inPlace := ["internal/abi.NoEscape", "internal/bytealg.MakeNoZero", "internal/bytealg.IndexByteString", "internal/bytealg.IndexString"], named := ["unicode/utf8.first", "unicode/utf8.acceptRanges", "internal/bytealg.MaxLen"], apart := false, laid := [("unicode/utf8.acceptRanges", laid_unicode_utf8_acceptRanges), ("unicode/utf8.first", laid_unicode_utf8_first)], narrowed := true }
def FnExactPlanForUptoSaid : Prop := fnExactPlanForUptoRow.holds Tryd.pinned (OpenSpec.upto fnExactPlanForSpec)

end Rows
end Go.Proofs.YtbfkbplolhniiaaDoor
