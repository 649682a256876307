/-
  No cell of these rows narrows 'for every input' (looked for: loops, veiled, ifaces, maps, wideKeys, modest, calm, conditions, laid).
  DERIVED. THE GIVEN ROWS OF THIS SEAT. 12 by the template 'for every input the law returns true; each argument reads behind the call as it read before'; 0 by the template 'total and deterministic' (their statements: YtilbenelefdihaaTotals.lean).
  GIVEN WITH THE SEED: the statements are not yours to turn. If you find one false, say at which input.
  Laid BY PROGRAM, IN A SANDBOX (cutbox-rows.mjs): the forced cells as the released guide's own fill.sh prints them over the translation 5b3f87bf6edb4453… (all of the seat's roots in one cut). By AI agents, Wed Nov 11 2026. No macro, syntax, notation, axiom, sorry.
-/
import Derived.Test.YtilbenelefdihaaChecked
import GoSem.Claim
import GoSem.ClaimJoined
import GoSem.ClaimMapViews
import Derived.JoinedTies
import Derived.KernelRfl
namespace Go.Proofs.Ytilbenelefdihaa
/- THE CELL 'sum', in the pinned program and in every row, IS THE sha256 OF THE DUMP (.gsa) THAT YtilbenelefdihaaProg.lean LOADS. Nothing in Lean hashes anything: it is a label: what it is worth is what the hold of that sum in a sandbox is worth. -/
noncomputable def Try.pinned : Pinned := { name := "ytilbenelefdihaa", sum := "5b3f87bf6edb4453134684cad739cf400cd8ae2e84f9ad1bd4ae62415554d037", checked := Try.checked }
namespace Rows
def none {H : Type} : Left H := { results := [], args := [] }

/-- 'laws.FnExactIsSafe': WHATEVER THE INPUT: true; the input reads as it did. -/
def fnExactIsSafeSpec : ChangeSpec := { name := "fnExactIsSafe", fn := fun _ => fun
  | [d] => { results := [.lit (.bool true)], args := [d] }
  | _ => none }
def fnExactIsSafeRow : OpenClaim := { program := "ytilbenelefdihaa", sum := "5b3f87bf6edb4453134684cad739cf400cd8ae2e84f9ad1bd4ae62415554d037", func := "loop.example/g03012/laws.FnExactIsSafe", spec := "fnExactIsSafe", apart := false }
def FnExactIsSafeSaid : Prop := fnExactIsSafeRow.holds Try.pinned (OpenSpec.ofChange fnExactIsSafeSpec)

/-- ITS FALSE NEIGHBOUR: 'it returns false'. Refute it at one input. -/
def fnExactIsSafeWrong : ChangeSpec := { name := "fnExactIsSafe", fn := fun _ => fun
  | [d] => { results := [.lit (.bool false)], args := [d] }
  | _ => none }
def FnExactIsSafeWrongFalsely : Prop := fnExactIsSafeRow.holds Try.pinned (OpenSpec.ofChange fnExactIsSafeWrong)

/-- 'laws.FnExactCurrentAge': WHATEVER THE INPUT: true; the input reads as it did. -/
def fnExactCurrentAgeSpec : ChangeSpec := { name := "fnExactCurrentAge", fn := fun _ => fun
  | [d1, d2, d3] => { results := [.lit (.bool true)], args := [d1, d2, d3] }
  | _ => none }
def fnExactCurrentAgeRow : OpenClaim := { program := "ytilbenelefdihaa", sum := "5b3f87bf6edb4453134684cad739cf400cd8ae2e84f9ad1bd4ae62415554d037", func := "loop.example/g03012/laws.FnExactCurrentAge", spec := "fnExactCurrentAge", apart := false }
def FnExactCurrentAgeSaid : Prop := fnExactCurrentAgeRow.holds Try.pinned (OpenSpec.ofChange fnExactCurrentAgeSpec)

/-- ITS FALSE NEIGHBOUR: 'it returns false'. Refute it at one input. -/
def fnExactCurrentAgeWrong : ChangeSpec := { name := "fnExactCurrentAge", fn := fun _ => fun
  | [d1, d2, d3] => { results := [.lit (.bool false)], args := [d1, d2, d3] }
  | _ => none }
def FnExactCurrentAgeWrongFalsely : Prop := fnExactCurrentAgeRow.holds Try.pinned (OpenSpec.ofChange fnExactCurrentAgeWrong)

/-- 'laws.FnExactBodyOf': WHATEVER THE INPUT: true; the input reads as it did. -/
def fnExactBodyOfSpec : ChangeSpec := { name := "fnExactBodyOf", fn := fun _ => fun
  | [d1, d2, d3] => { results := [.lit (.bool true)], args := [d1, d2, d3] }
  | _ => none }
def fnExactBodyOfRow : OpenClaim := { program := "ytilbenelefdihaa", sum := "5b3f87bf6edb4453134684cad739cf400cd8ae2e84f9ad1bd4ae62415554d037", func := "loop.example/g03012/laws.FnExactBodyOf", spec := "fnExactBodyOf", apart := false }
def FnExactBodyOfSaid : Prop := fnExactBodyOfRow.holds Try.pinned (OpenSpec.ofChange fnExactBodyOfSpec)

/-- ITS FALSE NEIGHBOUR: 'it returns false'. Refute it at one input. -/
def fnExactBodyOfWrong : ChangeSpec := { name := "fnExactBodyOf", fn := fun _ => fun
  | [d1, d2, d3] => { results := [.lit (.bool false)], args := [d1, d2, d3] }
  | _ => none }
def FnExactBodyOfWrongFalsely : Prop := fnExactBodyOfRow.holds Try.pinned (OpenSpec.ofChange fnExactBodyOfWrong)

/-- 'laws.FnExactCoversSpan': WHATEVER THE INPUT: true; the input reads as it did. -/
def fnExactCoversSpanSpec : ChangeSpec := { name := "fnExactCoversSpan", fn := fun _ => fun
  | [d1, d2] => { results := [.lit (.bool true)], args := [d1, d2] }
  | _ => none }
def fnExactCoversSpanRow : OpenClaim := { program := "ytilbenelefdihaa", sum := "5b3f87bf6edb4453134684cad739cf400cd8ae2e84f9ad1bd4ae62415554d037", func := "loop.example/g03012/laws.FnExactCoversSpan", spec := "fnExactCoversSpan", unfollowed := true, recurses := true, apart := false }
def FnExactCoversSpanSaid : Prop := fnExactCoversSpanRow.holds Try.pinned (OpenSpec.ofChange fnExactCoversSpanSpec)

/-- ITS FALSE NEIGHBOUR: 'it returns false'. Refute it at one input. -/
def fnExactCoversSpanWrong : ChangeSpec := { name := "fnExactCoversSpan", fn := fun _ => fun
  | [d1, d2] => { results := [.lit (.bool false)], args := [d1, d2] }
  | _ => none }
def FnExactCoversSpanWrongFalsely : Prop := fnExactCoversSpanRow.holds Try.pinned (OpenSpec.ofChange fnExactCoversSpanWrong)

/-- 'laws.FnExactQualityOf': WHATEVER THE INPUT: true; the input reads as it did. -/
def fnExactQualityOfSpec : ChangeSpec := { name := "fnExactQualityOf", fn := fun _ => fun
  | [d1, d2] => { results := [.lit (.bool true)], args := [d1, d2] }
  | _ => none }
def fnExactQualityOfRow : OpenClaim := { program := "ytilbenelefdihaa", sum := "5b3f87bf6edb4453134684cad739cf400cd8ae2e84f9ad1bd4ae62415554d037", func := "loop.example/g03012/laws.FnExactQualityOf", spec := "fnExactQualityOf", apart := false }
def FnExactQualityOfSaid : Prop := fnExactQualityOfRow.holds Try.pinned (OpenSpec.ofChange fnExactQualityOfSpec)

/-- ITS FALSE NEIGHBOUR: 'it returns false'. Refute it at one input. -/
def fnExactQualityOfWrong : ChangeSpec := { name := "fnExactQualityOf", fn := fun _ => fun
  | [d1, d2] => { results := [.lit (.bool false)], args := [d1, d2] }
  | _ => none }
def FnExactQualityOfWrongFalsely : Prop := fnExactQualityOfRow.holds Try.pinned (OpenSpec.ofChange fnExactQualityOfWrong)

/-- 'laws.FnExactReadPieces': WHATEVER THE INPUT: true; the input reads as it did. -/
def fnExactReadPiecesSpec : ChangeSpec := { name := "fnExactReadPieces", fn := fun _ => fun
  | [d1, d2] => { results := [.lit (.bool true)], args := [d1, d2] }
  | _ => none }
def fnExactReadPiecesRow : OpenClaim := { program := "ytilbenelefdihaa", sum := "5b3f87bf6edb4453134684cad739cf400cd8ae2e84f9ad1bd4ae62415554d037", func := "loop.example/g03012/laws.FnExactReadPieces", spec := "fnExactReadPieces", apart := false }
def FnExactReadPiecesSaid : Prop := fnExactReadPiecesRow.holds Try.pinned (OpenSpec.ofChange fnExactReadPiecesSpec)

/-- ITS FALSE NEIGHBOUR: 'it returns false'. Refute it at one input. -/
def fnExactReadPiecesWrong : ChangeSpec := { name := "fnExactReadPieces", fn := fun _ => fun
  | [d1, d2] => { results := [.lit (.bool false)], args := [d1, d2] }
  | _ => none }
def FnExactReadPiecesWrongFalsely : Prop := fnExactReadPiecesRow.holds Try.pinned (OpenSpec.ofChange fnExactReadPiecesWrong)

/-- 'laws.FnExactArePieces': WHATEVER THE INPUT: true; the input reads as it did. -/
def fnExactArePiecesSpec : ChangeSpec := { name := "fnExactArePieces", fn := fun _ => fun
  | [d1, d2] => { results := [.lit (.bool true)], args := [d1, d2] }
  | _ => none }
def fnExactArePiecesRow : OpenClaim := { program := "ytilbenelefdihaa", sum := "5b3f87bf6edb4453134684cad739cf400cd8ae2e84f9ad1bd4ae62415554d037", func := "loop.example/g03012/laws.FnExactArePieces", spec := "fnExactArePieces", apart := false }
def FnExactArePiecesSaid : Prop := fnExactArePiecesRow.holds Try.pinned (OpenSpec.ofChange fnExactArePiecesSpec)

/-- ITS FALSE NEIGHBOUR: 'it returns false'. Refute it at one input. -/
def fnExactArePiecesWrong : ChangeSpec := { name := "fnExactArePieces", fn := fun _ => fun
  | [d1, d2] => { results := [.lit (.bool false)], args := [d1, d2] }
  | _ => none }
def FnExactArePiecesWrongFalsely : Prop := fnExactArePiecesRow.holds Try.pinned (OpenSpec.ofChange fnExactArePiecesWrong)

/-- 'laws.FnExactIsWhole': WHATEVER THE INPUT: true; the input reads as it did. -/
def fnExactIsWholeSpec : ChangeSpec := { name := "fnExactIsWhole", fn := fun _ => fun
  | [d1, d2] => { results := [.lit (.bool true)], args := [d1, d2] }
  | _ => none }
def fnExactIsWholeRow : OpenClaim := { program := "ytilbenelefdihaa", sum := "5b3f87bf6edb4453134684cad739cf400cd8ae2e84f9ad1bd4ae62415554d037", func := "loop.example/g03012/laws.FnExactIsWhole", spec := "fnExactIsWhole", unfollowed := true, recurses := true, apart := false }
def FnExactIsWholeSaid : Prop := fnExactIsWholeRow.holds Try.pinned (OpenSpec.ofChange fnExactIsWholeSpec)

/-- ITS FALSE NEIGHBOUR: 'it returns false'. Refute it at one input. -/
def fnExactIsWholeWrong : ChangeSpec := { name := "fnExactIsWhole", fn := fun _ => fun
  | [d1, d2] => { results := [.lit (.bool false)], args := [d1, d2] }
  | _ => none }
def FnExactIsWholeWrongFalsely : Prop := fnExactIsWholeRow.holds Try.pinned (OpenSpec.ofChange fnExactIsWholeWrong)

/-- 'laws.FnExactSplitTarget': WHATEVER THE INPUT: true; the input reads as it did. -/
def fnExactSplitTargetSpec : ChangeSpec := { name := "fnExactSplitTarget", fn := fun _ => fun
  | [d] => { results := [.lit (.bool true)], args := [d] }
  | _ => none }
def fnExactSplitTargetRow : OpenClaim := { program := "ytilbenelefdihaa", sum := "5b3f87bf6edb4453134684cad739cf400cd8ae2e84f9ad1bd4ae62415554d037", func := "loop.example/g03012/laws.FnExactSplitTarget", spec := "fnExactSplitTarget", inPlace := ["internal/bytealg.IndexByteString", "internal/bytealg.IndexString"], named := ["internal/bytealg.MaxLen"], apart := false }
def FnExactSplitTargetSaid : Prop := fnExactSplitTargetRow.holds Try.pinned (OpenSpec.ofChange fnExactSplitTargetSpec)

/-- ITS FALSE NEIGHBOUR: 'it returns false'. Refute it at one input. -/
def fnExactSplitTargetWrong : ChangeSpec := { name := "fnExactSplitTarget", fn := fun _ => fun
  | [d] => { results := [.lit (.bool false)], args := [d] }
  | _ => none }
def FnExactSplitTargetWrongFalsely : Prop := fnExactSplitTargetRow.holds Try.pinned (OpenSpec.ofChange fnExactSplitTargetWrong)

/-- 'laws.FnExactSameResponse': WHATEVER THE INPUT: true; the input reads as it did. -/
def fnExactSameResponseSpec : ChangeSpec := { name := "fnExactSameResponse", fn := fun _ => fun
  | [d1, d2] => { results := [.lit (.bool true)], args := [d1, d2] }
  | _ => none }
def fnExactSameResponseRow : OpenClaim := { program := "ytilbenelefdihaa", sum := "5b3f87bf6edb4453134684cad739cf400cd8ae2e84f9ad1bd4ae62415554d037", func := "loop.example/g03012/laws.FnExactSameResponse", spec := "fnExactSameResponse", apart := false }
def FnExactSameResponseSaid : Prop := fnExactSameResponseRow.holds Try.pinned (OpenSpec.ofChange fnExactSameResponseSpec)

/-- ITS FALSE NEIGHBOUR: 'it returns false'. Refute it at one input. -/
def fnExactSameResponseWrong : ChangeSpec := { name := "fnExactSameResponse", fn := fun _ => fun
  | [d1, d2] => { results := [.lit (.bool false)], args := [d1, d2] }
  | _ => none }
def FnExactSameResponseWrongFalsely : Prop := fnExactSameResponseRow.holds Try.pinned (OpenSpec.ofChange fnExactSameResponseWrong)

/-- 'laws.FnExactMissingSpans': WHATEVER THE INPUT: true; the input reads as it did. -/
def fnExactMissingSpansSpec : ChangeSpec := { name := "fnExactMissingSpans", fn := fun _ => fun
  | [d1, d2] => { results := [.lit (.bool true)], args := [d1, d2] }
  | _ => none }
def fnExactMissingSpansRow : OpenClaim := { program := "ytilbenelefdihaa", sum := "5b3f87bf6edb4453134684cad739cf400cd8ae2e84f9ad1bd4ae62415554d037", func := "loop.example/g03012/laws.FnExactMissingSpans", spec := "fnExactMissingSpans", apart := false }
def FnExactMissingSpansSaid : Prop := fnExactMissingSpansRow.holds Try.pinned (OpenSpec.ofChange fnExactMissingSpansSpec)

/-- ITS FALSE NEIGHBOUR: 'it returns false'. Refute it at one input. -/
def fnExactMissingSpansWrong : ChangeSpec := { name := "fnExactMissingSpans", fn := fun _ => fun
  | [d1, d2] => { results := [.lit (.bool false)], args := [d1, d2] }
  | _ => none }
def FnExactMissingSpansWrongFalsely : Prop := fnExactMissingSpansRow.holds Try.pinned (OpenSpec.ofChange fnExactMissingSpansWrong)

/-- 'laws.FnExactSpansOf': WHATEVER THE INPUT: true; the input reads as it did. -/
def fnExactSpansOfSpec : ChangeSpec := { name := "fnExactSpansOf", fn := fun _ => fun
  | [d] => { results := [.lit (.bool true)], args := [d] }
  | _ => none }
def fnExactSpansOfRow : OpenClaim := { program := "ytilbenelefdihaa", sum := "5b3f87bf6edb4453134684cad739cf400cd8ae2e84f9ad1bd4ae62415554d037", func := "loop.example/g03012/laws.FnExactSpansOf", spec := "fnExactSpansOf", apart := false }
def FnExactSpansOfSaid : Prop := fnExactSpansOfRow.holds Try.pinned (OpenSpec.ofChange fnExactSpansOfSpec)

/-- ITS FALSE NEIGHBOUR: 'it returns false'. Refute it at one input. -/
def fnExactSpansOfWrong : ChangeSpec := { name := "fnExactSpansOf", fn := fun _ => fun
  | [d] => { results := [.lit (.bool false)], args := [d] }
  | _ => none }
def FnExactSpansOfWrongFalsely : Prop := fnExactSpansOfRow.holds Try.pinned (OpenSpec.ofChange fnExactSpansOfWrong)

/- THE SECOND FORM. 'bulk': how many values and letters a reading holds, each counted each time it is reached (what is shared counts as often as it is met; a slice's spare places count too). A statement '..UptoSaid' is the law's where the arguments, and the package variables that the reading takes, are together of bulk at most 1048576: NARROWER than '..Said'. Prove '..Said' where nothing that the law and all that it calls make is longer than what came in: it says more and counts as full. Else prove '..UptoSaid'. A law counts once. -/
mutual
def uptoBulk {H : Type} : DataW H → Nat
  | .lit (.string bytes) => bytes.length + 1
  | .lit _ => 1
  | .nil => 1
  | .ptr d => uptoBulk d + 1
  | .slice elems spare => uptoBulkAll elems + uptoBulkAll spare + 1
  | .agg parts => uptoBulkAll parts + 1
  | .iface _ d => uptoBulk d + 1
  | .map entries => uptoBulkEntries entries + 1
  | .held _ => 1
def uptoBulkAll {H : Type} : List (DataW H) → Nat
  | [] => 0
  | d :: r => uptoBulk d + uptoBulkAll r
def uptoBulkEntries {H : Type} : List (Lit × DataW H) → Nat
  | [] => 0
  | x :: r => uptoBulkEntry x + uptoBulkEntries r
def uptoBulkEntry {H : Type} : Lit × DataW H → Nat
  | (.string bytes, d) => bytes.length + uptoBulk d + 1
  | (_, d) => uptoBulk d + 1
 end
def uptoSmall : (H : Type) → List (DataW H) → Bool := fun _ ds => decide (uptoBulkAll ds ≤ 1048576)
def OpenSpec.upto (s : _root_.Go.ChangeSpec) : _root_.Go.OpenSpec := { _root_.Go.OpenSpec.ofChange s with cond := some uptoSmall }

/-- 'laws.FnExactIsSafe', WHERE WHAT IT READS IS OF BULK AT MOST 1048576: true; the input reads as it did. -/
def fnExactIsSafeUptoRow : OpenClaim := { program := "ytilbenelefdihaa", sum := "5b3f87bf6edb4453134684cad739cf400cd8ae2e84f9ad1bd4ae62415554d037", func := "loop.example/g03012/laws.FnExactIsSafe", spec := "fnExactIsSafe", apart := false, narrowed := true }
def FnExactIsSafeUptoSaid : Prop := fnExactIsSafeUptoRow.holds Try.pinned (OpenSpec.upto fnExactIsSafeSpec)

/-- 'laws.FnExactCurrentAge', WHERE WHAT IT READS IS OF BULK AT MOST 1048576: true; the input reads as it did. -/
def fnExactCurrentAgeUptoRow : OpenClaim := { program := "ytilbenelefdihaa", sum := "5b3f87bf6edb4453134684cad739cf400cd8ae2e84f9ad1bd4ae62415554d037", func := "loop.example/g03012/laws.FnExactCurrentAge", spec := "fnExactCurrentAge", apart := false, narrowed := true }
def FnExactCurrentAgeUptoSaid : Prop := fnExactCurrentAgeUptoRow.holds Try.pinned (OpenSpec.upto fnExactCurrentAgeSpec)

/-- 'laws.FnExactBodyOf', WHERE WHAT IT READS IS OF BULK AT MOST 1048576: true; the input reads as it did. -/
def fnExactBodyOfUptoRow : OpenClaim := { program := "ytilbenelefdihaa", sum := "5b3f87bf6edb4453134684cad739cf400cd8ae2e84f9ad1bd4ae62415554d037", func := "loop.example/g03012/laws.FnExactBodyOf", spec := "fnExactBodyOf", apart := false, narrowed := true }
def FnExactBodyOfUptoSaid : Prop := fnExactBodyOfUptoRow.holds Try.pinned (OpenSpec.upto fnExactBodyOfSpec)

/-- 'laws.FnExactCoversSpan', WHERE WHAT IT READS IS OF BULK AT MOST 1048576: true; the input reads as it did. -/
def fnExactCoversSpanUptoRow : OpenClaim := { program := "ytilbenelefdihaa", sum := "5b3f87bf6edb4453134684cad739cf400cd8ae2e84f9ad1bd4ae62415554d037", func := "loop.example/g03012/laws.FnExactCoversSpan", spec := "fnExactCoversSpan", unfollowed := true, recurses := true, apart := false, narrowed := true }
def FnExactCoversSpanUptoSaid : Prop := fnExactCoversSpanUptoRow.holds Try.pinned (OpenSpec.upto fnExactCoversSpanSpec)

/-- 'laws.FnExactQualityOf', WHERE WHAT IT READS IS OF BULK AT MOST 1048576: true; the input reads as it did. -/
def fnExactQualityOfUptoRow : OpenClaim := { program := "ytilbenelefdihaa", sum := "5b3f87bf6edb4453134684cad739cf400cd8ae2e84f9ad1bd4ae62415554d037", func := "loop.example/g03012/laws.FnExactQualityOf", spec := "fnExactQualityOf", apart := false, narrowed := true }
def FnExactQualityOfUptoSaid : Prop := fnExactQualityOfUptoRow.holds Try.pinned (OpenSpec.upto fnExactQualityOfSpec)

/-- 'laws.FnExactReadPieces', WHERE WHAT IT READS IS OF BULK AT MOST 1048576: true; the input reads as it did. -/
def fnExactReadPiecesUptoRow : OpenClaim := { program := "ytilbenelefdihaa", sum := "5b3f87bf6edb4453134684cad739cf400cd8ae2e84f9ad1bd4ae62415554d037", func := "loop.example/g03012/laws.FnExactReadPieces", spec := "fnExactReadPieces", apart := false, narrowed := true }
def FnExactReadPiecesUptoSaid : Prop := fnExactReadPiecesUptoRow.holds Try.pinned (OpenSpec.upto fnExactReadPiecesSpec)

/-- 'laws.FnExactArePieces', WHERE WHAT IT READS IS OF BULK AT MOST 1048576: true; the input reads as it did. -/
def fnExactArePiecesUptoRow : OpenClaim := { program := "ytilbenelefdihaa", sum := "5b3f87bf6edb4453134684cad739cf400cd8ae2e84f9ad1bd4ae62415554d037", func := "loop.example/g03012/laws.FnExactArePieces", spec := "fnExactArePieces", apart := false, narrowed := true }
def FnExactArePiecesUptoSaid : Prop := fnExactArePiecesUptoRow.holds Try.pinned (OpenSpec.upto fnExactArePiecesSpec)

/-- 'laws.FnExactIsWhole', WHERE WHAT IT READS IS OF BULK AT MOST 1048576: true; the input reads as it did. -/
def fnExactIsWholeUptoRow : OpenClaim := { program := "ytilbenelefdihaa", sum := "5b3f87bf6edb4453134684cad739cf400cd8ae2e84f9ad1bd4ae62415554d037", func := "loop.example/g03012/laws.FnExactIsWhole", spec := "fnExactIsWhole", unfollowed := true, recurses := true, apart := false, narrowed := true }
def FnExactIsWholeUptoSaid : Prop := fnExactIsWholeUptoRow.holds Try.pinned (OpenSpec.upto fnExactIsWholeSpec)

/-- 'laws.FnExactSplitTarget', WHERE WHAT IT READS IS OF BULK AT MOST 1048576: true; the input reads as it did. -/
def fnExactSplitTargetUptoRow : OpenClaim := { program := "ytilbenelefdihaa", sum := "5b3f87bf6edb4453134684cad739cf400cd8ae2e84f9ad1bd4ae62415554d037", func := "loop.example/g03012/laws.FnExactSplitTarget", spec := "fnExactSplitTarget", inPlace := ["internal/bytealg.IndexByteString", "internal/bytealg.IndexString"], named := ["internal/bytealg.MaxLen"], apart := false, narrowed := true }
def FnExactSplitTargetUptoSaid : Prop := fnExactSplitTargetUptoRow.holds Try.pinned (OpenSpec.upto fnExactSplitTargetSpec)

/-- 'laws.FnExactSameResponse', WHERE WHAT IT READS IS OF BULK AT MOST 1048576: true; the input reads as it did. -/
def fnExactSameResponseUptoRow : OpenClaim := { program := "ytilbenelefdihaa", sum := "5b3f87bf6edb4453134684cad739cf400cd8ae2e84f9ad1bd4ae62415554d037", func := "loop.example/g03012/laws.FnExactSameResponse", spec := "fnExactSameResponse", apart := false, narrowed := true }
def FnExactSameResponseUptoSaid : Prop := fnExactSameResponseUptoRow.holds Try.pinned (OpenSpec.upto fnExactSameResponseSpec)

/-- 'laws.FnExactMissingSpans', WHERE WHAT IT READS IS OF BULK AT MOST 1048576: true; the input reads as it did. -/
def fnExactMissingSpansUptoRow : OpenClaim := { program := "ytilbenelefdihaa", sum := "5b3f87bf6edb4453134684cad739cf400cd8ae2e84f9ad1bd4ae62415554d037", func := "loop.example/g03012/laws.FnExactMissingSpans", spec := "fnExactMissingSpans", apart := false, narrowed := true }
def FnExactMissingSpansUptoSaid : Prop := fnExactMissingSpansUptoRow.holds Try.pinned (OpenSpec.upto fnExactMissingSpansSpec)

/-- 'laws.FnExactSpansOf', WHERE WHAT IT READS IS OF BULK AT MOST 1048576: true; the input reads as it did. -/
def fnExactSpansOfUptoRow : OpenClaim := { program := "ytilbenelefdihaa", sum := "5b3f87bf6edb4453134684cad739cf400cd8ae2e84f9ad1bd4ae62415554d037", func := "loop.example/g03012/laws.FnExactSpansOf", spec := "fnExactSpansOf", apart := false, narrowed := true }
def FnExactSpansOfUptoSaid : Prop := fnExactSpansOfUptoRow.holds Try.pinned (OpenSpec.upto fnExactSpansOfSpec)

end Rows
end Go.Proofs.Ytilbenelefdihaa
