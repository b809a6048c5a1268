/-
  No cell of these rows narrows 'for every input' (looked for: loops, veiled, ifaces, maps, wideKeys, modest, calm, conditions, laid).
  DERIVED. THE GIVEN ROWS OF THIS SEAT. 7 by the template 'for every input the law returns true; each argument reads behind the call as it read before'; 0 by the template 'total and deterministic' (their statements: YtcddmggefmfkkaaTotals.lean).
  GIVEN WITH THE SEED: the statements are not yours to turn. If you find one false, say at which input.
  Laid BY PROGRAM, IN A SANDBOX (cutbox-rows.mjs): the forced cells as the released guide's own fill.sh prints them over the translation 6165cb91764ef71c… (all of the seat's roots in one cut). By AI agents, Wed Nov 11 2026. No macro, syntax, notation, axiom, sorry.
-/
import Derived.Test.YtcddmggefmfkkaaChecked
import GoSem.Claim
import GoSem.ClaimJoined
import GoSem.ClaimMapViews
import Derived.JoinedTies
import Derived.KernelRfl
namespace Go.Proofs.Ytcddmggefmfkkaa
/- THE CELL 'sum', in the pinned program and in every row, IS THE sha256 OF THE DUMP (.gsa) THAT YtcddmggefmfkkaaProg.lean LOADS. Nothing in Lean hashes anything: it is a label: what it is worth is what the hold of that sum in a sandbox is worth. -/
noncomputable def Try.pinned : Pinned := { name := "ytcddmggefmfkkaa", sum := "6165cb91764ef71c156d0c2c9df5233a9ace3ee292f158ead2a3f47c5efac700", checked := Try.checked }
namespace Rows
def none {H : Type} : Left H := { results := [], args := [] }

/-- 'decompilerlaw45.CoverageBlocks': WHATEVER THE INPUT: true; the input reads as it did. -/
def coverageBlocksSpec : ChangeSpec := { name := "coverageBlocks", fn := fun _ => fun
  | [d1, d2] => { results := [.lit (.bool true)], args := [d1, d2] }
  | _ => none }
def coverageBlocksRow : OpenClaim := { program := "ytcddmggefmfkkaa", sum := "6165cb91764ef71c156d0c2c9df5233a9ace3ee292f158ead2a3f47c5efac700", func := "decompiler/decompilerlaw45.CoverageBlocks", spec := "coverageBlocks", unfollowed := true, recurses := true, apart := false }
def CoverageBlocksSaid : Prop := coverageBlocksRow.holds Try.pinned (OpenSpec.ofChange coverageBlocksSpec)

/-- ITS FALSE NEIGHBOUR: 'it returns false'. Refute it at one input. -/
def coverageBlocksWrong : ChangeSpec := { name := "coverageBlocks", fn := fun _ => fun
  | [d1, d2] => { results := [.lit (.bool false)], args := [d1, d2] }
  | _ => none }
def CoverageBlocksWrongFalsely : Prop := coverageBlocksRow.holds Try.pinned (OpenSpec.ofChange coverageBlocksWrong)

/-- 'decompilerlaw45.CoverageInputs': WHATEVER THE INPUT: true; the input reads as it did. -/
def coverageInputsSpec : ChangeSpec := { name := "coverageInputs", fn := fun _ => fun
  | [d1, d2, d3] => { results := [.lit (.bool true)], args := [d1, d2, d3] }
  | _ => none }
def coverageInputsRow : OpenClaim := { program := "ytcddmggefmfkkaa", sum := "6165cb91764ef71c156d0c2c9df5233a9ace3ee292f158ead2a3f47c5efac700", func := "decompiler/decompilerlaw45.CoverageInputs", spec := "coverageInputs", unfollowed := true, recurses := true, apart := false }
def CoverageInputsSaid : Prop := coverageInputsRow.holds Try.pinned (OpenSpec.ofChange coverageInputsSpec)

/-- ITS FALSE NEIGHBOUR: 'it returns false'. Refute it at one input. -/
def coverageInputsWrong : ChangeSpec := { name := "coverageInputs", fn := fun _ => fun
  | [d1, d2, d3] => { results := [.lit (.bool false)], args := [d1, d2, d3] }
  | _ => none }
def CoverageInputsWrongFalsely : Prop := coverageInputsRow.holds Try.pinned (OpenSpec.ofChange coverageInputsWrong)

/-- 'decompilerlaw45.CoverageInputsMore': WHATEVER THE INPUT: true; the input reads as it did. -/
def coverageInputsMoreSpec : ChangeSpec := { name := "coverageInputsMore", fn := fun _ => fun
  | [d1, d2, d3] => { results := [.lit (.bool true)], args := [d1, d2, d3] }
  | _ => none }
def coverageInputsMoreRow : OpenClaim := { program := "ytcddmggefmfkkaa", sum := "6165cb91764ef71c156d0c2c9df5233a9ace3ee292f158ead2a3f47c5efac700", func := "decompiler/decompilerlaw45.CoverageInputsMore", spec := "coverageInputsMore", unfollowed := true, recurses := true, apart := false }
def CoverageInputsMoreSaid : Prop := coverageInputsMoreRow.holds Try.pinned (OpenSpec.ofChange coverageInputsMoreSpec)

/-- ITS FALSE NEIGHBOUR: 'it returns false'. Refute it at one input. -/
def coverageInputsMoreWrong : ChangeSpec := { name := "coverageInputsMore", fn := fun _ => fun
  | [d1, d2, d3] => { results := [.lit (.bool false)], args := [d1, d2, d3] }
  | _ => none }
def CoverageInputsMoreWrongFalsely : Prop := coverageInputsMoreRow.holds Try.pinned (OpenSpec.ofChange coverageInputsMoreWrong)

/-- 'decompilerlaw45.CoverageMinimize': WHATEVER THE INPUT: true; the input reads as it did. -/
def coverageMinimizeSpec : ChangeSpec := { name := "coverageMinimize", fn := fun _ => fun
  | [d1, d2] => { results := [.lit (.bool true)], args := [d1, d2] }
  | _ => none }
def coverageMinimizeRow : OpenClaim := { program := "ytcddmggefmfkkaa", sum := "6165cb91764ef71c156d0c2c9df5233a9ace3ee292f158ead2a3f47c5efac700", func := "decompiler/decompilerlaw45.CoverageMinimize", spec := "coverageMinimize", unfollowed := true, recurses := true, apart := false }
def CoverageMinimizeSaid : Prop := coverageMinimizeRow.holds Try.pinned (OpenSpec.ofChange coverageMinimizeSpec)

/-- ITS FALSE NEIGHBOUR: 'it returns false'. Refute it at one input. -/
def coverageMinimizeWrong : ChangeSpec := { name := "coverageMinimize", fn := fun _ => fun
  | [d1, d2] => { results := [.lit (.bool false)], args := [d1, d2] }
  | _ => none }
def CoverageMinimizeWrongFalsely : Prop := coverageMinimizeRow.holds Try.pinned (OpenSpec.ofChange coverageMinimizeWrong)

/-- 'decompilerlaw45.CoverageMinimal': WHATEVER THE INPUT: true; the input reads as it did. -/
def coverageMinimalSpec : ChangeSpec := { name := "coverageMinimal", fn := fun _ => fun
  | [d1, d2] => { results := [.lit (.bool true)], args := [d1, d2] }
  | _ => none }
def coverageMinimalRow : OpenClaim := { program := "ytcddmggefmfkkaa", sum := "6165cb91764ef71c156d0c2c9df5233a9ace3ee292f158ead2a3f47c5efac700", func := "decompiler/decompilerlaw45.CoverageMinimal", spec := "coverageMinimal", unfollowed := true, recurses := true, apart := false }
def CoverageMinimalSaid : Prop := coverageMinimalRow.holds Try.pinned (OpenSpec.ofChange coverageMinimalSpec)

/-- ITS FALSE NEIGHBOUR: 'it returns false'. Refute it at one input. -/
def coverageMinimalWrong : ChangeSpec := { name := "coverageMinimal", fn := fun _ => fun
  | [d1, d2] => { results := [.lit (.bool false)], args := [d1, d2] }
  | _ => none }
def CoverageMinimalWrongFalsely : Prop := coverageMinimalRow.holds Try.pinned (OpenSpec.ofChange coverageMinimalWrong)

/-- 'decompilerlaw45.CoverageCounts': WHATEVER THE INPUT: true; the input reads as it did. -/
def coverageCountsSpec : ChangeSpec := { name := "coverageCounts", fn := fun _ => fun
  | [d1, d2, d3] => { results := [.lit (.bool true)], args := [d1, d2, d3] }
  | _ => none }
def coverageCountsRow : OpenClaim := { program := "ytcddmggefmfkkaa", sum := "6165cb91764ef71c156d0c2c9df5233a9ace3ee292f158ead2a3f47c5efac700", func := "decompiler/decompilerlaw45.CoverageCounts", spec := "coverageCounts", unfollowed := true, recurses := true, apart := false }
def CoverageCountsSaid : Prop := coverageCountsRow.holds Try.pinned (OpenSpec.ofChange coverageCountsSpec)

/-- ITS FALSE NEIGHBOUR: 'it returns false'. Refute it at one input. -/
def coverageCountsWrong : ChangeSpec := { name := "coverageCounts", fn := fun _ => fun
  | [d1, d2, d3] => { results := [.lit (.bool false)], args := [d1, d2, d3] }
  | _ => none }
def CoverageCountsWrongFalsely : Prop := coverageCountsRow.holds Try.pinned (OpenSpec.ofChange coverageCountsWrong)

/-- 'decompilerlaw45.CoverageMerges': WHATEVER THE INPUT: true; the input reads as it did. -/
def coverageMergesSpec : ChangeSpec := { name := "coverageMerges", fn := fun _ => fun
  | [d1, d2, d3] => { results := [.lit (.bool true)], args := [d1, d2, d3] }
  | _ => none }
def coverageMergesRow : OpenClaim := { program := "ytcddmggefmfkkaa", sum := "6165cb91764ef71c156d0c2c9df5233a9ace3ee292f158ead2a3f47c5efac700", func := "decompiler/decompilerlaw45.CoverageMerges", spec := "coverageMerges", unfollowed := true, recurses := true, apart := false }
def CoverageMergesSaid : Prop := coverageMergesRow.holds Try.pinned (OpenSpec.ofChange coverageMergesSpec)

/-- ITS FALSE NEIGHBOUR: 'it returns false'. Refute it at one input. -/
def coverageMergesWrong : ChangeSpec := { name := "coverageMerges", fn := fun _ => fun
  | [d1, d2, d3] => { results := [.lit (.bool false)], args := [d1, d2, d3] }
  | _ => none }
def CoverageMergesWrongFalsely : Prop := coverageMergesRow.holds Try.pinned (OpenSpec.ofChange coverageMergesWrong)

/- THE SECOND FORM. 'bulk': how many values and letters a reading holds, each counted each time it is reached (what is shared counts as often as it is met; a slice's spare places count too). A statement '..UptoSaid' is the law's where the arguments, and the package variables that the reading takes, are together of bulk at most 1048576: NARROWER than '..Said'. Prove '..Said' where nothing that the law and all that it calls make is longer than what came in: it says more and counts as full. Else prove '..UptoSaid'. A law counts once. -/
mutual
def uptoBulk {H : Type} : DataW H → Nat
  | .lit (.string bytes) => bytes.length + 1
  | .lit _ => 1
  | .nil => 1
  | .ptr d => uptoBulk d + 1
  | .slice elems spare => uptoBulkAll elems + uptoBulkAll spare + 1
  | .agg parts => uptoBulkAll parts + 1
  | .iface _ d => uptoBulk d + 1
  | .map entries => uptoBulkEntries entries + 1
  | .held _ => 1
def uptoBulkAll {H : Type} : List (DataW H) → Nat
  | [] => 0
  | d :: r => uptoBulk d + uptoBulkAll r
def uptoBulkEntries {H : Type} : List (Lit × DataW H) → Nat
  | [] => 0
  | x :: r => uptoBulkEntry x + uptoBulkEntries r
def uptoBulkEntry {H : Type} : Lit × DataW H → Nat
  | (.string bytes, d) => bytes.length + uptoBulk d + 1
  | (_, d) => uptoBulk d + 1
 end
def uptoSmall : (H : Type) → List (DataW H) → Bool := fun _ ds => decide (uptoBulkAll ds ≤ 1048576)
def OpenSpec.upto (s : _root_.Go.ChangeSpec) : _root_.Go.OpenSpec := { _root_.Go.OpenSpec.ofChange s with cond := some uptoSmall }

/-- 'decompilerlaw45.CoverageBlocks', WHERE WHAT IT READS IS OF BULK AT MOST 1048576: true; the input reads as it did. -/
def coverageBlocksUptoRow : OpenClaim := { program := "ytcddmggefmfkkaa", sum := "6165cb91764ef71c156d0c2c9df5233a9ace3ee292f158ead2a3f47c5efac700", func := "decompiler/decompilerlaw45.CoverageBlocks", spec := "coverageBlocks", unfollowed := true, recurses := true, apart := false, narrowed := true }
def CoverageBlocksUptoSaid : Prop := coverageBlocksUptoRow.holds Try.pinned (OpenSpec.upto coverageBlocksSpec)

/-- 'decompilerlaw45.CoverageInputs', WHERE WHAT IT READS IS OF BULK AT MOST 1048576: true; the input reads as it did. -/
def coverageInputsUptoRow : OpenClaim := { program := "ytcddmggefmfkkaa", sum := "6165cb91764ef71c156d0c2c9df5233a9ace3ee292f158ead2a3f47c5efac700", func := "decompiler/decompilerlaw45.CoverageInputs", spec := "coverageInputs", unfollowed := true, recurses := true, apart := false, narrowed := true }
def CoverageInputsUptoSaid : Prop := coverageInputsUptoRow.holds Try.pinned (OpenSpec.upto coverageInputsSpec)

/-- 'decompilerlaw45.CoverageInputsMore', WHERE WHAT IT READS IS OF BULK AT MOST 1048576: true; the input reads as it did. -/
def coverageInputsMoreUptoRow : OpenClaim := { program := "ytcddmggefmfkkaa", sum := "6165cb91764ef71c156d0c2c9df5233a9ace3ee292f158ead2a3f47c5efac700", func := "decompiler/decompilerlaw45.CoverageInputsMore", spec := "coverageInputsMore", unfollowed := true, recurses := true, apart := false, narrowed := true }
def CoverageInputsMoreUptoSaid : Prop := coverageInputsMoreUptoRow.holds Try.pinned (OpenSpec.upto coverageInputsMoreSpec)

/-- 'decompilerlaw45.CoverageMinimize', WHERE WHAT IT READS IS OF BULK AT MOST 1048576: true; the input reads as it did. -/
def coverageMinimizeUptoRow : OpenClaim := { program := "ytcddmggefmfkkaa", sum := "6165cb91764ef71c156d0c2c9df5233a9ace3ee292f158ead2a3f47c5efac700", func := "decompiler/decompilerlaw45.CoverageMinimize", spec := "coverageMinimize", unfollowed := true, recurses := true, apart := false, narrowed := true }
def CoverageMinimizeUptoSaid : Prop := coverageMinimizeUptoRow.holds Try.pinned (OpenSpec.upto coverageMinimizeSpec)

/-- 'decompilerlaw45.CoverageMinimal', WHERE WHAT IT READS IS OF BULK AT MOST 1048576: true; the input reads as it did. -/
def coverageMinimalUptoRow : OpenClaim := { program := "ytcddmggefmfkkaa", sum := "6165cb91764ef71c156d0c2c9df5233a9ace3ee292f158ead2a3f47c5efac700", func := "decompiler/decompilerlaw45.CoverageMinimal", spec := "coverageMinimal", unfollowed := true, recurses := true, apart := false, narrowed := true }
def CoverageMinimalUptoSaid : Prop := coverageMinimalUptoRow.holds Try.pinned (OpenSpec.upto coverageMinimalSpec)

/-- 'decompilerlaw45.CoverageCounts', WHERE WHAT IT READS IS OF BULK AT MOST 1048576: true; the input reads as it did. -/
def coverageCountsUptoRow : OpenClaim := { program := "ytcddmggefmfkkaa", sum := "6165cb91764ef71c156d0c2c9df5233a9ace3ee292f158ead2a3f47c5efac700", func := "decompiler/decompilerlaw45.CoverageCounts", spec := "coverageCounts", unfollowed := true, recurses := true, apart := false, narrowed := true }
def CoverageCountsUptoSaid : Prop := coverageCountsUptoRow.holds Try.pinned (OpenSpec.upto coverageCountsSpec)

/-- 'decompilerlaw45.CoverageMerges', WHERE WHAT IT READS IS OF BULK AT MOST 1048576: true; the input reads as it did. -/
def coverageMergesUptoRow : OpenClaim := { program := "ytcddmggefmfkkaa", sum := "6165cb91764ef71c156d0c2c9df5233a9ace3ee292f158ead2a3f47c5efac700", func := "decompiler/decompilerlaw45.CoverageMerges", spec := "coverageMerges", unfollowed := true, recurses := true, apart := false, narrowed := true }
def CoverageMergesUptoSaid : Prop := coverageMergesUptoRow.holds Try.pinned (OpenSpec.upto coverageMergesSpec)

end Rows
end Go.Proofs.Ytcddmggefmfkkaa
