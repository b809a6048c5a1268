/-
  No cell of these rows narrows 'for every input' (looked for: loops, veiled, ifaces, maps, wideKeys, modest, calm, conditions, laid).
  DERIVED. THE GIVEN ROWS OF THIS SEAT. 6 by the template 'for every input the law returns true; each argument reads behind the call as it read before'; 0 by the template 'total and deterministic' (their statements: YtolbnhkdpbdhhaaTotals.lean).
  GIVEN WITH THE SEED: the statements are not yours to turn. If you find one false, say at which input.
  Laid BY PROGRAM, IN A SANDBOX (cutbox-rows.mjs): the forced cells as the released guide's own fill.sh prints them over the translation a9b6691e34999187… (all of the seat's roots in one cut). By AI agents, Wed Nov 11 2026. No macro, syntax, notation, axiom, sorry.
-/
import Derived.Test.YtolbnhkdpbdhhaaChecked
import GoSem.Claim
import GoSem.ClaimJoined
import GoSem.ClaimMapViews
import Derived.JoinedTies
import Derived.KernelRfl
namespace Go.Proofs.Ytolbnhkdpbdhhaa
/- THE CELL 'sum', in the pinned program and in every row, IS THE sha256 OF THE DUMP (.gsa) THAT YtolbnhkdpbdhhaaProg.lean LOADS. Nothing in Lean hashes anything: it is a label: what it is worth is what the hold of that sum in a sandbox is worth. -/
noncomputable def Try.pinned : Pinned := { name := "ytolbnhkdpbdhhaa", sum := "a9b6691e34999187b4d203b9088af69a8ee7aac7e50fcf279cc863d46bd44ef1", checked := Try.checked }
namespace Rows
def none {H : Type} : Left H := { results := [], args := [] }

/-- 'decompilerlaw17.CfgBlocks': WHATEVER THE INPUT: true; the input reads as it did. -/
def cfgBlocksSpec : ChangeSpec := { name := "cfgBlocks", fn := fun _ => fun
  | [d1, d2, d3] => { results := [.lit (.bool true)], args := [d1, d2, d3] }
  | _ => none }
def cfgBlocksRow : OpenClaim := { program := "ytolbnhkdpbdhhaa", sum := "a9b6691e34999187b4d203b9088af69a8ee7aac7e50fcf279cc863d46bd44ef1", func := "decompiler/decompilerlaw17.CfgBlocks", spec := "cfgBlocks", unfollowed := true, recurses := true, apart := false }
def CfgBlocksSaid : Prop := cfgBlocksRow.holds Try.pinned (OpenSpec.ofChange cfgBlocksSpec)

/-- ITS FALSE NEIGHBOUR: 'it returns false'. Refute it at one input. -/
def cfgBlocksWrong : ChangeSpec := { name := "cfgBlocks", fn := fun _ => fun
  | [d1, d2, d3] => { results := [.lit (.bool false)], args := [d1, d2, d3] }
  | _ => none }
def CfgBlocksWrongFalsely : Prop := cfgBlocksRow.holds Try.pinned (OpenSpec.ofChange cfgBlocksWrong)

/-- 'decompilerlaw17.CfgLeaders': WHATEVER THE INPUT: true; the input reads as it did. -/
def cfgLeadersSpec : ChangeSpec := { name := "cfgLeaders", fn := fun _ => fun
  | [d1, d2, d3] => { results := [.lit (.bool true)], args := [d1, d2, d3] }
  | _ => none }
def cfgLeadersRow : OpenClaim := { program := "ytolbnhkdpbdhhaa", sum := "a9b6691e34999187b4d203b9088af69a8ee7aac7e50fcf279cc863d46bd44ef1", func := "decompiler/decompilerlaw17.CfgLeaders", spec := "cfgLeaders", unfollowed := true, recurses := true, apart := false }
def CfgLeadersSaid : Prop := cfgLeadersRow.holds Try.pinned (OpenSpec.ofChange cfgLeadersSpec)

/-- ITS FALSE NEIGHBOUR: 'it returns false'. Refute it at one input. -/
def cfgLeadersWrong : ChangeSpec := { name := "cfgLeaders", fn := fun _ => fun
  | [d1, d2, d3] => { results := [.lit (.bool false)], args := [d1, d2, d3] }
  | _ => none }
def CfgLeadersWrongFalsely : Prop := cfgLeadersRow.holds Try.pinned (OpenSpec.ofChange cfgLeadersWrong)

/-- 'decompilerlaw17.CfgEdges': WHATEVER THE INPUT: true; the input reads as it did. -/
def cfgEdgesSpec : ChangeSpec := { name := "cfgEdges", fn := fun _ => fun
  | [d1, d2, d3, d4] => { results := [.lit (.bool true)], args := [d1, d2, d3, d4] }
  | _ => none }
def cfgEdgesRow : OpenClaim := { program := "ytolbnhkdpbdhhaa", sum := "a9b6691e34999187b4d203b9088af69a8ee7aac7e50fcf279cc863d46bd44ef1", func := "decompiler/decompilerlaw17.CfgEdges", spec := "cfgEdges", unfollowed := true, recurses := true, apart := false }
def CfgEdgesSaid : Prop := cfgEdgesRow.holds Try.pinned (OpenSpec.ofChange cfgEdgesSpec)

/-- ITS FALSE NEIGHBOUR: 'it returns false'. Refute it at one input. -/
def cfgEdgesWrong : ChangeSpec := { name := "cfgEdges", fn := fun _ => fun
  | [d1, d2, d3, d4] => { results := [.lit (.bool false)], args := [d1, d2, d3, d4] }
  | _ => none }
def CfgEdgesWrongFalsely : Prop := cfgEdgesRow.holds Try.pinned (OpenSpec.ofChange cfgEdgesWrong)

/-- 'decompilerlaw17.CfgFinds': WHATEVER THE INPUT: true; the input reads as it did. -/
def cfgFindsSpec : ChangeSpec := { name := "cfgFinds", fn := fun _ => fun
  | [d1, d2, d3] => { results := [.lit (.bool true)], args := [d1, d2, d3] }
  | _ => none }
def cfgFindsRow : OpenClaim := { program := "ytolbnhkdpbdhhaa", sum := "a9b6691e34999187b4d203b9088af69a8ee7aac7e50fcf279cc863d46bd44ef1", func := "decompiler/decompilerlaw17.CfgFinds", spec := "cfgFinds", unfollowed := true, recurses := true, apart := false }
def CfgFindsSaid : Prop := cfgFindsRow.holds Try.pinned (OpenSpec.ofChange cfgFindsSpec)

/-- ITS FALSE NEIGHBOUR: 'it returns false'. Refute it at one input. -/
def cfgFindsWrong : ChangeSpec := { name := "cfgFinds", fn := fun _ => fun
  | [d1, d2, d3] => { results := [.lit (.bool false)], args := [d1, d2, d3] }
  | _ => none }
def CfgFindsWrongFalsely : Prop := cfgFindsRow.holds Try.pinned (OpenSpec.ofChange cfgFindsWrong)

/-- 'decompilerlaw17.CfgChecks': WHATEVER THE INPUT: true; the input reads as it did. -/
def cfgChecksSpec : ChangeSpec := { name := "cfgChecks", fn := fun _ => fun
  | [d] => { results := [.lit (.bool true)], args := [d] }
  | _ => none }
def cfgChecksRow : OpenClaim := { program := "ytolbnhkdpbdhhaa", sum := "a9b6691e34999187b4d203b9088af69a8ee7aac7e50fcf279cc863d46bd44ef1", func := "decompiler/decompilerlaw17.CfgChecks", spec := "cfgChecks", unfollowed := true, recurses := true, apart := false }
def CfgChecksSaid : Prop := cfgChecksRow.holds Try.pinned (OpenSpec.ofChange cfgChecksSpec)

/-- ITS FALSE NEIGHBOUR: 'it returns false'. Refute it at one input. -/
def cfgChecksWrong : ChangeSpec := { name := "cfgChecks", fn := fun _ => fun
  | [d] => { results := [.lit (.bool false)], args := [d] }
  | _ => none }
def CfgChecksWrongFalsely : Prop := cfgChecksRow.holds Try.pinned (OpenSpec.ofChange cfgChecksWrong)

/-- 'decompilerlaw17.CfgPartition': WHATEVER THE INPUT: true; the input reads as it did. -/
def cfgPartitionSpec : ChangeSpec := { name := "cfgPartition", fn := fun _ => fun
  | [d1, d2, d3] => { results := [.lit (.bool true)], args := [d1, d2, d3] }
  | _ => none }
def cfgPartitionRow : OpenClaim := { program := "ytolbnhkdpbdhhaa", sum := "a9b6691e34999187b4d203b9088af69a8ee7aac7e50fcf279cc863d46bd44ef1", func := "decompiler/decompilerlaw17.CfgPartition", spec := "cfgPartition", unfollowed := true, recurses := true, apart := false }
def CfgPartitionSaid : Prop := cfgPartitionRow.holds Try.pinned (OpenSpec.ofChange cfgPartitionSpec)

/-- ITS FALSE NEIGHBOUR: 'it returns false'. Refute it at one input. -/
def cfgPartitionWrong : ChangeSpec := { name := "cfgPartition", fn := fun _ => fun
  | [d1, d2, d3] => { results := [.lit (.bool false)], args := [d1, d2, d3] }
  | _ => none }
def CfgPartitionWrongFalsely : Prop := cfgPartitionRow.holds Try.pinned (OpenSpec.ofChange cfgPartitionWrong)

/- THE SECOND FORM. 'bulk': how many values and letters a reading holds, each counted each time it is reached (what is shared counts as often as it is met; a slice's spare places count too). A statement '..UptoSaid' is the law's where the arguments, and the package variables that the reading takes, are together of bulk at most 1048576: NARROWER than '..Said'. Prove '..Said' where nothing that the law and all that it calls make is longer than what came in: it says more and counts as full. Else prove '..UptoSaid'. A law counts once. -/
mutual
def uptoBulk {H : Type} : DataW H → Nat
  | .lit (.string bytes) => bytes.length + 1
  | .lit _ => 1
  | .nil => 1
  | .ptr d => uptoBulk d + 1
  | .slice elems spare => uptoBulkAll elems + uptoBulkAll spare + 1
  | .agg parts => uptoBulkAll parts + 1
  | .iface _ d => uptoBulk d + 1
  | .map entries => uptoBulkEntries entries + 1
  | .held _ => 1
def uptoBulkAll {H : Type} : List (DataW H) → Nat
  | [] => 0
  | d :: r => uptoBulk d + uptoBulkAll r
def uptoBulkEntries {H : Type} : List (Lit × DataW H) → Nat
  | [] => 0
  | x :: r => uptoBulkEntry x + uptoBulkEntries r
def uptoBulkEntry {H : Type} : Lit × DataW H → Nat
  | (.string bytes, d) => bytes.length + uptoBulk d + 1
  | (_, d) => uptoBulk d + 1
 end
def uptoSmall : (H : Type) → List (DataW H) → Bool := fun _ ds => decide (uptoBulkAll ds ≤ 1048576)
def OpenSpec.upto (s : _root_.Go.ChangeSpec) : _root_.Go.OpenSpec := { _root_.Go.OpenSpec.ofChange s with cond := some uptoSmall }

/-- 'decompilerlaw17.CfgBlocks', WHERE WHAT IT READS IS OF BULK AT MOST 1048576: true; the input reads as it did. -/
def cfgBlocksUptoRow : OpenClaim := { program := "ytolbnhkdpbdhhaa", sum := "a9b6691e34999187b4d203b9088af69a8ee7aac7e50fcf279cc863d46bd44ef1", func := "decompiler/decompilerlaw17.CfgBlocks", spec := "cfgBlocks", unfollowed := true, recurses := true, apart := false, narrowed := true }
def CfgBlocksUptoSaid : Prop := cfgBlocksUptoRow.holds Try.pinned (OpenSpec.upto cfgBlocksSpec)

/-- 'decompilerlaw17.CfgLeaders', WHERE WHAT IT READS IS OF BULK AT MOST 1048576: true; the input reads as it did. -/
def cfgLeadersUptoRow : OpenClaim := { program := "ytolbnhkdpbdhhaa", sum := "a9b6691e34999187b4d203b9088af69a8ee7aac7e50fcf279cc863d46bd44ef1", func := "decompiler/decompilerlaw17.CfgLeaders", spec := "cfgLeaders", unfollowed := true, recurses := true, apart := false, narrowed := true }
def CfgLeadersUptoSaid : Prop := cfgLeadersUptoRow.holds Try.pinned (OpenSpec.upto cfgLeadersSpec)

/-- 'decompilerlaw17.CfgEdges', WHERE WHAT IT READS IS OF BULK AT MOST 1048576: true; the input reads as it did. -/
def cfgEdgesUptoRow : OpenClaim := { program := "ytolbnhkdpbdhhaa", sum := "a9b6691e34999187b4d203b9088af69a8ee7aac7e50fcf279cc863d46bd44ef1", func := "decompiler/decompilerlaw17.CfgEdges", spec := "cfgEdges", unfollowed := true, recurses := true, apart := false, narrowed := true }
def CfgEdgesUptoSaid : Prop := cfgEdgesUptoRow.holds Try.pinned (OpenSpec.upto cfgEdgesSpec)

/-- 'decompilerlaw17.CfgFinds', WHERE WHAT IT READS IS OF BULK AT MOST 1048576: true; the input reads as it did. -/
def cfgFindsUptoRow : OpenClaim := { program := "ytolbnhkdpbdhhaa", sum := "a9b6691e34999187b4d203b9088af69a8ee7aac7e50fcf279cc863d46bd44ef1", func := "decompiler/decompilerlaw17.CfgFinds", spec := "cfgFinds", unfollowed := true, recurses := true, apart := false, narrowed := true }
def CfgFindsUptoSaid : Prop := cfgFindsUptoRow.holds Try.pinned (OpenSpec.upto cfgFindsSpec)

/-- 'decompilerlaw17.CfgChecks', WHERE WHAT IT READS IS OF BULK AT MOST 1048576: true; the input reads as it did. -/
def cfgChecksUptoRow : OpenClaim := { program := "ytolbnhkdpbdhhaa", sum := "a9b6691e34999187b4d203b9088af69a8ee7aac7e50fcf279cc863d46bd44ef1", func := "decompiler/decompilerlaw17.CfgChecks", spec := "cfgChecks", unfollowed := true, recurses := true, apart := false, narrowed := true }
def CfgChecksUptoSaid : Prop := cfgChecksUptoRow.holds Try.pinned (OpenSpec.upto cfgChecksSpec)

/-- 'decompilerlaw17.CfgPartition', WHERE WHAT IT READS IS OF BULK AT MOST 1048576: true; the input reads as it did. -/
def cfgPartitionUptoRow : OpenClaim := { program := "ytolbnhkdpbdhhaa", sum := "a9b6691e34999187b4d203b9088af69a8ee7aac7e50fcf279cc863d46bd44ef1", func := "decompiler/decompilerlaw17.CfgPartition", spec := "cfgPartition", unfollowed := true, recurses := true, apart := false, narrowed := true }
def CfgPartitionUptoSaid : Prop := cfgPartitionUptoRow.holds Try.pinned (OpenSpec.upto cfgPartitionSpec)

end Rows
end Go.Proofs.Ytolbnhkdpbdhhaa
