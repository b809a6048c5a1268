/-
  No cell of these rows narrows 'for every input' (looked for: loops, veiled, ifaces, maps, wideKeys, modest, calm, conditions, laid).
  DERIVED. THE GIVEN ROWS OF THIS SEAT. 7 by the template 'for every input the law returns true; each argument reads behind the call as it read before'; 0 by the template 'total and deterministic' (their statements: YtnlofhbimfcejaaTotals.lean).
  GIVEN WITH THE SEED: the statements are not yours to turn. If you find one false, say at which input.
  Laid BY PROGRAM, IN A SANDBOX (cutbox-rows.mjs): the forced cells as the released guide's own fill.sh prints them over the translation 640628765ad0d510… (all of the seat's roots in one cut). By AI agents, Wed Nov 11 2026. No macro, syntax, notation, axiom, sorry.
-/
import Derived.Test.YtnlofhbimfcejaaChecked
import GoSem.Claim
import GoSem.ClaimJoined
import GoSem.ClaimMapViews
import Derived.JoinedTies
import Derived.KernelRfl
namespace Go.Proofs.Ytnlofhbimfcejaa
/- THE CELL 'sum', in the pinned program and in every row, IS THE sha256 OF THE DUMP (.gsa) THAT YtnlofhbimfcejaaProg.lean LOADS. Nothing in Lean hashes anything: it is a label: what it is worth is what the hold of that sum in a sandbox is worth. -/
noncomputable def Try.pinned : Pinned := { name := "ytnlofhbimfcejaa", sum := "640628765ad0d510e50775f953561cd48bcc5054a6b7fa2814cc97ef253db309", checked := Try.checked }
namespace Rows
def none {H : Type} : Left H := { results := [], args := [] }

/-- 'decompilerlaw07.RelocCheck': WHATEVER THE INPUT: true; the input reads as it did. -/
def relocCheckSpec : ChangeSpec := { name := "relocCheck", fn := fun _ => fun
  | [d] => { results := [.lit (.bool true)], args := [d] }
  | _ => none }
def relocCheckRow : OpenClaim := { program := "ytnlofhbimfcejaa", sum := "640628765ad0d510e50775f953561cd48bcc5054a6b7fa2814cc97ef253db309", func := "decompiler/decompilerlaw07.RelocCheck", spec := "relocCheck", unfollowed := true, recurses := true, apart := false }
def RelocCheckSaid : Prop := relocCheckRow.holds Try.pinned (OpenSpec.ofChange relocCheckSpec)

/-- ITS FALSE NEIGHBOUR: 'it returns false'. Refute it at one input. -/
def relocCheckWrong : ChangeSpec := { name := "relocCheck", fn := fun _ => fun
  | [d] => { results := [.lit (.bool false)], args := [d] }
  | _ => none }
def RelocCheckWrongFalsely : Prop := relocCheckRow.holds Try.pinned (OpenSpec.ofChange relocCheckWrong)

/-- 'decompilerlaw07.RelocValue': WHATEVER THE INPUT: true; the input reads as it did. -/
def relocValueSpec : ChangeSpec := { name := "relocValue", fn := fun _ => fun
  | [d1, d2, d3] => { results := [.lit (.bool true)], args := [d1, d2, d3] }
  | _ => none }
def relocValueRow : OpenClaim := { program := "ytnlofhbimfcejaa", sum := "640628765ad0d510e50775f953561cd48bcc5054a6b7fa2814cc97ef253db309", func := "decompiler/decompilerlaw07.RelocValue", spec := "relocValue", unfollowed := true, recurses := true, apart := false }
def RelocValueSaid : Prop := relocValueRow.holds Try.pinned (OpenSpec.ofChange relocValueSpec)

/-- ITS FALSE NEIGHBOUR: 'it returns false'. Refute it at one input. -/
def relocValueWrong : ChangeSpec := { name := "relocValue", fn := fun _ => fun
  | [d1, d2, d3] => { results := [.lit (.bool false)], args := [d1, d2, d3] }
  | _ => none }
def RelocValueWrongFalsely : Prop := relocValueRow.holds Try.pinned (OpenSpec.ofChange relocValueWrong)

/-- 'decompilerlaw07.RelocApply': WHATEVER THE INPUT: true; the input reads as it did. -/
def relocApplySpec : ChangeSpec := { name := "relocApply", fn := fun _ => fun
  | [d] => { results := [.lit (.bool true)], args := [d] }
  | _ => none }
def relocApplyRow : OpenClaim := { program := "ytnlofhbimfcejaa", sum := "640628765ad0d510e50775f953561cd48bcc5054a6b7fa2814cc97ef253db309", func := "decompiler/decompilerlaw07.RelocApply", spec := "relocApply", unfollowed := true, recurses := true, apart := false }
def RelocApplySaid : Prop := relocApplyRow.holds Try.pinned (OpenSpec.ofChange relocApplySpec)

/-- ITS FALSE NEIGHBOUR: 'it returns false'. Refute it at one input. -/
def relocApplyWrong : ChangeSpec := { name := "relocApply", fn := fun _ => fun
  | [d] => { results := [.lit (.bool false)], args := [d] }
  | _ => none }
def RelocApplyWrongFalsely : Prop := relocApplyRow.holds Try.pinned (OpenSpec.ofChange relocApplyWrong)

/-- 'decompilerlaw07.RelocLocal': WHATEVER THE INPUT: true; the input reads as it did. -/
def relocLocalSpec : ChangeSpec := { name := "relocLocal", fn := fun _ => fun
  | [d] => { results := [.lit (.bool true)], args := [d] }
  | _ => none }
def relocLocalRow : OpenClaim := { program := "ytnlofhbimfcejaa", sum := "640628765ad0d510e50775f953561cd48bcc5054a6b7fa2814cc97ef253db309", func := "decompiler/decompilerlaw07.RelocLocal", spec := "relocLocal", unfollowed := true, recurses := true, apart := false }
def RelocLocalSaid : Prop := relocLocalRow.holds Try.pinned (OpenSpec.ofChange relocLocalSpec)

/-- ITS FALSE NEIGHBOUR: 'it returns false'. Refute it at one input. -/
def relocLocalWrong : ChangeSpec := { name := "relocLocal", fn := fun _ => fun
  | [d] => { results := [.lit (.bool false)], args := [d] }
  | _ => none }
def RelocLocalWrongFalsely : Prop := relocLocalRow.holds Try.pinned (OpenSpec.ofChange relocLocalWrong)

/-- 'decompilerlaw07.RelocRebase': WHATEVER THE INPUT: true; the input reads as it did. -/
def relocRebaseSpec : ChangeSpec := { name := "relocRebase", fn := fun _ => fun
  | [d1, d2] => { results := [.lit (.bool true)], args := [d1, d2] }
  | _ => none }
def relocRebaseRow : OpenClaim := { program := "ytnlofhbimfcejaa", sum := "640628765ad0d510e50775f953561cd48bcc5054a6b7fa2814cc97ef253db309", func := "decompiler/decompilerlaw07.RelocRebase", spec := "relocRebase", unfollowed := true, recurses := true, apart := false }
def RelocRebaseSaid : Prop := relocRebaseRow.holds Try.pinned (OpenSpec.ofChange relocRebaseSpec)

/-- ITS FALSE NEIGHBOUR: 'it returns false'. Refute it at one input. -/
def relocRebaseWrong : ChangeSpec := { name := "relocRebase", fn := fun _ => fun
  | [d1, d2] => { results := [.lit (.bool false)], args := [d1, d2] }
  | _ => none }
def RelocRebaseWrongFalsely : Prop := relocRebaseRow.holds Try.pinned (OpenSpec.ofChange relocRebaseWrong)

/-- 'decompilerlaw07.RelocRebaseExact': WHATEVER THE INPUT: true; the input reads as it did. -/
def relocRebaseExactSpec : ChangeSpec := { name := "relocRebaseExact", fn := fun _ => fun
  | [d1, d2] => { results := [.lit (.bool true)], args := [d1, d2] }
  | _ => none }
def relocRebaseExactRow : OpenClaim := { program := "ytnlofhbimfcejaa", sum := "640628765ad0d510e50775f953561cd48bcc5054a6b7fa2814cc97ef253db309", func := "decompiler/decompilerlaw07.RelocRebaseExact", spec := "relocRebaseExact", unfollowed := true, recurses := true, apart := false }
def RelocRebaseExactSaid : Prop := relocRebaseExactRow.holds Try.pinned (OpenSpec.ofChange relocRebaseExactSpec)

/-- ITS FALSE NEIGHBOUR: 'it returns false'. Refute it at one input. -/
def relocRebaseExactWrong : ChangeSpec := { name := "relocRebaseExact", fn := fun _ => fun
  | [d1, d2] => { results := [.lit (.bool false)], args := [d1, d2] }
  | _ => none }
def RelocRebaseExactWrongFalsely : Prop := relocRebaseExactRow.holds Try.pinned (OpenSpec.ofChange relocRebaseExactWrong)

/-- 'decompilerlaw07.RelocRebaseBack': WHATEVER THE INPUT: true; the input reads as it did. -/
def relocRebaseBackSpec : ChangeSpec := { name := "relocRebaseBack", fn := fun _ => fun
  | [d1, d2] => { results := [.lit (.bool true)], args := [d1, d2] }
  | _ => none }
def relocRebaseBackRow : OpenClaim := { program := "ytnlofhbimfcejaa", sum := "640628765ad0d510e50775f953561cd48bcc5054a6b7fa2814cc97ef253db309", func := "decompiler/decompilerlaw07.RelocRebaseBack", spec := "relocRebaseBack", unfollowed := true, recurses := true, apart := false }
def RelocRebaseBackSaid : Prop := relocRebaseBackRow.holds Try.pinned (OpenSpec.ofChange relocRebaseBackSpec)

/-- ITS FALSE NEIGHBOUR: 'it returns false'. Refute it at one input. -/
def relocRebaseBackWrong : ChangeSpec := { name := "relocRebaseBack", fn := fun _ => fun
  | [d1, d2] => { results := [.lit (.bool false)], args := [d1, d2] }
  | _ => none }
def RelocRebaseBackWrongFalsely : Prop := relocRebaseBackRow.holds Try.pinned (OpenSpec.ofChange relocRebaseBackWrong)

/- THE SECOND FORM. 'bulk': how many values and letters a reading holds, each counted each time it is reached (what is shared counts as often as it is met; a slice's spare places count too). A statement '..UptoSaid' is the law's where the arguments, and the package variables that the reading takes, are together of bulk at most 1048576: NARROWER than '..Said'. Prove '..Said' where nothing that the law and all that it calls make is longer than what came in: it says more and counts as full. Else prove '..UptoSaid'. A law counts once. -/
mutual
def uptoBulk {H : Type} : DataW H → Nat
  | .lit (.string bytes) => bytes.length + 1
  | .lit _ => 1
  | .nil => 1
  | .ptr d => uptoBulk d + 1
  | .slice elems spare => uptoBulkAll elems + uptoBulkAll spare + 1
  | .agg parts => uptoBulkAll parts + 1
  | .iface _ d => uptoBulk d + 1
  | .map entries => uptoBulkEntries entries + 1
  | .held _ => 1
def uptoBulkAll {H : Type} : List (DataW H) → Nat
  | [] => 0
  | d :: r => uptoBulk d + uptoBulkAll r
def uptoBulkEntries {H : Type} : List (Lit × DataW H) → Nat
  | [] => 0
  | x :: r => uptoBulkEntry x + uptoBulkEntries r
def uptoBulkEntry {H : Type} : Lit × DataW H → Nat
  | (.string bytes, d) => bytes.length + uptoBulk d + 1
  | (_, d) => uptoBulk d + 1
 end
def uptoSmall : (H : Type) → List (DataW H) → Bool := fun _ ds => decide (uptoBulkAll ds ≤ 1048576)
def OpenSpec.upto (s : _root_.Go.ChangeSpec) : _root_.Go.OpenSpec := { _root_.Go.OpenSpec.ofChange s with cond := some uptoSmall }

/-- 'decompilerlaw07.RelocCheck', WHERE WHAT IT READS IS OF BULK AT MOST 1048576: true; the input reads as it did. -/
def relocCheckUptoRow : OpenClaim := { program := "ytnlofhbimfcejaa", sum := "640628765ad0d510e50775f953561cd48bcc5054a6b7fa2814cc97ef253db309", func := "decompiler/decompilerlaw07.RelocCheck", spec := "relocCheck", unfollowed := true, recurses := true, apart := false, narrowed := true }
def RelocCheckUptoSaid : Prop := relocCheckUptoRow.holds Try.pinned (OpenSpec.upto relocCheckSpec)

/-- 'decompilerlaw07.RelocValue', WHERE WHAT IT READS IS OF BULK AT MOST 1048576: true; the input reads as it did. -/
def relocValueUptoRow : OpenClaim := { program := "ytnlofhbimfcejaa", sum := "640628765ad0d510e50775f953561cd48bcc5054a6b7fa2814cc97ef253db309", func := "decompiler/decompilerlaw07.RelocValue", spec := "relocValue", unfollowed := true, recurses := true, apart := false, narrowed := true }
def RelocValueUptoSaid : Prop := relocValueUptoRow.holds Try.pinned (OpenSpec.upto relocValueSpec)

/-- 'decompilerlaw07.RelocApply', WHERE WHAT IT READS IS OF BULK AT MOST 1048576: true; the input reads as it did. -/
def relocApplyUptoRow : OpenClaim := { program := "ytnlofhbimfcejaa", sum := "640628765ad0d510e50775f953561cd48bcc5054a6b7fa2814cc97ef253db309", func := "decompiler/decompilerlaw07.RelocApply", spec := "relocApply", unfollowed := true, recurses := true, apart := false, narrowed := true }
def RelocApplyUptoSaid : Prop := relocApplyUptoRow.holds Try.pinned (OpenSpec.upto relocApplySpec)

/-- 'decompilerlaw07.RelocLocal', WHERE WHAT IT READS IS OF BULK AT MOST 1048576: true; the input reads as it did. -/
def relocLocalUptoRow : OpenClaim := { program := "ytnlofhbimfcejaa", sum := "640628765ad0d510e50775f953561cd48bcc5054a6b7fa2814cc97ef253db309", func := "decompiler/decompilerlaw07.RelocLocal", spec := "relocLocal", unfollowed := true, recurses := true, apart := false, narrowed := true }
def RelocLocalUptoSaid : Prop := relocLocalUptoRow.holds Try.pinned (OpenSpec.upto relocLocalSpec)

/-- 'decompilerlaw07.RelocRebase', WHERE WHAT IT READS IS OF BULK AT MOST 1048576: true; the input reads as it did. -/
def relocRebaseUptoRow : OpenClaim := { program := "ytnlofhbimfcejaa", sum := "640628765ad0d510e50775f953561cd48bcc5054a6b7fa2814cc97ef253db309", func := "decompiler/decompilerlaw07.RelocRebase", spec := "relocRebase", unfollowed := true, recurses := true, apart := false, narrowed := true }
def RelocRebaseUptoSaid : Prop := relocRebaseUptoRow.holds Try.pinned (OpenSpec.upto relocRebaseSpec)

/-- 'decompilerlaw07.RelocRebaseExact', WHERE WHAT IT READS IS OF BULK AT MOST 1048576: true; the input reads as it did. -/
def relocRebaseExactUptoRow : OpenClaim := { program := "ytnlofhbimfcejaa", sum := "640628765ad0d510e50775f953561cd48bcc5054a6b7fa2814cc97ef253db309", func := "decompiler/decompilerlaw07.RelocRebaseExact", spec := "relocRebaseExact", unfollowed := true, recurses := true, apart := false, narrowed := true }
def RelocRebaseExactUptoSaid : Prop := relocRebaseExactUptoRow.holds Try.pinned (OpenSpec.upto relocRebaseExactSpec)

/-- 'decompilerlaw07.RelocRebaseBack', WHERE WHAT IT READS IS OF BULK AT MOST 1048576: true; the input reads as it did. -/
def relocRebaseBackUptoRow : OpenClaim := { program := "ytnlofhbimfcejaa", sum := "640628765ad0d510e50775f953561cd48bcc5054a6b7fa2814cc97ef253db309", func := "decompiler/decompilerlaw07.RelocRebaseBack", spec := "relocRebaseBack", unfollowed := true, recurses := true, apart := false, narrowed := true }
def RelocRebaseBackUptoSaid : Prop := relocRebaseBackUptoRow.holds Try.pinned (OpenSpec.upto relocRebaseBackSpec)

end Rows
end Go.Proofs.Ytnlofhbimfcejaa
