/-
  No cell of these rows narrows 'for every input' (looked for: loops, veiled, ifaces, maps, wideKeys, modest, calm, conditions, laid).
  DERIVED. THE GIVEN ROWS OF THIS SEAT. 7 by the template 'for every input the law returns true; each argument reads behind the call as it read before'; 0 by the template 'total and deterministic' (their statements: YtjfdbfbdkjfgpaaTotals.lean).
  GIVEN WITH THE SEED: the statements are not yours to turn. If you find one false, say at which input.
  Laid BY PROGRAM, IN A SANDBOX (cutbox-rows.mjs): the forced cells as the released guide's own fill.sh prints them over the translation 43f4f6b0f3b22288… (all of the seat's roots in one cut). By AI agents, Wed Nov 11 2026. No macro, syntax, notation, axiom, sorry.
-/
import Derived.Test.YtjfdbfbdkjfgpaaChecked
import GoSem.Claim
import GoSem.ClaimJoined
import GoSem.ClaimMapViews
import Derived.JoinedTies
import Derived.KernelRfl
namespace Go.Proofs.Ytjfdbfbdkjfgpaa
/- THE CELL 'sum', in the pinned program and in every row, IS THE sha256 OF THE DUMP (.gsa) THAT YtjfdbfbdkjfgpaaProg.lean LOADS. Nothing in Lean hashes anything: it is a label: what it is worth is what the hold of that sum in a sandbox is worth. -/
noncomputable def Try.pinned : Pinned := { name := "ytjfdbfbdkjfgpaa", sum := "43f4f6b0f3b2228889752d9ffe83cbe0f70345c411ee1c6ea3e413cc2d3ab339", checked := Try.checked }
namespace Rows
def none {H : Type} : Left H := { results := [], args := [] }

/-- 'decompilerlaw09.MemoryLocal': WHATEVER THE INPUT: true; the input reads as it did. -/
def memoryLocalSpec : ChangeSpec := { name := "memoryLocal", fn := fun _ => fun
  | [d1, d2, d3] => { results := [.lit (.bool true)], args := [d1, d2, d3] }
  | _ => none }
def memoryLocalRow : OpenClaim := { program := "ytjfdbfbdkjfgpaa", sum := "43f4f6b0f3b2228889752d9ffe83cbe0f70345c411ee1c6ea3e413cc2d3ab339", func := "decompiler/decompilerlaw09.MemoryLocal", spec := "memoryLocal", unfollowed := true, recurses := true, apart := false }
def MemoryLocalSaid : Prop := memoryLocalRow.holds Try.pinned (OpenSpec.ofChange memoryLocalSpec)

/-- ITS FALSE NEIGHBOUR: 'it returns false'. Refute it at one input. -/
def memoryLocalWrong : ChangeSpec := { name := "memoryLocal", fn := fun _ => fun
  | [d1, d2, d3] => { results := [.lit (.bool false)], args := [d1, d2, d3] }
  | _ => none }
def MemoryLocalWrongFalsely : Prop := memoryLocalRow.holds Try.pinned (OpenSpec.ofChange memoryLocalWrong)

/-- 'decompilerlaw09.MemoryChanges': WHATEVER THE INPUT: true; the input reads as it did. -/
def memoryChangesSpec : ChangeSpec := { name := "memoryChanges", fn := fun _ => fun
  | [d1, d2] => { results := [.lit (.bool true)], args := [d1, d2] }
  | _ => none }
def memoryChangesRow : OpenClaim := { program := "ytjfdbfbdkjfgpaa", sum := "43f4f6b0f3b2228889752d9ffe83cbe0f70345c411ee1c6ea3e413cc2d3ab339", func := "decompiler/decompilerlaw09.MemoryChanges", spec := "memoryChanges", unfollowed := true, recurses := true, apart := false }
def MemoryChangesSaid : Prop := memoryChangesRow.holds Try.pinned (OpenSpec.ofChange memoryChangesSpec)

/-- ITS FALSE NEIGHBOUR: 'it returns false'. Refute it at one input. -/
def memoryChangesWrong : ChangeSpec := { name := "memoryChanges", fn := fun _ => fun
  | [d1, d2] => { results := [.lit (.bool false)], args := [d1, d2] }
  | _ => none }
def MemoryChangesWrongFalsely : Prop := memoryChangesRow.holds Try.pinned (OpenSpec.ofChange memoryChangesWrong)

/-- 'decompilerlaw09.MemoryFetches': WHATEVER THE INPUT: true; the input reads as it did. -/
def memoryFetchesSpec : ChangeSpec := { name := "memoryFetches", fn := fun _ => fun
  | [d1, d2, d3] => { results := [.lit (.bool true)], args := [d1, d2, d3] }
  | _ => none }
def memoryFetchesRow : OpenClaim := { program := "ytjfdbfbdkjfgpaa", sum := "43f4f6b0f3b2228889752d9ffe83cbe0f70345c411ee1c6ea3e413cc2d3ab339", func := "decompiler/decompilerlaw09.MemoryFetches", spec := "memoryFetches", unfollowed := true, recurses := true, apart := false }
def MemoryFetchesSaid : Prop := memoryFetchesRow.holds Try.pinned (OpenSpec.ofChange memoryFetchesSpec)

/-- ITS FALSE NEIGHBOUR: 'it returns false'. Refute it at one input. -/
def memoryFetchesWrong : ChangeSpec := { name := "memoryFetches", fn := fun _ => fun
  | [d1, d2, d3] => { results := [.lit (.bool false)], args := [d1, d2, d3] }
  | _ => none }
def MemoryFetchesWrongFalsely : Prop := memoryFetchesRow.holds Try.pinned (OpenSpec.ofChange memoryFetchesWrong)

/-- 'decompilerlaw09.MemoryBytes': WHATEVER THE INPUT: true; the input reads as it did. -/
def memoryBytesSpec : ChangeSpec := { name := "memoryBytes", fn := fun _ => fun
  | [d1, d2, d3] => { results := [.lit (.bool true)], args := [d1, d2, d3] }
  | _ => none }
def memoryBytesRow : OpenClaim := { program := "ytjfdbfbdkjfgpaa", sum := "43f4f6b0f3b2228889752d9ffe83cbe0f70345c411ee1c6ea3e413cc2d3ab339", func := "decompiler/decompilerlaw09.MemoryBytes", spec := "memoryBytes", unfollowed := true, recurses := true, apart := false }
def MemoryBytesSaid : Prop := memoryBytesRow.holds Try.pinned (OpenSpec.ofChange memoryBytesSpec)

/-- ITS FALSE NEIGHBOUR: 'it returns false'. Refute it at one input. -/
def memoryBytesWrong : ChangeSpec := { name := "memoryBytes", fn := fun _ => fun
  | [d1, d2, d3] => { results := [.lit (.bool false)], args := [d1, d2, d3] }
  | _ => none }
def MemoryBytesWrongFalsely : Prop := memoryBytesRow.holds Try.pinned (OpenSpec.ofChange memoryBytesWrong)

/-- 'decompilerlaw09.MemoryScript': WHATEVER THE INPUT: true; the input reads as it did. -/
def memoryScriptSpec : ChangeSpec := { name := "memoryScript", fn := fun _ => fun
  | [d1, d2] => { results := [.lit (.bool true)], args := [d1, d2] }
  | _ => none }
def memoryScriptRow : OpenClaim := { program := "ytjfdbfbdkjfgpaa", sum := "43f4f6b0f3b2228889752d9ffe83cbe0f70345c411ee1c6ea3e413cc2d3ab339", func := "decompiler/decompilerlaw09.MemoryScript", spec := "memoryScript", unfollowed := true, recurses := true, apart := false }
def MemoryScriptSaid : Prop := memoryScriptRow.holds Try.pinned (OpenSpec.ofChange memoryScriptSpec)

/-- ITS FALSE NEIGHBOUR: 'it returns false'. Refute it at one input. -/
def memoryScriptWrong : ChangeSpec := { name := "memoryScript", fn := fun _ => fun
  | [d1, d2] => { results := [.lit (.bool false)], args := [d1, d2] }
  | _ => none }
def MemoryScriptWrongFalsely : Prop := memoryScriptRow.holds Try.pinned (OpenSpec.ofChange memoryScriptWrong)

/-- 'decompilerlaw09.MemoryClone': WHATEVER THE INPUT: true; the input reads as it did. -/
def memoryCloneSpec : ChangeSpec := { name := "memoryClone", fn := fun _ => fun
  | [d1, d2, d3] => { results := [.lit (.bool true)], args := [d1, d2, d3] }
  | _ => none }
def memoryCloneRow : OpenClaim := { program := "ytjfdbfbdkjfgpaa", sum := "43f4f6b0f3b2228889752d9ffe83cbe0f70345c411ee1c6ea3e413cc2d3ab339", func := "decompiler/decompilerlaw09.MemoryClone", spec := "memoryClone", inPlace := ["maps.clone"], unfollowed := true, recurses := true, apart := false }
def MemoryCloneSaid : Prop := memoryCloneRow.holds Try.pinned (OpenSpec.ofChange memoryCloneSpec)

/-- ITS FALSE NEIGHBOUR: 'it returns false'. Refute it at one input. -/
def memoryCloneWrong : ChangeSpec := { name := "memoryClone", fn := fun _ => fun
  | [d1, d2, d3] => { results := [.lit (.bool false)], args := [d1, d2, d3] }
  | _ => none }
def MemoryCloneWrongFalsely : Prop := memoryCloneRow.holds Try.pinned (OpenSpec.ofChange memoryCloneWrong)

/-- 'decompilerlaw09.MemoryNone': WHATEVER THE INPUT: true; the input reads as it did. -/
def memoryNoneSpec : ChangeSpec := { name := "memoryNone", fn := fun _ => fun
  | [d] => { results := [.lit (.bool true)], args := [d] }
  | _ => none }
def memoryNoneRow : OpenClaim := { program := "ytjfdbfbdkjfgpaa", sum := "43f4f6b0f3b2228889752d9ffe83cbe0f70345c411ee1c6ea3e413cc2d3ab339", func := "decompiler/decompilerlaw09.MemoryNone", spec := "memoryNone", inPlace := ["maps.clone"], unfollowed := true, recurses := true, apart := false }
def MemoryNoneSaid : Prop := memoryNoneRow.holds Try.pinned (OpenSpec.ofChange memoryNoneSpec)

/-- ITS FALSE NEIGHBOUR: 'it returns false'. Refute it at one input. -/
def memoryNoneWrong : ChangeSpec := { name := "memoryNone", fn := fun _ => fun
  | [d] => { results := [.lit (.bool false)], args := [d] }
  | _ => none }
def MemoryNoneWrongFalsely : Prop := memoryNoneRow.holds Try.pinned (OpenSpec.ofChange memoryNoneWrong)

/- THE SECOND FORM. 'bulk': how many values and letters a reading holds, each counted each time it is reached (what is shared counts as often as it is met; a slice's spare places count too). A statement '..UptoSaid' is the law's where the arguments, and the package variables that the reading takes, are together of bulk at most 1048576: NARROWER than '..Said'. Prove '..Said' where nothing that the law and all that it calls make is longer than what came in: it says more and counts as full. Else prove '..UptoSaid'. A law counts once. -/
mutual
def uptoBulk {H : Type} : DataW H → Nat
  | .lit (.string bytes) => bytes.length + 1
  | .lit _ => 1
  | .nil => 1
  | .ptr d => uptoBulk d + 1
  | .slice elems spare => uptoBulkAll elems + uptoBulkAll spare + 1
  | .agg parts => uptoBulkAll parts + 1
  | .iface _ d => uptoBulk d + 1
  | .map entries => uptoBulkEntries entries + 1
  | .held _ => 1
def uptoBulkAll {H : Type} : List (DataW H) → Nat
  | [] => 0
  | d :: r => uptoBulk d + uptoBulkAll r
def uptoBulkEntries {H : Type} : List (Lit × DataW H) → Nat
  | [] => 0
  | x :: r => uptoBulkEntry x + uptoBulkEntries r
def uptoBulkEntry {H : Type} : Lit × DataW H → Nat
  | (.string bytes, d) => bytes.length + uptoBulk d + 1
  | (_, d) => uptoBulk d + 1
 end
def uptoSmall : (H : Type) → List (DataW H) → Bool := fun _ ds => decide (uptoBulkAll ds ≤ 1048576)
def OpenSpec.upto (s : _root_.Go.ChangeSpec) : _root_.Go.OpenSpec := { _root_.Go.OpenSpec.ofChange s with cond := some uptoSmall }

/-- 'decompilerlaw09.MemoryLocal', WHERE WHAT IT READS IS OF BULK AT MOST 1048576: true; the input reads as it did. -/
def memoryLocalUptoRow : OpenClaim := { program := "ytjfdbfbdkjfgpaa", sum := "43f4f6b0f3b2228889752d9ffe83cbe0f70345c411ee1c6ea3e413cc2d3ab339", func := "decompiler/decompilerlaw09.MemoryLocal", spec := "memoryLocal", unfollowed := true, recurses := true, apart := false, narrowed := true }
def MemoryLocalUptoSaid : Prop := memoryLocalUptoRow.holds Try.pinned (OpenSpec.upto memoryLocalSpec)

/-- 'decompilerlaw09.MemoryChanges', WHERE WHAT IT READS IS OF BULK AT MOST 1048576: true; the input reads as it did. -/
def memoryChangesUptoRow : OpenClaim := { program := "ytjfdbfbdkjfgpaa", sum := "43f4f6b0f3b2228889752d9ffe83cbe0f70345c411ee1c6ea3e413cc2d3ab339", func := "decompiler/decompilerlaw09.MemoryChanges", spec := "memoryChanges", unfollowed := true, recurses := true, apart := false, narrowed := true }
def MemoryChangesUptoSaid : Prop := memoryChangesUptoRow.holds Try.pinned (OpenSpec.upto memoryChangesSpec)

/-- 'decompilerlaw09.MemoryFetches', WHERE WHAT IT READS IS OF BULK AT MOST 1048576: true; the input reads as it did. -/
def memoryFetchesUptoRow : OpenClaim := { program := "ytjfdbfbdkjfgpaa", sum := "43f4f6b0f3b2228889752d9ffe83cbe0f70345c411ee1c6ea3e413cc2d3ab339", func := "decompiler/decompilerlaw09.MemoryFetches", spec := "memoryFetches", unfollowed := true, recurses := true, apart := false, narrowed := true }
def MemoryFetchesUptoSaid : Prop := memoryFetchesUptoRow.holds Try.pinned (OpenSpec.upto memoryFetchesSpec)

/-- 'decompilerlaw09.MemoryBytes', WHERE WHAT IT READS IS OF BULK AT MOST 1048576: true; the input reads as it did. -/
def memoryBytesUptoRow : OpenClaim := { program := "ytjfdbfbdkjfgpaa", sum := "43f4f6b0f3b2228889752d9ffe83cbe0f70345c411ee1c6ea3e413cc2d3ab339", func := "decompiler/decompilerlaw09.MemoryBytes", spec := "memoryBytes", unfollowed := true, recurses := true, apart := false, narrowed := true }
def MemoryBytesUptoSaid : Prop := memoryBytesUptoRow.holds Try.pinned (OpenSpec.upto memoryBytesSpec)

/-- 'decompilerlaw09.MemoryScript', WHERE WHAT IT READS IS OF BULK AT MOST 1048576: true; the input reads as it did. -/
def memoryScriptUptoRow : OpenClaim := { program := "ytjfdbfbdkjfgpaa", sum := "43f4f6b0f3b2228889752d9ffe83cbe0f70345c411ee1c6ea3e413cc2d3ab339", func := "decompiler/decompilerlaw09.MemoryScript", spec := "memoryScript", unfollowed := true, recurses := true, apart := false, narrowed := true }
def MemoryScriptUptoSaid : Prop := memoryScriptUptoRow.holds Try.pinned (OpenSpec.upto memoryScriptSpec)

/-- 'decompilerlaw09.MemoryClone', WHERE WHAT IT READS IS OF BULK AT MOST 1048576: true; the input reads as it did. -/
def memoryCloneUptoRow : OpenClaim := { program := "ytjfdbfbdkjfgpaa", sum := "43f4f6b0f3b2228889752d9ffe83cbe0f70345c411ee1c6ea3e413cc2d3ab339", func := "decompiler/decompilerlaw09.MemoryClone", spec := "memoryClone", inPlace := ["maps.clone"], unfollowed := true, recurses := true, apart := false, narrowed := true }
def MemoryCloneUptoSaid : Prop := memoryCloneUptoRow.holds Try.pinned (OpenSpec.upto memoryCloneSpec)

/-- 'decompilerlaw09.MemoryNone', WHERE WHAT IT READS IS OF BULK AT MOST 1048576: true; the input reads as it did. -/
def memoryNoneUptoRow : OpenClaim := { program := "ytjfdbfbdkjfgpaa", sum := "43f4f6b0f3b2228889752d9ffe83cbe0f70345c411ee1c6ea3e413cc2d3ab339", func := "decompiler/decompilerlaw09.MemoryNone", spec := "memoryNone", inPlace := ["maps.clone"], unfollowed := true, recurses := true, apart := false, narrowed := true }
def MemoryNoneUptoSaid : Prop := memoryNoneUptoRow.holds Try.pinned (OpenSpec.upto memoryNoneSpec)

end Rows
end Go.Proofs.Ytjfdbfbdkjfgpaa
