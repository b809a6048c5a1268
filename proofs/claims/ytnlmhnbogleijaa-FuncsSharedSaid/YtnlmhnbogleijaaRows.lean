/-
  No cell of these rows narrows 'for every input' (looked for: loops, veiled, ifaces, maps, wideKeys, modest, calm, conditions, laid).
  DERIVED. THE GIVEN ROWS OF THIS SEAT. 4 by the template 'for every input the law returns true; each argument reads behind the call as it read before'; 0 by the template 'total and deterministic' (their statements: YtnlmhnbogleijaaTotals.lean).
  GIVEN WITH THE SEED: the statements are not yours to turn. If you find one false, say at which input.
  Laid BY PROGRAM, IN A SANDBOX (cutbox-rows.mjs): the forced cells as the released guide's own fill.sh prints them over the translation bef9c901a3c6fcdc… (all of the seat's roots in one cut). By AI agents, Wed Nov 11 2026. No macro, syntax, notation, axiom, sorry.
-/
import Derived.Test.YtnlmhnbogleijaaChecked
import GoSem.Claim
import GoSem.ClaimJoined
import GoSem.ClaimMapViews
import Derived.JoinedTies
import Derived.KernelRfl
namespace Go.Proofs.Ytnlmhnbogleijaa
/- THE CELL 'sum', in the pinned program and in every row, IS THE sha256 OF THE DUMP (.gsa) THAT YtnlmhnbogleijaaProg.lean LOADS. Nothing in Lean hashes anything: it is a label: what it is worth is what the hold of that sum in a sandbox is worth. -/
noncomputable def Try.pinned : Pinned := { name := "ytnlmhnbogleijaa", sum := "bef9c901a3c6fcdc1026cb4b492c2af2445d7516d3af667fc84b9c52d4d65e92", checked := Try.checked }
namespace Rows
def none {H : Type} : Left H := { results := [], args := [] }

/-- 'decompilerlaw18.FuncsOrder': WHATEVER THE INPUT: true; the input reads as it did. -/
def funcsOrderSpec : ChangeSpec := { name := "funcsOrder", fn := fun _ => fun
  | [d] => { results := [.lit (.bool true)], args := [d] }
  | _ => none }
def funcsOrderRow : OpenClaim := { program := "ytnlmhnbogleijaa", sum := "bef9c901a3c6fcdc1026cb4b492c2af2445d7516d3af667fc84b9c52d4d65e92", func := "decompiler/decompilerlaw18.FuncsOrder", spec := "funcsOrder", unfollowed := true, recurses := true, apart := false }
def FuncsOrderSaid : Prop := funcsOrderRow.holds Try.pinned (OpenSpec.ofChange funcsOrderSpec)

/-- ITS FALSE NEIGHBOUR: 'it returns false'. Refute it at one input. -/
def funcsOrderWrong : ChangeSpec := { name := "funcsOrder", fn := fun _ => fun
  | [d] => { results := [.lit (.bool false)], args := [d] }
  | _ => none }
def FuncsOrderWrongFalsely : Prop := funcsOrderRow.holds Try.pinned (OpenSpec.ofChange funcsOrderWrong)

/-- 'decompilerlaw18.FuncsOrders': WHATEVER THE INPUT: true; the input reads as it did. -/
def funcsOrdersSpec : ChangeSpec := { name := "funcsOrders", fn := fun _ => fun
  | [d] => { results := [.lit (.bool true)], args := [d] }
  | _ => none }
def funcsOrdersRow : OpenClaim := { program := "ytnlmhnbogleijaa", sum := "bef9c901a3c6fcdc1026cb4b492c2af2445d7516d3af667fc84b9c52d4d65e92", func := "decompiler/decompilerlaw18.FuncsOrders", spec := "funcsOrders", unfollowed := true, recurses := true, apart := false }
def FuncsOrdersSaid : Prop := funcsOrdersRow.holds Try.pinned (OpenSpec.ofChange funcsOrdersSpec)

/-- ITS FALSE NEIGHBOUR: 'it returns false'. Refute it at one input. -/
def funcsOrdersWrong : ChangeSpec := { name := "funcsOrders", fn := fun _ => fun
  | [d] => { results := [.lit (.bool false)], args := [d] }
  | _ => none }
def FuncsOrdersWrongFalsely : Prop := funcsOrdersRow.holds Try.pinned (OpenSpec.ofChange funcsOrdersWrong)

/-- 'decompilerlaw18.FuncsCalls': WHATEVER THE INPUT: true; the input reads as it did. -/
def funcsCallsSpec : ChangeSpec := { name := "funcsCalls", fn := fun _ => fun
  | [d1, d2, d3] => { results := [.lit (.bool true)], args := [d1, d2, d3] }
  | _ => none }
def funcsCallsRow : OpenClaim := { program := "ytnlmhnbogleijaa", sum := "bef9c901a3c6fcdc1026cb4b492c2af2445d7516d3af667fc84b9c52d4d65e92", func := "decompiler/decompilerlaw18.FuncsCalls", spec := "funcsCalls", unfollowed := true, recurses := true, apart := false }
def FuncsCallsSaid : Prop := funcsCallsRow.holds Try.pinned (OpenSpec.ofChange funcsCallsSpec)

/-- ITS FALSE NEIGHBOUR: 'it returns false'. Refute it at one input. -/
def funcsCallsWrong : ChangeSpec := { name := "funcsCalls", fn := fun _ => fun
  | [d1, d2, d3] => { results := [.lit (.bool false)], args := [d1, d2, d3] }
  | _ => none }
def FuncsCallsWrongFalsely : Prop := funcsCallsRow.holds Try.pinned (OpenSpec.ofChange funcsCallsWrong)

/-- 'decompilerlaw18.FuncsShared': WHATEVER THE INPUT: true; the input reads as it did. -/
def funcsSharedSpec : ChangeSpec := { name := "funcsShared", fn := fun _ => fun
  | [d] => { results := [.lit (.bool true)], args := [d] }
  | _ => none }
def funcsSharedRow : OpenClaim := { program := "ytnlmhnbogleijaa", sum := "bef9c901a3c6fcdc1026cb4b492c2af2445d7516d3af667fc84b9c52d4d65e92", func := "decompiler/decompilerlaw18.FuncsShared", spec := "funcsShared", unfollowed := true, recurses := true, apart := false }
def FuncsSharedSaid : Prop := funcsSharedRow.holds Try.pinned (OpenSpec.ofChange funcsSharedSpec)

/-- ITS FALSE NEIGHBOUR: 'it returns false'. Refute it at one input. -/
def funcsSharedWrong : ChangeSpec := { name := "funcsShared", fn := fun _ => fun
  | [d] => { results := [.lit (.bool false)], args := [d] }
  | _ => none }
def FuncsSharedWrongFalsely : Prop := funcsSharedRow.holds Try.pinned (OpenSpec.ofChange funcsSharedWrong)

/- THE SECOND FORM. 'bulk': how many values and letters a reading holds, each counted each time it is reached (what is shared counts as often as it is met; a slice's spare places count too). A statement '..UptoSaid' is the law's where the arguments, and the package variables that the reading takes, are together of bulk at most 1048576: NARROWER than '..Said'. Prove '..Said' where nothing that the law and all that it calls make is longer than what came in: it says more and counts as full. Else prove '..UptoSaid'. A law counts once. -/
mutual
def uptoBulk {H : Type} : DataW H → Nat
  | .lit (.string bytes) => bytes.length + 1
  | .lit _ => 1
  | .nil => 1
  | .ptr d => uptoBulk d + 1
  | .slice elems spare => uptoBulkAll elems + uptoBulkAll spare + 1
  | .agg parts => uptoBulkAll parts + 1
  | .iface _ d => uptoBulk d + 1
  | .map entries => uptoBulkEntries entries + 1
  | .held _ => 1
def uptoBulkAll {H : Type} : List (DataW H) → Nat
  | [] => 0
  | d :: r => uptoBulk d + uptoBulkAll r
def uptoBulkEntries {H : Type} : List (Lit × DataW H) → Nat
  | [] => 0
  | x :: r => uptoBulkEntry x + uptoBulkEntries r
def uptoBulkEntry {H : Type} : Lit × DataW H → Nat
  | (.string bytes, d) => bytes.length + uptoBulk d + 1
  | (_, d) => uptoBulk d + 1
 end
def uptoSmall : (H : Type) → List (DataW H) → Bool := fun _ ds => decide (uptoBulkAll ds ≤ 1048576)
def OpenSpec.upto (s : _root_.Go.ChangeSpec) : _root_.Go.OpenSpec := { _root_.Go.OpenSpec.ofChange s with cond := some uptoSmall }

/-- 'decompilerlaw18.FuncsOrder', WHERE WHAT IT READS IS OF BULK AT MOST 1048576: true; the input reads as it did. -/
def funcsOrderUptoRow : OpenClaim := { program := "ytnlmhnbogleijaa", sum := "bef9c901a3c6fcdc1026cb4b492c2af2445d7516d3af667fc84b9c52d4d65e92", func := "decompiler/decompilerlaw18.FuncsOrder", spec := "funcsOrder", unfollowed := true, recurses := true, apart := false, narrowed := true }
def FuncsOrderUptoSaid : Prop := funcsOrderUptoRow.holds Try.pinned (OpenSpec.upto funcsOrderSpec)

/-- 'decompilerlaw18.FuncsOrders', WHERE WHAT IT READS IS OF BULK AT MOST 1048576: true; the input reads as it did. -/
def funcsOrdersUptoRow : OpenClaim := { program := "ytnlmhnbogleijaa", sum := "bef9c901a3c6fcdc1026cb4b492c2af2445d7516d3af667fc84b9c52d4d65e92", func := "decompiler/decompilerlaw18.FuncsOrders", spec := "funcsOrders", unfollowed := true, recurses := true, apart := false, narrowed := true }
def FuncsOrdersUptoSaid : Prop := funcsOrdersUptoRow.holds Try.pinned (OpenSpec.upto funcsOrdersSpec)

/-- 'decompilerlaw18.FuncsCalls', WHERE WHAT IT READS IS OF BULK AT MOST 1048576: true; the input reads as it did. -/
def funcsCallsUptoRow : OpenClaim := { program := "ytnlmhnbogleijaa", sum := "bef9c901a3c6fcdc1026cb4b492c2af2445d7516d3af667fc84b9c52d4d65e92", func := "decompiler/decompilerlaw18.FuncsCalls", spec := "funcsCalls", unfollowed := true, recurses := true, apart := false, narrowed := true }
def FuncsCallsUptoSaid : Prop := funcsCallsUptoRow.holds Try.pinned (OpenSpec.upto funcsCallsSpec)

/-- 'decompilerlaw18.FuncsShared', WHERE WHAT IT READS IS OF BULK AT MOST 1048576: true; the input reads as it did. -/
def funcsSharedUptoRow : OpenClaim := { program := "ytnlmhnbogleijaa", sum := "bef9c901a3c6fcdc1026cb4b492c2af2445d7516d3af667fc84b9c52d4d65e92", func := "decompiler/decompilerlaw18.FuncsShared", spec := "funcsShared", unfollowed := true, recurses := true, apart := false, narrowed := true }
def FuncsSharedUptoSaid : Prop := funcsSharedUptoRow.holds Try.pinned (OpenSpec.upto funcsSharedSpec)

end Rows
end Go.Proofs.Ytnlmhnbogleijaa
