/-
  NARROWER THAN 'FOR EVERY INPUT', by the rows' own cells (each row's printed sentence says how): SymbolNearest: laid · SymbolChecks: laid · SymbolManyRejected: laid · SymbolNames: laid · SymbolAtNearest: laid · SymbolFinds: laid · SymbolSorted: laid · SymbolOrderFree: laid.
  DERIVED. THE GIVEN ROWS OF THIS SEAT. 8 by the template 'for every input the law returns true; each argument reads behind the call as it read before'; 0 by the template 'total and deterministic' (their statements: YtekilcnkinmakaaDoorTotals.lean).
  GIVEN WITH THE SEED: the statements are not yours to turn. If you find one false, say at which input.
  Laid BY PROGRAM, IN A SANDBOX (cutbox-rows.mjs): the forced cells as the released guide's own fill.sh prints them over the translation c43ca405cfda7bec… (all of the seat's roots in one cut). By AI agents, Wed Nov 11 2026. No macro, syntax, notation, axiom, sorry.
-/
import Derived.Test.YtekilcnkinmakaaDoorChecked
import GoSem.Claim
import GoSem.ClaimJoined
import GoSem.ClaimMapViews
import Derived.JoinedTies
import Derived.KernelRfl
namespace Go.Proofs.YtekilcnkinmakaaDoor
/- THE CELL 'sum', in the pinned program and in every row, IS THE sha256 OF THE DUMP (.gsa) THAT YtekilcnkinmakaaDoorProg.lean LOADS. Nothing in Lean hashes anything: it is a label: what it is worth is what the hold of that sum in a sandbox is worth. -/
noncomputable def Tryd.pinned : Pinned := { name := "ytekilcnkinmakaadoor", sum := "c43ca405cfda7bec4fc880312b3fd7eb9b6265885e0bcd727fa1c17a21b7a454", checked := Tryd.checked }
namespace Rows
def none {H : Type} : Left H := { results := [], args := [] }

/- WHAT THE LISTED PACKAGE-LEVEL VARIABLES READ AS WHEN THE CALL BEGINS. Each datum BY PROGRAM (the guide's laid-datum.mjs) off the statement by which the dump's own 'gosem.cut.vars' lays the variable. In a bare row this is a premise. The card (YtekilcnkinmakaaDoorCards.lean) ties it to the program's text. -/
def laid_math_bits_deBruijn32tab {H : Type} : DataW H := .agg [.lit (.int .u8 0), .lit (.int .u8 1), .lit (.int .u8 28), .lit (.int .u8 2), .lit (.int .u8 29), .lit (.int .u8 14), .lit (.int .u8 24), .lit (.int .u8 3), .lit (.int .u8 30), .lit (.int .u8 22), .lit (.int .u8 20), .lit (.int .u8 15), .lit (.int .u8 25), .lit (.int .u8 17), .lit (.int .u8 4), .lit (.int .u8 8), .lit (.int .u8 31), .lit (.int .u8 27), .lit (.int .u8 13), .lit (.int .u8 23), .lit (.int .u8 21), .lit (.int .u8 19), .lit (.int .u8 16), .lit (.int .u8 7), .lit (.int .u8 26), .lit (.int .u8 12), .lit (.int .u8 18), .lit (.int .u8 6), .lit (.int .u8 11), .lit (.int .u8 5), .lit (.int .u8 10), .lit (.int .u8 9)]
def laid_math_bits_deBruijn64tab {H : Type} : DataW H := .agg [.lit (.int .u8 0), .lit (.int .u8 1), .lit (.int .u8 56), .lit (.int .u8 2), .lit (.int .u8 57), .lit (.int .u8 49), .lit (.int .u8 28), .lit (.int .u8 3), .lit (.int .u8 61), .lit (.int .u8 58), .lit (.int .u8 42), .lit (.int .u8 50), .lit (.int .u8 38), .lit (.int .u8 29), .lit (.int .u8 17), .lit (.int .u8 4), .lit (.int .u8 62), .lit (.int .u8 47), .lit (.int .u8 59), .lit (.int .u8 36), .lit (.int .u8 45), .lit (.int .u8 43), .lit (.int .u8 51), .lit (.int .u8 22), .lit (.int .u8 53), .lit (.int .u8 39), .lit (.int .u8 33), .lit (.int .u8 30), .lit (.int .u8 24), .lit (.int .u8 18), .lit (.int .u8 12), .lit (.int .u8 5), .lit (.int .u8 63), .lit (.int .u8 55), .lit (.int .u8 48), .lit (.int .u8 27), .lit (.int .u8 60), .lit (.int .u8 41), .lit (.int .u8 37), .lit (.int .u8 16), .lit (.int .u8 46), .lit (.int .u8 35), .lit (.int .u8 44), .lit (.int .u8 21), .lit (.int .u8 52), .lit (.int .u8 32), .lit (.int .u8 23), .lit (.int .u8 11), .lit (.int .u8 54), .lit (.int .u8 26), .lit (.int .u8 40), .lit (.int .u8 15), .lit (.int .u8 34), .lit (.int .u8 20), .lit (.int .u8 31), .lit (.int .u8 10), .lit (.int .u8 25), .lit (.int .u8 14), .lit (.int .u8 19), .lit (.int .u8 9), .lit (.int .u8 13), .lit (.int .u8 8), .lit (.int .u8 7), .lit (.int .u8 6)]
def laid_internal_strconv_uint64pow10 {H : Type} : DataW H := .agg [.lit (.int .u64 1), .lit (.int .u64 10), .lit (.int .u64 100), .lit (.int .u64 1000), .lit (.int .u64 10000), .lit (.int .u64 100000), .lit (.int .u64 1000000), .lit (.int .u64 10000000), .lit (.int .u64 100000000), .lit (.int .u64 1000000000), .lit (.int .u64 10000000000), .lit (.int .u64 100000000000), .lit (.int .u64 1000000000000), .lit (.int .u64 10000000000000), .lit (.int .u64 100000000000000), .lit (.int .u64 1000000000000000), .lit (.int .u64 10000000000000000), .lit (.int .u64 100000000000000000), .lit (.int .u64 1000000000000000000), .lit (.int .u64 10000000000000000000)]

/-- 'decompilerlaw06.SymbolNearest': WHATEVER THE INPUT: true; the input reads as it did. -/
def symbolNearestSpec : ChangeSpec := { name := "symbolNearest", fn := fun _ => fun
  | [d1, d2] => { results := [.lit (.bool true)], args := [d1, d2] }
  | _ => none }
def symbolNearestRow : OpenClaim := { program := "ytekilcnkinmakaadoor", sum := "c43ca405cfda7bec4fc880312b3fd7eb9b6265885e0bcd727fa1c17a21b7a454", func := "decompiler/decompilerlaw06.SymbolNearest", spec := "symbolNearest", recurses := true, named := ["internal/strconv.uint64pow10", "math/bits.deBruijn32tab", "math/bits.deBruijn64tab"], apart := false, laid := [("math/bits.deBruijn32tab", laid_math_bits_deBruijn32tab), ("math/bits.deBruijn64tab", laid_math_bits_deBruijn64tab), ("internal/strconv.uint64pow10", laid_internal_strconv_uint64pow10)] }
def SymbolNearestSaid : Prop := symbolNearestRow.holds Tryd.pinned (OpenSpec.ofChange symbolNearestSpec)

/-- ITS FALSE NEIGHBOUR: 'it returns false'. Refute it at one input. -/
def symbolNearestWrong : ChangeSpec := { name := "symbolNearest", fn := fun _ => fun
  | [d1, d2] => { results := [.lit (.bool false)], args := [d1, d2] }
  | _ => none }
def SymbolNearestWrongFalsely : Prop := symbolNearestRow.holds Tryd.pinned (OpenSpec.ofChange symbolNearestWrong)

/-- 'decompilerlaw06.SymbolChecks': WHATEVER THE INPUT: true; the input reads as it did. -/
def symbolChecksSpec : ChangeSpec := { name := "symbolChecks", fn := fun _ => fun
  | [d] => { results := [.lit (.bool true)], args := [d] }
  | _ => none }
def symbolChecksRow : OpenClaim := { program := "ytekilcnkinmakaadoor", sum := "c43ca405cfda7bec4fc880312b3fd7eb9b6265885e0bcd727fa1c17a21b7a454", func := "decompiler/decompilerlaw06.SymbolChecks", spec := "symbolChecks", recurses := true, named := ["internal/strconv.uint64pow10", "math/bits.deBruijn32tab", "math/bits.deBruijn64tab"], apart := false, laid := [("math/bits.deBruijn32tab", laid_math_bits_deBruijn32tab), ("math/bits.deBruijn64tab", laid_math_bits_deBruijn64tab), ("internal/strconv.uint64pow10", laid_internal_strconv_uint64pow10)] }
def SymbolChecksSaid : Prop := symbolChecksRow.holds Tryd.pinned (OpenSpec.ofChange symbolChecksSpec)

/-- ITS FALSE NEIGHBOUR: 'it returns false'. Refute it at one input. -/
def symbolChecksWrong : ChangeSpec := { name := "symbolChecks", fn := fun _ => fun
  | [d] => { results := [.lit (.bool false)], args := [d] }
  | _ => none }
def SymbolChecksWrongFalsely : Prop := symbolChecksRow.holds Tryd.pinned (OpenSpec.ofChange symbolChecksWrong)

/-- 'decompilerlaw06.SymbolManyRejected': WHATEVER THE INPUT: true; the input reads as it did. -/
def symbolManyRejectedSpec : ChangeSpec := { name := "symbolManyRejected", fn := fun _ => fun
  | [d] => { results := [.lit (.bool true)], args := [d] }
  | _ => none }
def symbolManyRejectedRow : OpenClaim := { program := "ytekilcnkinmakaadoor", sum := "c43ca405cfda7bec4fc880312b3fd7eb9b6265885e0bcd727fa1c17a21b7a454", func := "decompiler/decompilerlaw06.SymbolManyRejected", spec := "symbolManyRejected", recurses := true, named := ["internal/strconv.uint64pow10", "math/bits.deBruijn32tab", "math/bits.deBruijn64tab"], apart := false, laid := [("math/bits.deBruijn32tab", laid_math_bits_deBruijn32tab), ("math/bits.deBruijn64tab", laid_math_bits_deBruijn64tab), ("internal/strconv.uint64pow10", laid_internal_strconv_uint64pow10)] }
def SymbolManyRejectedSaid : Prop := symbolManyRejectedRow.holds Tryd.pinned (OpenSpec.ofChange symbolManyRejectedSpec)

/-- ITS FALSE NEIGHBOUR: 'it returns false'. Refute it at one input. -/
def symbolManyRejectedWrong : ChangeSpec := { name := "symbolManyRejected", fn := fun _ => fun
  | [d] => { results := [.lit (.bool false)], args := [d] }
  | _ => none }
def SymbolManyRejectedWrongFalsely : Prop := symbolManyRejectedRow.holds Tryd.pinned (OpenSpec.ofChange symbolManyRejectedWrong)

/-- 'decompilerlaw06.SymbolNames': WHATEVER THE INPUT: true; the input reads as it did. -/
def symbolNamesSpec : ChangeSpec := { name := "symbolNames", fn := fun _ => fun
  | [d1, d2] => { results := [.lit (.bool true)], args := [d1, d2] }
  | _ => none }
def symbolNamesRow : OpenClaim := { program := "ytekilcnkinmakaadoor", sum := "c43ca405cfda7bec4fc880312b3fd7eb9b6265885e0bcd727fa1c17a21b7a454", func := "decompiler/decompilerlaw06.SymbolNames", spec := "symbolNames", recurses := true, named := ["internal/strconv.uint64pow10", "math/bits.deBruijn32tab", "math/bits.deBruijn64tab"], apart := false, laid := [("math/bits.deBruijn32tab", laid_math_bits_deBruijn32tab), ("math/bits.deBruijn64tab", laid_math_bits_deBruijn64tab), ("internal/strconv.uint64pow10", laid_internal_strconv_uint64pow10)] }
def SymbolNamesSaid : Prop := symbolNamesRow.holds Tryd.pinned (OpenSpec.ofChange symbolNamesSpec)

/-- ITS FALSE NEIGHBOUR: 'it returns false'. Refute it at one input. -/
def symbolNamesWrong : ChangeSpec := { name := "symbolNames", fn := fun _ => fun
  | [d1, d2] => { results := [.lit (.bool false)], args := [d1, d2] }
  | _ => none }
def SymbolNamesWrongFalsely : Prop := symbolNamesRow.holds Tryd.pinned (OpenSpec.ofChange symbolNamesWrong)

/-- 'decompilerlaw06.SymbolAtNearest': WHATEVER THE INPUT: true; the input reads as it did. -/
def symbolAtNearestSpec : ChangeSpec := { name := "symbolAtNearest", fn := fun _ => fun
  | [d1, d2] => { results := [.lit (.bool true)], args := [d1, d2] }
  | _ => none }
def symbolAtNearestRow : OpenClaim := { program := "ytekilcnkinmakaadoor", sum := "c43ca405cfda7bec4fc880312b3fd7eb9b6265885e0bcd727fa1c17a21b7a454", func := "decompiler/decompilerlaw06.SymbolAtNearest", spec := "symbolAtNearest", recurses := true, named := ["internal/strconv.uint64pow10", "math/bits.deBruijn32tab", "math/bits.deBruijn64tab"], apart := false, laid := [("math/bits.deBruijn32tab", laid_math_bits_deBruijn32tab), ("math/bits.deBruijn64tab", laid_math_bits_deBruijn64tab), ("internal/strconv.uint64pow10", laid_internal_strconv_uint64pow10)] }
def SymbolAtNearestSaid : Prop := symbolAtNearestRow.holds Tryd.pinned (OpenSpec.ofChange symbolAtNearestSpec)

/-- ITS FALSE NEIGHBOUR: 'it returns false'. Refute it at one input. -/
def symbolAtNearestWrong : ChangeSpec := { name := "symbolAtNearest", fn := fun _ => fun
  | [d1, d2] => { results := [.lit (.bool false)], args := [d1, d2] }
  | _ => none }
def SymbolAtNearestWrongFalsely : Prop := symbolAtNearestRow.holds Tryd.pinned (OpenSpec.ofChange symbolAtNearestWrong)

/-- 'decompilerlaw06.SymbolFinds': WHATEVER THE INPUT: true; the input reads as it did. -/
def symbolFindsSpec : ChangeSpec := { name := "symbolFinds", fn := fun _ => fun
  | [d1, d2, d3] => { results := [.lit (.bool true)], args := [d1, d2, d3] }
  | _ => none }
def symbolFindsRow : OpenClaim := { program := "ytekilcnkinmakaadoor", sum := "c43ca405cfda7bec4fc880312b3fd7eb9b6265885e0bcd727fa1c17a21b7a454", func := "decompiler/decompilerlaw06.SymbolFinds", spec := "symbolFinds", recurses := true, named := ["internal/strconv.uint64pow10", "math/bits.deBruijn32tab", "math/bits.deBruijn64tab"], apart := false, laid := [("math/bits.deBruijn32tab", laid_math_bits_deBruijn32tab), ("math/bits.deBruijn64tab", laid_math_bits_deBruijn64tab), ("internal/strconv.uint64pow10", laid_internal_strconv_uint64pow10)] }
def SymbolFindsSaid : Prop := symbolFindsRow.holds Tryd.pinned (OpenSpec.ofChange symbolFindsSpec)

/-- ITS FALSE NEIGHBOUR: 'it returns false'. Refute it at one input. -/
def symbolFindsWrong : ChangeSpec := { name := "symbolFinds", fn := fun _ => fun
  | [d1, d2, d3] => { results := [.lit (.bool false)], args := [d1, d2, d3] }
  | _ => none }
def SymbolFindsWrongFalsely : Prop := symbolFindsRow.holds Tryd.pinned (OpenSpec.ofChange symbolFindsWrong)

/-- 'decompilerlaw06.SymbolSorted': WHATEVER THE INPUT: true; the input reads as it did. -/
def symbolSortedSpec : ChangeSpec := { name := "symbolSorted", fn := fun _ => fun
  | [d] => { results := [.lit (.bool true)], args := [d] }
  | _ => none }
def symbolSortedRow : OpenClaim := { program := "ytekilcnkinmakaadoor", sum := "c43ca405cfda7bec4fc880312b3fd7eb9b6265885e0bcd727fa1c17a21b7a454", func := "decompiler/decompilerlaw06.SymbolSorted", spec := "symbolSorted", unfollowed := true, recurses := true, named := ["internal/strconv.uint64pow10", "math/bits.deBruijn32tab", "math/bits.deBruijn64tab"], apart := false, laid := [("math/bits.deBruijn32tab", laid_math_bits_deBruijn32tab), ("math/bits.deBruijn64tab", laid_math_bits_deBruijn64tab), ("internal/strconv.uint64pow10", laid_internal_strconv_uint64pow10)] }
def SymbolSortedSaid : Prop := symbolSortedRow.holds Tryd.pinned (OpenSpec.ofChange symbolSortedSpec)

/-- ITS FALSE NEIGHBOUR: 'it returns false'. Refute it at one input. -/
def symbolSortedWrong : ChangeSpec := { name := "symbolSorted", fn := fun _ => fun
  | [d] => { results := [.lit (.bool false)], args := [d] }
  | _ => none }
def SymbolSortedWrongFalsely : Prop := symbolSortedRow.holds Tryd.pinned (OpenSpec.ofChange symbolSortedWrong)

/-- 'decompilerlaw06.SymbolOrderFree': WHATEVER THE INPUT: true; the input reads as it did. -/
def symbolOrderFreeSpec : ChangeSpec := { name := "symbolOrderFree", fn := fun _ => fun
  | [d1, d2, d3] => { results := [.lit (.bool true)], args := [d1, d2, d3] }
  | _ => none }
def symbolOrderFreeRow : OpenClaim := { program := "ytekilcnkinmakaadoor", sum := "c43ca405cfda7bec4fc880312b3fd7eb9b6265885e0bcd727fa1c17a21b7a454", func := "decompiler/decompilerlaw06.SymbolOrderFree", spec := "symbolOrderFree", unfollowed := true, recurses := true, named := ["internal/strconv.uint64pow10", "math/bits.deBruijn32tab", "math/bits.deBruijn64tab"], apart := false, laid := [("math/bits.deBruijn32tab", laid_math_bits_deBruijn32tab), ("math/bits.deBruijn64tab", laid_math_bits_deBruijn64tab), ("internal/strconv.uint64pow10", laid_internal_strconv_uint64pow10)] }
def SymbolOrderFreeSaid : Prop := symbolOrderFreeRow.holds Tryd.pinned (OpenSpec.ofChange symbolOrderFreeSpec)

/-- ITS FALSE NEIGHBOUR: 'it returns false'. Refute it at one input. -/
def symbolOrderFreeWrong : ChangeSpec := { name := "symbolOrderFree", fn := fun _ => fun
  | [d1, d2, d3] => { results := [.lit (.bool false)], args := [d1, d2, d3] }
  | _ => none }
def SymbolOrderFreeWrongFalsely : Prop := symbolOrderFreeRow.holds Tryd.pinned (OpenSpec.ofChange symbolOrderFreeWrong)

/- THE SECOND FORM. 'bulk': how many values and letters a reading holds, each counted each time it is reached (what is shared counts as often as it is met; a slice's spare places count too). A statement '..UptoSaid' is the law's where the arguments, and the package variables that the reading takes, are together of bulk at most 1048576: NARROWER than '..Said'. Prove '..Said' where nothing that the law and all that it calls make is longer than what came in: it says more and counts as full. Else prove '..UptoSaid'. A law counts once. -/
mutual
def uptoBulk {H : Type} : DataW H → Nat
  | .lit (.string bytes) => bytes.length + 1
  | .lit _ => 1
  | .nil => 1
  | .ptr d => uptoBulk d + 1
  | .slice elems spare => uptoBulkAll elems + uptoBulkAll spare + 1
  | .agg parts => uptoBulkAll parts + 1
  | .iface _ d => uptoBulk d + 1
  | .map entries => uptoBulkEntries entries + 1
  | .held _ => 1
def uptoBulkAll {H : Type} : List (DataW H) → Nat
  | [] => 0
  | d :: r => uptoBulk d + uptoBulkAll r
def uptoBulkEntries {H : Type} : List (Lit × DataW H) → Nat
  | [] => 0
  | x :: r => uptoBulkEntry x + uptoBulkEntries r
def uptoBulkEntry {H : Type} : Lit × DataW H → Nat
  | (.string bytes, d) => bytes.length + uptoBulk d + 1
  | (_, d) => uptoBulk d + 1
 end
def uptoSmall : (H : Type) → List (DataW H) → Bool := fun _ ds => decide (uptoBulkAll ds ≤ 1048576)
def OpenSpec.upto (s : _root_.Go.ChangeSpec) : _root_.Go.OpenSpec := { _root_.Go.OpenSpec.ofChange s with cond := some uptoSmall }

/-- 'decompilerlaw06.SymbolNearest', WHERE WHAT IT READS IS OF BULK AT MOST 1048576: true; the input reads as it did. -/
def symbolNearestUptoRow : OpenClaim := { program := "ytekilcnkinmakaadoor", sum := "c43ca405cfda7bec4fc880312b3fd7eb9b6265885e0bcd727fa1c17a21b7a454", func := "decompiler/decompilerlaw06.SymbolNearest", spec := "symbolNearest", recurses := true, named := ["internal/strconv.uint64pow10", "math/bits.deBruijn32tab", "math/bits.deBruijn64tab"], apart := false, laid := [("math/bits.deBruijn32tab", laid_math_bits_deBruijn32tab), ("math/bits.deBruijn64tab", laid_math_bits_deBruijn64tab), ("internal/strconv.uint64pow10", laid_internal_strconv_uint64pow10)], narrowed := true }
def SymbolNearestUptoSaid : Prop := symbolNearestUptoRow.holds Tryd.pinned (OpenSpec.upto symbolNearestSpec)

/-- 'decompilerlaw06.SymbolChecks', WHERE WHAT IT READS IS OF BULK AT MOST 1048576: true; the input reads as it did. -/
def symbolChecksUptoRow : OpenClaim := { program := "ytekilcnkinmakaadoor", sum := "c43ca405cfda7bec4fc880312b3fd7eb9b6265885e0bcd727fa1c17a21b7a454", func := "decompiler/decompilerlaw06.SymbolChecks", spec := "symbolChecks", recurses := true, named := ["internal/strconv.uint64pow10", "math/bits.deBruijn32tab", "math/bits.deBruijn64tab"], apart := false, laid := [("math/bits.deBruijn32tab", laid_math_bits_deBruijn32tab), ("math/bits.deBruijn64tab", laid_math_bits_deBruijn64tab), ("internal/strconv.uint64pow10", laid_internal_strconv_uint64pow10)], narrowed := true }
def SymbolChecksUptoSaid : Prop := symbolChecksUptoRow.holds Tryd.pinned (OpenSpec.upto symbolChecksSpec)

/-- 'decompilerlaw06.SymbolManyRejected', WHERE WHAT IT READS IS OF BULK AT MOST 1048576: true; the input reads as it did. -/
def symbolManyRejectedUptoRow : OpenClaim := { program := "ytekilcnkinmakaadoor", sum := "c43ca405cfda7bec4fc880312b3fd7eb9b6265885e0bcd727fa1c17a21b7a454", func := "decompiler/decompilerlaw06.SymbolManyRejected", spec := "symbolManyRejected", recurses := true, named := ["internal/strconv.uint64pow10", "math/bits.deBruijn32tab", "math/bits.deBruijn64tab"], apart := false, laid := [("math/bits.deBruijn32tab", laid_math_bits_deBruijn32tab), ("math/bits.deBruijn64tab", laid_math_bits_deBruijn64tab), ("internal/strconv.uint64pow10", laid_internal_strconv_uint64pow10)], narrowed := true }
def SymbolManyRejectedUptoSaid : Prop := symbolManyRejectedUptoRow.holds Tryd.pinned (OpenSpec.upto symbolManyRejectedSpec)

/-- 'decompilerlaw06.SymbolNames', WHERE WHAT IT READS IS OF BULK AT MOST 1048576: true; the input reads as it did. -/
def symbolNamesUptoRow : OpenClaim := { program := "ytekilcnkinmakaadoor", sum := "c43ca405cfda7bec4fc880312b3fd7eb9b6265885e0bcd727fa1c17a21b7a454", func := "decompiler/decompilerlaw06.SymbolNames", spec := "symbolNames", recurses := true, named := ["internal/strconv.uint64pow10", "math/bits.deBruijn32tab", "math/bits.deBruijn64tab"], apart := false, laid := [("math/bits.deBruijn32tab", laid_math_bits_deBruijn32tab), ("math/bits.deBruijn64tab", laid_math_bits_deBruijn64tab), ("internal/strconv.uint64pow10", laid_internal_strconv_uint64pow10)], narrowed := true }
def SymbolNamesUptoSaid : Prop := symbolNamesUptoRow.holds Tryd.pinned (OpenSpec.upto symbolNamesSpec)

/-- 'decompilerlaw06.SymbolAtNearest', WHERE WHAT IT READS IS OF BULK AT MOST 1048576: true; the input reads as it did. -/
def symbolAtNearestUptoRow : OpenClaim := { program := "ytekilcnkinmakaadoor", sum := "c43ca405cfda7bec4fc880312b3fd7eb9b6265885e0bcd727fa1c17a21b7a454", func := "decompiler/decompilerlaw06.SymbolAtNearest", spec := "symbolAtNearest", recurses := true, named := ["internal/strconv.uint64pow10", "math/bits.deBruijn32tab", "math/bits.deBruijn64tab"], apart := false, laid := [("math/bits.deBruijn32tab", laid_math_bits_deBruijn32tab), ("math/bits.deBruijn64tab", laid_math_bits_deBruijn64tab), ("internal/strconv.uint64pow10", laid_internal_strconv_uint64pow10)], narrowed := true }
def SymbolAtNearestUptoSaid : Prop := symbolAtNearestUptoRow.holds Tryd.pinned (OpenSpec.upto symbolAtNearestSpec)

/-- 'decompilerlaw06.SymbolFinds', WHERE WHAT IT READS IS OF BULK AT MOST 1048576: true; the input reads as it did. -/
def symbolFindsUptoRow : OpenClaim := { program := "ytekilcnkinmakaadoor", sum := "c43ca405cfda7bec4fc880312b3fd7eb9b6265885e0bcd727fa1c17a21b7a454", func := "decompiler/decompilerlaw06.SymbolFinds", spec := "symbolFinds", recurses := true, named := ["internal/strconv.uint64pow10", "math/bits.deBruijn32tab", "math/bits.deBruijn64tab"], apart := false, laid := [("math/bits.deBruijn32tab", laid_math_bits_deBruijn32tab), ("math/bits.deBruijn64tab", laid_math_bits_deBruijn64tab), ("internal/strconv.uint64pow10", laid_internal_strconv_uint64pow10)], narrowed := true }
def SymbolFindsUptoSaid : Prop := symbolFindsUptoRow.holds Tryd.pinned (OpenSpec.upto symbolFindsSpec)

/-- 'decompilerlaw06.SymbolSorted', WHERE WHAT IT READS IS OF BULK AT MOST 1048576: true; the input reads as it did. -/
def symbolSortedUptoRow : OpenClaim := { program := "ytekilcnkinmakaadoor", sum := "c43ca405cfda7bec4fc880312b3fd7eb9b6265885e0bcd727fa1c17a21b7a454", func := "decompiler/decompilerlaw06.SymbolSorted", spec := "symbolSorted", unfollowed := true, recurses := true, named := ["internal/strconv.uint64pow10", "math/bits.deBruijn32tab", "math/bits.deBruijn64tab"], apart := false, laid := [("math/bits.deBruijn32tab", laid_math_bits_deBruijn32tab), ("math/bits.deBruijn64tab", laid_math_bits_deBruijn64tab), ("internal/strconv.uint64pow10", laid_internal_strconv_uint64pow10)], narrowed := true }
def SymbolSortedUptoSaid : Prop := symbolSortedUptoRow.holds Tryd.pinned (OpenSpec.upto symbolSortedSpec)

/-- 'decompilerlaw06.SymbolOrderFree', WHERE WHAT IT READS IS OF BULK AT MOST 1048576: true; the input reads as it did. -/
def symbolOrderFreeUptoRow : OpenClaim := { program := "ytekilcnkinmakaadoor", sum := "c43ca405cfda7bec4fc880312b3fd7eb9b6265885e0bcd727fa1c17a21b7a454", func := "decompiler/decompilerlaw06.SymbolOrderFree", spec := "symbolOrderFree", unfollowed := true, recurses := true, named := ["internal/strconv.uint64pow10", "math/bits.deBruijn32tab", "math/bits.deBruijn64tab"], apart := false, laid := [("math/bits.deBruijn32tab", laid_math_bits_deBruijn32tab), ("math/bits.deBruijn64tab", laid_math_bits_deBruijn64tab), ("internal/strconv.uint64pow10", laid_internal_strconv_uint64pow10)], narrowed := true }
def SymbolOrderFreeUptoSaid : Prop := symbolOrderFreeUptoRow.holds Tryd.pinned (OpenSpec.upto symbolOrderFreeSpec)

end Rows
end Go.Proofs.YtekilcnkinmakaaDoor
