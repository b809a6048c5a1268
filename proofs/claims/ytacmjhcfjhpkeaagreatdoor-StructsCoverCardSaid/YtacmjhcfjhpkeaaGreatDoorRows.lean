/-
  NARROWER THAN 'FOR EVERY INPUT', by the rows' own cells (each row's printed sentence says how): StructsName: loops, laid · StructsCover: laid · StructsLayout: laid · StructsOrder: laid · StructsFields: laid · StructsStrides: laid · StructsMerge: loops, laid · StructsMergeLayouts: laid · StructsConflicts: laid.
  DERIVED. THE GIVEN ROWS OF THIS SEAT. 9 by the template 'for every input the law returns true; each argument reads behind the call as it read before'; 0 by the template 'total and deterministic' (their statements: YtacmjhcfjhpkeaaGreatDoorTotals.lean).
  GIVEN WITH THE SEED: the statements are not yours to turn. If you find one false, say at which input.
  Laid BY PROGRAM, IN A SANDBOX (cutbox-rows.mjs): the forced cells as the released guide's own fill.sh prints them over the translation 8ac3b52159ff5385… (all of the seat's roots in one cut). By AI agents, Wed Nov 11 2026. No macro, syntax, notation, axiom, sorry.
-/
import Derived.Test.YtacmjhcfjhpkeaaGreatDoorChecked
import GoSem.Claim
import GoSem.ClaimJoined
import GoSem.ClaimMapViews
import Derived.JoinedTies
import Derived.KernelRfl
namespace Go.Proofs.YtacmjhcfjhpkeaaGreatDoor
/- THE CELL 'sum', in the pinned program and in every row, IS THE sha256 OF THE DUMP (.gsa) THAT YtacmjhcfjhpkeaaGreatDoorProg.lean LOADS. Nothing in Lean hashes anything: it is a label: what it is worth is what the hold of that sum in a sandbox is worth. -/
noncomputable def Tryz.pinned : Pinned := { name := "ytacmjhcfjhpkeaagreatdoor", sum := "8ac3b52159ff538592b93f4cc488a16405a1c00e6bd0e2fe56e9c5a0588901fb", checked := Tryz.checked }
namespace Rows
def none {H : Type} : Left H := { results := [], args := [] }

/- WHAT THE LISTED PACKAGE-LEVEL VARIABLES READ AS WHEN THE CALL BEGINS. Each datum BY PROGRAM (the guide's laid-datum.mjs) off the statement by which the dump's own 'gosem.cut.vars' lays the variable. In a bare row this is a premise. The card (YtacmjhcfjhpkeaaGreatDoorCards.lean) ties it to the program's text. -/
def laid_math_bits_deBruijn32tab {H : Type} : DataW H := .agg [.lit (.int .u8 0), .lit (.int .u8 1), .lit (.int .u8 28), .lit (.int .u8 2), .lit (.int .u8 29), .lit (.int .u8 14), .lit (.int .u8 24), .lit (.int .u8 3), .lit (.int .u8 30), .lit (.int .u8 22), .lit (.int .u8 20), .lit (.int .u8 15), .lit (.int .u8 25), .lit (.int .u8 17), .lit (.int .u8 4), .lit (.int .u8 8), .lit (.int .u8 31), .lit (.int .u8 27), .lit (.int .u8 13), .lit (.int .u8 23), .lit (.int .u8 21), .lit (.int .u8 19), .lit (.int .u8 16), .lit (.int .u8 7), .lit (.int .u8 26), .lit (.int .u8 12), .lit (.int .u8 18), .lit (.int .u8 6), .lit (.int .u8 11), .lit (.int .u8 5), .lit (.int .u8 10), .lit (.int .u8 9)]
def laid_math_bits_deBruijn64tab {H : Type} : DataW H := .agg [.lit (.int .u8 0), .lit (.int .u8 1), .lit (.int .u8 56), .lit (.int .u8 2), .lit (.int .u8 57), .lit (.int .u8 49), .lit (.int .u8 28), .lit (.int .u8 3), .lit (.int .u8 61), .lit (.int .u8 58), .lit (.int .u8 42), .lit (.int .u8 50), .lit (.int .u8 38), .lit (.int .u8 29), .lit (.int .u8 17), .lit (.int .u8 4), .lit (.int .u8 62), .lit (.int .u8 47), .lit (.int .u8 59), .lit (.int .u8 36), .lit (.int .u8 45), .lit (.int .u8 43), .lit (.int .u8 51), .lit (.int .u8 22), .lit (.int .u8 53), .lit (.int .u8 39), .lit (.int .u8 33), .lit (.int .u8 30), .lit (.int .u8 24), .lit (.int .u8 18), .lit (.int .u8 12), .lit (.int .u8 5), .lit (.int .u8 63), .lit (.int .u8 55), .lit (.int .u8 48), .lit (.int .u8 27), .lit (.int .u8 60), .lit (.int .u8 41), .lit (.int .u8 37), .lit (.int .u8 16), .lit (.int .u8 46), .lit (.int .u8 35), .lit (.int .u8 44), .lit (.int .u8 21), .lit (.int .u8 52), .lit (.int .u8 32), .lit (.int .u8 23), .lit (.int .u8 11), .lit (.int .u8 54), .lit (.int .u8 26), .lit (.int .u8 40), .lit (.int .u8 15), .lit (.int .u8 34), .lit (.int .u8 20), .lit (.int .u8 31), .lit (.int .u8 10), .lit (.int .u8 25), .lit (.int .u8 14), .lit (.int .u8 19), .lit (.int .u8 9), .lit (.int .u8 13), .lit (.int .u8 8), .lit (.int .u8 7), .lit (.int .u8 6)]
def laid_internal_strconv_uint64pow10 {H : Type} : DataW H := .agg [.lit (.int .u64 1), .lit (.int .u64 10), .lit (.int .u64 100), .lit (.int .u64 1000), .lit (.int .u64 10000), .lit (.int .u64 100000), .lit (.int .u64 1000000), .lit (.int .u64 10000000), .lit (.int .u64 100000000), .lit (.int .u64 1000000000), .lit (.int .u64 10000000000), .lit (.int .u64 100000000000), .lit (.int .u64 1000000000000), .lit (.int .u64 10000000000000), .lit (.int .u64 100000000000000), .lit (.int .u64 1000000000000000), .lit (.int .u64 10000000000000000), .lit (.int .u64 100000000000000000), .lit (.int .u64 1000000000000000000), .lit (.int .u64 10000000000000000000)]

/-- 'decompilerlaw34.StructsName': WHATEVER THE INPUT: true; the input reads as it did. -/
def structsNameSpec : ChangeSpec := { name := "structsName", fn := fun _ => fun
  | [d] => { results := [.lit (.bool true)], args := [d] }
  | _ => none }
def structsNameRow : OpenClaim := { program := "ytacmjhcfjhpkeaagreatdoor", sum := "8ac3b52159ff538592b93f4cc488a16405a1c00e6bd0e2fe56e9c5a0588901fb", func := "decompiler/decompilerlaw34.StructsName", spec := "structsName", inPlace := ["internal/abi.NoEscape", "internal/bytealg.MakeNoZero"], unfollowed := true, recurses := true, named := ["internal/strconv.uint64pow10", "math/bits.deBruijn32tab", "math/bits.deBruijn64tab"], loops := true, apart := false, laid := [("math/bits.deBruijn32tab", laid_math_bits_deBruijn32tab), ("math/bits.deBruijn64tab", laid_math_bits_deBruijn64tab), ("internal/strconv.uint64pow10", laid_internal_strconv_uint64pow10)] }
def StructsNameSaid : Prop := structsNameRow.holds Tryz.pinned (OpenSpec.ofChange structsNameSpec)

/-- ITS FALSE NEIGHBOUR: 'it returns false'. Refute it at one input. -/
def structsNameWrong : ChangeSpec := { name := "structsName", fn := fun _ => fun
  | [d] => { results := [.lit (.bool false)], args := [d] }
  | _ => none }
def StructsNameWrongFalsely : Prop := structsNameRow.holds Tryz.pinned (OpenSpec.ofChange structsNameWrong)

/-- 'decompilerlaw34.StructsCover': WHATEVER THE INPUT: true; the input reads as it did. -/
def structsCoverSpec : ChangeSpec := { name := "structsCover", fn := fun _ => fun
  | [d] => { results := [.lit (.bool true)], args := [d] }
  | _ => none }
def structsCoverRow : OpenClaim := { program := "ytacmjhcfjhpkeaagreatdoor", sum := "8ac3b52159ff538592b93f4cc488a16405a1c00e6bd0e2fe56e9c5a0588901fb", func := "decompiler/decompilerlaw34.StructsCover", spec := "structsCover", inPlace := ["internal/abi.NoEscape", "internal/bytealg.MakeNoZero"], unfollowed := true, recurses := true, named := ["internal/strconv.uint64pow10", "math/bits.deBruijn32tab", "math/bits.deBruijn64tab"], apart := false, laid := [("math/bits.deBruijn32tab", laid_math_bits_deBruijn32tab), ("math/bits.deBruijn64tab", laid_math_bits_deBruijn64tab), ("internal/strconv.uint64pow10", laid_internal_strconv_uint64pow10)] }
def StructsCoverSaid : Prop := structsCoverRow.holds Tryz.pinned (OpenSpec.ofChange structsCoverSpec)

/-- ITS FALSE NEIGHBOUR: 'it returns false'. Refute it at one input. -/
def structsCoverWrong : ChangeSpec := { name := "structsCover", fn := fun _ => fun
  | [d] => { results := [.lit (.bool false)], args := [d] }
  | _ => none }
def StructsCoverWrongFalsely : Prop := structsCoverRow.holds Tryz.pinned (OpenSpec.ofChange structsCoverWrong)

/-- 'decompilerlaw34.StructsLayout': WHATEVER THE INPUT: true; the input reads as it did. -/
def structsLayoutSpec : ChangeSpec := { name := "structsLayout", fn := fun _ => fun
  | [d] => { results := [.lit (.bool true)], args := [d] }
  | _ => none }
def structsLayoutRow : OpenClaim := { program := "ytacmjhcfjhpkeaagreatdoor", sum := "8ac3b52159ff538592b93f4cc488a16405a1c00e6bd0e2fe56e9c5a0588901fb", func := "decompiler/decompilerlaw34.StructsLayout", spec := "structsLayout", inPlace := ["internal/abi.NoEscape", "internal/bytealg.MakeNoZero"], unfollowed := true, recurses := true, named := ["internal/strconv.uint64pow10", "math/bits.deBruijn32tab", "math/bits.deBruijn64tab"], apart := false, laid := [("math/bits.deBruijn32tab", laid_math_bits_deBruijn32tab), ("math/bits.deBruijn64tab", laid_math_bits_deBruijn64tab), ("internal/strconv.uint64pow10", laid_internal_strconv_uint64pow10)] }
def StructsLayoutSaid : Prop := structsLayoutRow.holds Tryz.pinned (OpenSpec.ofChange structsLayoutSpec)

/-- ITS FALSE NEIGHBOUR: 'it returns false'. Refute it at one input. -/
def structsLayoutWrong : ChangeSpec := { name := "structsLayout", fn := fun _ => fun
  | [d] => { results := [.lit (.bool false)], args := [d] }
  | _ => none }
def StructsLayoutWrongFalsely : Prop := structsLayoutRow.holds Tryz.pinned (OpenSpec.ofChange structsLayoutWrong)

/-- 'decompilerlaw34.StructsOrder': WHATEVER THE INPUT: true; the input reads as it did. -/
def structsOrderSpec : ChangeSpec := { name := "structsOrder", fn := fun _ => fun
  | [d1, d2] => { results := [.lit (.bool true)], args := [d1, d2] }
  | _ => none }
def structsOrderRow : OpenClaim := { program := "ytacmjhcfjhpkeaagreatdoor", sum := "8ac3b52159ff538592b93f4cc488a16405a1c00e6bd0e2fe56e9c5a0588901fb", func := "decompiler/decompilerlaw34.StructsOrder", spec := "structsOrder", inPlace := ["internal/abi.NoEscape", "internal/bytealg.MakeNoZero"], unfollowed := true, recurses := true, named := ["internal/strconv.uint64pow10", "math/bits.deBruijn32tab", "math/bits.deBruijn64tab"], apart := false, laid := [("math/bits.deBruijn32tab", laid_math_bits_deBruijn32tab), ("math/bits.deBruijn64tab", laid_math_bits_deBruijn64tab), ("internal/strconv.uint64pow10", laid_internal_strconv_uint64pow10)] }
def StructsOrderSaid : Prop := structsOrderRow.holds Tryz.pinned (OpenSpec.ofChange structsOrderSpec)

/-- ITS FALSE NEIGHBOUR: 'it returns false'. Refute it at one input. -/
def structsOrderWrong : ChangeSpec := { name := "structsOrder", fn := fun _ => fun
  | [d1, d2] => { results := [.lit (.bool false)], args := [d1, d2] }
  | _ => none }
def StructsOrderWrongFalsely : Prop := structsOrderRow.holds Tryz.pinned (OpenSpec.ofChange structsOrderWrong)

/-- 'decompilerlaw34.StructsFields': WHATEVER THE INPUT: true; the input reads as it did. -/
def structsFieldsSpec : ChangeSpec := { name := "structsFields", fn := fun _ => fun
  | [d] => { results := [.lit (.bool true)], args := [d] }
  | _ => none }
def structsFieldsRow : OpenClaim := { program := "ytacmjhcfjhpkeaagreatdoor", sum := "8ac3b52159ff538592b93f4cc488a16405a1c00e6bd0e2fe56e9c5a0588901fb", func := "decompiler/decompilerlaw34.StructsFields", spec := "structsFields", inPlace := ["internal/abi.NoEscape", "internal/bytealg.MakeNoZero"], unfollowed := true, recurses := true, named := ["internal/strconv.uint64pow10", "math/bits.deBruijn32tab", "math/bits.deBruijn64tab"], apart := false, laid := [("math/bits.deBruijn32tab", laid_math_bits_deBruijn32tab), ("math/bits.deBruijn64tab", laid_math_bits_deBruijn64tab), ("internal/strconv.uint64pow10", laid_internal_strconv_uint64pow10)] }
def StructsFieldsSaid : Prop := structsFieldsRow.holds Tryz.pinned (OpenSpec.ofChange structsFieldsSpec)

/-- ITS FALSE NEIGHBOUR: 'it returns false'. Refute it at one input. -/
def structsFieldsWrong : ChangeSpec := { name := "structsFields", fn := fun _ => fun
  | [d] => { results := [.lit (.bool false)], args := [d] }
  | _ => none }
def StructsFieldsWrongFalsely : Prop := structsFieldsRow.holds Tryz.pinned (OpenSpec.ofChange structsFieldsWrong)

/-- 'decompilerlaw34.StructsStrides': WHATEVER THE INPUT: true; the input reads as it did. -/
def structsStridesSpec : ChangeSpec := { name := "structsStrides", fn := fun _ => fun
  | [d] => { results := [.lit (.bool true)], args := [d] }
  | _ => none }
def structsStridesRow : OpenClaim := { program := "ytacmjhcfjhpkeaagreatdoor", sum := "8ac3b52159ff538592b93f4cc488a16405a1c00e6bd0e2fe56e9c5a0588901fb", func := "decompiler/decompilerlaw34.StructsStrides", spec := "structsStrides", inPlace := ["internal/abi.NoEscape", "internal/bytealg.MakeNoZero"], unfollowed := true, recurses := true, named := ["internal/strconv.uint64pow10", "math/bits.deBruijn32tab", "math/bits.deBruijn64tab"], apart := false, laid := [("math/bits.deBruijn32tab", laid_math_bits_deBruijn32tab), ("math/bits.deBruijn64tab", laid_math_bits_deBruijn64tab), ("internal/strconv.uint64pow10", laid_internal_strconv_uint64pow10)] }
def StructsStridesSaid : Prop := structsStridesRow.holds Tryz.pinned (OpenSpec.ofChange structsStridesSpec)

/-- ITS FALSE NEIGHBOUR: 'it returns false'. Refute it at one input. -/
def structsStridesWrong : ChangeSpec := { name := "structsStrides", fn := fun _ => fun
  | [d] => { results := [.lit (.bool false)], args := [d] }
  | _ => none }
def StructsStridesWrongFalsely : Prop := structsStridesRow.holds Tryz.pinned (OpenSpec.ofChange structsStridesWrong)

/-- 'decompilerlaw34.StructsMerge': WHATEVER THE INPUT: true; the input reads as it did. -/
def structsMergeSpec : ChangeSpec := { name := "structsMerge", fn := fun _ => fun
  | [d1, d2] => { results := [.lit (.bool true)], args := [d1, d2] }
  | _ => none }
def structsMergeRow : OpenClaim := { program := "ytacmjhcfjhpkeaagreatdoor", sum := "8ac3b52159ff538592b93f4cc488a16405a1c00e6bd0e2fe56e9c5a0588901fb", func := "decompiler/decompilerlaw34.StructsMerge", spec := "structsMerge", inPlace := ["internal/abi.NoEscape", "internal/bytealg.MakeNoZero"], unfollowed := true, recurses := true, named := ["internal/strconv.uint64pow10", "math/bits.deBruijn32tab", "math/bits.deBruijn64tab"], loops := true, apart := false, laid := [("math/bits.deBruijn32tab", laid_math_bits_deBruijn32tab), ("math/bits.deBruijn64tab", laid_math_bits_deBruijn64tab), ("internal/strconv.uint64pow10", laid_internal_strconv_uint64pow10)] }
def StructsMergeSaid : Prop := structsMergeRow.holds Tryz.pinned (OpenSpec.ofChange structsMergeSpec)

/-- ITS FALSE NEIGHBOUR: 'it returns false'. Refute it at one input. -/
def structsMergeWrong : ChangeSpec := { name := "structsMerge", fn := fun _ => fun
  | [d1, d2] => { results := [.lit (.bool false)], args := [d1, d2] }
  | _ => none }
def StructsMergeWrongFalsely : Prop := structsMergeRow.holds Tryz.pinned (OpenSpec.ofChange structsMergeWrong)

/-- 'decompilerlaw34.StructsMergeLayouts': WHATEVER THE INPUT: true; the input reads as it did. -/
def structsMergeLayoutsSpec : ChangeSpec := { name := "structsMergeLayouts", fn := fun _ => fun
  | [d1, d2] => { results := [.lit (.bool true)], args := [d1, d2] }
  | _ => none }
def structsMergeLayoutsRow : OpenClaim := { program := "ytacmjhcfjhpkeaagreatdoor", sum := "8ac3b52159ff538592b93f4cc488a16405a1c00e6bd0e2fe56e9c5a0588901fb", func := "decompiler/decompilerlaw34.StructsMergeLayouts", spec := "structsMergeLayouts", inPlace := ["internal/abi.NoEscape", "internal/bytealg.MakeNoZero"], unfollowed := true, recurses := true, named := ["internal/strconv.uint64pow10", "math/bits.deBruijn32tab", "math/bits.deBruijn64tab"], apart := false, laid := [("math/bits.deBruijn32tab", laid_math_bits_deBruijn32tab), ("math/bits.deBruijn64tab", laid_math_bits_deBruijn64tab), ("internal/strconv.uint64pow10", laid_internal_strconv_uint64pow10)] }
def StructsMergeLayoutsSaid : Prop := structsMergeLayoutsRow.holds Tryz.pinned (OpenSpec.ofChange structsMergeLayoutsSpec)

/-- ITS FALSE NEIGHBOUR: 'it returns false'. Refute it at one input. -/
def structsMergeLayoutsWrong : ChangeSpec := { name := "structsMergeLayouts", fn := fun _ => fun
  | [d1, d2] => { results := [.lit (.bool false)], args := [d1, d2] }
  | _ => none }
def StructsMergeLayoutsWrongFalsely : Prop := structsMergeLayoutsRow.holds Tryz.pinned (OpenSpec.ofChange structsMergeLayoutsWrong)

/-- 'decompilerlaw34.StructsConflicts': WHATEVER THE INPUT: true; the input reads as it did. -/
def structsConflictsSpec : ChangeSpec := { name := "structsConflicts", fn := fun _ => fun
  | [d] => { results := [.lit (.bool true)], args := [d] }
  | _ => none }
def structsConflictsRow : OpenClaim := { program := "ytacmjhcfjhpkeaagreatdoor", sum := "8ac3b52159ff538592b93f4cc488a16405a1c00e6bd0e2fe56e9c5a0588901fb", func := "decompiler/decompilerlaw34.StructsConflicts", spec := "structsConflicts", inPlace := ["internal/abi.NoEscape", "internal/bytealg.MakeNoZero"], unfollowed := true, recurses := true, named := ["internal/strconv.uint64pow10", "math/bits.deBruijn32tab", "math/bits.deBruijn64tab"], apart := false, laid := [("math/bits.deBruijn32tab", laid_math_bits_deBruijn32tab), ("math/bits.deBruijn64tab", laid_math_bits_deBruijn64tab), ("internal/strconv.uint64pow10", laid_internal_strconv_uint64pow10)] }
def StructsConflictsSaid : Prop := structsConflictsRow.holds Tryz.pinned (OpenSpec.ofChange structsConflictsSpec)

/-- ITS FALSE NEIGHBOUR: 'it returns false'. Refute it at one input. -/
def structsConflictsWrong : ChangeSpec := { name := "structsConflicts", fn := fun _ => fun
  | [d] => { results := [.lit (.bool false)], args := [d] }
  | _ => none }
def StructsConflictsWrongFalsely : Prop := structsConflictsRow.holds Tryz.pinned (OpenSpec.ofChange structsConflictsWrong)

/- THE SECOND FORM. 'bulk': how many values and letters a reading holds, each counted each time it is reached (what is shared counts as often as it is met; a slice's spare places count too). A statement '..UptoSaid' is the law's where the arguments, and the package variables that the reading takes, are together of bulk at most 1048576: NARROWER than '..Said'. Prove '..Said' where nothing that the law and all that it calls make is longer than what came in: it says more and counts as full. Else prove '..UptoSaid'. A law counts once. -/
mutual
def uptoBulk {H : Type} : DataW H → Nat
  | .lit (.string bytes) => bytes.length + 1
  | .lit _ => 1
  | .nil => 1
  | .ptr d => uptoBulk d + 1
  | .slice elems spare => uptoBulkAll elems + uptoBulkAll spare + 1
  | .agg parts => uptoBulkAll parts + 1
  | .iface _ d => uptoBulk d + 1
  | .map entries => uptoBulkEntries entries + 1
  | .held _ => 1
def uptoBulkAll {H : Type} : List (DataW H) → Nat
  | [] => 0
  | d :: r => uptoBulk d + uptoBulkAll r
def uptoBulkEntries {H : Type} : List (Lit × DataW H) → Nat
  | [] => 0
  | x :: r => uptoBulkEntry x + uptoBulkEntries r
def uptoBulkEntry {H : Type} : Lit × DataW H → Nat
  | (.string bytes, d) => bytes.length + uptoBulk d + 1
  | (_, d) => uptoBulk d + 1
 end
def uptoSmall : (H : Type) → List (DataW H) → Bool := fun _ ds => decide (uptoBulkAll ds ≤ 1048576)
def OpenSpec.upto (s : _root_.Go.ChangeSpec) : _root_.Go.OpenSpec := { _root_.Go.OpenSpec.ofChange s with cond := some uptoSmall }

/-- 'decompilerlaw34.StructsName', WHERE WHAT IT READS IS OF BULK AT MOST 1048576: true; the input reads as it did. -/
def structsNameUptoRow : OpenClaim := { program := "ytacmjhcfjhpkeaagreatdoor", sum := "8ac3b52159ff538592b93f4cc488a16405a1c00e6bd0e2fe56e9c5a0588901fb", func := "decompiler/decompilerlaw34.StructsName", spec := "structsName", inPlace := ["internal/abi.NoEscape", "internal/bytealg.MakeNoZero"], unfollowed := true, recurses := true, named := ["internal/strconv.uint64pow10", "math/bits.deBruijn32tab", "math/bits.deBruijn64tab"], loops := true, apart := false, laid := [("math/bits.deBruijn32tab", laid_math_bits_deBruijn32tab), ("math/bits.deBruijn64tab", laid_math_bits_deBruijn64tab), ("internal/strconv.uint64pow10", laid_internal_strconv_uint64pow10)], narrowed := true }
def StructsNameUptoSaid : Prop := structsNameUptoRow.holds Tryz.pinned (OpenSpec.upto structsNameSpec)

/-- 'decompilerlaw34.StructsCover', WHERE WHAT IT READS IS OF BULK AT MOST 1048576: true; the input reads as it did. -/
def structsCoverUptoRow : OpenClaim := { program := "ytacmjhcfjhpkeaagreatdoor", sum := "8ac3b52159ff538592b93f4cc488a16405a1c00e6bd0e2fe56e9c5a0588901fb", func := "decompiler/decompilerlaw34.StructsCover", spec := "structsCover", inPlace := ["internal/abi.NoEscape", "internal/bytealg.MakeNoZero"], unfollowed := true, recurses := true, named := ["internal/strconv.uint64pow10", "math/bits.deBruijn32tab", "math/bits.deBruijn64tab"], apart := false, laid := [("math/bits.deBruijn32tab", laid_math_bits_deBruijn32tab), ("math/bits.deBruijn64tab", laid_math_bits_deBruijn64tab), ("internal/strconv.uint64pow10", laid_internal_strconv_uint64pow10)], narrowed := true }
def StructsCoverUptoSaid : Prop := structsCoverUptoRow.holds Tryz.pinned (OpenSpec.upto structsCoverSpec)

/-- 'decompilerlaw34.StructsLayout', WHERE WHAT IT READS IS OF BULK AT MOST 1048576: true; the input reads as it did. -/
def structsLayoutUptoRow : OpenClaim := { program := "ytacmjhcfjhpkeaagreatdoor", sum := "8ac3b52159ff538592b93f4cc488a16405a1c00e6bd0e2fe56e9c5a0588901fb", func := "decompiler/decompilerlaw34.StructsLayout", spec := "structsLayout", inPlace := ["internal/abi.NoEscape", "internal/bytealg.MakeNoZero"], unfollowed := true, recurses := true, named := ["internal/strconv.uint64pow10", "math/bits.deBruijn32tab", "math/bits.deBruijn64tab"], apart := false, laid := [("math/bits.deBruijn32tab", laid_math_bits_deBruijn32tab), ("math/bits.deBruijn64tab", laid_math_bits_deBruijn64tab), ("internal/strconv.uint64pow10", laid_internal_strconv_uint64pow10)], narrowed := true }
def StructsLayoutUptoSaid : Prop := structsLayoutUptoRow.holds Tryz.pinned (OpenSpec.upto structsLayoutSpec)

/-- 'decompilerlaw34.StructsOrder', WHERE WHAT IT READS IS OF BULK AT MOST 1048576: true; the input reads as it did. -/
def structsOrderUptoRow : OpenClaim := { program := "ytacmjhcfjhpkeaagreatdoor", sum := "8ac3b52159ff538592b93f4cc488a16405a1c00e6bd0e2fe56e9c5a0588901fb", func := "decompiler/decompilerlaw34.StructsOrder", spec := "structsOrder", inPlace := ["internal/abi.NoEscape", "internal/bytealg.MakeNoZero"], unfollowed := true, recurses := true, named := ["internal/strconv.uint64pow10", "math/bits.deBruijn32tab", "math/bits.deBruijn64tab"], apart := false, laid := [("math/bits.deBruijn32tab", laid_math_bits_deBruijn32tab), ("math/bits.deBruijn64tab", laid_math_bits_deBruijn64tab), ("internal/strconv.uint64pow10", laid_internal_strconv_uint64pow10)], narrowed := true }
def StructsOrderUptoSaid : Prop := structsOrderUptoRow.holds Tryz.pinned (OpenSpec.upto structsOrderSpec)

/-- 'decompilerlaw34.StructsFields', WHERE WHAT IT READS IS OF BULK AT MOST 1048576: true; the input reads as it did. -/
def structsFieldsUptoRow : OpenClaim := { program := "ytacmjhcfjhpkeaagreatdoor", sum := "8ac3b52159ff538592b93f4cc488a16405a1c00e6bd0e2fe56e9c5a0588901fb", func := "decompiler/decompilerlaw34.StructsFields", spec := "structsFields", inPlace := ["internal/abi.NoEscape", "internal/bytealg.MakeNoZero"], unfollowed := true, recurses := true, named := ["internal/strconv.uint64pow10", "math/bits.deBruijn32tab", "math/bits.deBruijn64tab"], apart := false, laid := [("math/bits.deBruijn32tab", laid_math_bits_deBruijn32tab), ("math/bits.deBruijn64tab", laid_math_bits_deBruijn64tab), ("internal/strconv.uint64pow10", laid_internal_strconv_uint64pow10)], narrowed := true }
def StructsFieldsUptoSaid : Prop := structsFieldsUptoRow.holds Tryz.pinned (OpenSpec.upto structsFieldsSpec)

/-- 'decompilerlaw34.StructsStrides', WHERE WHAT IT READS IS OF BULK AT MOST 1048576: true; the input reads as it did. -/
def structsStridesUptoRow : OpenClaim := { program := "ytacmjhcfjhpkeaagreatdoor", sum := "8ac3b52159ff538592b93f4cc488a16405a1c00e6bd0e2fe56e9c5a0588901fb", func := "decompiler/decompilerlaw34.StructsStrides", spec := "structsStrides", inPlace := ["internal/abi.NoEscape", "internal/bytealg.MakeNoZero"], unfollowed := true, recurses := true, named := ["internal/strconv.uint64pow10", "math/bits.deBruijn32tab", "math/bits.deBruijn64tab"], apart := false, laid := [("math/bits.deBruijn32tab", laid_math_bits_deBruijn32tab), ("math/bits.deBruijn64tab", laid_math_bits_deBruijn64tab), ("internal/strconv.uint64pow10", laid_internal_strconv_uint64pow10)], narrowed := true }
def StructsStridesUptoSaid : Prop := structsStridesUptoRow.holds Tryz.pinned (OpenSpec.upto structsStridesSpec)

/-- 'decompilerlaw34.StructsMerge', WHERE WHAT IT READS IS OF BULK AT MOST 1048576: true; the input reads as it did. -/
def structsMergeUptoRow : OpenClaim := { program := "ytacmjhcfjhpkeaagreatdoor", sum := "8ac3b52159ff538592b93f4cc488a16405a1c00e6bd0e2fe56e9c5a0588901fb", func := "decompiler/decompilerlaw34.StructsMerge", spec := "structsMerge", inPlace := ["internal/abi.NoEscape", "internal/bytealg.MakeNoZero"], unfollowed := true, recurses := true, named := ["internal/strconv.uint64pow10", "math/bits.deBruijn32tab", "math/bits.deBruijn64tab"], loops := true, apart := false, laid := [("math/bits.deBruijn32tab", laid_math_bits_deBruijn32tab), ("math/bits.deBruijn64tab", laid_math_bits_deBruijn64tab), ("internal/strconv.uint64pow10", laid_internal_strconv_uint64pow10)], narrowed := true }
def StructsMergeUptoSaid : Prop := structsMergeUptoRow.holds Tryz.pinned (OpenSpec.upto structsMergeSpec)

/-- 'decompilerlaw34.StructsMergeLayouts', WHERE WHAT IT READS IS OF BULK AT MOST 1048576: true; the input reads as it did. -/
def structsMergeLayoutsUptoRow : OpenClaim := { program := "ytacmjhcfjhpkeaagreatdoor", sum := "8ac3b52159ff538592b93f4cc488a16405a1c00e6bd0e2fe56e9c5a0588901fb", func := "decompiler/decompilerlaw34.StructsMergeLayouts", spec := "structsMergeLayouts", inPlace := ["internal/abi.NoEscape", "internal/bytealg.MakeNoZero"], unfollowed := true, recurses := true, named := ["internal/strconv.uint64pow10", "math/bits.deBruijn32tab", "math/bits.deBruijn64tab"], apart := false, laid := [("math/bits.deBruijn32tab", laid_math_bits_deBruijn32tab), ("math/bits.deBruijn64tab", laid_math_bits_deBruijn64tab), ("internal/strconv.uint64pow10", laid_internal_strconv_uint64pow10)], narrowed := true }
def StructsMergeLayoutsUptoSaid : Prop := structsMergeLayoutsUptoRow.holds Tryz.pinned (OpenSpec.upto structsMergeLayoutsSpec)

/-- 'decompilerlaw34.StructsConflicts', WHERE WHAT IT READS IS OF BULK AT MOST 1048576: true; the input reads as it did. -/
def structsConflictsUptoRow : OpenClaim := { program := "ytacmjhcfjhpkeaagreatdoor", sum := "8ac3b52159ff538592b93f4cc488a16405a1c00e6bd0e2fe56e9c5a0588901fb", func := "decompiler/decompilerlaw34.StructsConflicts", spec := "structsConflicts", inPlace := ["internal/abi.NoEscape", "internal/bytealg.MakeNoZero"], unfollowed := true, recurses := true, named := ["internal/strconv.uint64pow10", "math/bits.deBruijn32tab", "math/bits.deBruijn64tab"], apart := false, laid := [("math/bits.deBruijn32tab", laid_math_bits_deBruijn32tab), ("math/bits.deBruijn64tab", laid_math_bits_deBruijn64tab), ("internal/strconv.uint64pow10", laid_internal_strconv_uint64pow10)], narrowed := true }
def StructsConflictsUptoSaid : Prop := structsConflictsUptoRow.holds Tryz.pinned (OpenSpec.upto structsConflictsSpec)

end Rows
end Go.Proofs.YtacmjhcfjhpkeaaGreatDoor
