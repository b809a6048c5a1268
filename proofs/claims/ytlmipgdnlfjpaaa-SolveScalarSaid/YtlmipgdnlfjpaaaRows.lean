/-
  NARROWER THAN 'FOR EVERY INPUT', by the rows' own cells (each row's printed sentence says how): SolveSatisfies: loops · SolveOrder: loops · SolveScalar: loops · SolveMore: loops.
  DERIVED. THE GIVEN ROWS OF THIS SEAT. 4 by the template 'for every input the law returns true; each argument reads behind the call as it read before'; 0 by the template 'total and deterministic' (their statements: YtlmipgdnlfjpaaaTotals.lean).
  GIVEN WITH THE SEED: the statements are not yours to turn. If you find one false, say at which input.
  Laid BY PROGRAM, IN A SANDBOX (cutbox-rows.mjs): the forced cells as the released guide's own fill.sh prints them over the translation b7010f08f818f909… (all of the seat's roots in one cut). By AI agents, Wed Nov 11 2026. No macro, syntax, notation, axiom, sorry.
-/
import Derived.Test.YtlmipgdnlfjpaaaChecked
import GoSem.Claim
import GoSem.ClaimJoined
import GoSem.ClaimMapViews
import Derived.JoinedTies
import Derived.KernelRfl
namespace Go.Proofs.Ytlmipgdnlfjpaaa
/- THE CELL 'sum', in the pinned program and in every row, IS THE sha256 OF THE DUMP (.gsa) THAT YtlmipgdnlfjpaaaProg.lean LOADS. Nothing in Lean hashes anything: it is a label: what it is worth is what the hold of that sum in a sandbox is worth. -/
noncomputable def Try.pinned : Pinned := { name := "ytlmipgdnlfjpaaa", sum := "b7010f08f818f909a527053b7b98b8572187581754066f7f8890be624ece6267", checked := Try.checked }
namespace Rows
def none {H : Type} : Left H := { results := [], args := [] }

/-- 'decompilerlaw33.SolveSatisfies': WHATEVER THE INPUT: true; the input reads as it did. -/
def solveSatisfiesSpec : ChangeSpec := { name := "solveSatisfies", fn := fun _ => fun
  | [d1, d2] => { results := [.lit (.bool true)], args := [d1, d2] }
  | _ => none }
def solveSatisfiesRow : OpenClaim := { program := "ytlmipgdnlfjpaaa", sum := "b7010f08f818f909a527053b7b98b8572187581754066f7f8890be624ece6267", func := "decompiler/decompilerlaw33.SolveSatisfies", spec := "solveSatisfies", unfollowed := true, recurses := true, loops := true, plainKeys := false, apart := false }
def SolveSatisfiesSaid : Prop := solveSatisfiesRow.holds Try.pinned (OpenSpec.ofChange solveSatisfiesSpec)

/-- ITS FALSE NEIGHBOUR: 'it returns false'. Refute it at one input. -/
def solveSatisfiesWrong : ChangeSpec := { name := "solveSatisfies", fn := fun _ => fun
  | [d1, d2] => { results := [.lit (.bool false)], args := [d1, d2] }
  | _ => none }
def SolveSatisfiesWrongFalsely : Prop := solveSatisfiesRow.holds Try.pinned (OpenSpec.ofChange solveSatisfiesWrong)

/-- 'decompilerlaw33.SolveOrder': WHATEVER THE INPUT: true; the input reads as it did. -/
def solveOrderSpec : ChangeSpec := { name := "solveOrder", fn := fun _ => fun
  | [d1, d2, d3] => { results := [.lit (.bool true)], args := [d1, d2, d3] }
  | _ => none }
def solveOrderRow : OpenClaim := { program := "ytlmipgdnlfjpaaa", sum := "b7010f08f818f909a527053b7b98b8572187581754066f7f8890be624ece6267", func := "decompiler/decompilerlaw33.SolveOrder", spec := "solveOrder", unfollowed := true, recurses := true, loops := true, plainKeys := false, apart := false }
def SolveOrderSaid : Prop := solveOrderRow.holds Try.pinned (OpenSpec.ofChange solveOrderSpec)

/-- ITS FALSE NEIGHBOUR: 'it returns false'. Refute it at one input. -/
def solveOrderWrong : ChangeSpec := { name := "solveOrder", fn := fun _ => fun
  | [d1, d2, d3] => { results := [.lit (.bool false)], args := [d1, d2, d3] }
  | _ => none }
def SolveOrderWrongFalsely : Prop := solveOrderRow.holds Try.pinned (OpenSpec.ofChange solveOrderWrong)

/-- 'decompilerlaw33.SolveScalar': WHATEVER THE INPUT: true; the input reads as it did. -/
def solveScalarSpec : ChangeSpec := { name := "solveScalar", fn := fun _ => fun
  | [d1, d2, d3] => { results := [.lit (.bool true)], args := [d1, d2, d3] }
  | _ => none }
def solveScalarRow : OpenClaim := { program := "ytlmipgdnlfjpaaa", sum := "b7010f08f818f909a527053b7b98b8572187581754066f7f8890be624ece6267", func := "decompiler/decompilerlaw33.SolveScalar", spec := "solveScalar", unfollowed := true, recurses := true, loops := true, plainKeys := false, apart := false }
def SolveScalarSaid : Prop := solveScalarRow.holds Try.pinned (OpenSpec.ofChange solveScalarSpec)

/-- ITS FALSE NEIGHBOUR: 'it returns false'. Refute it at one input. -/
def solveScalarWrong : ChangeSpec := { name := "solveScalar", fn := fun _ => fun
  | [d1, d2, d3] => { results := [.lit (.bool false)], args := [d1, d2, d3] }
  | _ => none }
def SolveScalarWrongFalsely : Prop := solveScalarRow.holds Try.pinned (OpenSpec.ofChange solveScalarWrong)

/-- 'decompilerlaw33.SolveMore': WHATEVER THE INPUT: true; the input reads as it did. -/
def solveMoreSpec : ChangeSpec := { name := "solveMore", fn := fun _ => fun
  | [d1, d2] => { results := [.lit (.bool true)], args := [d1, d2] }
  | _ => none }
def solveMoreRow : OpenClaim := { program := "ytlmipgdnlfjpaaa", sum := "b7010f08f818f909a527053b7b98b8572187581754066f7f8890be624ece6267", func := "decompiler/decompilerlaw33.SolveMore", spec := "solveMore", unfollowed := true, recurses := true, loops := true, plainKeys := false, apart := false }
def SolveMoreSaid : Prop := solveMoreRow.holds Try.pinned (OpenSpec.ofChange solveMoreSpec)

/-- ITS FALSE NEIGHBOUR: 'it returns false'. Refute it at one input. -/
def solveMoreWrong : ChangeSpec := { name := "solveMore", fn := fun _ => fun
  | [d1, d2] => { results := [.lit (.bool false)], args := [d1, d2] }
  | _ => none }
def SolveMoreWrongFalsely : Prop := solveMoreRow.holds Try.pinned (OpenSpec.ofChange solveMoreWrong)

/- THE SECOND FORM. 'bulk': how many values and letters a reading holds, each counted each time it is reached (what is shared counts as often as it is met; a slice's spare places count too). A statement '..UptoSaid' is the law's where the arguments, and the package variables that the reading takes, are together of bulk at most 1048576: NARROWER than '..Said'. Prove '..Said' where nothing that the law and all that it calls make is longer than what came in: it says more and counts as full. Else prove '..UptoSaid'. A law counts once. -/
mutual
def uptoBulk {H : Type} : DataW H → Nat
  | .lit (.string bytes) => bytes.length + 1
  | .lit _ => 1
  | .nil => 1
  | .ptr d => uptoBulk d + 1
  | .slice elems spare => uptoBulkAll elems + uptoBulkAll spare + 1
  | .agg parts => uptoBulkAll parts + 1
  | .iface _ d => uptoBulk d + 1
  | .map entries => uptoBulkEntries entries + 1
  | .held _ => 1
def uptoBulkAll {H : Type} : List (DataW H) → Nat
  | [] => 0
  | d :: r => uptoBulk d + uptoBulkAll r
def uptoBulkEntries {H : Type} : List (Lit × DataW H) → Nat
  | [] => 0
  | x :: r => uptoBulkEntry x + uptoBulkEntries r
def uptoBulkEntry {H : Type} : Lit × DataW H → Nat
  | (.string bytes, d) => bytes.length + uptoBulk d + 1
  | (_, d) => uptoBulk d + 1
 end
def uptoSmall : (H : Type) → List (DataW H) → Bool := fun _ ds => decide (uptoBulkAll ds ≤ 1048576)
def OpenSpec.upto (s : _root_.Go.ChangeSpec) : _root_.Go.OpenSpec := { _root_.Go.OpenSpec.ofChange s with cond := some uptoSmall }

/-- 'decompilerlaw33.SolveSatisfies', WHERE WHAT IT READS IS OF BULK AT MOST 1048576: true; the input reads as it did. -/
def solveSatisfiesUptoRow : OpenClaim := { program := "ytlmipgdnlfjpaaa", sum := "b7010f08f818f909a527053b7b98b8572187581754066f7f8890be624ece6267", func := "decompiler/decompilerlaw33.SolveSatisfies", spec := "solveSatisfies", unfollowed := true, recurses := true, loops := true, plainKeys := false, apart := false, narrowed := true }
def SolveSatisfiesUptoSaid : Prop := solveSatisfiesUptoRow.holds Try.pinned (OpenSpec.upto solveSatisfiesSpec)

/-- 'decompilerlaw33.SolveOrder', WHERE WHAT IT READS IS OF BULK AT MOST 1048576: true; the input reads as it did. -/
def solveOrderUptoRow : OpenClaim := { program := "ytlmipgdnlfjpaaa", sum := "b7010f08f818f909a527053b7b98b8572187581754066f7f8890be624ece6267", func := "decompiler/decompilerlaw33.SolveOrder", spec := "solveOrder", unfollowed := true, recurses := true, loops := true, plainKeys := false, apart := false, narrowed := true }
def SolveOrderUptoSaid : Prop := solveOrderUptoRow.holds Try.pinned (OpenSpec.upto solveOrderSpec)

/-- 'decompilerlaw33.SolveScalar', WHERE WHAT IT READS IS OF BULK AT MOST 1048576: true; the input reads as it did. -/
def solveScalarUptoRow : OpenClaim := { program := "ytlmipgdnlfjpaaa", sum := "b7010f08f818f909a527053b7b98b8572187581754066f7f8890be624ece6267", func := "decompiler/decompilerlaw33.SolveScalar", spec := "solveScalar", unfollowed := true, recurses := true, loops := true, plainKeys := false, apart := false, narrowed := true }
def SolveScalarUptoSaid : Prop := solveScalarUptoRow.holds Try.pinned (OpenSpec.upto solveScalarSpec)

/-- 'decompilerlaw33.SolveMore', WHERE WHAT IT READS IS OF BULK AT MOST 1048576: true; the input reads as it did. -/
def solveMoreUptoRow : OpenClaim := { program := "ytlmipgdnlfjpaaa", sum := "b7010f08f818f909a527053b7b98b8572187581754066f7f8890be624ece6267", func := "decompiler/decompilerlaw33.SolveMore", spec := "solveMore", unfollowed := true, recurses := true, loops := true, plainKeys := false, apart := false, narrowed := true }
def SolveMoreUptoSaid : Prop := solveMoreUptoRow.holds Try.pinned (OpenSpec.upto solveMoreSpec)

end Rows
end Go.Proofs.Ytlmipgdnlfjpaaa
