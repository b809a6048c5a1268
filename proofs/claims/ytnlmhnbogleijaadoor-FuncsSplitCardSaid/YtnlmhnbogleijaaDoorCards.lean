/-
  DERIVED. GIVEN WITH THE SEED: THE CARDS: each row of YtnlmhnbogleijaaDoorRows.lean that lists a variable, with what it lists TIED to the program's text (the seventh form; the later family's looks); each row that meets fmt, with fmt's text TOLD by the authors' own Lean function (tested against real Go, not proved from fmt's source: count such statements apart). THE CARD IS WHAT COUNTS. Prove the row's statement (the work); the ties are given (YtnlmhnbogleijaaDoorTie.lean); close each card by the builder's one call (the guide's Derived/Test/ToyasCard.lean, 'card_holds'). Laid BY PROGRAM, IN A SANDBOX (cutbox-door.mjs). By AI agents, Wed Nov 11 2026. No macro, syntax, notation, axiom, sorry.
-/
import Derived.Test.YtnlmhnbogleijaaDoorRows
import GoSem.ClaimSeven
namespace Go.Proofs.YtnlmhnbogleijaaDoor
namespace Rows

/-- THE TIED CARD OF 'decompilerlaw18.FuncsClosed'. -/
def funcsClosedCard : Claim7 := { stood := { row := funcsClosedRow, standIns := [], harness := (true, "2adbb62525d4de6bb4abc4e7d335114f63c7474a8c8c0ca685f57c59327fbd5c"), looks := false }, kinds := [], alts := [], laidByText := true, laidKinds := [.data, .data, .data], laidTests := true, laidLooks := .later }
def FuncsClosedCardSaid : Prop := Claim7.holds Tryd.pinned (.plain (OpenSpec.ofChange funcsClosedSpec)) funcsClosedCard

/-- THE TIED CARD OF 'decompilerlaw18.FuncsNames'. -/
def funcsNamesCard : Claim7 := { stood := { row := funcsNamesRow, standIns := [], harness := (true, "2adbb62525d4de6bb4abc4e7d335114f63c7474a8c8c0ca685f57c59327fbd5c"), looks := false }, kinds := [], alts := [], laidByText := true, laidKinds := [.data, .data, .data], laidTests := true, laidLooks := .later }
def FuncsNamesCardSaid : Prop := Claim7.holds Tryd.pinned (.plain (OpenSpec.ofChange funcsNamesSpec)) funcsNamesCard

/-- THE TIED CARD OF 'decompilerlaw18.FuncsSplit'. -/
def funcsSplitCard : Claim7 := { stood := { row := funcsSplitRow, standIns := [], harness := (true, "2adbb62525d4de6bb4abc4e7d335114f63c7474a8c8c0ca685f57c59327fbd5c"), looks := false }, kinds := [], alts := [], laidByText := true, laidKinds := [.data, .data, .data], laidTests := true, laidLooks := .later }
def FuncsSplitCardSaid : Prop := Claim7.holds Tryd.pinned (.plain (OpenSpec.ofChange funcsSplitSpec)) funcsSplitCard

/-- THE SECOND FORM's CARD OF 'decompilerlaw18.FuncsClosed'. -/
def funcsClosedUptoCard : Claim7 := { stood := { row := funcsClosedUptoRow, standIns := [], harness := (true, "2adbb62525d4de6bb4abc4e7d335114f63c7474a8c8c0ca685f57c59327fbd5c"), looks := false }, kinds := [], alts := [], laidByText := true, laidKinds := [.data, .data, .data], laidTests := true, laidLooks := .later }
def FuncsClosedUptoCardSaid : Prop := Claim7.holds Tryd.pinned (.plain (OpenSpec.upto funcsClosedSpec)) funcsClosedUptoCard

/-- THE SECOND FORM's CARD OF 'decompilerlaw18.FuncsNames'. -/
def funcsNamesUptoCard : Claim7 := { stood := { row := funcsNamesUptoRow, standIns := [], harness := (true, "2adbb62525d4de6bb4abc4e7d335114f63c7474a8c8c0ca685f57c59327fbd5c"), looks := false }, kinds := [], alts := [], laidByText := true, laidKinds := [.data, .data, .data], laidTests := true, laidLooks := .later }
def FuncsNamesUptoCardSaid : Prop := Claim7.holds Tryd.pinned (.plain (OpenSpec.upto funcsNamesSpec)) funcsNamesUptoCard

/-- THE SECOND FORM's CARD OF 'decompilerlaw18.FuncsSplit'. -/
def funcsSplitUptoCard : Claim7 := { stood := { row := funcsSplitUptoRow, standIns := [], harness := (true, "2adbb62525d4de6bb4abc4e7d335114f63c7474a8c8c0ca685f57c59327fbd5c"), looks := false }, kinds := [], alts := [], laidByText := true, laidKinds := [.data, .data, .data], laidTests := true, laidLooks := .later }
def FuncsSplitUptoCardSaid : Prop := Claim7.holds Tryd.pinned (.plain (OpenSpec.upto funcsSplitSpec)) funcsSplitUptoCard
end Rows
end Go.Proofs.YtnlmhnbogleijaaDoor
