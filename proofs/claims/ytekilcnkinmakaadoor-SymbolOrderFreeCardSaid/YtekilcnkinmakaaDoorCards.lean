/-
  DERIVED. GIVEN WITH THE SEED: THE CARDS: each row of YtekilcnkinmakaaDoorRows.lean that lists a variable, with what it lists TIED to the program's text (the seventh form; the later family's looks); each row that meets fmt, with fmt's text TOLD by the authors' own Lean function (tested against real Go, not proved from fmt's source: count such statements apart). THE CARD IS WHAT COUNTS. Prove the row's statement (the work); the ties are given (YtekilcnkinmakaaDoorTie.lean); close each card by the builder's one call (the guide's Derived/Test/ToyasCard.lean, 'card_holds'). Laid BY PROGRAM, IN A SANDBOX (cutbox-door.mjs). By AI agents, Wed Nov 11 2026. No macro, syntax, notation, axiom, sorry.
-/
import Derived.Test.YtekilcnkinmakaaDoorRows
import GoSem.ClaimSeven
namespace Go.Proofs.YtekilcnkinmakaaDoor
namespace Rows

/-- THE TIED CARD OF 'decompilerlaw06.SymbolNearest'. -/
def symbolNearestCard : Claim7 := { stood := { row := symbolNearestRow, standIns := [], harness := (true, "f4c4d3ae5b495e469b3de685b14b213a4e3b81d2158800df79a4f6f8dfb61c3c"), looks := false }, kinds := [], alts := [], laidByText := true, laidKinds := [.data, .data, .data], laidTests := true, laidLooks := .later }
def SymbolNearestCardSaid : Prop := Claim7.holds Tryd.pinned (.plain (OpenSpec.ofChange symbolNearestSpec)) symbolNearestCard

/-- THE TIED CARD OF 'decompilerlaw06.SymbolChecks'. -/
def symbolChecksCard : Claim7 := { stood := { row := symbolChecksRow, standIns := [], harness := (true, "f4c4d3ae5b495e469b3de685b14b213a4e3b81d2158800df79a4f6f8dfb61c3c"), looks := false }, kinds := [], alts := [], laidByText := true, laidKinds := [.data, .data, .data], laidTests := true, laidLooks := .later }
def SymbolChecksCardSaid : Prop := Claim7.holds Tryd.pinned (.plain (OpenSpec.ofChange symbolChecksSpec)) symbolChecksCard

/-- THE TIED CARD OF 'decompilerlaw06.SymbolManyRejected'. -/
def symbolManyRejectedCard : Claim7 := { stood := { row := symbolManyRejectedRow, standIns := [], harness := (true, "f4c4d3ae5b495e469b3de685b14b213a4e3b81d2158800df79a4f6f8dfb61c3c"), looks := false }, kinds := [], alts := [], laidByText := true, laidKinds := [.data, .data, .data], laidTests := true, laidLooks := .later }
def SymbolManyRejectedCardSaid : Prop := Claim7.holds Tryd.pinned (.plain (OpenSpec.ofChange symbolManyRejectedSpec)) symbolManyRejectedCard

/-- THE TIED CARD OF 'decompilerlaw06.SymbolNames'. -/
def symbolNamesCard : Claim7 := { stood := { row := symbolNamesRow, standIns := [], harness := (true, "f4c4d3ae5b495e469b3de685b14b213a4e3b81d2158800df79a4f6f8dfb61c3c"), looks := false }, kinds := [], alts := [], laidByText := true, laidKinds := [.data, .data, .data], laidTests := true, laidLooks := .later }
def SymbolNamesCardSaid : Prop := Claim7.holds Tryd.pinned (.plain (OpenSpec.ofChange symbolNamesSpec)) symbolNamesCard

/-- THE TIED CARD OF 'decompilerlaw06.SymbolAtNearest'. -/
def symbolAtNearestCard : Claim7 := { stood := { row := symbolAtNearestRow, standIns := [], harness := (true, "f4c4d3ae5b495e469b3de685b14b213a4e3b81d2158800df79a4f6f8dfb61c3c"), looks := false }, kinds := [], alts := [], laidByText := true, laidKinds := [.data, .data, .data], laidTests := true, laidLooks := .later }
def SymbolAtNearestCardSaid : Prop := Claim7.holds Tryd.pinned (.plain (OpenSpec.ofChange symbolAtNearestSpec)) symbolAtNearestCard

/-- THE TIED CARD OF 'decompilerlaw06.SymbolFinds'. -/
def symbolFindsCard : Claim7 := { stood := { row := symbolFindsRow, standIns := [], harness := (true, "f4c4d3ae5b495e469b3de685b14b213a4e3b81d2158800df79a4f6f8dfb61c3c"), looks := false }, kinds := [], alts := [], laidByText := true, laidKinds := [.data, .data, .data], laidTests := true, laidLooks := .later }
def SymbolFindsCardSaid : Prop := Claim7.holds Tryd.pinned (.plain (OpenSpec.ofChange symbolFindsSpec)) symbolFindsCard

/-- THE TIED CARD OF 'decompilerlaw06.SymbolSorted'. -/
def symbolSortedCard : Claim7 := { stood := { row := symbolSortedRow, standIns := [], harness := (true, "f4c4d3ae5b495e469b3de685b14b213a4e3b81d2158800df79a4f6f8dfb61c3c"), looks := false }, kinds := [], alts := [], laidByText := true, laidKinds := [.data, .data, .data], laidTests := true, laidLooks := .later }
def SymbolSortedCardSaid : Prop := Claim7.holds Tryd.pinned (.plain (OpenSpec.ofChange symbolSortedSpec)) symbolSortedCard

/-- THE TIED CARD OF 'decompilerlaw06.SymbolOrderFree'. -/
def symbolOrderFreeCard : Claim7 := { stood := { row := symbolOrderFreeRow, standIns := [], harness := (true, "f4c4d3ae5b495e469b3de685b14b213a4e3b81d2158800df79a4f6f8dfb61c3c"), looks := false }, kinds := [], alts := [], laidByText := true, laidKinds := [.data, .data, .data], laidTests := true, laidLooks := .later }
def SymbolOrderFreeCardSaid : Prop := Claim7.holds Tryd.pinned (.plain (OpenSpec.ofChange symbolOrderFreeSpec)) symbolOrderFreeCard

/-- THE SECOND FORM's CARD OF 'decompilerlaw06.SymbolNearest'. -/
def symbolNearestUptoCard : Claim7 := { stood := { row := symbolNearestUptoRow, standIns := [], harness := (true, "f4c4d3ae5b495e469b3de685b14b213a4e3b81d2158800df79a4f6f8dfb61c3c"), looks := false }, kinds := [], alts := [], laidByText := true, laidKinds := [.data, .data, .data], laidTests := true, laidLooks := .later }
def SymbolNearestUptoCardSaid : Prop := Claim7.holds Tryd.pinned (.plain (OpenSpec.upto symbolNearestSpec)) symbolNearestUptoCard

/-- THE SECOND FORM's CARD OF 'decompilerlaw06.SymbolChecks'. -/
def symbolChecksUptoCard : Claim7 := { stood := { row := symbolChecksUptoRow, standIns := [], harness := (true, "f4c4d3ae5b495e469b3de685b14b213a4e3b81d2158800df79a4f6f8dfb61c3c"), looks := false }, kinds := [], alts := [], laidByText := true, laidKinds := [.data, .data, .data], laidTests := true, laidLooks := .later }
def SymbolChecksUptoCardSaid : Prop := Claim7.holds Tryd.pinned (.plain (OpenSpec.upto symbolChecksSpec)) symbolChecksUptoCard

/-- THE SECOND FORM's CARD OF 'decompilerlaw06.SymbolManyRejected'. -/
def symbolManyRejectedUptoCard : Claim7 := { stood := { row := symbolManyRejectedUptoRow, standIns := [], harness := (true, "f4c4d3ae5b495e469b3de685b14b213a4e3b81d2158800df79a4f6f8dfb61c3c"), looks := false }, kinds := [], alts := [], laidByText := true, laidKinds := [.data, .data, .data], laidTests := true, laidLooks := .later }
def SymbolManyRejectedUptoCardSaid : Prop := Claim7.holds Tryd.pinned (.plain (OpenSpec.upto symbolManyRejectedSpec)) symbolManyRejectedUptoCard

/-- THE SECOND FORM's CARD OF 'decompilerlaw06.SymbolNames'. -/
def symbolNamesUptoCard : Claim7 := { stood := { row := symbolNamesUptoRow, standIns := [], harness := (true, "f4c4d3ae5b495e469b3de685b14b213a4e3b81d2158800df79a4f6f8dfb61c3c"), looks := false }, kinds := [], alts := [], laidByText := true, laidKinds := [.data, .data, .data], laidTests := true, laidLooks := .later }
def SymbolNamesUptoCardSaid : Prop := Claim7.holds Tryd.pinned (.plain (OpenSpec.upto symbolNamesSpec)) symbolNamesUptoCard

/-- THE SECOND FORM's CARD OF 'decompilerlaw06.SymbolAtNearest'. -/
def symbolAtNearestUptoCard : Claim7 := { stood := { row := symbolAtNearestUptoRow, standIns := [], harness := (true, "f4c4d3ae5b495e469b3de685b14b213a4e3b81d2158800df79a4f6f8dfb61c3c"), looks := false }, kinds := [], alts := [], laidByText := true, laidKinds := [.data, .data, .data], laidTests := true, laidLooks := .later }
def SymbolAtNearestUptoCardSaid : Prop := Claim7.holds Tryd.pinned (.plain (OpenSpec.upto symbolAtNearestSpec)) symbolAtNearestUptoCard

/-- THE SECOND FORM's CARD OF 'decompilerlaw06.SymbolFinds'. -/
def symbolFindsUptoCard : Claim7 := { stood := { row := symbolFindsUptoRow, standIns := [], harness := (true, "f4c4d3ae5b495e469b3de685b14b213a4e3b81d2158800df79a4f6f8dfb61c3c"), looks := false }, kinds := [], alts := [], laidByText := true, laidKinds := [.data, .data, .data], laidTests := true, laidLooks := .later }
def SymbolFindsUptoCardSaid : Prop := Claim7.holds Tryd.pinned (.plain (OpenSpec.upto symbolFindsSpec)) symbolFindsUptoCard

/-- THE SECOND FORM's CARD OF 'decompilerlaw06.SymbolSorted'. -/
def symbolSortedUptoCard : Claim7 := { stood := { row := symbolSortedUptoRow, standIns := [], harness := (true, "f4c4d3ae5b495e469b3de685b14b213a4e3b81d2158800df79a4f6f8dfb61c3c"), looks := false }, kinds := [], alts := [], laidByText := true, laidKinds := [.data, .data, .data], laidTests := true, laidLooks := .later }
def SymbolSortedUptoCardSaid : Prop := Claim7.holds Tryd.pinned (.plain (OpenSpec.upto symbolSortedSpec)) symbolSortedUptoCard

/-- THE SECOND FORM's CARD OF 'decompilerlaw06.SymbolOrderFree'. -/
def symbolOrderFreeUptoCard : Claim7 := { stood := { row := symbolOrderFreeUptoRow, standIns := [], harness := (true, "f4c4d3ae5b495e469b3de685b14b213a4e3b81d2158800df79a4f6f8dfb61c3c"), looks := false }, kinds := [], alts := [], laidByText := true, laidKinds := [.data, .data, .data], laidTests := true, laidLooks := .later }
def SymbolOrderFreeUptoCardSaid : Prop := Claim7.holds Tryd.pinned (.plain (OpenSpec.upto symbolOrderFreeSpec)) symbolOrderFreeUptoCard
end Rows
end Go.Proofs.YtekilcnkinmakaaDoor
