/-
  DERIVED. GIVEN WITH THE SEED: THE CARDS: each row of YtacmjhcfjhpkeaaGreatDoorRows.lean that lists a variable, with what it lists TIED to the program's text (the seventh form; the later family's looks); each row that meets fmt, with fmt's text TOLD by the authors' own Lean function (tested against real Go, not proved from fmt's source: count such statements apart). THE CARD IS WHAT COUNTS. Prove the row's statement (the work); the ties are given (YtacmjhcfjhpkeaaGreatDoorTie.lean); close each card by the builder's one call (the guide's Derived/Test/ToyasCard.lean, 'card_holds'). Laid BY PROGRAM, IN A SANDBOX (cutbox-door.mjs). By AI agents, Wed Nov 11 2026. No macro, syntax, notation, axiom, sorry.
-/
import Derived.Test.YtacmjhcfjhpkeaaGreatDoorRows
import GoSem.ClaimSeven
namespace Go.Proofs.YtacmjhcfjhpkeaaGreatDoor
namespace Rows

/-- THE TIED CARD OF 'decompilerlaw34.StructsName'. -/
def structsNameCard : Claim7 := { stood := { row := structsNameRow, standIns := [], harness := (true, "923c2adff2f3debb13fbebe894ce199268b3c286a6adf736be33e0b0c47ffae5"), looks := false }, kinds := [], alts := [], laidByText := true, laidKinds := [.data, .data, .data], laidTests := true, laidLooks := .later }
def StructsNameCardSaid : Prop := Claim7.holds Tryz.pinned (.plain (OpenSpec.ofChange structsNameSpec)) structsNameCard

/-- THE TIED CARD OF 'decompilerlaw34.StructsCover'. -/
def structsCoverCard : Claim7 := { stood := { row := structsCoverRow, standIns := [], harness := (true, "923c2adff2f3debb13fbebe894ce199268b3c286a6adf736be33e0b0c47ffae5"), looks := false }, kinds := [], alts := [], laidByText := true, laidKinds := [.data, .data, .data], laidTests := true, laidLooks := .later }
def StructsCoverCardSaid : Prop := Claim7.holds Tryz.pinned (.plain (OpenSpec.ofChange structsCoverSpec)) structsCoverCard

/-- THE TIED CARD OF 'decompilerlaw34.StructsLayout'. -/
def structsLayoutCard : Claim7 := { stood := { row := structsLayoutRow, standIns := [], harness := (true, "923c2adff2f3debb13fbebe894ce199268b3c286a6adf736be33e0b0c47ffae5"), looks := false }, kinds := [], alts := [], laidByText := true, laidKinds := [.data, .data, .data], laidTests := true, laidLooks := .later }
def StructsLayoutCardSaid : Prop := Claim7.holds Tryz.pinned (.plain (OpenSpec.ofChange structsLayoutSpec)) structsLayoutCard

/-- THE TIED CARD OF 'decompilerlaw34.StructsOrder'. -/
def structsOrderCard : Claim7 := { stood := { row := structsOrderRow, standIns := [], harness := (true, "923c2adff2f3debb13fbebe894ce199268b3c286a6adf736be33e0b0c47ffae5"), looks := false }, kinds := [], alts := [], laidByText := true, laidKinds := [.data, .data, .data], laidTests := true, laidLooks := .later }
def StructsOrderCardSaid : Prop := Claim7.holds Tryz.pinned (.plain (OpenSpec.ofChange structsOrderSpec)) structsOrderCard

/-- THE TIED CARD OF 'decompilerlaw34.StructsFields'. -/
def structsFieldsCard : Claim7 := { stood := { row := structsFieldsRow, standIns := [], harness := (true, "923c2adff2f3debb13fbebe894ce199268b3c286a6adf736be33e0b0c47ffae5"), looks := false }, kinds := [], alts := [], laidByText := true, laidKinds := [.data, .data, .data], laidTests := true, laidLooks := .later }
def StructsFieldsCardSaid : Prop := Claim7.holds Tryz.pinned (.plain (OpenSpec.ofChange structsFieldsSpec)) structsFieldsCard

/-- THE TIED CARD OF 'decompilerlaw34.StructsStrides'. -/
def structsStridesCard : Claim7 := { stood := { row := structsStridesRow, standIns := [], harness := (true, "923c2adff2f3debb13fbebe894ce199268b3c286a6adf736be33e0b0c47ffae5"), looks := false }, kinds := [], alts := [], laidByText := true, laidKinds := [.data, .data, .data], laidTests := true, laidLooks := .later }
def StructsStridesCardSaid : Prop := Claim7.holds Tryz.pinned (.plain (OpenSpec.ofChange structsStridesSpec)) structsStridesCard

/-- THE TIED CARD OF 'decompilerlaw34.StructsMerge'. -/
def structsMergeCard : Claim7 := { stood := { row := structsMergeRow, standIns := [], harness := (true, "923c2adff2f3debb13fbebe894ce199268b3c286a6adf736be33e0b0c47ffae5"), looks := false }, kinds := [], alts := [], laidByText := true, laidKinds := [.data, .data, .data], laidTests := true, laidLooks := .later }
def StructsMergeCardSaid : Prop := Claim7.holds Tryz.pinned (.plain (OpenSpec.ofChange structsMergeSpec)) structsMergeCard

/-- THE TIED CARD OF 'decompilerlaw34.StructsMergeLayouts'. -/
def structsMergeLayoutsCard : Claim7 := { stood := { row := structsMergeLayoutsRow, standIns := [], harness := (true, "923c2adff2f3debb13fbebe894ce199268b3c286a6adf736be33e0b0c47ffae5"), looks := false }, kinds := [], alts := [], laidByText := true, laidKinds := [.data, .data, .data], laidTests := true, laidLooks := .later }
def StructsMergeLayoutsCardSaid : Prop := Claim7.holds Tryz.pinned (.plain (OpenSpec.ofChange structsMergeLayoutsSpec)) structsMergeLayoutsCard

/-- THE TIED CARD OF 'decompilerlaw34.StructsConflicts'. -/
def structsConflictsCard : Claim7 := { stood := { row := structsConflictsRow, standIns := [], harness := (true, "923c2adff2f3debb13fbebe894ce199268b3c286a6adf736be33e0b0c47ffae5"), looks := false }, kinds := [], alts := [], laidByText := true, laidKinds := [.data, .data, .data], laidTests := true, laidLooks := .later }
def StructsConflictsCardSaid : Prop := Claim7.holds Tryz.pinned (.plain (OpenSpec.ofChange structsConflictsSpec)) structsConflictsCard

/-- THE SECOND FORM's CARD OF 'decompilerlaw34.StructsName'. -/
def structsNameUptoCard : Claim7 := { stood := { row := structsNameUptoRow, standIns := [], harness := (true, "923c2adff2f3debb13fbebe894ce199268b3c286a6adf736be33e0b0c47ffae5"), looks := false }, kinds := [], alts := [], laidByText := true, laidKinds := [.data, .data, .data], laidTests := true, laidLooks := .later }
def StructsNameUptoCardSaid : Prop := Claim7.holds Tryz.pinned (.plain (OpenSpec.upto structsNameSpec)) structsNameUptoCard

/-- THE SECOND FORM's CARD OF 'decompilerlaw34.StructsCover'. -/
def structsCoverUptoCard : Claim7 := { stood := { row := structsCoverUptoRow, standIns := [], harness := (true, "923c2adff2f3debb13fbebe894ce199268b3c286a6adf736be33e0b0c47ffae5"), looks := false }, kinds := [], alts := [], laidByText := true, laidKinds := [.data, .data, .data], laidTests := true, laidLooks := .later }
def StructsCoverUptoCardSaid : Prop := Claim7.holds Tryz.pinned (.plain (OpenSpec.upto structsCoverSpec)) structsCoverUptoCard

/-- THE SECOND FORM's CARD OF 'decompilerlaw34.StructsLayout'. -/
def structsLayoutUptoCard : Claim7 := { stood := { row := structsLayoutUptoRow, standIns := [], harness := (true, "923c2adff2f3debb13fbebe894ce199268b3c286a6adf736be33e0b0c47ffae5"), looks := false }, kinds := [], alts := [], laidByText := true, laidKinds := [.data, .data, .data], laidTests := true, laidLooks := .later }
def StructsLayoutUptoCardSaid : Prop := Claim7.holds Tryz.pinned (.plain (OpenSpec.upto structsLayoutSpec)) structsLayoutUptoCard

/-- THE SECOND FORM's CARD OF 'decompilerlaw34.StructsOrder'. -/
def structsOrderUptoCard : Claim7 := { stood := { row := structsOrderUptoRow, standIns := [], harness := (true, "923c2adff2f3debb13fbebe894ce199268b3c286a6adf736be33e0b0c47ffae5"), looks := false }, kinds := [], alts := [], laidByText := true, laidKinds := [.data, .data, .data], laidTests := true, laidLooks := .later }
def StructsOrderUptoCardSaid : Prop := Claim7.holds Tryz.pinned (.plain (OpenSpec.upto structsOrderSpec)) structsOrderUptoCard

/-- THE SECOND FORM's CARD OF 'decompilerlaw34.StructsFields'. -/
def structsFieldsUptoCard : Claim7 := { stood := { row := structsFieldsUptoRow, standIns := [], harness := (true, "923c2adff2f3debb13fbebe894ce199268b3c286a6adf736be33e0b0c47ffae5"), looks := false }, kinds := [], alts := [], laidByText := true, laidKinds := [.data, .data, .data], laidTests := true, laidLooks := .later }
def StructsFieldsUptoCardSaid : Prop := Claim7.holds Tryz.pinned (.plain (OpenSpec.upto structsFieldsSpec)) structsFieldsUptoCard

/-- THE SECOND FORM's CARD OF 'decompilerlaw34.StructsStrides'. -/
def structsStridesUptoCard : Claim7 := { stood := { row := structsStridesUptoRow, standIns := [], harness := (true, "923c2adff2f3debb13fbebe894ce199268b3c286a6adf736be33e0b0c47ffae5"), looks := false }, kinds := [], alts := [], laidByText := true, laidKinds := [.data, .data, .data], laidTests := true, laidLooks := .later }
def StructsStridesUptoCardSaid : Prop := Claim7.holds Tryz.pinned (.plain (OpenSpec.upto structsStridesSpec)) structsStridesUptoCard

/-- THE SECOND FORM's CARD OF 'decompilerlaw34.StructsMerge'. -/
def structsMergeUptoCard : Claim7 := { stood := { row := structsMergeUptoRow, standIns := [], harness := (true, "923c2adff2f3debb13fbebe894ce199268b3c286a6adf736be33e0b0c47ffae5"), looks := false }, kinds := [], alts := [], laidByText := true, laidKinds := [.data, .data, .data], laidTests := true, laidLooks := .later }
def StructsMergeUptoCardSaid : Prop := Claim7.holds Tryz.pinned (.plain (OpenSpec.upto structsMergeSpec)) structsMergeUptoCard

/-- THE SECOND FORM's CARD OF 'decompilerlaw34.StructsMergeLayouts'. -/
def structsMergeLayoutsUptoCard : Claim7 := { stood := { row := structsMergeLayoutsUptoRow, standIns := [], harness := (true, "923c2adff2f3debb13fbebe894ce199268b3c286a6adf736be33e0b0c47ffae5"), looks := false }, kinds := [], alts := [], laidByText := true, laidKinds := [.data, .data, .data], laidTests := true, laidLooks := .later }
def StructsMergeLayoutsUptoCardSaid : Prop := Claim7.holds Tryz.pinned (.plain (OpenSpec.upto structsMergeLayoutsSpec)) structsMergeLayoutsUptoCard

/-- THE SECOND FORM's CARD OF 'decompilerlaw34.StructsConflicts'. -/
def structsConflictsUptoCard : Claim7 := { stood := { row := structsConflictsUptoRow, standIns := [], harness := (true, "923c2adff2f3debb13fbebe894ce199268b3c286a6adf736be33e0b0c47ffae5"), looks := false }, kinds := [], alts := [], laidByText := true, laidKinds := [.data, .data, .data], laidTests := true, laidLooks := .later }
def StructsConflictsUptoCardSaid : Prop := Claim7.holds Tryz.pinned (.plain (OpenSpec.upto structsConflictsSpec)) structsConflictsUptoCard
end Rows
end Go.Proofs.YtacmjhcfjhpkeaaGreatDoor
