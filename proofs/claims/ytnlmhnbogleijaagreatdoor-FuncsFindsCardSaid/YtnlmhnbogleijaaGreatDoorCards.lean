/-
  DERIVED. GIVEN WITH THE SEED: THE CARDS: each row of YtnlmhnbogleijaaGreatDoorRows.lean that lists a variable, with what it lists TIED to the program's text (the seventh form; the later family's looks); each row that meets fmt, with fmt's text TOLD by the authors' own Lean function (tested against real Go, not proved from fmt's source: count such statements apart). THE CARD IS WHAT COUNTS. Prove the row's statement (the work); the ties are given (YtnlmhnbogleijaaGreatDoorTie.lean); close each card by the builder's one call (the guide's Derived/Test/ToyasCard.lean, 'card_holds'). Laid BY PROGRAM, IN A SANDBOX (cutbox-door.mjs). By AI agents, Wed Nov 11 2026. No macro, syntax, notation, axiom, sorry.
-/
import Derived.Test.YtnlmhnbogleijaaGreatDoorRows
import GoSem.ClaimSeven
namespace Go.Proofs.YtnlmhnbogleijaaGreatDoor
namespace Rows

/-- THE TIED CARD OF 'decompilerlaw18.FuncsFinds'. -/
def funcsFindsCard : Claim7 := { stood := { row := funcsFindsRow, standIns := [], harness := (true, "8190a9331418c45e7f6eb310b5eb89bbac0a9682bbf8452575a2ca837bab41ed"), looks := false }, kinds := [], alts := [], laidByText := true, laidKinds := [.data, .data, .data], laidTests := true, laidLooks := .later }
def FuncsFindsCardSaid : Prop := Claim7.holds Tryz.pinned (.plain (OpenSpec.ofChange funcsFindsSpec)) funcsFindsCard

/-- THE SECOND FORM's CARD OF 'decompilerlaw18.FuncsFinds'. -/
def funcsFindsUptoCard : Claim7 := { stood := { row := funcsFindsUptoRow, standIns := [], harness := (true, "8190a9331418c45e7f6eb310b5eb89bbac0a9682bbf8452575a2ca837bab41ed"), looks := false }, kinds := [], alts := [], laidByText := true, laidKinds := [.data, .data, .data], laidTests := true, laidLooks := .later }
def FuncsFindsUptoCardSaid : Prop := Claim7.holds Tryz.pinned (.plain (OpenSpec.upto funcsFindsSpec)) funcsFindsUptoCard
end Rows
end Go.Proofs.YtnlmhnbogleijaaGreatDoor
