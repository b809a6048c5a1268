/- decompilerref34.parts. decompilerref34.Merge. -/
import Derived.Test.YtacmjhcfjhpkeaaGreatDoorRfJm
import Derived.Test.YtacmjhcfjhpkeaaGreatDoorShim
namespace Go.Proofs.YtacmjhcfjhpkeaaGreatDoor
open Go.RowKit Go.Deco
set_option linter.unusedSimpArgs false
set_option linter.unusedVariables false

/-- The parts, or an error. -/
def rpT (t : Ty) : List (Int × Ty) × Nat := if properT t then (partsT t, 0) else ([], 16)
def RPartsIs (d : Nat) (T : Nat → Prop) (w : World) (r : List (Int × Ty) × Nat) (e : Ending) (w' : World) : Prop :=
 ∃ A c, e = .returned (.tuple #[.slice A r.1.length c, .int .i64 (r.2 : Nat)]) ∧ Sl (fdR (tyR d)) w' (fun b => T b ∨ w.heap.size ≤ b) (.slice A r.1.length c) r.1 ∧ Ext w w'
end Go.Proofs.YtacmjhcfjhpkeaaGreatDoor

namespace Go.Proofs.YtacmjhcfjhpkeaaGreatDoor
open Go.RowKit Go.Deco
set_option linter.unusedSimpArgs false
set_option linter.unusedVariables false

end Go.Proofs.YtacmjhcfjhpkeaaGreatDoor
