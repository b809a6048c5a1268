/- From a row's condition on the library's tables to the one entry that the walk reads; a world that meets the condition. -/
import Derived.Test.YtacmjhcfjhpkeaaGreatDoorRows
import Derived.Test.YtacmjhcfjhpkeaaGreatDoorHexm
import Derived.Lib.LaidTab
import Derived.Stop.LaidErr
import Derived.LaidHandle
namespace Go.Proofs.YtacmjhcfjhpkeaaGreatDoor
open Go.RowKit Go.Deco
set_option linter.unusedVariables false
set_option maxRecDepth 100000

def seatLaid : List (String × DataW Unit) := [("math/bits.deBruijn32tab", Rows.laid_math_bits_deBruijn32tab), ("math/bits.deBruijn64tab", Rows.laid_math_bits_deBruijn64tab), ("internal/strconv.uint64pow10", Rows.laid_internal_strconv_uint64pow10)]
def tab64 : List Int := [0, 1, 56, 2, 57, 49, 28, 3, 61, 58, 42, 50, 38, 29, 17, 4, 62, 47, 59, 36, 45, 43, 51, 22, 53, 39, 33, 30, 24, 18, 12, 5, 63, 55, 48, 27, 60, 41, 37, 16, 46, 35, 44, 21, 52, 32, 23, 11, 54, 26, 40, 15, 34, 20, 31, 10, 25, 14, 19, 9, 13, 8, 7, 6]
theorem gTab : Tryz.prog.globalNamed "math/bits.deBruijn64tab" = some 3 := by kernel_rfl
theorem gTabType : (Tryz.prog.globals[(3 : Nat)]?).map (·.type) = some 164 := by kernel_rfl
theorem cellsU8 : Tryz.prog.cellsOf 5 = 1 := by kernel_rfl
theorem cellsA64 : Tryz.prog.cellsOf 164 = 64 := by kernel_rfl
theorem tab_of_laid {W : World} (h : laidMetH Tryz.prog seatLaid W) : TabAt W := by
 have h1 : laidMet Tryz.prog seatLaid W := h
 have h2 : laidMet Tryz.prog (("math/bits.deBruijn64tab", Lib.tabData .u8 tab64) :: [("internal/strconv.uint64pow10", Rows.laid_internal_strconv_uint64pow10)]) W := laidMet.tail h1
 have h3 := Lib.tabIs_of_head gTab gTabType Tryz.underlying164 Tryz.underlying5 cellsU8 cellsA64 h2
 exact h3.cell gTab 15 (by decide)
/-- The cells of a listed table. -/
def cellsIn : DataW Unit → Array Value
 | .agg xs => (xs.map fun x => match x with | .lit (.int k z) => Value.int k z | _ => undef).toArray
 | _ => #[]
def layCells (cs : Array Value) : Obj → Obj
 | .cells _ t frozen => .cells cs t frozen
 | o => o
noncomputable def laidWorld (os : Os) : World :=
 { World.holding Tryz.prog os ⟨#[], #[], []⟩ with heap := (((World.holding Tryz.prog os ⟨#[], #[], []⟩).heap.modify 2 (layCells (cellsIn Rows.laid_math_bits_deBruijn32tab))).modify 3 (layCells (cellsIn Rows.laid_math_bits_deBruijn64tab))).modify 0 (layCells (cellsIn Rows.laid_internal_strconv_uint64pow10)) }
theorem laid_met (os : Os) (args : Array Value) : laidMetH Tryz.prog seatLaid ((laidWorld os).forCall (fun _ _ => 0) ⟨#[], args, []⟩).memory := by
 have h : laidMet Tryz.prog seatLaid ((laidWorld os).forCall (fun _ _ => 0) ⟨#[], args, []⟩).memory := laidMet_of_run' 8 (by kernel_rfl) (by kernel_rfl)
 exact h
end Go.Proofs.YtacmjhcfjhpkeaaGreatDoor
