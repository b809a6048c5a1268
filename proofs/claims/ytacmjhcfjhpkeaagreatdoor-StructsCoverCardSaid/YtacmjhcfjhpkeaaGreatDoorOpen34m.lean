/- The arguments of the statements of chapter 34: accesses; the table of powers. -/
import Derived.Test.YtacmjhcfjhpkeaaGreatDoorRows
import Derived.Test.YtacmjhcfjhpkeaaGreatDoorOpenm
import Derived.Test.YtacmjhcfjhpkeaaGreatDoorLaidm
import Derived.Test.YtacmjhcfjhpkeaaGreatDoorPlbm
import Derived.Test.YtacmjhcfjhpkeaaGreatDoorItom
namespace Go.Proofs.YtacmjhcfjhpkeaaGreatDoor
open Go Go.RowKit Go.ChangeShapes Go.WideShapes Go.Deep Go.Joins Go.Deco
set_option maxRecDepth 100000
theorem opens_acc : Opens Tryz.prog accR 39 := by
 intro H enc w base spare held fuel cs x hx
 obtain ⟨xs, n, _, _, hcl, hlen, hf⟩ := DataW.trod_struct Tryz.underlying39 hx
 have hcl : cs.length = 4 := hcl.trans (by kernel_rfl)
 match cs, hcl with
 | [c0, c1, c2, c3], _ =>
  match xs, hlen with
  | [y0, y1, y2, y3], _ =>
   have h0 : DataW.trod enc Tryz.prog w base spare held n 3 [c0] = some y0 := hf 0 _ rfl
   have h1 : DataW.trod enc Tryz.prog w base spare held n 3 [c1] = some y1 := hf 1 _ rfl
   have h2 : DataW.trod enc Tryz.prog w base spare held n 3 [c2] = some y2 := hf 2 _ rfl
   have h3 : DataW.trod enc Tryz.prog w base spare held n 4 [c3] = some y3 := hf 3 _ rfl
   obtain ⟨a, ha, _, g0⟩ := DataW.trod_int Tryz.underlying3 h0
   obtain ⟨b, hb, _, g1⟩ := DataW.trod_int Tryz.underlying3 h1
   obtain ⟨k, hk, _, g2⟩ := DataW.trod_int Tryz.underlying3 h2
   obtain ⟨q, hq, _⟩ := DataW.trod_bool Tryz.underlying4 h3
   cases ha; cases hb; cases hk; cases hq
   have h0 := wf64i g0
   have h1 := wf64i g1
   have h2 := wf64i g2
   exact ⟨⟨a, b, k, q⟩, rfl, by unfold i64b; simp only []; omega, by unfold i64b; simp only []; omega, by unfold i64b; simp only []; omega⟩
theorem gPow : Tryz.prog.globalNamed "internal/strconv.uint64pow10" = some 0 := by kernel_rfl
theorem gPowType : (Tryz.prog.globals[(0 : Nat)]?).map (·.type) = some 146 := by kernel_rfl
theorem cellsU64 : Tryz.prog.cellsOf 64 = 1 := by kernel_rfl
theorem cellsA20 : Tryz.prog.cellsOf 146 = 20 := by kernel_rfl
theorem tab10_of_laid {W : World} (h : laidMetH Tryz.prog seatLaid W) : Tab10 W := by
 have h1 : laidMet Tryz.prog seatLaid W := h
 have h2 : laidMet Tryz.prog (("internal/strconv.uint64pow10", Lib.tabData .u64 Lib.pow10Tab) :: []) W := laidMet.tail (laidMet.tail h1)
 exact Lib.tabIs_of_head gPow gPowType Tryz.underlying146 Tryz.underlying64 cellsU64 cellsA20 h2
end Go.Proofs.YtacmjhcfjhpkeaaGreatDoor
