/- The law SymbolChecks. -/
import Derived.Test.YtekilcnkinmakaaDoorSymY
import Derived.Test.YtekilcnkinmakaaDoorR6A
namespace Go.Proofs.YtekilcnkinmakaaDoor
open Go.RowKit Go.Deco
set_option linter.unusedSimpArgs false
set_option linter.unusedVariables false

set_option maxRecDepth 100000 in
set_option maxHeartbeats 4000000 in
theorem chks_any (w : World) (ht : TabAt w) (A : Option Addr) (n c : Nat) (l : List Sy) (hl : Sl symR w All (.slice A n c) l) :
    Calls Tryd.prog 4 #[.slice A n c] w (OneBool w true) := by
  have HL := hid hl
  have HT := hid ht
  clear hl ht
  go_enter Tryd.func4, Tryd.ntmps4
  go_wp2_with fail
  refine (few_any w A n c l HL.out).mono ?_
  rintro e w' ⟨⟨b, rfl, hb⟩, rfl⟩
  cases b
  case' false =>
    clear hb
    go_wp2_with fail
    refine (example_any _ HT.out).mono ?_
    rintro e w1 ⟨rfl, hx⟩
    have HX := hid hx; clear hx
    go_wp2
    go_ret
    exact ⟨rfl, HX.out⟩
  have hn40 : n ≤ 40 := (hb rfl).1
  have HSZ := hid (hb rfl).2
  clear hb
  obtain ⟨z, hz⟩ : ∃ z, symCheck l = z := ⟨_, rfl⟩
  have HZ := hid hz
  clear hz
  go_wp2_with fail
  refine (sycheck_any w A n c l HL.out).mono ?_
  rintro e w1 ⟨rfl, hx1⟩
  have HX1 := hid hx1
  clear hx1
  rw [HZ.out]
  go_wp2_with fail
  refine (check6_any w1 A n c l (HL.out.ext HX1.out)).mono ?_
  rintro e w2 ⟨rfl, hx2⟩
  have HX2 := hid (HX1.out.trans hx2)
  clear hx2
  rw [HZ.out]
  go_wp2_with fail
  refine (example_any _ (HT.out.ext HX2.out)).mono ?_
  rintro e w3 ⟨rfl, hx3⟩
  have HX3 := hid (HX2.out.trans hx3)
  clear hx3
  go_wp2
  go_ret
  exact ⟨rfl, HX3.out⟩
end Go.Proofs.YtekilcnkinmakaaDoor
