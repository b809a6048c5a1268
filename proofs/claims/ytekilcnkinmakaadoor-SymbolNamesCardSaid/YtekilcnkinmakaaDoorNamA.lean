/- The law SymbolNames. -/
import Derived.Test.YtekilcnkinmakaaDoorSymY
import Derived.Test.YtekilcnkinmakaaDoorR6C
namespace Go.Proofs.YtekilcnkinmakaaDoor
open Go.RowKit Go.Deco
set_option linter.unusedSimpArgs false
set_option linter.unusedVariables false

set_option maxRecDepth 100000 in
set_option maxHeartbeats 4000000 in
theorem nam_any (w : World) (ht : TabAt w) (A : Option Addr) (n c : Nat) (l : List Sy) (hl : Sl symR w All (.slice A n c) l) (a : Nat) (ha : a < 4294967296) :
    Calls Tryd.prog 6 #[.slice A n c, .int .u32 a] w (OneBool w true) := by
  have HL := hid hl
  have HT := hid ht
  clear hl ht
  go_enter Tryd.func6, Tryd.ntmps6
  go_wp2_with fail
  refine (few_any w A n c l HL.out).mono ?_
  rintro e w' ⟨⟨b, rfl, hb⟩, rfl⟩
  cases b
  case' false =>
    clear hb
    go_wp2_with fail
    refine (example_any _ HT.out).mono ?_
    rintro e w1 ⟨rfl, hx⟩
    have HX := hid hx; clear hx
    go_wp2
    go_ret
    exact ⟨rfl, HX.out⟩
  have hn40 : n ≤ 40 := (hb rfl).1
  have HSZ := hid (hb rfl).2
  clear hb
  obtain ⟨z, hz⟩ : ∃ z, nameAt l a = z := ⟨_, rfl⟩
  have HZ := hid hz
  clear hz
  go_wp2_with fail
  refine (syname2_any w HT.out A n c l HL.out a ha HSZ.out).mono ?_
  rintro e w1 ⟨rfl, hx1⟩
  have HX1 := hid hx1
  clear hx1
  rw [HZ.out]
  go_wp2_with fail
  refine (name6_any w1 A n c l (HL.out.ext HX1.out) a ha HSZ.out).mono ?_
  rintro e w2 ⟨rfl, hx2⟩
  have HX2 := hid (HX1.out.trans hx2)
  clear hx2
  rw [HZ.out]
  go_wp2_with fail
  refine (syname2_any w2 (HT.out.ext HX2.out) none 0 0 [] Sl.nil a ha (by simp)).mono ?_
  rintro e w3 ⟨rfl, hx3⟩
  have HX3 := hid (HX2.out.trans hx3)
  clear hx3
  obtain ⟨y, hy⟩ : ∃ y, hexS a = y := ⟨_, rfl⟩
  rw [show nameAt [] a = y from hy]
  have HY := hid hy
  clear hy
  go_wp2_with fail
  refine (hex6_any w3 a ha).mono ?_
  rintro e w4 ⟨rfl, rfl⟩
  rw [HY.out]
  obtain ⟨F, hF⟩ : ∃ F, fnsOf l = F := ⟨_, rfl⟩
  have HF := hid hF
  clear hF
  go_wp2_with fail
  refine (syfuncs_any w3 A n c l (HL.out.ext HX3.out) (by omega)).mono ?_
  rintro e w4 ⟨hx4, A4, c4, rfl, hs4⟩
  rw [HF.out] at hs4 ⊢
  have HX4 := hid (HX3.out.trans hx4)
  have HS4 := hid hs4
  clear hx4 hs4
  go_wp2_with fail
  refine (funcs6_any w4 A n c l (HL.out.ext HX4.out) (by omega)).mono ?_
  rintro e w5 ⟨hx5, A5, c5, rfl, hs5⟩
  rw [HF.out] at hs5 ⊢
  have HX5 := hid (HX4.out.trans hx5)
  have HS45 := hid (HS4.out.ext hx5)
  have HS5 := hid hs5
  clear hx5 hs5
  obtain ⟨m, hm⟩ : ∃ m, F.length = m := ⟨_, rfl⟩
  rw [hm] at HS45 HS5 ⊢
  clear hm
  go_wp2_with fail
  refine (words_any w5 w5 (Ext.refl _) A4 A5 m m c4 c5 F F HS45.out HS5.out).mono ?_
  rintro e w6 ⟨rfl, hx6⟩
  have HX6 := hid (HX5.out.trans hx6)
  clear hx6
  rw [show decide (F = F) = true from decide_eq_true rfl]
  go_wp2_with fail
  refine (example_any _ (HT.out.ext HX6.out)).mono ?_
  rintro e w7 ⟨rfl, hx7⟩
  have HX7 := hid (HX6.out.trans hx7)
  clear hx7
  go_wp2
  go_ret
  exact ⟨rfl, HX7.out⟩
end Go.Proofs.YtekilcnkinmakaaDoor
