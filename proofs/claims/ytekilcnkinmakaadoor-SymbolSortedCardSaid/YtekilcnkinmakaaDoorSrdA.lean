/- SymbolSorted. -/
import Derived.Test.YtekilcnkinmakaaDoorStbF
import Derived.Test.YtekilcnkinmakaaDoorStbG
import Derived.Test.YtekilcnkinmakaaDoorSymX
import Derived.Test.YtekilcnkinmakaaDoorSymY
namespace Go.Proofs.YtekilcnkinmakaaDoor
open Go.RowKit Go.Deco
set_option linter.unusedSimpArgs false
set_option linter.unusedVariables false

set_option maxRecDepth 100000 in
set_option maxHeartbeats 2000000 in
theorem srd_any (w : World) (ht : TabAt w) (A : Option Addr) (n c : Nat) (l : List Sy) (hl : Sl symR w All (.slice A n c) l) :
    Calls Tryd.prog 9 #[.slice A n c] w (OneBool w true) := by
  have HLN := hid hl.len
  obtain ⟨hnc, hcm⟩ := hl.cap
  have HL := hid hl
  have HT := hid ht
  clear hl ht
  have hself := stab_self weakS (stab_ok weakS l).1
  have hlen := stab_len ltS l
  obtain ⟨M, hM⟩ : ∃ M, stab ltS l = M := ⟨_, rfl⟩
  rw [hM] at hself hlen
  have HSF := hid hself
  have HML := hid hlen
  have HM := hid hM
  clear hself hlen hM
  go_enter Tryd.func9, Tryd.ntmps9
  go_wp2_with fail
  refine (few_any w A n c l HL.out).mono ?_
  rintro e w' ⟨⟨b, rfl, hb⟩, rfl⟩
  cases b
  case' false =>
    clear hb
    go_wp2_with fail
    refine (example_any _ HT.out).mono ?_
    rintro e w1 ⟨rfl, hx⟩
    have HX := hid hx; clear hx
    go_wp2
    go_ret
    exact ⟨rfl, HX.out⟩
  have hn40 : n ≤ 40 := (hb rfl).1
  have HSZ := hid (hb rfl).2
  clear hb
  have HC1 := hid (ssorted_any w A n c l HL.out hn40)
  rw [HM.out] at HC1
  go_wp2_with fail
  refine (HC1.out).mono ?_
  rintro e w1 ⟨hx1, A1, c1, rfl, hs1⟩
  have HX1 := hid hx1
  have HS1 := hid hs1
  clear hx1 hs1 HC1
  have HC2 := hid (rsorted_any w1 A n c l (HL.out.ext HX1.out) (by omega))
  rw [HM.out] at HC2
  obtain ⟨N, hN⟩ : ∃ N, M.length = N := ⟨_, rfl⟩
  have hNn : N = n := by have := HLN.out; have := HML.out; omega
  rw [hN] at HS1 ⊢
  subst hNn
  have HN := hid hN
  clear hN
  go_wp2_with fail
  refine (HC2.out).mono ?_
  rintro e w2 ⟨A2, c2, rfl, hs2, hx2⟩
  rw [HN.out] at hs2 ⊢
  have HX2 := hid hx2
  have HS2 := hid hs2
  clear hx2 hs2 HC2
  go_wp2_with fail
  refine (sames_eq w2 A1 A2 _ _ _ M (HS1.out.ext HX2.out) HS2.out).mono ?_
  rintro e w3 ⟨rfl, hx3⟩
  have HX3 := hid hx3
  clear hx3
  have HC4 := hid (ssorted_any w3 A1 _ c1 M (HS1.out.ext (HX2.out.trans HX3.out)) hn40)
  rw [HSF.out] at HC4
  go_wp2_with fail
  refine (HC4.out).mono ?_
  rintro e w4 ⟨hx4, A4, c4, rfl, hs4⟩
  rw [HN.out] at hs4 ⊢
  have HX4 := hid hx4
  have HS4 := hid hs4
  clear hx4 hs4 HC4
  go_wp2_with fail
  refine (sames_eq w4 A4 A1 _ _ _ M HS4.out (HS1.out.ext ((HX2.out.trans HX3.out).trans HX4.out))).mono ?_
  rintro e w5 ⟨rfl, hx5⟩
  have HX5 := hid (HX1.out.trans (HX2.out.trans (HX3.out.trans (HX4.out.trans hx5))))
  clear hx5
  go_wp2_with fail
  refine (example_any _ (HT.out.ext HX5.out)).mono ?_
  rintro e w7 ⟨rfl, hx7⟩
  have HX7 := hid (HX5.out.trans hx7)
  clear hx7
  go_wp2
  go_ret
  exact ⟨rfl, HX7.out⟩
end Go.Proofs.YtekilcnkinmakaaDoor
