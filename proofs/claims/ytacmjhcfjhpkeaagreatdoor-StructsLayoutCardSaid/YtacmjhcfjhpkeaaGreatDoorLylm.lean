/- The laws StructsLayout, StructsConflicts. -/
import Derived.Test.YtacmjhcfjhpkeaaGreatDoorL34Em
namespace Go.Proofs.YtacmjhcfjhpkeaaGreatDoor
open Go.RowKit Go.Deco
set_option linter.unusedSimpArgs false
set_option linter.unusedVariables false
set_option maxRecDepth 100000 in
set_option maxHeartbeats 4000000 in
theorem conflaw_any (w : World) (ht : Tab10 w) (hg : TabAt w) (A : Option Addr) (n c : Nat) (l : List Acc) (hl : Sl accR w All (.slice A n c) l) : Calls Tryz.prog 11 #[.slice A n c] w (TBool w true) := by
 have HT := hid ht
 have HG := hid hg
 have HL := hid hl
 have HLN := hid hl.len
 clear ht hg hl
 by_cases h0 : (n : Int) > 60
 case pos =>
  have g0 : decide ((n : Int) > 60) = true := decide_eq_true h0
  have HX := hid (lex_any w HT.out HG.out)
  go_enter Tryz.func11, Tryz.ntmps11
  go_wp2_with fail
  refine HX.out.mono ?_
  rintro e w1 ⟨rfl, hx⟩
  have HX1 := hid hx
  clear hx
  go_wp2
  go_ret
  exact ⟨rfl, HX1.out⟩
 have g0 : decide ((n : Int) > 60) = false := decide_eq_false h0
 have hn : n ≤ 60 := by omega
 clear h0
 go_enter Tryz.func11, Tryz.ntmps11
 go_wp2_with fail
 refine (lprog_any w A n c l HL.out (by omega)).mono ?_
 rintro e w1 ⟨A1, c1, rfl, hs, hx⟩
 rw [← HLN.out] at hs ⊢
 have HSw1 := hid hs
 have HXw1 := hid hx
 clear hs hx
 have HC := hid (sconfl_any w1 A1 n c1 l HSw1.out (by omega))
 unfold ConfIs at HC
 go_wp2_with fail
 refine HC.out.mono ?_
 rintro e w2 ⟨A2, c2, rfl, hs, hx⟩
 have HS2 := hid hs
 have HX2 := hid (HXw1.out.trans hx)
 clear hs hx
 have HC3 := hid (rconfl_any w2 A n c l (HL.out.ext HX2.out) (by omega))
 unfold ConfIs at HC3
 obtain ⟨R, hR⟩ : ∃ R, conflA l = R := ⟨_, rfl⟩
 rw [hR] at HC3 HS2 ⊢
 clear hR
 go_wp2_with fail
 refine HC3.out.mono ?_
 rintro e w3 ⟨A3, c3, rfl, hs, hx⟩
 have HS3 := hid hs
 have HX3 := hid (HX2.out.trans hx)
 have HC4 := hid (sameints_any w3 A2 A3 R.length c2 R.length c3 R R (HS2.out.ext hx) hs)
 clear hs hx
 rw [decide_eq_true (rfl : R = R)] at HC4
 go_wp2_with fail
 refine HC4.out.mono ?_
 rintro e w4 ⟨rfl, hx⟩
 have HX4 := hid (HX3.out.trans hx)
 clear hx
 have HX := hid (lex_any w4 (HT.out.ext HX4.out) (HG.out.ext HX4.out))
 go_wp2_with fail
 refine HX.out.mono ?_
 rintro e w5 ⟨rfl, hx⟩
 have HX5 := hid (HX4.out.trans hx)
 clear hx
 go_wp2
 go_ret
 exact ⟨rfl, HX5.out⟩
set_option maxRecDepth 100000 in
set_option maxHeartbeats 4000000 in
theorem laylaw_any (w : World) (ht : Tab10 w) (hg : TabAt w) (A : Option Addr) (n c : Nat) (l : List Acc) (hl : Sl accR w All (.slice A n c) l) : Calls Tryz.prog 5 #[.slice A n c] w (TBool w true) := by
 have HT := hid ht
 have HG := hid hg
 have HL := hid hl
 have HLN := hid hl.len
 clear ht hg hl
 by_cases h0 : (n : Int) > 100
 case pos =>
  have g0 : decide ((n : Int) > 100) = true := decide_eq_true h0
  have HX := hid (lex_any w HT.out HG.out)
  go_enter Tryz.func5, Tryz.ntmps5
  go_wp2_with fail
  refine HX.out.mono ?_
  rintro e w1 ⟨rfl, hx⟩
  have HX1 := hid hx
  clear hx
  go_wp2
  go_ret
  exact ⟨rfl, HX1.out⟩
 have g0 : decide ((n : Int) > 100) = false := decide_eq_false h0
 have hn : n ≤ 100 := by omega
 clear h0
 go_enter Tryz.func5, Tryz.ntmps5
 go_wp2_with fail
 refine (lprog_any w A n c l HL.out (by omega)).mono ?_
 rintro e w1 ⟨A1, c1, rfl, hs, hx⟩
 rw [← HLN.out] at hs ⊢
 have HSw1 := hid hs
 have HXw1 := hid hx
 clear hs hx
 have HC := hid (layout_any w1 A1 n c1 l HSw1.out)
 have HCR := hid (fun W (hW : Ext w W) => rlayout_any W A n c l (HL.out.ext hW))
 obtain ⟨⟨t, er⟩, hR⟩ : ∃ R, layoutA l = R := ⟨_, rfl⟩
 rw [hR] at HC HCR
 clear hR
 go_wp2_with fail
 refine HC.out.mono ?_
 rintro e w2 ⟨vw2, rfl, hv, hx⟩
 have HTw2 := hid (TyV.all (t := t) hv)
 have HXw2 := hid hx
 clear hv hx
 obtain ⟨Aw2, nw2, cw2, Bw2, mw2, ew2, hv, -⟩ := HTw2.out
 subst hv
 simp only at *
 go_upto_region 4 with fail
 obtain ⟨U2, hU2⟩ : ∃ U2, w2.alloc (.cells #[.int .i64 t.kind, .int .i64 t.size, .int .i64 t.count, .slice Aw2 nw2 cw2, .slice Bw2 mw2 ew2] 25) = U2 := ⟨_, rfl⟩
 rw [hU2]
 have HEU2 := hid (by rw [← hU2]; exact (Ext.refl w2).alloc _ : Ext w2 U2)
 have o0U2 : U2.cell? ⟨w2.heap.size, 0, none⟩ = some (.int .i64 t.kind) := by rw [← hU2]; simp [go_sem]
 have o1U2 : U2.cell? ⟨w2.heap.size, 1, none⟩ = some (.int .i64 t.size) := by rw [← hU2]; simp [go_sem]
 have o2U2 : U2.cell? ⟨w2.heap.size, 2, none⟩ = some (.int .i64 t.count) := by rw [← hU2]; simp [go_sem]
 have o3U2 : U2.cell? ⟨w2.heap.size, 3, none⟩ = some (.slice Aw2 nw2 cw2) := by rw [← hU2]; simp [go_sem]
 have o4U2 : U2.cell? ⟨w2.heap.size, 4, none⟩ = some (.slice Bw2 mw2 ew2) := by rw [← hU2]; simp [go_sem]
 have HOU2 := hid (fun W (hW : Ext U2 W) => And.intro (hW.cell o0U2) (And.intro (hW.cell o1U2) (And.intro (hW.cell o2U2) (And.intro (hW.cell o3U2) (hW.cell o4U2)))))
 clear hU2 o0U2 o1U2 o2U2 o3U2 o4U2
 have HX2 := hid (HXw1.out.trans (HXw2.out.trans HEU2.out))
 go_wp2_with fail
 refine (HCR.out _ HX2.out).mono ?_
 rintro e w3 ⟨vw3, rfl, hv, hx⟩
 have HTw3 := hid (TyV.all (t := t) hv)
 have HXw3 := hid hx
 clear hv hx
 obtain ⟨Aw3, nw3, cw3, Bw3, mw3, ew3, hv, -⟩ := HTw3.out
 subst hv
 simp only at *
 go_upto_region 5 with fail
 obtain ⟨U3, hU3⟩ : ∃ U3, w3.alloc (.cells #[.int .i64 t.kind, .int .i64 t.size, .int .i64 t.count, .slice Aw3 nw3 cw3, .slice Bw3 mw3 ew3] 25) = U3 := ⟨_, rfl⟩
 rw [hU3]
 have HEU3 := hid (by rw [← hU3]; exact (Ext.refl w3).alloc _ : Ext w3 U3)
 have o0U3 : U3.cell? ⟨w3.heap.size, 0, none⟩ = some (.int .i64 t.kind) := by rw [← hU3]; simp [go_sem]
 have o1U3 : U3.cell? ⟨w3.heap.size, 1, none⟩ = some (.int .i64 t.size) := by rw [← hU3]; simp [go_sem]
 have o2U3 : U3.cell? ⟨w3.heap.size, 2, none⟩ = some (.int .i64 t.count) := by rw [← hU3]; simp [go_sem]
 have o3U3 : U3.cell? ⟨w3.heap.size, 3, none⟩ = some (.slice Aw3 nw3 cw3) := by rw [← hU3]; simp [go_sem]
 have o4U3 : U3.cell? ⟨w3.heap.size, 4, none⟩ = some (.slice Bw3 mw3 ew3) := by rw [← hU3]; simp [go_sem]
 have HOU3 := hid (fun W (hW : Ext U3 W) => And.intro (hW.cell o0U3) (And.intro (hW.cell o1U3) (And.intro (hW.cell o2U3) (And.intro (hW.cell o3U3) (hW.cell o4U3)))))
 clear hU3 o0U3 o1U3 o2U3 o3U3 o4U3
 have E3 := hid (HXw3.out.trans HEU3.out)
 have HX3 := hid (HX2.out.trans E3.out)
 obtain ⟨o0, o1, o2, o3, o4⟩ := HOU2.out U3 E3.out
 obtain ⟨q0, q1, q2, q3, q4⟩ := HOU3.out U3 (Ext.refl _)
 have HC4 := hid (same31_any 4 U3 t t _ _ ((HTw2.out.ext HEU2.out).ext E3.out) (HTw3.out.ext HEU3.out))
 rw [sameT_refl] at HC4
 go_wp2_with fail
 refine HC4.out.mono ?_
 rintro e w4 ⟨rfl, hx⟩
 have HX4 := hid (HX3.out.trans hx)
 clear hx o0 o1 o2 o3 o4 q0 q1 q2 q3 q4
 have HX := hid (lex_any w4 (HT.out.ext HX4.out) (HG.out.ext HX4.out))
 go_wp2_with fail
 refine HX.out.mono ?_
 rintro e w5 ⟨rfl, hx⟩
 have HX5 := hid (HX4.out.trans hx)
 clear hx
 go_wp2
 go_ret
 exact ⟨rfl, HX5.out⟩
end Go.Proofs.YtacmjhcfjhpkeaaGreatDoor
