/- The law StructsMergeLayouts. -/
import Derived.Test.YtacmjhcfjhpkeaaGreatDoorL34Em
import Derived.Test.YtacmjhcfjhpkeaaGreatDoorStQm
namespace Go.Proofs.YtacmjhcfjhpkeaaGreatDoor
open Go.RowKit Go.Deco
set_option linter.unusedSimpArgs false
set_option linter.unusedVariables false
set_option maxRecDepth 100000 in
set_option maxHeartbeats 4000000 in
theorem mlylaw_any (w : World) (ht : Tab10 w) (hg : TabAt w) (A B : Option Addr) (n c m e : Nat) (l r : List Acc) (hl : Sl accR w All (.slice A n c) l) (hr : Sl accR w All (.slice B m e) r) : Calls Tryz.prog 10 #[.slice A n c, .slice B m e] w (TBool w true) := by
 have HT := hid ht
 have HG := hid hg
 have HL := hid hl
 have HLN := hid hl.len
 have HR := hid hr
 have HRN := hid hr.len
 clear ht hg hl hr
 by_cases h0 : (n : Int) > 40
 case pos =>
  have g0 : decide ((n : Int) > 40) = true := decide_eq_true h0
  go_enter Tryz.func10, Tryz.ntmps10
  have HXLw9 := hid (lex_any w (HT.out.ext (Ext.refl w)) (HG.out.ext (Ext.refl w)))
  go_wp2_with fail
  refine HXLw9.out.mono ?_
  rintro e w9 ⟨rfl, hx⟩
  have HXw9 := hid (Ext.trans (Ext.refl w) hx)
  clear hx
  go_wp2
  go_ret
  exact ⟨rfl, HXw9.out⟩
 have g0 : decide ((n : Int) > 40) = false := decide_eq_false h0
 have hn : n ≤ 40 := by omega
 clear h0
 by_cases h0 : (m : Int) > 40
 case pos =>
  have g1 : decide ((m : Int) > 40) = true := decide_eq_true h0
  go_enter Tryz.func10, Tryz.ntmps10
  have HXLw9 := hid (lex_any w (HT.out.ext (Ext.refl w)) (HG.out.ext (Ext.refl w)))
  go_wp2_with fail
  refine HXLw9.out.mono ?_
  rintro e w9 ⟨rfl, hx⟩
  have HXw9 := hid (Ext.trans (Ext.refl w) hx)
  clear hx
  go_wp2
  go_ret
  exact ⟨rfl, HXw9.out⟩
 have g1 : decide ((m : Int) > 40) = false := decide_eq_false h0
 have hm : m ≤ 40 := by omega
 clear h0
 have HLP := hid (lprog_any w A n c l HL.out (by omega))
 have HRP := hid (fun W (hW : Ext w W) => lprog_any W B m e r (HR.out.ext hW) (by omega))
 unfold ProgIs at HLP HRP
 rw [← HLN.out] at HLP
 rw [← HRN.out] at HRP
 have HPL := hid (And.intro (fun t (h : layoutA l = (t, 0)) => layout_laid h) (fun t (h : layoutA r = (t, 0)) => layout_laid h))
 have HCL := hid (fun W A' c' (h : Sl accR W All (.slice A' n c') l) => layout_any W A' n c' l h)
 have HCR := hid (fun W A' c' (h : Sl accR W All (.slice A' m c') r) => layout_any W A' m c' r h)
 obtain ⟨⟨t, er⟩, hRt⟩ : ∃ R, layoutA l = R := ⟨_, rfl⟩
 obtain ⟨⟨u, es⟩, hRu⟩ : ∃ R, layoutA r = R := ⟨_, rfl⟩
 rw [hRt] at HCL HPL
 rw [hRu] at HCR HPL
 clear hRt hRu
 go_enter Tryz.func10, Tryz.ntmps10
 go_wp2_with fail
 refine HLP.out.mono ?_
 rintro e1 w1 ⟨A1, c1, rfl, hs, hx⟩
 have HC1 := hid (HCL.out w1 A1 c1 hs)
 have HX1 := hid hx
 clear hs hx
 go_wp2_with fail
 refine HC1.out.mono ?_
 rintro e w2 ⟨vw2, rfl, hv, hx⟩
 have HTw2 := hid (TyV.all (t := t) hv)
 have HXw2 := hid hx
 clear hv hx
 obtain ⟨Aw2, nw2, cw2, Bw2, mw2, ew2, hv, -⟩ := HTw2.out
 subst hv
 simp only at *
 go_upto_region 4 with fail
 obtain ⟨U2, hU2⟩ : ∃ U2, w2.alloc (.cells #[.int .i64 t.kind, .int .i64 t.size, .int .i64 t.count, .slice Aw2 nw2 cw2, .slice Bw2 mw2 ew2] 25) = U2 := ⟨_, rfl⟩
 rw [hU2]
 have HEU2 := hid (by rw [← hU2]; exact (Ext.refl w2).alloc _ : Ext w2 U2)
 have o0U2 : U2.cell? ⟨w2.heap.size, 0, none⟩ = some (.int .i64 t.kind) := by rw [← hU2]; simp [go_sem]
 have o1U2 : U2.cell? ⟨w2.heap.size, 1, none⟩ = some (.int .i64 t.size) := by rw [← hU2]; simp [go_sem]
 have o2U2 : U2.cell? ⟨w2.heap.size, 2, none⟩ = some (.int .i64 t.count) := by rw [← hU2]; simp [go_sem]
 have o3U2 : U2.cell? ⟨w2.heap.size, 3, none⟩ = some (.slice Aw2 nw2 cw2) := by rw [← hU2]; simp [go_sem]
 have o4U2 : U2.cell? ⟨w2.heap.size, 4, none⟩ = some (.slice Bw2 mw2 ew2) := by rw [← hU2]; simp [go_sem]
 have HOU2 := hid (fun W (hW : Ext U2 W) => And.intro (hW.cell o0U2) (And.intro (hW.cell o1U2) (And.intro (hW.cell o2U2) (And.intro (hW.cell o3U2) (hW.cell o4U2)))))
 clear hU2 o0U2 o1U2 o2U2 o3U2 o4U2
 have E2 := hid (HX1.out.trans (HXw2.out.trans HEU2.out))
 go_wp2_with fail
 refine (HRP.out U2 E2.out).mono ?_
 rintro e1 w3 ⟨A3, c3, rfl, hs, hx⟩
 have HC3 := hid (HCR.out w3 A3 c3 hs)
 have HX3 := hid hx
 clear hs hx
 go_wp2_with fail
 refine HC3.out.mono ?_
 rintro e w4 ⟨vw4, rfl, hv, hx⟩
 have HTw4 := hid (TyV.all (t := u) hv)
 have HXw4 := hid hx
 clear hv hx
 obtain ⟨Aw4, nw4, cw4, Bw4, mw4, ew4, hv, -⟩ := HTw4.out
 subst hv
 simp only at *
 go_upto_region 5 with fail
 obtain ⟨U4, hU4⟩ : ∃ U4, w4.alloc (.cells #[.int .i64 u.kind, .int .i64 u.size, .int .i64 u.count, .slice Aw4 nw4 cw4, .slice Bw4 mw4 ew4] 25) = U4 := ⟨_, rfl⟩
 rw [hU4]
 have HEU4 := hid (by rw [← hU4]; exact (Ext.refl w4).alloc _ : Ext w4 U4)
 have o0U4 : U4.cell? ⟨w4.heap.size, 0, none⟩ = some (.int .i64 u.kind) := by rw [← hU4]; simp [go_sem]
 have o1U4 : U4.cell? ⟨w4.heap.size, 1, none⟩ = some (.int .i64 u.size) := by rw [← hU4]; simp [go_sem]
 have o2U4 : U4.cell? ⟨w4.heap.size, 2, none⟩ = some (.int .i64 u.count) := by rw [← hU4]; simp [go_sem]
 have o3U4 : U4.cell? ⟨w4.heap.size, 3, none⟩ = some (.slice Aw4 nw4 cw4) := by rw [← hU4]; simp [go_sem]
 have o4U4 : U4.cell? ⟨w4.heap.size, 4, none⟩ = some (.slice Bw4 mw4 ew4) := by rw [← hU4]; simp [go_sem]
 have HOU4 := hid (fun W (hW : Ext U4 W) => And.intro (hW.cell o0U4) (And.intro (hW.cell o1U4) (And.intro (hW.cell o2U4) (And.intro (hW.cell o3U4) (hW.cell o4U4)))))
 clear hU4 o0U4 o1U4 o2U4 o3U4 o4U4
 have E4 := hid (HX3.out.trans (HXw4.out.trans HEU4.out))
 have F4 := hid (E2.out.trans E4.out)
 have HTT := hid ((HTw2.out.ext HEU2.out).ext E4.out)
 have HTU := hid (HTw4.out.ext HEU4.out)
 by_cases k1 : er = 0
 case neg =>
  have n1 : ((er : Int) != 0) = true := by simp; omega
  clear k1
  have HXLw9 := hid (lex_any U4 (HT.out.ext F4.out) (HG.out.ext F4.out))
  go_wp2_with fail
  refine HXLw9.out.mono ?_
  rintro e w9 ⟨rfl, hx⟩
  have HXw9 := hid (Ext.trans F4.out hx)
  clear hx
  go_wp2
  go_ret
  exact ⟨rfl, HXw9.out⟩
 by_cases k2 : es = 0
 case neg =>
  subst k1
  have n1 : ((es : Int) != 0) = true := by simp; omega
  clear k2
  have HXLw9 := hid (lex_any U4 (HT.out.ext F4.out) (HG.out.ext F4.out))
  go_wp2_with fail
  refine HXLw9.out.mono ?_
  rintro e w9 ⟨rfl, hx⟩
  have HXw9 := hid (Ext.trans F4.out hx)
  clear hx
  go_wp2
  go_ret
  exact ⟨rfl, HXw9.out⟩
 subst k1
 subst k2
 have hlt := HPL.out.1 t rfl
 have hlu := HPL.out.2 u rfl
 have HM1 := hid (merge_self hlt)
 have HM2 := hid (merge_nil hlt)
 have HM3 := hid (merge_comm hlt hlu)
 clear hlt hlu HCL HCR HPL HC1 HC3 HLP HRP g0 g1
 have HCM := hid (fun W (hW : Ext U4 W) => merge_any 4 W t t _ _ (HTT.out.ext hW) (HTT.out.ext hW))
 have HCN := hid (fun W (hW : Ext U4 W) => merge_any 4 W t (Ty.str []) _ _ (HTT.out.ext hW) (tyV_leaf 4 W All 5 0 (by unfold i64b; omega) (by unfold i64b; omega)))
 have HCO := hid (fun W (hW : Ext U4 W) => merge_any 4 W t u _ _ (HTT.out.ext hW) (HTU.out.ext hW))
 have HCP := hid (fun W (hW : Ext U4 W) => merge_any 4 W u t _ _ (HTU.out.ext hW) (HTT.out.ext hW))
 rw [HM1.out] at HCM
 rw [HM2.out] at HCN
 rw [← HM3.out] at HCP
 obtain ⟨⟨x, ex⟩, hRx⟩ : ∃ R, mergeT t u = R := ⟨_, rfl⟩
 rw [hRx] at HCO HCP
 clear hRx HM1 HM2 HM3
 obtain ⟨o0, o1, o2, o3, o4⟩ := HOU2.out U4 E4.out
 obtain ⟨q0, q1, q2, q3, q4⟩ := HOU4.out U4 (Ext.refl _)
 go_wp2_with fail
 refine (HCM.out U4 (Ext.refl _)).mono ?_
 rintro e w5 ⟨vw5, rfl, hv, hx⟩
 have HTw5 := hid (TyV.all (t := t) hv)
 have HXw5 := hid hx
 clear hv hx
 obtain ⟨Aw5, nw5, cw5, Bw5, mw5, ew5, hv, -⟩ := HTw5.out
 subst hv
 simp only at *
 go_upto_region 8 with fail
 obtain ⟨U5, hU5⟩ : ∃ U5, w5.alloc (.cells #[.int .i64 t.kind, .int .i64 t.size, .int .i64 t.count, .slice Aw5 nw5 cw5, .slice Bw5 mw5 ew5] 25) = U5 := ⟨_, rfl⟩
 rw [hU5]
 have HEU5 := hid (by rw [← hU5]; exact (Ext.refl w5).alloc _ : Ext w5 U5)
 have o0U5 : U5.cell? ⟨w5.heap.size, 0, none⟩ = some (.int .i64 t.kind) := by rw [← hU5]; simp [go_sem]
 have o1U5 : U5.cell? ⟨w5.heap.size, 1, none⟩ = some (.int .i64 t.size) := by rw [← hU5]; simp [go_sem]
 have o2U5 : U5.cell? ⟨w5.heap.size, 2, none⟩ = some (.int .i64 t.count) := by rw [← hU5]; simp [go_sem]
 have o3U5 : U5.cell? ⟨w5.heap.size, 3, none⟩ = some (.slice Aw5 nw5 cw5) := by rw [← hU5]; simp [go_sem]
 have o4U5 : U5.cell? ⟨w5.heap.size, 4, none⟩ = some (.slice Bw5 mw5 ew5) := by rw [← hU5]; simp [go_sem]
 have HOU5 := hid (fun W (hW : Ext U5 W) => And.intro (hW.cell o0U5) (And.intro (hW.cell o1U5) (And.intro (hW.cell o2U5) (And.intro (hW.cell o3U5) (hW.cell o4U5)))))
 clear hU5 o0U5 o1U5 o2U5 o3U5 o4U5
 have E5 := hid (HXw5.out.trans HEU5.out)
 clear o0 o1 o2 o3 o4 q0 q1 q2 q3 q4
 obtain ⟨o0, o1, o2, o3, o4⟩ := HOU2.out U5 (E4.out.trans E5.out)
 go_wp2_with fail
 refine (HCN.out U5 E5.out).mono ?_
 rintro e w6 ⟨vw6, rfl, hv, hx⟩
 have HTw6 := hid (TyV.all (t := t) hv)
 have HXw6 := hid hx
 clear hv hx
 obtain ⟨Aw6, nw6, cw6, Bw6, mw6, ew6, hv, -⟩ := HTw6.out
 subst hv
 simp only at *
 go_upto_region 9 with fail
 obtain ⟨U6, hU6⟩ : ∃ U6, w6.alloc (.cells #[.int .i64 t.kind, .int .i64 t.size, .int .i64 t.count, .slice Aw6 nw6 cw6, .slice Bw6 mw6 ew6] 25) = U6 := ⟨_, rfl⟩
 rw [hU6]
 have HEU6 := hid (by rw [← hU6]; exact (Ext.refl w6).alloc _ : Ext w6 U6)
 have o0U6 : U6.cell? ⟨w6.heap.size, 0, none⟩ = some (.int .i64 t.kind) := by rw [← hU6]; simp [go_sem]
 have o1U6 : U6.cell? ⟨w6.heap.size, 1, none⟩ = some (.int .i64 t.size) := by rw [← hU6]; simp [go_sem]
 have o2U6 : U6.cell? ⟨w6.heap.size, 2, none⟩ = some (.int .i64 t.count) := by rw [← hU6]; simp [go_sem]
 have o3U6 : U6.cell? ⟨w6.heap.size, 3, none⟩ = some (.slice Aw6 nw6 cw6) := by rw [← hU6]; simp [go_sem]
 have o4U6 : U6.cell? ⟨w6.heap.size, 4, none⟩ = some (.slice Bw6 mw6 ew6) := by rw [← hU6]; simp [go_sem]
 have HOU6 := hid (fun W (hW : Ext U6 W) => And.intro (hW.cell o0U6) (And.intro (hW.cell o1U6) (And.intro (hW.cell o2U6) (And.intro (hW.cell o3U6) (hW.cell o4U6)))))
 clear hU6 o0U6 o1U6 o2U6 o3U6 o4U6
 have F6 := hid (HXw6.out.trans HEU6.out)
 have E6 := hid (E5.out.trans F6.out)
 clear o0 o1 o2 o3 o4
 obtain ⟨o0, o1, o2, o3, o4⟩ := HOU2.out U6 (E4.out.trans E6.out)
 obtain ⟨q0, q1, q2, q3, q4⟩ := HOU4.out U6 E6.out
 go_wp2_with fail
 refine (HCO.out U6 E6.out).mono ?_
 rintro e w7 ⟨vw7, rfl, hv, hx⟩
 have HTw7 := hid (TyV.all (t := x) hv)
 have HXw7 := hid hx
 clear hv hx
 obtain ⟨Aw7, nw7, cw7, Bw7, mw7, ew7, hv, -⟩ := HTw7.out
 subst hv
 simp only at *
 go_upto_region 10 with fail
 obtain ⟨U7, hU7⟩ : ∃ U7, w7.alloc (.cells #[.int .i64 x.kind, .int .i64 x.size, .int .i64 x.count, .slice Aw7 nw7 cw7, .slice Bw7 mw7 ew7] 25) = U7 := ⟨_, rfl⟩
 rw [hU7]
 have HEU7 := hid (by rw [← hU7]; exact (Ext.refl w7).alloc _ : Ext w7 U7)
 have o0U7 : U7.cell? ⟨w7.heap.size, 0, none⟩ = some (.int .i64 x.kind) := by rw [← hU7]; simp [go_sem]
 have o1U7 : U7.cell? ⟨w7.heap.size, 1, none⟩ = some (.int .i64 x.size) := by rw [← hU7]; simp [go_sem]
 have o2U7 : U7.cell? ⟨w7.heap.size, 2, none⟩ = some (.int .i64 x.count) := by rw [← hU7]; simp [go_sem]
 have o3U7 : U7.cell? ⟨w7.heap.size, 3, none⟩ = some (.slice Aw7 nw7 cw7) := by rw [← hU7]; simp [go_sem]
 have o4U7 : U7.cell? ⟨w7.heap.size, 4, none⟩ = some (.slice Bw7 mw7 ew7) := by rw [← hU7]; simp [go_sem]
 have HOU7 := hid (fun W (hW : Ext U7 W) => And.intro (hW.cell o0U7) (And.intro (hW.cell o1U7) (And.intro (hW.cell o2U7) (And.intro (hW.cell o3U7) (hW.cell o4U7)))))
 clear hU7 o0U7 o1U7 o2U7 o3U7 o4U7
 have F7 := hid (HXw7.out.trans HEU7.out)
 have E7 := hid (E6.out.trans F7.out)
 clear o0 o1 o2 o3 o4 q0 q1 q2 q3 q4
 obtain ⟨o0, o1, o2, o3, o4⟩ := HOU2.out U7 (E4.out.trans E7.out)
 obtain ⟨q0, q1, q2, q3, q4⟩ := HOU4.out U7 E7.out
 go_wp2_with fail
 refine (HCP.out U7 E7.out).mono ?_
 rintro e w8 ⟨vw8, rfl, hv, hx⟩
 have HTw8 := hid (TyV.all (t := x) hv)
 have HXw8 := hid hx
 clear hv hx
 obtain ⟨Aw8, nw8, cw8, Bw8, mw8, ew8, hv, -⟩ := HTw8.out
 subst hv
 simp only at *
 go_upto_region 11 with fail
 obtain ⟨U8, hU8⟩ : ∃ U8, w8.alloc (.cells #[.int .i64 x.kind, .int .i64 x.size, .int .i64 x.count, .slice Aw8 nw8 cw8, .slice Bw8 mw8 ew8] 25) = U8 := ⟨_, rfl⟩
 rw [hU8]
 have HEU8 := hid (by rw [← hU8]; exact (Ext.refl w8).alloc _ : Ext w8 U8)
 have o0U8 : U8.cell? ⟨w8.heap.size, 0, none⟩ = some (.int .i64 x.kind) := by rw [← hU8]; simp [go_sem]
 have o1U8 : U8.cell? ⟨w8.heap.size, 1, none⟩ = some (.int .i64 x.size) := by rw [← hU8]; simp [go_sem]
 have o2U8 : U8.cell? ⟨w8.heap.size, 2, none⟩ = some (.int .i64 x.count) := by rw [← hU8]; simp [go_sem]
 have o3U8 : U8.cell? ⟨w8.heap.size, 3, none⟩ = some (.slice Aw8 nw8 cw8) := by rw [← hU8]; simp [go_sem]
 have o4U8 : U8.cell? ⟨w8.heap.size, 4, none⟩ = some (.slice Bw8 mw8 ew8) := by rw [← hU8]; simp [go_sem]
 have HOU8 := hid (fun W (hW : Ext U8 W) => And.intro (hW.cell o0U8) (And.intro (hW.cell o1U8) (And.intro (hW.cell o2U8) (And.intro (hW.cell o3U8) (hW.cell o4U8)))))
 clear hU8 o0U8 o1U8 o2U8 o3U8 o4U8
 have F8 := hid (HXw8.out.trans HEU8.out)
 have E8 := hid (E7.out.trans F8.out)
 clear o0 o1 o2 o3 o4 q0 q1 q2 q3 q4
 obtain ⟨o0, o1, o2, o3, o4⟩ := HOU2.out U8 (E4.out.trans E8.out)
 obtain ⟨q0, q1, q2, q3, q4⟩ := HOU5.out U8 (F6.out.trans (F7.out.trans F8.out))
 have HS1 := hid (same31_any 7 U8 t t _ _ ((HTw5.out.ext HEU5.out).ext (F6.out.trans (F7.out.trans F8.out))) ((HTT.out.ext E8.out).up (by omega)))
 rw [sameT_refl] at HS1
 go_wp2_with fail
 refine HS1.out.mono ?_
 rintro e1 w9 ⟨rfl, hx⟩
 have G9 := hid hx
 clear hx o0 o1 o2 o3 o4 q0 q1 q2 q3 q4
 obtain ⟨o0, o1, o2, o3, o4⟩ := HOU2.out w9 (E4.out.trans (E8.out.trans G9.out))
 obtain ⟨q0, q1, q2, q3, q4⟩ := HOU6.out w9 (F7.out.trans (F8.out.trans G9.out))
 have HS2 := hid (same31_any 7 w9 t t _ _ ((HTw6.out.ext HEU6.out).ext (F7.out.trans (F8.out.trans G9.out))) ((HTT.out.ext (E8.out.trans G9.out)).up (by omega)))
 rw [sameT_refl] at HS2
 go_wp2_with fail
 refine HS2.out.mono ?_
 rintro e1 w10 ⟨rfl, hx⟩
 have G10 := hid (G9.out.trans hx)
 clear hx o0 o1 o2 o3 o4 q0 q1 q2 q3 q4
 obtain ⟨o0, o1, o2, o3, o4⟩ := HOU7.out w10 (F8.out.trans G10.out)
 obtain ⟨q0, q1, q2, q3, q4⟩ := HOU8.out w10 G10.out
 have HS3 := hid (same31_any 7 w10 x x _ _ ((HTw7.out.ext HEU7.out).ext (F8.out.trans G10.out)) ((HTw8.out.ext HEU8.out).ext G10.out))
 rw [sameT_refl] at HS3
 go_wp2_with fail
 refine HS3.out.mono ?_
 rintro e1 w11 ⟨rfl, hx⟩
 have G11 := hid (F4.out.trans (E8.out.trans (G10.out.trans hx)))
 clear hx o0 o1 o2 o3 o4 q0 q1 q2 q3 q4
 have HXLw12 := hid (lex_any w11 (HT.out.ext G11.out) (HG.out.ext G11.out))
 go_wp2_with fail
 refine HXLw12.out.mono ?_
 rintro e w12 ⟨rfl, hx⟩
 have HXw12 := hid (Ext.trans G11.out hx)
 clear hx
 go_wp2
 go_ret
 exact ⟨rfl, HXw12.out⟩
end Go.Proofs.YtacmjhcfjhpkeaaGreatDoor
