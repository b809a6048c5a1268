/- The law StructsMerge. -/
import Derived.Test.YtacmjhcfjhpkeaaGreatDoorL34Em
namespace Go.Proofs.YtacmjhcfjhpkeaaGreatDoor
open Go.RowKit Go.Deco
set_option linter.unusedSimpArgs false
set_option linter.unusedVariables false
set_option maxRecDepth 100000 in
set_option maxHeartbeats 4000000 in
theorem mrglaw_any (w : World) (ht : Tab10 w) (hg : TabAt w) (d : Nat) (a b : Ty) (va vb : Value) (hva : TyV d w All va a) (hvb : TyV d w All vb b) : Calls Tryz.prog 9 #[va, vb] w (TBool w true) := by
 have HT := hid ht
 have HG := hid hg
 have HVA := hid hva
 have HVB := hid hvb
 clear ht hg
 obtain ⟨A, na, ca, B, nb, cb, rfl, -⟩ := hva
 obtain ⟨A', na', ca', B', nb', cb', rfl, -⟩ := hvb
 obtain ⟨W0, hW0⟩ : ∃ W0, (w.alloc (.cells #[.int .i64 a.kind, .int .i64 a.size, .int .i64 a.count, .slice A na ca, .slice B nb cb] 25)).alloc (.cells #[.int .i64 b.kind, .int .i64 b.size, .int .i64 b.count, .slice A' na' ca', .slice B' nb' cb'] 25) = W0 := ⟨_, rfl⟩
 have HE0 := hid (by rw [← hW0]; exact ((Ext.refl w).alloc _).alloc _ : Ext w W0)
 have o0 : W0.cell? ⟨w.heap.size, 0, none⟩ = some (.int .i64 a.kind) := by rw [← hW0]; simp [go_sem]
 have o1 : W0.cell? ⟨w.heap.size, 1, none⟩ = some (.int .i64 a.size) := by rw [← hW0]; simp [go_sem]
 have o2 : W0.cell? ⟨w.heap.size, 2, none⟩ = some (.int .i64 a.count) := by rw [← hW0]; simp [go_sem]
 have o3 : W0.cell? ⟨w.heap.size, 3, none⟩ = some (.slice A na ca) := by rw [← hW0]; simp [go_sem]
 have o4 : W0.cell? ⟨w.heap.size, 4, none⟩ = some (.slice B nb cb) := by rw [← hW0]; simp [go_sem]
 have u0 : W0.cell? ⟨w.heap.size + 1, 0, none⟩ = some (.int .i64 b.kind) := by rw [← hW0]; simp [go_sem]
 have u1 : W0.cell? ⟨w.heap.size + 1, 1, none⟩ = some (.int .i64 b.size) := by rw [← hW0]; simp [go_sem]
 have u2 : W0.cell? ⟨w.heap.size + 1, 2, none⟩ = some (.int .i64 b.count) := by rw [← hW0]; simp [go_sem]
 have u3 : W0.cell? ⟨w.heap.size + 1, 3, none⟩ = some (.slice A' na' ca') := by rw [← hW0]; simp [go_sem]
 have u4 : W0.cell? ⟨w.heap.size + 1, 4, none⟩ = some (.slice B' nb' cb') := by rw [← hW0]; simp [go_sem]
 have HO := hid (fun W (hW : Ext W0 W) => And.intro (hW.cell o0) (And.intro (hW.cell o1) (And.intro (hW.cell o2) (And.intro (hW.cell o3) (And.intro (hW.cell o4) (And.intro (hW.cell u0) (And.intro (hW.cell u1) (And.intro (hW.cell u2) (And.intro (hW.cell u3) (hW.cell u4))))))))))
 have HSA := hid (lsmall_any d W0 a _ (HVA.out.ext HE0.out))
 have HSB := hid (fun W (hW : Ext w W) => lsmall_any d W b _ (HVB.out.ext hW))
 obtain ⟨z, hz⟩ : ∃ z, decide (0 ≤ ptT a 6 3000) = z := ⟨_, rfl⟩
 rw [hz] at HSA
 obtain ⟨y, hy⟩ : ∃ y, decide (0 ≤ ptT b 6 3000) = y := ⟨_, rfl⟩
 rw [hy] at HSB
 have HMC := hid (fun W (hW : Ext w W) => merge_any d W a b _ _ (HVA.out.ext hW) (HVB.out.ext hW))
 have HRC := hid (fun W (hW : Ext w W) => rmerge_any d W a b _ _ (HVA.out.ext hW) (HVB.out.ext hW))
 obtain ⟨⟨t, er⟩, hR⟩ : ∃ R, mergeT a b = R := ⟨_, rfl⟩
 rw [hR] at HMC HRC
 clear hz hy hR
 go_enter Tryz.func9, Tryz.ntmps9
 go_wp2_with fail
 clear hW0
 refine HSA.out.mono ?_
 rintro e w1 ⟨rfl, hx⟩
 have HX1 := hid hx
 clear hx o0 o1 o2 o3 o4 u0 u1 u2 u3 u4
 obtain ⟨o0, o1, o2, o3, o4, u0, u1, u2, u3, u4⟩ := HO.out w1 HX1.out
 cases z with
 | false =>
  have HXLw2 := hid (lex_any w1 (HT.out.ext (HE0.out.trans HX1.out)) (HG.out.ext (HE0.out.trans HX1.out)))
  go_wp2_with fail
  refine HXLw2.out.mono ?_
  rintro e w2 ⟨rfl, hx⟩
  have HXw2 := hid (Ext.trans (HE0.out.trans HX1.out) hx)
  clear hx
  go_wp2
  go_ret
  exact ⟨rfl, HXw2.out⟩
 | true =>
  go_wp2_with fail
  refine (HSB.out w1 (HE0.out.trans HX1.out)).mono ?_
  rintro e w2 ⟨rfl, hx⟩
  have HX2 := hid (HX1.out.trans hx)
  clear hx o0 o1 o2 o3 o4 u0 u1 u2 u3 u4
  obtain ⟨o0, o1, o2, o3, o4, u0, u1, u2, u3, u4⟩ := HO.out w2 HX2.out
  cases y with
  | false =>
   have HXLw3 := hid (lex_any w2 (HT.out.ext (HE0.out.trans HX2.out)) (HG.out.ext (HE0.out.trans HX2.out)))
   go_wp2_with fail
   refine HXLw3.out.mono ?_
   rintro e w3 ⟨rfl, hx⟩
   have HXw3 := hid (Ext.trans (HE0.out.trans HX2.out) hx)
   clear hx
   go_wp2
   go_ret
   exact ⟨rfl, HXw3.out⟩
  | true =>
   go_wp2_with fail
   refine (HMC.out w2 (HE0.out.trans HX2.out)).mono ?_
   rintro e w3 ⟨vw3, rfl, hv, hx⟩
   have HTw3 := hid (TyV.all (t := t) hv)
   have HXw3 := hid hx
   clear hv hx
   obtain ⟨Aw3, nw3, cw3, Bw3, mw3, ew3, hv, -⟩ := HTw3.out
   subst hv
   simp only at *
   go_upto_region 4 with fail
   obtain ⟨U3, hU3⟩ : ∃ U3, w3.alloc (.cells #[.int .i64 t.kind, .int .i64 t.size, .int .i64 t.count, .slice Aw3 nw3 cw3, .slice Bw3 mw3 ew3] 25) = U3 := ⟨_, rfl⟩
   rw [hU3]
   have HEU3 := hid (by rw [← hU3]; exact (Ext.refl w3).alloc _ : Ext w3 U3)
   have o0U3 : U3.cell? ⟨w3.heap.size, 0, none⟩ = some (.int .i64 t.kind) := by rw [← hU3]; simp [go_sem]
   have o1U3 : U3.cell? ⟨w3.heap.size, 1, none⟩ = some (.int .i64 t.size) := by rw [← hU3]; simp [go_sem]
   have o2U3 : U3.cell? ⟨w3.heap.size, 2, none⟩ = some (.int .i64 t.count) := by rw [← hU3]; simp [go_sem]
   have o3U3 : U3.cell? ⟨w3.heap.size, 3, none⟩ = some (.slice Aw3 nw3 cw3) := by rw [← hU3]; simp [go_sem]
   have o4U3 : U3.cell? ⟨w3.heap.size, 4, none⟩ = some (.slice Bw3 mw3 ew3) := by rw [← hU3]; simp [go_sem]
   have HOU3 := hid (fun W (hW : Ext U3 W) => And.intro (hW.cell o0U3) (And.intro (hW.cell o1U3) (And.intro (hW.cell o2U3) (And.intro (hW.cell o3U3) (hW.cell o4U3)))))
   clear hU3 o0U3 o1U3 o2U3 o3U3 o4U3
   have E3 := hid (HX2.out.trans (HXw3.out.trans HEU3.out))
   clear o0 o1 o2 o3 o4 u0 u1 u2 u3 u4
   obtain ⟨o0, o1, o2, o3, o4, u0, u1, u2, u3, u4⟩ := HO.out U3 E3.out
   go_wp2_with fail
   refine (HRC.out U3 (HE0.out.trans E3.out)).mono ?_
   rintro e w4 ⟨vw4, rfl, hv, hx⟩
   have HTw4 := hid (TyV.all (t := t) hv)
   have HXw4 := hid hx
   clear hv hx
   obtain ⟨Aw4, nw4, cw4, Bw4, mw4, ew4, hv, -⟩ := HTw4.out
   subst hv
   simp only at *
   go_upto_region 5 with fail
   obtain ⟨U4, hU4⟩ : ∃ U4, w4.alloc (.cells #[.int .i64 t.kind, .int .i64 t.size, .int .i64 t.count, .slice Aw4 nw4 cw4, .slice Bw4 mw4 ew4] 25) = U4 := ⟨_, rfl⟩
   rw [hU4]
   have HEU4 := hid (by rw [← hU4]; exact (Ext.refl w4).alloc _ : Ext w4 U4)
   have o0U4 : U4.cell? ⟨w4.heap.size, 0, none⟩ = some (.int .i64 t.kind) := by rw [← hU4]; simp [go_sem]
   have o1U4 : U4.cell? ⟨w4.heap.size, 1, none⟩ = some (.int .i64 t.size) := by rw [← hU4]; simp [go_sem]
   have o2U4 : U4.cell? ⟨w4.heap.size, 2, none⟩ = some (.int .i64 t.count) := by rw [← hU4]; simp [go_sem]
   have o3U4 : U4.cell? ⟨w4.heap.size, 3, none⟩ = some (.slice Aw4 nw4 cw4) := by rw [← hU4]; simp [go_sem]
   have o4U4 : U4.cell? ⟨w4.heap.size, 4, none⟩ = some (.slice Bw4 mw4 ew4) := by rw [← hU4]; simp [go_sem]
   have HOU4 := hid (fun W (hW : Ext U4 W) => And.intro (hW.cell o0U4) (And.intro (hW.cell o1U4) (And.intro (hW.cell o2U4) (And.intro (hW.cell o3U4) (hW.cell o4U4)))))
   clear hU4 o0U4 o1U4 o2U4 o3U4 o4U4
   have E4 := hid (HXw4.out.trans HEU4.out)
   clear o0 o1 o2 o3 o4 u0 u1 u2 u3 u4
   obtain ⟨o0, o1, o2, o3, o4⟩ := HOU3.out U4 E4.out
   obtain ⟨q0, q1, q2, q3, q4⟩ := HOU4.out U4 (Ext.refl _)
   have HC4 := hid (same31_any (d + 3) U4 t t _ _ ((HTw3.out.ext HEU3.out).ext E4.out) (HTw4.out.ext HEU4.out))
   rw [sameT_refl] at HC4
   go_wp2_with fail
   refine HC4.out.mono ?_
   rintro e w5 ⟨rfl, hx⟩
   have HX5 := hid (HE0.out.trans (E3.out.trans (E4.out.trans hx)))
   clear hx o0 o1 o2 o3 o4 q0 q1 q2 q3 q4
   have HXLw6 := hid (lex_any w5 (HT.out.ext HX5.out) (HG.out.ext HX5.out))
   go_wp2_with fail
   refine HXLw6.out.mono ?_
   rintro e w6 ⟨rfl, hx⟩
   have HXw6 := hid (Ext.trans HX5.out hx)
   clear hx
   go_wp2
   go_ret
   exact ⟨rfl, HXw6.out⟩
end Go.Proofs.YtacmjhcfjhpkeaaGreatDoor
