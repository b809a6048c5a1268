/- The law RelocApply. -/
import Derived.Test.YtnlofhbimfcejaaRelP
import Derived.Test.YtnlofhbimfcejaaRelH
import Derived.Test.YtnlofhbimfcejaaR7F
namespace Go.Proofs.Ytnlofhbimfcejaa
open Go.RowKit Go.Deco
set_option linter.unusedSimpArgs false
set_option linter.unusedVariables false

set_option maxRecDepth 100000 in
set_option maxHeartbeats 8000000 in
theorem rap_any (w : World) (o : Ob) (As Ay Ar : Option Addr) (ns cs ny cy nr cr : Nat) (hs : Sl secR w All (.slice As ns cs) o.secs) (hy : Sl symR w All (.slice Ay ny cy) o.syms) (hr : Sl relR w All (.slice Ar nr cr) o.rels) :
    Calls Try.prog 5 #[.agg #[.int .u32 o.entry, .slice As ns cs, .slice Ay ny cy, .slice Ar nr cr]] w (OneTrue w) := by
  obtain ⟨V0, hV0⟩ : ∃ W0, w.alloc (.cells #[.int .u32 o.entry, .slice As ns cs, .slice Ay ny cy, .slice Ar nr cr] 27) = W0 := ⟨_, rfl⟩
  have hE0 : Ext w V0 := by rw [← hV0]; exact (Ext.refl w).alloc _
  have hB : Box4 V0 w.heap.size (.int .u32 o.entry) (.slice As ns cs) (.slice Ay ny cy) (.slice Ar nr cr) := by rw [← hV0]; exact Box4.new w _ _ _ _ _
  have HB := hid hB
  have HE00 := hid hE0
  have hyc := hy.cap
  have hrc := hr.cap
  have HSM := hid (small_any V0 o As Ay Ar ns cs ny cy nr cr (hs.ext hE0) hyc hrc)
  have HS := hid hs
  have HY := hid hy
  have HR := hid hr
  obtain ⟨b0, b1, b2, b3, bf⟩ := HB.out
  clear hE0 hB hs hy hr hyc hrc bf
  go_enter Try.func5, Try.ntmps5
  go_wp2_with fail
  clear hV0 b0 b1 b2 b3
  refine (HSM.out).mono ?_
  rintro e w1 ⟨⟨b, rfl, hb⟩, hx1⟩
  have HX1 := hid hx1
  clear hx1
  cases b
  case' false =>
    clear hb
    go_wp2_with fail
    refine (example7_any _).mono ?_
    rintro e w2 ⟨rfl, hx2⟩
    have HX2 := hid (HE00.out.trans (HX1.out.trans hx2))
    clear hx2
    go_wp2
    go_ret
    exact ⟨rfl, HX2.out⟩
  have HSML := hid (hb rfl)
  have hE1 := HE00.out.trans HX1.out
  have HE1 := hid hE1
  have HBB := hid (HB.out.ext HX1.out)
  clear hb hE1
  obtain ⟨X, hX⟩ : ∃ X, (applyR o).1 = X := ⟨_, rfl⟩
  obtain ⟨er, hEr⟩ : ∃ er, (applyR o).2 = er := ⟨_, rfl⟩
  have hc1 := fun W (h : Ext w W) => (rlapply_any W o As Ay Ar _ cs _ cy _ cr (HS.out.ext h) (HY.out.ext h) (HR.out.ext h)).mono (fun e w' h => ApplyIs.obr h)
  have hc2 := fun W (h : Ext w W) => apply7_any W o As Ay Ar _ _ _ _ _ _ (HS.out.ext h) (HY.out.ext h) (HR.out.ext h)
  rw [hX, hEr] at hc1 hc2
  have HC1 := hid hc1
  have HC2 := hid hc2
  clear hX hEr hc1 hc2
  obtain ⟨V0', hV0'⟩ : ∃ V, V = w1 := ⟨_, rfl⟩
  have HD0 := hid (Ext.refl w1)
  obtain ⟨y0, y1, y2, y3, yf⟩ := HBB.out
  go_wp2_with fail
  clear y0 y1 y2 y3 yf hV0' V0'
  have hEw := HE1.out
  have HE1' : Hid (Ext w w1) := hid hEw
  clear hEw
  obtain ⟨V1, hV1⟩ : ∃ V, V = w1 := ⟨_, rfl⟩
  obtain rfl := hV1
  refine (HC1.out _ HE1.out).mono ?_
  rintro e w2 ⟨hx2, A2, B2, C2, a2, b2, c2, rfl, hs2, hy2, hr2⟩
  have hp2 := Box4.new w2 (.int .u32 X.entry) (.slice A2 X.secs.length a2) (.slice B2 X.syms.length b2) (.slice C2 X.rels.length c2) 27
  obtain ⟨V2, hV2⟩ : ∃ V, w2.alloc (.cells #[.int .u32 X.entry, .slice A2 X.secs.length a2, .slice B2 X.syms.length b2, .slice C2 X.rels.length c2] 27) = V := ⟨_, rfl⟩
  rw [hV2] at hp2
  have hA2 : Ext w2 V2 := by rw [← hV2]; exact (Ext.refl w2).alloc _
  have hE2 : Ext V1 V2 := hx2.trans hA2
  have HE2 := hid (HE1.out.trans hE2)
  have HD2 := hid hE2
  have HP2 := hid hp2
  have HS2 := hid (hs2.ext hA2)
  have HY2 := hid (hy2.ext hA2)
  have HR2 := hid (hr2.ext hA2)
  clear hx2 hs2 hy2 hr2 hE2 hA2 hp2
  obtain ⟨y0, y1, y2, y3, yf⟩ := HBB.out.ext HD2.out
  go_wp2_with fail
  clear y0 y1 y2 y3 yf hV2
  refine (HC2.out _ HE2.out).mono ?_
  rintro e w3 ⟨hx3, A3, B3, C3, a3, b3, c3, rfl, hs3, hy3, hr3⟩
  have hp3 := Box4.new w3 (.int .u32 X.entry) (.slice A3 X.secs.length a3) (.slice B3 X.syms.length b3) (.slice C3 X.rels.length c3) 27
  obtain ⟨V3, hV3⟩ : ∃ V, w3.alloc (.cells #[.int .u32 X.entry, .slice A3 X.secs.length a3, .slice B3 X.syms.length b3, .slice C3 X.rels.length c3] 27) = V := ⟨_, rfl⟩
  rw [hV3] at hp3
  have hA3 : Ext w3 V3 := by rw [← hV3]; exact (Ext.refl w3).alloc _
  have hE3 : Ext V2 V3 := hx3.trans hA3
  have HE3 := hid (HE2.out.trans hE3)
  have HD3 := hid hE3
  have HP3 := hid hp3
  have HS3 := hid (hs3.ext hA3)
  have HY3 := hid (hy3.ext hA3)
  have HR3 := hid (hr3.ext hA3)
  clear hx3 hs3 hy3 hr3 hE3 hA3 hp3
  obtain ⟨p0, p1, p2, p3, -⟩ := HP2.out.ext HD3.out
  obtain ⟨q0, q1, q2, q3, -⟩ := HP3.out
  have hee : ((er : Int) == er) = true := by simp
  go_wp2_with fail
  clear p0 p1 p2 p3 q0 q1 q2 q3 hee hV3
  refine (same7_len V3 X A2 B2 C2 A3 B3 C3 _ _ _ _ _ _ a2 b2 c2 a3 b3 c3 (HS2.out.ext HD3.out) (HY2.out.ext HD3.out) (HR2.out.ext HD3.out) HS3.out HY3.out HR3.out).mono ?_
  rintro e w5 ⟨rfl, hx5⟩
  have HX5 := hid (HE3.out.trans hx5)
  clear hx5
  go_wp2_with fail
  refine (example7_any _).mono ?_
  rintro e w7 ⟨rfl, hx7⟩
  have HX7 := hid (HX5.out.trans hx7)
  clear hx7
  go_wp2
  go_ret
  exact ⟨rfl, HX7.out⟩
end Go.Proofs.Ytnlofhbimfcejaa
