/- The law RelocRebaseBack. -/
import Derived.Test.YtnlofhbimfcejaaRelP
namespace Go.Proofs.Ytnlofhbimfcejaa
open Go.RowKit Go.Deco
set_option linter.unusedSimpArgs false
set_option linter.unusedVariables false

set_option maxRecDepth 100000 in
set_option maxHeartbeats 8000000 in
theorem rbk_any (w : World) (o : Ob) (As Ay Ar : Option Addr) (ns cs ny cy nr cr : Nat) (he : o.entry < 4294967296) (hs : Sl secR w All (.slice As ns cs) o.secs) (hy : Sl symR w All (.slice Ay ny cy) o.syms) (hr : Sl relR w All (.slice Ar nr cr) o.rels) (m : Nat) (hm : m < 4294967296) :
    Calls Try.prog 9 #[.agg #[.int .u32 o.entry, .slice As ns cs, .slice Ay ny cy, .slice Ar nr cr], .int .u32 m] w (OneTrue w) := by
  have H32 := hid (ob32_of he hs hy)
  clear he hm
  obtain ⟨V0, hV0⟩ : ∃ W0, w.alloc (.cells #[.int .u32 o.entry, .slice As ns cs, .slice Ay ny cy, .slice Ar nr cr] 27) = W0 := ⟨_, rfl⟩
  have hE0 : Ext w V0 := by rw [← hV0]; exact (Ext.refl w).alloc _
  have hB : Box4 V0 w.heap.size (.int .u32 o.entry) (.slice As ns cs) (.slice Ay ny cy) (.slice Ar nr cr) := by rw [← hV0]; exact Box4.new w _ _ _ _ _
  have HB := hid hB
  have HE00 := hid hE0
  have hyc := hy.cap
  have hrc := hr.cap
  have HSM := hid (small_any V0 o As Ay Ar ns cs ny cy nr cr (hs.ext hE0) hyc hrc)
  have HS := hid hs
  have HY := hid hy
  have HR := hid hr
  obtain ⟨b0, b1, b2, b3, bf⟩ := HB.out
  clear hE0 hB hs hy hr hyc hrc bf
  go_enter Try.func9, Try.ntmps9
  go_wp2_with fail
  clear hV0 b0 b1 b2 b3
  refine (HSM.out).mono ?_
  rintro e w1 ⟨⟨b, rfl, hb⟩, hx1⟩
  have HX1 := hid hx1
  clear hx1
  cases b
  case' false =>
    clear hb
    go_wp2_with fail
    refine (example7_any _).mono ?_
    rintro e w2 ⟨rfl, hx2⟩
    have HX2 := hid (HE00.out.trans (HX1.out.trans hx2))
    clear hx2
    go_wp2
    go_ret
    exact ⟨rfl, HX2.out⟩
  have HSML := hid (hb rfl)
  have hE1 := HE00.out.trans HX1.out
  have HE1 := hid hE1
  have HBB := hid (HB.out.ext HX1.out)
  clear hb hE1
  obtain ⟨X, hX⟩ : ∃ X, (rebaseR o m).1 = X := ⟨_, rfl⟩
  obtain ⟨er, hEr⟩ : ∃ er, (rebaseR o m).2 = er := ⟨_, rfl⟩
  have hc1 := fun W (h : Ext w W) => (rlrebase_any W o As Ay Ar _ cs _ cy _ cr (HS.out.ext h) (HY.out.ext h) (HR.out.ext h) m).mono (fun e w' h => RebaseIs.obr h)
  rw [hX, hEr] at hc1
  have HC1 := hid hc1
  obtain ⟨Z, hZ⟩ : ∃ Z, (rebaseR o 0).1 = Z := ⟨_, rfl⟩
  obtain ⟨g, hg⟩ : ∃ g, (rebaseR o 0).2 = g := ⟨_, rfl⟩
  have hc2 := fun W (h : Ext w W) => (rlrebase_any W o As Ay Ar _ cs _ cy _ cr (HS.out.ext h) (HY.out.ext h) (HR.out.ext h) 0).mono (fun e w' h => RebaseIs.obr h)
  rw [hZ, hg] at hc2
  have HC2 := hid hc2
  have hgq : obCheck o = g ∧ (g = 0 → Z = o) := by
    rw [← hg, ← hZ]
    by_cases h0 : obCheck o = 0
    · have h1 : obCheck (moveOb o 0) = 0 := by rw [move_zero H32.out]; exact h0
      rw [rebaseR_ok h0 h1, move_zero H32.out]
      exact ⟨h0, fun _ => rfl⟩
    · rw [rebaseR_bad h0]
      exact ⟨rfl, fun h => absurd h h0⟩
  have hc3 := fun W (h : Ext w W) => rlcheck_any W o As Ay Ar _ cs _ cy _ cr (HS.out.ext h) (HY.out.ext h) (HR.out.ext h)
  rw [hgq.1] at hc3
  have HC3 := hid hc3
  have HGZ := hid hgq.2
  obtain ⟨k, hk⟩ : ∃ k, w32 (0 - (m : Int)) = k := ⟨_, rfl⟩
  have ek : IntKind.u32.wrap (0 - (m : Int)) = (k : Int) := by rw [wrap_w32, hk]
  have ek2 : IntKind.u32.wrap (-(m : Int)) = (k : Int) := by rw [wrap_w32, ← hk]; congr 2; omega
  have HEK := hid (And.intro ek ek2)
  have hback : er = 0 → rebaseR X k = (o, 0) := by
    intro h0
    by_cases h1 : obCheck o = 0
    · by_cases h2 : obCheck (moveOb o m) = 0
      · have hXm : X = moveOb o m := by rw [← hX, rebaseR_ok h1 h2]
        rw [hXm, rebaseR_ok h2 (by rw [move_back H32.out hk]; exact h1), move_back H32.out hk]
      · rw [← hEr, rebaseR_bad2 h1 h2] at h0
        exact absurd h0 h2
    · rw [← hEr, rebaseR_bad h1] at h0
      exact absurd h0 h1
  have HBK := hid hback
  clear hX hEr hc1 hZ hg hc2 hgq hc3 hk ek ek2 hback
  obtain ⟨V0', hV0'⟩ : ∃ V, V = w1 := ⟨_, rfl⟩
  have HD0 := hid (Ext.refl w1)
  obtain ⟨y0, y1, y2, y3, yf⟩ := HBB.out
  go_wp2_with fail
  clear y0 y1 y2 y3 yf hV0' V0'
  have hEw := HE1.out
  have HE1' : Hid (Ext w w1) := hid hEw
  clear hEw
  obtain ⟨V1, hV1⟩ : ∃ V, V = w1 := ⟨_, rfl⟩
  obtain rfl := hV1
  refine (HC1.out _ HE1.out).mono ?_
  rintro e w2 ⟨hx2, A2, B2, C2, a2, b2, c2, rfl, hs2, hy2, hr2⟩
  have hp2 := Box4.new w2 (.int .u32 X.entry) (.slice A2 X.secs.length a2) (.slice B2 X.syms.length b2) (.slice C2 X.rels.length c2) 27
  obtain ⟨V2, hV2⟩ : ∃ V, w2.alloc (.cells #[.int .u32 X.entry, .slice A2 X.secs.length a2, .slice B2 X.syms.length b2, .slice C2 X.rels.length c2] 27) = V := ⟨_, rfl⟩
  rw [hV2] at hp2
  have hA2 : Ext w2 V2 := by rw [← hV2]; exact (Ext.refl w2).alloc _
  have hE2 : Ext V1 V2 := hx2.trans hA2
  have HE2 := hid (HE1.out.trans hE2)
  have HD2 := hid hE2
  have HP2 := hid hp2
  have HS2 := hid (hs2.ext hA2)
  have HY2 := hid (hy2.ext hA2)
  have HR2 := hid (hr2.ext hA2)
  clear hx2 hs2 hy2 hr2 hE2 hA2 hp2
  obtain ⟨y0, y1, y2, y3, yf⟩ := HBB.out.ext HD2.out
  go_wp2_with fail
  clear y0 y1 y2 y3 yf hV2
  refine (HC2.out _ HE2.out).mono ?_
  rintro e w3 ⟨hx3, A3, B3, C3, a3, b3, c3, rfl, hs3, hy3, hr3⟩
  have hp3 := Box4.new w3 (.int .u32 Z.entry) (.slice A3 Z.secs.length a3) (.slice B3 Z.syms.length b3) (.slice C3 Z.rels.length c3) 27
  obtain ⟨V3, hV3⟩ : ∃ V, w3.alloc (.cells #[.int .u32 Z.entry, .slice A3 Z.secs.length a3, .slice B3 Z.syms.length b3, .slice C3 Z.rels.length c3] 27) = V := ⟨_, rfl⟩
  rw [hV3] at hp3
  have hA3 : Ext w3 V3 := by rw [← hV3]; exact (Ext.refl w3).alloc _
  have hE3 : Ext V2 V3 := hx3.trans hA3
  have HE3 := hid (HE2.out.trans hE3)
  have HD3 := hid hE3
  have HP3 := hid hp3
  have HS3 := hid (hs3.ext hA3)
  have HY3 := hid (hy3.ext hA3)
  have HR3 := hid (hr3.ext hA3)
  clear hx3 hs3 hy3 hr3 hE3 hA3 hp3
  obtain ⟨y0, y1, y2, y3, yf⟩ := HBB.out.ext (HD2.out.trans HD3.out)
  go_wp2_with fail
  clear y0 y1 y2 y3 yf hV3
  refine (HC3.out _ HE3.out).mono ?_
  rintro e w4 ⟨rfl, hx4⟩
  have HX4 := hid (HE3.out.trans hx4)
  have HD4 := hid hx4
  clear hx4
  have hgg : ((g : Int) != g) = false := by simp
  by_cases hg0 : g = 0
  case neg =>
    have n1 : ((g : Int) == 0) = false := by simp; omega
    have n2 : ((g : Int) != 0) = true := by simp; omega
    clear hg0
    by_cases he0 : er = 0
    case neg =>
      have n3 : ((er : Int) != 0) = true := by simp; omega
      clear he0
      go_wp2_with fail
      refine (example7_any _).mono ?_
      rintro e w7 ⟨rfl, hx7⟩
      have HX7 := hid (HX4.out.trans hx7)
      clear hx7
      go_wp2
      go_ret
      exact ⟨rfl, HX7.out⟩
    have HRB := hid (HBK.out he0)
    subst he0
    obtain ⟨p0, p1, p2, p3, -⟩ := HP2.out.ext (HD3.out.trans HD4.out)
    obtain ⟨ek, ek2⟩ := HEK.out
    have hc6 := (rlrebase_any w4 X A2 B2 C2 _ a2 _ b2 _ c2 (HS2.out.ext (HD3.out.trans HD4.out)) (HY2.out.ext (HD3.out.trans HD4.out)) (HR2.out.ext (HD3.out.trans HD4.out)) k).mono (fun e w' h => RebaseIs.obr h)
    rw [HRB.out] at hc6
    have HC6 := hid hc6
    clear hc6
    have HE5 := HX4
    go_wp2_with fail
    clear p0 p1 p2 p3 ek ek2
    obtain ⟨V5, hV5⟩ : ∃ V, V = w4 := ⟨_, rfl⟩
    obtain rfl := hV5
    refine (HC6.out).mono ?_
    rintro e w6 ⟨hx6, A6, B6, C6, a6, b6, c6, rfl, hs6, hy6, hr6⟩
    have hp6 := Box4.new w6 (.int .u32 o.entry) (.slice A6 o.secs.length a6) (.slice B6 o.syms.length b6) (.slice C6 o.rels.length c6) 27
    obtain ⟨V6, hV6⟩ : ∃ V, w6.alloc (.cells #[.int .u32 o.entry, .slice A6 o.secs.length a6, .slice B6 o.syms.length b6, .slice C6 o.rels.length c6] 27) = V := ⟨_, rfl⟩
    rw [hV6] at hp6
    have hA6 : Ext w6 V6 := by rw [← hV6]; exact (Ext.refl w6).alloc _
    have hE6 : Ext V5 V6 := hx6.trans hA6
    have HE6 := hid (HE5.out.trans hE6)
    have HD6 := hid hE6
    have HP6 := hid hp6
    have HS6 := hid (hs6.ext hA6)
    have HY6 := hid (hy6.ext hA6)
    have HR6 := hid (hr6.ext hA6)
    clear hx6 hs6 hy6 hr6 hE6 hA6 hp6
    obtain ⟨p0, p1, p2, p3, -⟩ := HP6.out
    obtain ⟨y0, y1, y2, y3, -⟩ := HBB.out.ext ((HD2.out.trans (HD3.out.trans HD4.out)).trans HD6.out)
    go_wp2_with fail
    clear p0 p1 p2 p3 y0 y1 y2 y3 hV6
    refine (same7_len V6 o A6 B6 C6 As Ay Ar _ _ _ ns ny nr a6 b6 c6 cs cy cr HS6.out HY6.out HR6.out (HS.out.ext HE6.out) (HY.out.ext HE6.out) (HR.out.ext HE6.out)).mono ?_
    rintro e w8 ⟨rfl, hx8⟩
    have HX8 := hid (HE6.out.trans hx8)
    clear hx8
    go_wp2_with fail
    refine (example7_any _).mono ?_
    rintro e w9 ⟨rfl, hx9⟩
    have HX9 := hid (HX8.out.trans hx9)
    clear hx9
    go_wp2
    go_ret
    exact ⟨rfl, HX9.out⟩
  have hZo := (HGZ.out hg0).symm
  subst hg0
  subst hZo
  obtain ⟨p0, p1, p2, p3, -⟩ := HP3.out.ext HD4.out
  obtain ⟨y0, y1, y2, y3, -⟩ := HBB.out.ext (HD2.out.trans (HD3.out.trans HD4.out))
  go_wp2_with fail
  clear p0 p1 p2 p3 y0 y1 y2 y3
  refine (same7_len w4 o A3 B3 C3 As Ay Ar _ _ _ ns ny nr a3 b3 c3 cs cy cr (HS3.out.ext HD4.out) (HY3.out.ext HD4.out) (HR3.out.ext HD4.out) (HS.out.ext HX4.out) (HY.out.ext HX4.out) (HR.out.ext HX4.out)).mono ?_
  rintro e w5 ⟨rfl, hx5⟩
  have HX5 := hid (HX4.out.trans hx5)
  have HD5 := hid (HD4.out.trans hx5)
  clear hx5
  by_cases he0 : er = 0
  case neg =>
    have n3 : ((er : Int) != 0) = true := by simp; omega
    clear he0
    go_wp2_with fail
    refine (example7_any _).mono ?_
    rintro e w7 ⟨rfl, hx7⟩
    have HX7 := hid (HX5.out.trans hx7)
    clear hx7
    go_wp2
    go_ret
    exact ⟨rfl, HX7.out⟩
  have HRB := hid (HBK.out he0)
  subst he0
  obtain ⟨p0, p1, p2, p3, -⟩ := HP2.out.ext (HD3.out.trans HD5.out)
  obtain ⟨ek, ek2⟩ := HEK.out
  have hc6 := (rlrebase_any w5 X A2 B2 C2 _ a2 _ b2 _ c2 (HS2.out.ext (HD3.out.trans HD5.out)) (HY2.out.ext (HD3.out.trans HD5.out)) (HR2.out.ext (HD3.out.trans HD5.out)) k).mono (fun e w' h => RebaseIs.obr h)
  rw [HRB.out] at hc6
  have HC6 := hid hc6
  clear hc6
  have HE5 := HX5
  go_wp2_with fail
  clear p0 p1 p2 p3 ek ek2
  obtain ⟨V5, hV5⟩ : ∃ V, V = w5 := ⟨_, rfl⟩
  obtain rfl := hV5
  refine (HC6.out).mono ?_
  rintro e w6 ⟨hx6, A6, B6, C6, a6, b6, c6, rfl, hs6, hy6, hr6⟩
  have hp6 := Box4.new w6 (.int .u32 o.entry) (.slice A6 o.secs.length a6) (.slice B6 o.syms.length b6) (.slice C6 o.rels.length c6) 27
  obtain ⟨V6, hV6⟩ : ∃ V, w6.alloc (.cells #[.int .u32 o.entry, .slice A6 o.secs.length a6, .slice B6 o.syms.length b6, .slice C6 o.rels.length c6] 27) = V := ⟨_, rfl⟩
  rw [hV6] at hp6
  have hA6 : Ext w6 V6 := by rw [← hV6]; exact (Ext.refl w6).alloc _
  have hE6 : Ext V5 V6 := hx6.trans hA6
  have HE6 := hid (HE5.out.trans hE6)
  have HD6 := hid hE6
  have HP6 := hid hp6
  have HS6 := hid (hs6.ext hA6)
  have HY6 := hid (hy6.ext hA6)
  have HR6 := hid (hr6.ext hA6)
  clear hx6 hs6 hy6 hr6 hE6 hA6 hp6
  obtain ⟨p0, p1, p2, p3, -⟩ := HP6.out
  obtain ⟨y0, y1, y2, y3, -⟩ := HBB.out.ext ((HD2.out.trans (HD3.out.trans HD5.out)).trans HD6.out)
  go_wp2_with fail
  clear p0 p1 p2 p3 y0 y1 y2 y3 hV6
  refine (same7_len V6 o A6 B6 C6 As Ay Ar _ _ _ ns ny nr a6 b6 c6 cs cy cr HS6.out HY6.out HR6.out (HS.out.ext HE6.out) (HY.out.ext HE6.out) (HR.out.ext HE6.out)).mono ?_
  rintro e w8 ⟨rfl, hx8⟩
  have HX8 := hid (HE6.out.trans hx8)
  clear hx8
  go_wp2_with fail
  refine (example7_any _).mono ?_
  rintro e w9 ⟨rfl, hx9⟩
  have HX9 := hid (HX8.out.trans hx9)
  clear hx9
  go_wp2
  go_ret
  exact ⟨rfl, HX9.out⟩
end Go.Proofs.Ytnlofhbimfcejaa
