/- The law RelocLocal (not finished). -/
import Derived.Test.YtnlofhbimfcejaaRelP
import Derived.Test.YtnlofhbimfcejaaRloN
namespace Go.Proofs.Ytnlofhbimfcejaa
open Go.RowKit Go.Deco
set_option linter.unusedSimpArgs false
set_option linter.unusedVariables false

/-- A box for a section, not yet written. -/
structure ZSec (lo a : Nat) (w : World) : Prop where
  c0 : w.cell? ⟨a, 0, none⟩ = some (.string ⟨#[]⟩)
  c1 : w.cell? ⟨a, 1, none⟩ = some (.int .u32 0)
  c2 : w.cell? ⟨a, 2, none⟩ = some (.slice none 0 0)
  c3 : w.cell? ⟨a, 3, none⟩ = some (.bool false)
  c4 : w.cell? ⟨a, 4, none⟩ = some (.bool false)
  fz : ∀ i, w.frozen? ⟨a, i, none⟩ = false
  lt : a < w.heap.size
  ge : lo ≤ a
theorem ZSec.ext {lo a : Nat} {w w' : World} (h : ZSec lo a w) (he : Ext w w') : ZSec lo a w' :=
  ⟨he.cell h.c0, he.cell h.c1, he.cell h.c2, he.cell h.c3, he.cell h.c4, fun i => (he.frozen (p := ⟨a, i, none⟩) h.lt).trans (h.fz i), Nat.lt_of_lt_of_le h.lt he.size, h.ge⟩
theorem extAllocZ {a w : World} (h : Ext a w) : ∃ wA sz, w.alloc (.cells #[.string ⟨#[]⟩, .int .u32 0, .slice none 0 0, .bool false, .bool false] 46) = wA ∧ w.heap.size = sz ∧ Ext w wA ∧ ZSec a.heap.size sz wA :=
  ⟨_, _, rfl, rfl, (Ext.refl w).alloc _, ⟨by simp [go_sem], by simp [go_sem], by simp [go_sem], by simp [go_sem], by simp [go_sem], fun i => by simp [go_sem], by simp, h.size⟩⟩
def put5 (w : World) (a : Nat) (v0 v1 v2 v3 v4 : Value) : World := ((((w.setCell ⟨a, 0, none⟩ v0).setCell ⟨a, 1, none⟩ v1).setCell ⟨a, 2, none⟩ v2).setCell ⟨a, 3, none⟩ v3).setCell ⟨a, 4, none⟩ v4
theorem put5_cells {lo a : Nat} {w : World} (h : ZSec lo a w) (v0 v1 v2 v3 v4 : Value) : (put5 w a v0 v1 v2 v3 v4).cell? ⟨a, 0, none⟩ = some v0 ∧ (put5 w a v0 v1 v2 v3 v4).cell? ⟨a, 1, none⟩ = some v1 ∧ (put5 w a v0 v1 v2 v3 v4).cell? ⟨a, 2, none⟩ = some v2 := by
  refine ⟨?_, ?_, ?_⟩ <;> simp [put5, World.cell?_setCell_same, World.cell?_setCell_other, h.c0, h.c1, h.c2, h.c3, h.c4]
theorem put5_ext {w0 w : World} {a : Nat} (he : Ext w0 w) (hg : w0.heap.size ≤ a) (v0 v1 v2 v3 v4 : Value) : Ext w0 (put5 w a v0 v1 v2 v3 v4) := ((((he.setCell hg _).setCell hg _).setCell hg _).setCell hg _).setCell hg _
theorem put5_far {w : World} {a b i : Nat} {v : Value} (hne : a ≠ b) (hc : w.cell? ⟨b, i, none⟩ = some v) (v0 v1 v2 v3 v4 : Value) : (put5 w a v0 v1 v2 v3 v4).cell? ⟨b, i, none⟩ = some v := by
  have e : ∀ j, (⟨a, j, none⟩ : Addr) ≠ ⟨b, i, none⟩ := fun j h => hne (congrArg Addr.block h)
  unfold put5
  rw [World.cell?_setCell_other _ _ _ _ (e 4), World.cell?_setCell_other _ _ _ _ (e 3), World.cell?_setCell_other _ _ _ _ (e 2), World.cell?_setCell_other _ _ _ _ (e 1), World.cell?_setCell_other _ _ _ _ (e 0)]
  exact hc
theorem ZSec.far {lo a b : Nat} {w : World} (h : ZSec lo b w) (hne : a ≠ b) (v0 v1 v2 v3 v4 : Value) : ZSec lo b (put5 w a v0 v1 v2 v3 v4) :=
  ⟨put5_far hne h.c0 .., put5_far hne h.c1 .., put5_far hne h.c2 .., put5_far hne h.c3 .., put5_far hne h.c4 .., fun i => by unfold put5; simp only [World.frozen?_setCell]; exact h.fz i, by unfold put5; simpa using h.lt, h.ge⟩
theorem extc12 {w w' : World} {p0 p1 p2 p3 p4 p5 p6 p7 p8 p9 p10 p11 : Addr} {u0 u1 u2 u3 u4 u5 u6 u7 u8 u9 u10 u11 : Value} (h : w.cell? p0 = some u0 ∧ w.cell? p1 = some u1 ∧ w.cell? p2 = some u2 ∧ w.cell? p3 = some u3 ∧ w.cell? p4 = some u4 ∧ w.cell? p5 = some u5 ∧ w.cell? p6 = some u6 ∧ w.cell? p7 = some u7 ∧ w.cell? p8 = some u8 ∧ w.cell? p9 = some u9 ∧ w.cell? p10 = some u10 ∧ w.cell? p11 = some u11) (he : Ext w w') : w'.cell? p0 = some u0 ∧ w'.cell? p1 = some u1 ∧ w'.cell? p2 = some u2 ∧ w'.cell? p3 = some u3 ∧ w'.cell? p4 = some u4 ∧ w'.cell? p5 = some u5 ∧ w'.cell? p6 = some u6 ∧ w'.cell? p7 = some u7 ∧ w'.cell? p8 = some u8 ∧ w'.cell? p9 = some u9 ∧ w'.cell? p10 = some u10 ∧ w'.cell? p11 = some u11 := by
  obtain ⟨h0, h1, h2, h3, h4, h5, h6, h7, h8, h9, h10, h11⟩ := h
  exact ⟨he.cell h0, he.cell h1, he.cell h2, he.cell h3, he.cell h4, he.cell h5, he.cell h6, he.cell h7, he.cell h8, he.cell h9, he.cell h10, he.cell h11⟩

set_option maxRecDepth 100000 in
set_option maxHeartbeats 8000000 in
theorem rlo_any (w : World) (o : Ob) (As Ay Ar : Option Addr) (ns cs ny cy nr cr : Nat) (hs : Sl secR w All (.slice As ns cs) o.secs) (hy : Sl symR w All (.slice Ay ny cy) o.syms) (hr : Sl relR w All (.slice Ar nr cr) o.rels) :
    Calls Try.prog 6 #[.agg #[.int .u32 o.entry, .slice As ns cs, .slice Ay ny cy, .slice Ar nr cr]] w (OneTrue w) := by
  have HCS := hid hs.cap
  have HLS := hid hs.len
  have HLY := hid hy.len
  have HLR := hid hr.len
  obtain ⟨V0, hV0⟩ : ∃ W0, w.alloc (.cells #[.int .u32 o.entry, .slice As ns cs, .slice Ay ny cy, .slice Ar nr cr] 27) = W0 := ⟨_, rfl⟩
  have hE0 : Ext w V0 := by rw [← hV0]; exact (Ext.refl w).alloc _
  have hB : Box4 V0 w.heap.size (.int .u32 o.entry) (.slice As ns cs) (.slice Ay ny cy) (.slice Ar nr cr) := by rw [← hV0]; exact Box4.new w _ _ _ _ _
  have HB := hid hB
  have HE00 := hid hE0
  have hyc := hy.cap
  have hrc := hr.cap
  have HSM := hid (small_any V0 o As Ay Ar ns cs ny cy nr cr (hs.ext hE0) hyc hrc)
  have HS := hid hs
  have HY := hid hy
  have HR := hid hr
  obtain ⟨b0, b1, b2, b3, bf⟩ := HB.out
  clear hE0 hB hs hy hr hyc hrc bf
  go_enter Try.func6, Try.ntmps6
  go_wp2_with fail
  clear hV0 b0 b1 b2 b3
  refine (HSM.out).mono ?_
  rintro e w1 ⟨⟨b, rfl, hb⟩, hx1⟩
  have HX1 := hid hx1
  clear hx1
  cases b
  case' false =>
    clear hb
    go_wp2_with fail
    refine (example7_any _).mono ?_
    rintro e w2 ⟨rfl, hx2⟩
    have HX2 := hid (HE00.out.trans (HX1.out.trans hx2))
    clear hx2
    go_wp2
    go_ret
    exact ⟨rfl, HX2.out⟩
  have HSML := hid (hb rfl)
  have hE1 := HE00.out.trans HX1.out
  have HE1 := hid hE1
  have HBB := hid (HB.out.ext HX1.out)
  clear hb hE1
  obtain ⟨V0', hV0'⟩ : ∃ V, V = w1 := ⟨_, rfl⟩
  have HD0 := hid (Ext.refl w1)
  obtain ⟨y0, y1, y2, y3, yf⟩ := HBB.out
  go_wp2_with fail
  clear y0 y1 y2 y3 yf hV0' V0'
  have hEw := HE1.out
  have HE1' : Hid (Ext w w1) := hid hEw
  clear hEw
  obtain ⟨V1, hV1⟩ : ∃ V, V = w1 := ⟨_, rfl⟩
  obtain rfl := hV1
  have hc1 := fun W (h : Ext w W) => (rlapply_any W o As Ay Ar _ cs _ cy _ cr (HS.out.ext h) (HY.out.ext h) (HR.out.ext h)).mono (fun e w' h => ApplyIs.obr h)
  by_cases h0 : obCheck o = 0
  case neg =>
    obtain ⟨er, hEr⟩ : ∃ er, obCheck o = er := ⟨_, rfl⟩
    obtain ⟨X, hX⟩ : ∃ X, X = Ob.zero := ⟨_, rfl⟩
    have e : applyR o = (Ob.zero, obCheck o) := by rw [applyR, if_neg h0]
    rw [e] at hc1
    dsimp only at hc1
    rw [← hX, hEr] at hc1
    have HC1 := hid hc1
    have n1 : ((er : Int) != 0) = true := by rw [← hEr]; simp; omega
    have xl : X.secs.length = 0 := by rw [hX]; rfl
    have HXL := hid xl
    clear hc1 hEr hX e h0 xl
    refine (HC1.out _ HE1.out).mono ?_
    rintro e w2 ⟨hx2, A2, B2, C2, a2, b2, c2, rfl, hs2, hy2, hr2⟩
    have hp2 := Box4.new w2 (.int .u32 X.entry) (.slice A2 X.secs.length a2) (.slice B2 X.syms.length b2) (.slice C2 X.rels.length c2) 27
    obtain ⟨V2, hV2⟩ : ∃ V, w2.alloc (.cells #[.int .u32 X.entry, .slice A2 X.secs.length a2, .slice B2 X.syms.length b2, .slice C2 X.rels.length c2] 27) = V := ⟨_, rfl⟩
    rw [hV2] at hp2
    have hA2 : Ext w2 V2 := by rw [← hV2]; exact (Ext.refl w2).alloc _
    have hE2 : Ext V1 V2 := hx2.trans hA2
    have HE2 := hid (HE1.out.trans hE2)
    have HD2 := hid hE2
    have HP2 := hid hp2
    have HS2 := hid (hs2.ext hA2)
    have HY2 := hid (hy2.ext hA2)
    have HR2 := hid (hr2.ext hA2)
    clear hx2 hs2 hy2 hr2 hE2 hA2 hp2
    obtain ⟨p0, p1, p2, p3, -⟩ := HP2.out
    have xl2 : ((X.secs.length : Int) == 0) = true := by rw [HXL.out]; rfl
    go_wp2_with fail
    clear p0 p1 p2 p3 xl2 n1 hV2
    refine (example7_any _).mono ?_
    rintro e w7 ⟨rfl, hx7⟩
    have HX7 := hid (HE2.out.trans hx7)
    clear hx7
    go_wp2
    go_ret
    exact ⟨rfl, HX7.out⟩
  obtain ⟨X, hX⟩ : ∃ X, applyOb o = X := ⟨_, rfl⟩
  have e : applyR o = (X, 0) := by rw [applyR, if_pos h0, hX]
  have e2 : applyR X = (X, 0) := by rw [← hX]; exact applyR_twice h0
  rw [e] at hc1
  dsimp only at hc1
  have HC1 := hid hc1
  have HAP := hid e2
  have HZ := hid h0
  have HXD := hid hX
  have xe : X.entry = o.entry := by rw [← hX]; rfl
  have xy : X.syms = o.syms := by rw [← hX]; rfl
  have xr : X.rels.length = 0 := by rw [← hX]; rfl
  have xs : X.secs.length = ns := by rw [← hX]; exact (fold_len o.rels o.secs).trans HLS.out.symm
  have HXE := hid (And.intro xe (And.intro xy (And.intro xr xs)))
  clear hc1 e e2 h0 hX xe xy xr xs
  refine (HC1.out _ HE1.out).mono ?_
  rintro e w2 ⟨hx2, A2, B2, C2, a2, b2, c2, rfl, hs2, hy2, hr2⟩
  have hp2 := Box4.new w2 (.int .u32 X.entry) (.slice A2 X.secs.length a2) (.slice B2 X.syms.length b2) (.slice C2 X.rels.length c2) 27
  obtain ⟨V2, hV2⟩ : ∃ V, w2.alloc (.cells #[.int .u32 X.entry, .slice A2 X.secs.length a2, .slice B2 X.syms.length b2, .slice C2 X.rels.length c2] 27) = V := ⟨_, rfl⟩
  rw [hV2] at hp2
  have hA2 : Ext w2 V2 := by rw [← hV2]; exact (Ext.refl w2).alloc _
  have hE2 : Ext V1 V2 := hx2.trans hA2
  have HE2 := hid (HE1.out.trans hE2)
  have HD2 := hid hE2
  have HP2 := hid hp2
  have HS2 := hid (hs2.ext hA2)
  have HY2 := hid (hy2.ext hA2)
  have HR2 := hid (hr2.ext hA2)
  clear hx2 hs2 hy2 hr2 hE2 hA2 hp2
  obtain ⟨p0, p1, p2, p3, -⟩ := HP2.out
  go_wp2_with fail
  clear p0 p1 p2 p3 hV2
  have hc2 := (rlapply_any V2 X A2 B2 C2 _ a2 _ b2 _ c2 HS2.out HY2.out HR2.out).mono (fun e w' h => ApplyIs.obr h)
  rw [HAP.out] at hc2
  dsimp only at hc2
  have HC2 := hid hc2
  clear hc2
  refine (HC2.out).mono ?_
  rintro e w3 ⟨hx3, A3, B3, C3, a3, b3, c3, rfl, hs3, hy3, hr3⟩
  have hp3 := Box4.new w3 (.int .u32 X.entry) (.slice A3 X.secs.length a3) (.slice B3 X.syms.length b3) (.slice C3 X.rels.length c3) 27
  obtain ⟨V3, hV3⟩ : ∃ V, w3.alloc (.cells #[.int .u32 X.entry, .slice A3 X.secs.length a3, .slice B3 X.syms.length b3, .slice C3 X.rels.length c3] 27) = V := ⟨_, rfl⟩
  rw [hV3] at hp3
  have hA3 : Ext w3 V3 := by rw [← hV3]; exact (Ext.refl w3).alloc _
  have hE3 : Ext V2 V3 := hx3.trans hA3
  have HE3 := hid (HE2.out.trans hE3)
  have HD3 := hid hE3
  have HP3 := hid hp3
  have HS3 := hid (hs3.ext hA3)
  have HY3 := hid (hy3.ext hA3)
  have HR3 := hid (hr3.ext hA3)
  clear hx3 hs3 hy3 hr3 hE3 hA3 hp3
  obtain ⟨p0, p1, p2, p3, -⟩ := HP2.out.ext HD3.out
  obtain ⟨q0, q1, q2, q3, -⟩ := HP3.out
  go_wp2_with fail
  clear p0 p1 p2 p3 q0 q1 q2 q3 hV3
  refine (same7_len V3 X A3 B3 C3 A2 B2 C2 _ _ _ _ _ _ a3 b3 c3 a2 b2 c2 HS3.out HY3.out HR3.out (HS2.out.ext HD3.out) (HY2.out.ext HD3.out) (HR2.out.ext HD3.out)).mono ?_
  rintro e w5 ⟨rfl, hx5⟩
  have HX5 := hid (HE3.out.trans hx5)
  have HD5 := hid (HD3.out.trans hx5)
  clear hx5
  obtain ⟨p0, p1, p2, p3, -⟩ := HP2.out.ext HD5.out
  obtain ⟨y0, y1, y2, y3, -⟩ := HBB.out.ext (HD2.out.trans HD5.out)
  obtain ⟨xe, xy, xr, xs⟩ := HXE.out
  go_wp2_with fail
  have hsy : Calls Try.prog 22 #[.slice B2 o.syms.length b2, .slice Ay ny cy] w5 (BoolTo w5 true) := by
    have hB := HY2.out.ext HD5.out
    rw [xy] at hB
    have hA := HY.out.ext HX5.out
    rw [HLY.out] at hA ⊢
    exact ssyms_eq w5 B2 Ay _ b2 cy o.syms hB hA
  refine hsy.mono ?_
  rintro e w6 ⟨rfl, hx6⟩
  have HX6 := hid (HX5.out.trans hx6)
  have HD6 := hid (HD5.out.trans hx6)
  have p1 := hx6.cell p1
  have p3 := hx6.cell p3
  have y1 := hx6.cell y1
  have y0 := hx6.cell y0
  have y2 := hx6.cell y2
  have y3 := hx6.cell y3
  clear hx6 hsy xe xy p0 p2
  have hsi := rlsites_any w6 o As Ay Ar ns cs ny cy nr cr (HS.out.ext HX6.out) (HR.out.ext HX6.out) (by have := (ob_small HZ.out).2.2.2; have := HLR.out; omega)
  have HSI := hid hsi
  clear hsi
  go_wp2_with fail
  refine (HSI.out).mono ?_
  rintro e w7 ⟨hx7, AQ, cq, rfl, hsq⟩
  have HX7 := hid (HX6.out.trans hx7)
  have HD7 := hid (HD6.out.trans hx7)
  have HSQ := hid hsq
  obtain ⟨Q, hQ⟩ : ∃ Q, asc (placesOf o) = Q := ⟨_, rfl⟩
  rw [hQ] at HSQ ⊢
  have HQ := hid hQ
  clear hx7 hsq hQ xr xs p1 p3 y0 y1 y2 y3
  have HBX := hid (HBB.out.ext (HD2.out.trans HD7.out))
  have HPX := hid (HP2.out.ext HD7.out)
  go_wp2
  go_loopw [8] (fun i wr => ∃ k : Nat, k ≤ ns ∧ i = .int .i64 k ∧ Hid (Ext w7 wr)) (fun i _ => ns - (intOf i).toNat)
  case atStart => exact ⟨0, by omega, rfl, hid (Ext.refl _)⟩
  case round =>
    obtain ⟨i, hi, rfl, HX⟩ := hrel
    obtain ⟨p0, p1, p2, p3, -⟩ := HPX.out.ext HX.out
    obtain ⟨y0, y1, y2, y3, -⟩ := HBX.out.ext HX.out
    by_cases h1 : i < ns
    · have HI := hid h1
      obtain ⟨s, hs⟩ : ∃ s, o.secs[i]? = some s := ⟨_, List.getElem?_eq_getElem (by have := HLS.out; omega)⟩
      obtain ⟨s', hs', hkey⟩ : ∃ s', X.secs[i]? = some s' ∧ secKey s' = secKey s := by
        rw [← HXD.out]
        exact shape_at (fold_shape _ (relsErr_each (obCheck_zero HZ.out).2.2.2.1)) hs
      obtain ⟨b1, o1, dA, dc, rfl, hdA, hcpA, hadA, -, a0, a1, a2', a3', a4⟩ := Sl.sec_at (HS.out.ext (HX7.out.trans HX.out)) hs
      have hs2 := HS2.out.ext (HD7.out.trans HX.out)
      obtain ⟨b2', o2, dB, dd, rfl, hdB, -, -, -, e0, e1, e2, e3, e4⟩ := Sl.sec_at hs2 hs'
      have HDA := hid hdA
      have HDB := hid hdB
      have HCPA := hid hcpA
      have HADA := hid hadA
      have HSS := hid hs
      have HSS2 := hid hs'
      clear hdA hdB hcpA hadA
      have hXs := HXE.out.2.2.2
      rw [hXs] at p1
      have HCC := hid (And.intro y1 (And.intro p1 (And.intro a0 (And.intro a1 (And.intro a2' (And.intro a3' (And.intro a4 (And.intro e0 (And.intro e1 (And.intro e2 (And.intro e3 e4)))))))))))
      go_wp2_with fail
      have HXg32q_0 := hid ((Ext.refl wr).drew)
      refine wp_region_held_drew (S := (fun w' => w'.cell? ⟨w.heap.size, 1, none⟩ = some (.slice (some ⟨b1, o1, none⟩) ns cs) ∧ w'.cell? ⟨w2.heap.size, 1, none⟩ = some (.slice (some ⟨b2', o2, none⟩) ns a2) ∧ w'.cell? ⟨b1, o1 + i * 5, none⟩ = some (.string s.name) ∧ w'.cell? ⟨b1, o1 + i * 5 + 1, none⟩ = some (.int .u32 s.addr) ∧ w'.cell? ⟨b1, o1 + i * 5 + 2, none⟩ = some (.slice dA s.data.length dc) ∧ w'.cell? ⟨b1, o1 + i * 5 + 3, none⟩ = some (.bool s.wr) ∧ w'.cell? ⟨b1, o1 + i * 5 + 4, none⟩ = some (.bool s.ex) ∧ w'.cell? ⟨b2', o2 + i * 5, none⟩ = some (.string s'.name) ∧ w'.cell? ⟨b2', o2 + i * 5 + 1, none⟩ = some (.int .u32 s'.addr) ∧ w'.cell? ⟨b2', o2 + i * 5 + 2, none⟩ = some (.slice dB s'.data.length dd) ∧ w'.cell? ⟨b2', o2 + i * 5 + 3, none⟩ = some (.bool s'.wr) ∧ w'.cell? ⟨b2', o2 + i * 5 + 4, none⟩ = some (.bool s'.ex))) (by kernel_rfl) HCC.out (fun hSg32q0 => ?_)
      refine wpAnyH_takeL (i := 0) (v := ?g32qv0x1) rfl (by kernel_rfl) (by kernel_rfl) (by kernel_rfl) (fun _ _ _ h => h) (Or.inl ⟨by rfl, ?g32qy0x1⟩) (by assumption) ?g32qr0x1
      case g32qy0x1 => first | (intro w hSw; (try dsimp only at hSw); go_simp; done) | (intro w hSw; (try dsimp only at hSw); go_simp; with_reducible rfl)
      case' g32qr0x1 => try simp only [Act.put, List.setIfInBounds_toArray, List.set_cons_zero, List.set_cons_succ]
      refine wpAnyH_takeL (i := 1) (v := ?g32qv1x2) rfl (by kernel_rfl) (by kernel_rfl) (by kernel_rfl) (fun _ _ _ h => h) (Or.inl ⟨by rfl, ?g32qy1x2⟩) (by assumption) ?g32qr1x2
      case g32qy1x2 => first | (intro w hSw; (try dsimp only at hSw); go_simp; done) | (intro w hSw; (try dsimp only at hSw); go_simp; with_reducible rfl)
      case' g32qr1x2 => try simp only [Act.put, List.setIfInBounds_toArray, List.set_cons_zero, List.set_cons_succ]
      refine wpAnyH_takeL (i := 2) (v := ?g32qv2x3) rfl (by kernel_rfl) (by kernel_rfl) (by kernel_rfl) (fun _ _ _ h => h) (Or.inl ⟨by rfl, ?g32qy2x3⟩) (by assumption) ?g32qr2x3
      case g32qy2x3 => first | (intro w hSw; (try dsimp only at hSw); go_simp; done) | (intro w hSw; (try dsimp only at hSw); go_simp; with_reducible rfl)
      case' g32qr2x3 => try simp only [Act.put, List.setIfInBounds_toArray, List.set_cons_zero, List.set_cons_succ]
      refine wpAnyH_takeL (i := 3) (v := ?g32qv3x4) rfl (by kernel_rfl) (by kernel_rfl) (by kernel_rfl) (fun _ _ _ h => h) (Or.inl ⟨by rfl, ?g32qy3x4⟩) (by assumption) ?g32qr3x4
      case g32qy3x4 => first | (intro w hSw; (try dsimp only at hSw); go_simp; done) | (intro w hSw; (try dsimp only at hSw); go_simp; with_reducible rfl)
      case' g32qr3x4 => try simp only [Act.put, List.setIfInBounds_toArray, List.set_cons_zero, List.set_cons_succ]
      refine wpAnyH_takeL (i := 4) (v := ?g32qv4x5) rfl (by kernel_rfl) (by kernel_rfl) (by kernel_rfl) (fun _ _ _ h => h) (Or.inl ⟨by rfl, ?g32qy4x5⟩) (by assumption) ?g32qr4x5
      case g32qy4x5 => first | (intro w hSw; (try dsimp only at hSw); go_simp; done) | (intro w hSw; (try dsimp only at hSw); go_simp; with_reducible rfl)
      case' g32qr4x5 => try simp only [Act.put, List.setIfInBounds_toArray, List.set_cons_zero, List.set_cons_succ]
      refine wpAnyH_takeL (i := 5) (v := ?g32qv5x6) rfl (by kernel_rfl) (by kernel_rfl) (by kernel_rfl) (fun _ _ _ h => h) (Or.inl ⟨by rfl, ?g32qy5x6⟩) (by assumption) ?g32qr5x6
      case g32qy5x6 => first | (intro w hSw; (try dsimp only at hSw); go_simp; done) | (intro w hSw; (try dsimp only at hSw); go_simp; with_reducible rfl)
      case' g32qr5x6 => try simp only [Act.put, List.setIfInBounds_toArray, List.set_cons_zero, List.set_cons_succ]
      refine wpAnyH_takeL (i := 6) (v := ?g32qv6x7) rfl (by kernel_rfl) (by kernel_rfl) (by kernel_rfl) (fun _ _ _ h => h) (Or.inl ⟨by rfl, ?g32qy6x7⟩) (by assumption) ?g32qr6x7
      case g32qy6x7 => first | (intro w hSw; (try dsimp only at hSw); go_simp; done) | (intro w hSw; (try dsimp only at hSw); go_simp; with_reducible rfl)
      case' g32qr6x7 => try simp only [Act.put, List.setIfInBounds_toArray, List.set_cons_zero, List.set_cons_succ]
      refine wpAnyH_takeL (i := 7) (v := ?g32qv7x8) rfl (by kernel_rfl) (by kernel_rfl) (by kernel_rfl) (fun _ _ _ h => h) (Or.inl ⟨by rfl, ?g32qy7x8⟩) (by assumption) ?g32qr7x8
      case g32qy7x8 => first | (intro w hSw; (try dsimp only at hSw); go_simp; done) | (intro w hSw; (try dsimp only at hSw); go_simp; with_reducible rfl)
      case' g32qr7x8 => try simp only [Act.put, List.setIfInBounds_toArray, List.set_cons_zero, List.set_cons_succ]
      refine wpAnyH_takeL (i := 8) (v := ?g32qv8x9) rfl (by kernel_rfl) (by kernel_rfl) (by kernel_rfl) (fun _ _ _ h => h) (Or.inl ⟨by rfl, ?g32qy8x9⟩) (by assumption) ?g32qr8x9
      case g32qy8x9 => first | (intro w hSw; (try dsimp only at hSw); go_simp; done) | (intro w hSw; (try dsimp only at hSw); go_simp; with_reducible rfl)
      case' g32qr8x9 => try simp only [Act.put, List.setIfInBounds_toArray, List.set_cons_zero, List.set_cons_succ]
      refine wpAnyH_takeL (i := 9) (v := ?g32qv9x10) rfl (by kernel_rfl) (by kernel_rfl) (by kernel_rfl) (fun _ _ _ h => h) (Or.inl ⟨by rfl, ?g32qy9x10⟩) (by assumption) ?g32qr9x10
      case g32qy9x10 => first | (intro w hSw; (try dsimp only at hSw); go_simp; done) | (intro w hSw; (try dsimp only at hSw); go_simp; with_reducible rfl)
      case' g32qr9x10 => try simp only [Act.put, List.setIfInBounds_toArray, List.set_cons_zero, List.set_cons_succ]
      refine wpAnyH_ready (rs := [10, 11]) (by kernel_rfl) (by simp) ?_
      refine (AllReadyH.consL rfl (fun K hK => ?g32qb10x11) (AllReadyH.consL rfl (fun K hK => ?g32qb11x11) AllReadyH.nil))
      case' g32qb10x11 =>
        go_simp
        obtain ⟨wL, aZ, hA1, hsz, hEg32q1, hob⟩ := extAllocZ HXg32q_0.out
        try have HNE := hid (show aZ ≠ bZ by have := HZB.out.lt; omega)
        refine Eq.mpr (congrArg (K _) hA1) ?_
        first | rw [hsz] | (have hq : wr.heap.size = aZ := hsz; rw [hq]; clear hq) | skip
        have HZA := hid hob
        clear hA1 hsz hob
        have HXg32q_1 := hid (HXg32q_0.out.trans hEg32q1)
        clear hEg32q1
        refine hK.out _ _ (extc12 HCC.out HXg32q_1.out) (fun hSg32q1 => ?_)
        clear hK K
        try simp only [Act.put, List.setIfInBounds_toArray, List.set_cons_zero, List.set_cons_succ]
        refine wpAnyH_ready (rs := [11]) (by kernel_rfl) (by simp) ?_
        refine (AllReadyH.consL rfl (fun K hK => ?g32qb11x12) AllReadyH.nil)
        case' g32qb11x12 =>
          go_simp
          obtain ⟨wL, bZ, hA1, hsz, hEg32q2, hob⟩ := extAllocZ HXg32q_1.out
          try have HNE := hid (show aZ ≠ bZ by have := HZA.out.lt; omega)
          refine Eq.mpr (congrArg (K _) hA1) ?_
          first | rw [hsz] | (have hq : wr.heap.size = bZ := hsz; rw [hq]; clear hq) | skip
          have HZB := hid hob
          clear hA1 hsz hob
          have HXg32q_2 := hid (HXg32q_1.out.trans hEg32q2)
          have HZA := hid (HZA.out.ext hEg32q2)
          clear hEg32q2
          refine hK.out _ _ (extc12 HCC.out HXg32q_2.out) (fun hSg32q2 => ?_)
          clear hK K
          try simp only [Act.put, List.setIfInBounds_toArray, List.set_cons_zero, List.set_cons_succ]
          refine wpAnyH_ready (rs := [12]) (by kernel_rfl) (by simp) ?_
          refine (AllReadyH.consL rfl (fun K hK => ?g32qb12x13) AllReadyH.nil)
          case' g32qb12x13 =>
            have z0 := HZA.out.c0
            have z1 := HZA.out.c1
            have z2 := HZA.out.c2
            have z3 := HZA.out.c3
            have z4 := HZA.out.c4
            have zf := HZA.out.fz
            go_simp
            change K _ (put5 _ aZ (.string s.name) (.int .u32 s.addr) (.slice dA s.data.length dc) (.bool s.wr) (.bool s.ex))
            have HXg32q_3 := hid (put5_ext HXg32q_2.out HZA.out.ge (.string s.name) (.int .u32 s.addr) (.slice dA s.data.length dc) (.bool s.wr) (.bool s.ex))
            have HZB := hid (HZB.out.far HNE.out (.string s.name) (.int .u32 s.addr) (.slice dA s.data.length dc) (.bool s.wr) (.bool s.ex))
            have HCA := hid (put5_cells HZA.out (.string s.name) (.int .u32 s.addr) (.slice dA s.data.length dc) (.bool s.wr) (.bool s.ex))
            clear z0 z1 z2 z3 z4 zf
            refine hK.out _ _ (extc12 HCC.out HXg32q_3.out) (fun hSg32q3 => ?_)
            clear hK K
            try simp only [Act.put, List.setIfInBounds_toArray, List.set_cons_zero, List.set_cons_succ]
            refine wpAnyH_ready (rs := [13]) (by kernel_rfl) (by simp) ?_
            refine (AllReadyH.consL rfl (fun K hK => ?g32qb13x14) AllReadyH.nil)
            case' g32qb13x14 =>
              have z0 := HZB.out.c0
              have z1 := HZB.out.c1
              have z2 := HZB.out.c2
              have z3 := HZB.out.c3
              have z4 := HZB.out.c4
              have zf := HZB.out.fz
              go_simp
              change K _ (put5 _ bZ (.string s'.name) (.int .u32 s'.addr) (.slice dB s'.data.length dd) (.bool s'.wr) (.bool s'.ex))
              have HXg32q_4 := hid (put5_ext HXg32q_3.out HZB.out.ge (.string s'.name) (.int .u32 s'.addr) (.slice dB s'.data.length dd) (.bool s'.wr) (.bool s'.ex))
              have HXend := HXg32q_4
              have HCA := hid (And.intro (put5_far HNE.out.symm HCA.out.1 (.string s'.name) (.int .u32 s'.addr) (.slice dB s'.data.length dd) (.bool s'.wr) (.bool s'.ex)) (And.intro (put5_far HNE.out.symm HCA.out.2.1 (.string s'.name) (.int .u32 s'.addr) (.slice dB s'.data.length dd) (.bool s'.wr) (.bool s'.ex)) (put5_far HNE.out.symm HCA.out.2.2 (.string s'.name) (.int .u32 s'.addr) (.slice dB s'.data.length dd) (.bool s'.wr) (.bool s'.ex))))
              have HCB := hid (put5_cells HZB.out (.string s'.name) (.int .u32 s'.addr) (.slice dB s'.data.length dd) (.bool s'.wr) (.bool s'.ex))
              clear z0 z1 z2 z3 z4 zf
              refine hK.out _ _ (extc12 HCC.out HXg32q_4.out) (fun hSg32q4 => ?_)
              clear hK K
              try simp only [Act.put, List.setIfInBounds_toArray, List.set_cons_zero, List.set_cons_succ]
              refine wpAnyH_done (by kernel_rfl) ?_ _
              have HXE9 := HXend
              generalize hW9 : put5 (put5 _ _ _ _ _ _ _) _ _ _ _ _ _ = W9 at HXE9 HCA HCB ⊢
              have hk := hkey
              simp only [secKey, Prod.mk.injEq] at hk
              obtain ⟨k1, k2, k3, -, -⟩ := hk
              obtain ⟨g0, g1, g2⟩ := HCA.out
              obtain ⟨f0, f1, f2⟩ := HCB.out
              rw [k1] at f0
              rw [k2] at f1
              rw [k3] at f2
              clear hW9 k1 k2 k3
              go_wp2_with fail
              clear g0 g1 g2 f0 f1 f2
              have HKY := hid hkey
              have hl : s'.data.length = s.data.length := key_len hkey
              have HLL := hid hl
              clear hl hkey
              obtain ⟨V, hV⟩ : ∃ V, V = wr := ⟨_, rfl⟩
              obtain rfl := hV
              go_loopw [11] (fun q wr => ∃ k : Nat, k ≤ s.data.length ∧ q = .int .i64 k ∧ Hid (Ext W9 wr)) (fun q _ => s.data.length - (intOf q).toNat)
              case atStart => exact ⟨0, by omega, rfl, hid (Ext.refl _)⟩
              case round =>
                obtain ⟨k, hk, rfl, HXI⟩ := hrel
                have g1 := HXI.out.cell HCA.out.2.1
                have g2 := HXI.out.cell HCA.out.2.2
                have f2 := HXI.out.cell HCB.out.2.2
                rw [HLL.out] at f2
                have hcp := HCPA.out
                by_cases h2 : k < s.data.length
                · obtain ⟨x, hx⟩ : ∃ x, s.data[k]? = some x := ⟨_, List.getElem?_eq_getElem h2⟩
                  obtain ⟨y, hy⟩ : ∃ y, s'.data[k]? = some y := ⟨_, List.getElem?_eq_getElem (by have := HLL.out; omega)⟩
                  obtain ⟨bA, oA, rfl, c0, hx8⟩ := Sl.num_at (HDA.out.ext (HXE9.out.trans HXI.out)) hx
                  obtain ⟨bB, oB, rfl, d0, hy8⟩ := Sl.num_at (HDB.out.ext (HXE9.out.trans HXI.out)) hy
                  have HXK := hid hx
                  have HYK := hid hy
                  have i1 : (0 : Int) ≤ (k : Int) := by omega
                  have i2 : (k : Int) < (s.data.length : Int) := by omega
                  clear hx hy hx8 hy8
                  by_cases h3 : x = y
                  · subst h3
                    have n1 : ((x : Int) != x) = false := by simp
                    go_wp2_with fail
                    refine wp_region_held_drew (S := (fun w' => w'.cell? ⟨aZ, 2, none⟩ = some (.slice (some ⟨bA, oA, none⟩) s.data.length dc) ∧ w'.cell? ⟨bZ, 2, none⟩ = some (.slice (some ⟨bB, oB, none⟩) s.data.length dd) ∧ w'.cell? ⟨bA, oA + k, none⟩ = some (.int .u8 x) ∧ w'.cell? ⟨bB, oB + k, none⟩ = some (.int .u8 x))) (by kernel_rfl) ⟨g2, f2, c0, d0⟩ (fun hSg33q0 => ?_)
                    refine wpAnyH_takeL (i := 0) (v := ?g33qv0) rfl (by kernel_rfl) (by kernel_rfl) (by kernel_rfl) (fun _ _ _ h => h) (Or.inl ⟨by rfl, ?g33qy0⟩) (by assumption) ?g33qr0
                    case g33qy0 => first | (intro w hSw; (try dsimp only at hSw); go_simp; done) | (intro w hSw; (try dsimp only at hSw); go_simp; with_reducible rfl)
                    case' g33qr0 => try simp only [Act.put, List.setIfInBounds_toArray, List.set_cons_zero, List.set_cons_succ]
                    refine wpAnyH_takeL (i := 1) (v := ?g33qv1) rfl (by kernel_rfl) (by kernel_rfl) (by kernel_rfl) (fun _ _ _ h => h) (Or.inl ⟨by rfl, ?g33qy1⟩) (by assumption) ?g33qr1
                    case g33qy1 => first | (intro w hSw; (try dsimp only at hSw); go_simp; done) | (intro w hSw; (try dsimp only at hSw); go_simp; with_reducible rfl)
                    case' g33qr1 => try simp only [Act.put, List.setIfInBounds_toArray, List.set_cons_zero, List.set_cons_succ]
                    refine wpAnyH_takeL (i := 2) (v := ?g33qv2) rfl (by kernel_rfl) (by kernel_rfl) (by kernel_rfl) (fun _ _ _ h => h) (Or.inl ⟨by rfl, ?g33qy2⟩) (by assumption) ?g33qr2
                    case g33qy2 => first | (intro w hSw; (try dsimp only at hSw); go_simp; done) | (intro w hSw; (try dsimp only at hSw); go_simp; with_reducible rfl)
                    case' g33qr2 => try simp only [Act.put, List.setIfInBounds_toArray, List.set_cons_zero, List.set_cons_succ]
                    refine wpAnyH_takeL (i := 3) (v := ?g33qv3) rfl (by kernel_rfl) (by kernel_rfl) (by kernel_rfl) (fun _ _ _ h => h) (Or.inl ⟨by rfl, ?g33qy3⟩) (by assumption) ?g33qr3
                    case g33qy3 => first | (intro w hSw; (try dsimp only at hSw); go_simp; done) | (intro w hSw; (try dsimp only at hSw); go_simp; with_reducible rfl)
                    case' g33qr3 => try simp only [Act.put, List.setIfInBounds_toArray, List.set_cons_zero, List.set_cons_succ]
                    refine wpAnyH_takeL (i := 4) (v := ?g33qv4) rfl (by kernel_rfl) (by kernel_rfl) (by kernel_rfl) (fun _ _ _ h => h) (Or.inl ⟨by rfl, ?g33qy4⟩) (by assumption) ?g33qr4
                    case g33qy4 => first | (intro w hSw; (try dsimp only at hSw); go_simp; done) | (intro w hSw; (try dsimp only at hSw); go_simp; with_reducible rfl)
                    case' g33qr4 => try simp only [Act.put, List.setIfInBounds_toArray, List.set_cons_zero, List.set_cons_succ]
                    refine wpAnyH_takeL (i := 5) (v := ?g33qv5) rfl (by kernel_rfl) (by kernel_rfl) (by kernel_rfl) (fun _ _ _ h => h) (Or.inl ⟨by rfl, ?g33qy5⟩) (by assumption) ?g33qr5
                    case g33qy5 => first | (intro w hSw; (try dsimp only at hSw); go_simp; done) | (intro w hSw; (try dsimp only at hSw); go_simp; with_reducible rfl)
                    case' g33qr5 => try simp only [Act.put, List.setIfInBounds_toArray, List.set_cons_zero, List.set_cons_succ]
                    refine wpAnyH_takeL (i := 6) (v := ?g33qv6) rfl (by kernel_rfl) (by kernel_rfl) (by kernel_rfl) (fun _ _ _ h => h) (Or.inl ⟨by rfl, ?g33qy6⟩) (by assumption) ?g33qr6
                    case g33qy6 => first | (intro w hSw; (try dsimp only at hSw); go_simp; done) | (intro w hSw; (try dsimp only at hSw); go_simp; with_reducible rfl)
                    case' g33qr6 => try simp only [Act.put, List.setIfInBounds_toArray, List.set_cons_zero, List.set_cons_succ]
                    refine wpAnyH_takeL (i := 7) (v := ?g33qv7) rfl (by kernel_rfl) (by kernel_rfl) (by kernel_rfl) (fun _ _ _ h => h) (Or.inl ⟨by rfl, ?g33qy7⟩) (by assumption) ?g33qr7
                    case g33qy7 => first | (intro w hSw; (try dsimp only at hSw); go_simp; done) | (intro w hSw; (try dsimp only at hSw); go_simp; with_reducible rfl)
                    case' g33qr7 => try simp only [Act.put, List.setIfInBounds_toArray, List.set_cons_zero, List.set_cons_succ]
                    refine wpAnyH_takeL (i := 8) (v := ?g33qv8) rfl (by kernel_rfl) (by kernel_rfl) (by kernel_rfl) (fun _ _ _ h => h) (Or.inl ⟨by rfl, ?g33qy8⟩) (by assumption) ?g33qr8
                    case g33qy8 => first | (intro w hSw; (try dsimp only at hSw); go_simp; done) | (intro w hSw; (try dsimp only at hSw); go_simp; with_reducible rfl)
                    case' g33qr8 => try simp only [Act.put, List.setIfInBounds_toArray, List.set_cons_zero, List.set_cons_succ]
                    refine wpAnyH_takeL (i := 9) (v := ?g33qv9) rfl (by kernel_rfl) (by kernel_rfl) (by kernel_rfl) (fun _ _ _ h => h) (Or.inl ⟨by rfl, ?g33qy9⟩) (by assumption) ?g33qr9
                    case g33qy9 => first | (intro w hSw; (try dsimp only at hSw); go_simp; done) | (intro w hSw; (try dsimp only at hSw); go_simp; with_reducible rfl)
                    case' g33qr9 => try simp only [Act.put, List.setIfInBounds_toArray, List.set_cons_zero, List.set_cons_succ]
                    refine wpAnyH_takeL (i := 10) (v := ?g33qv10) rfl (by kernel_rfl) (by kernel_rfl) (by kernel_rfl) (fun _ _ _ h => h) (Or.inl ⟨by rfl, ?g33qy10⟩) (by assumption) ?g33qr10
                    case g33qy10 => first | (intro w hSw; (try dsimp only at hSw); go_simp; done) | (intro w hSw; (try dsimp only at hSw); go_simp; with_reducible rfl)
                    case' g33qr10 => try simp only [Act.put, List.setIfInBounds_toArray, List.set_cons_zero, List.set_cons_succ]
                    refine wpAnyH_takeL (i := 11) (v := ?g33qv11) rfl (by kernel_rfl) (by kernel_rfl) (by kernel_rfl) (fun _ _ _ h => h) (Or.inl ⟨by rfl, ?g33qy11⟩) (by assumption) ?g33qr11
                    case g33qy11 => first | (intro w hSw; (try dsimp only at hSw); go_simp; done) | (intro w hSw; (try dsimp only at hSw); go_simp; with_reducible rfl)
                    case' g33qr11 => try simp only [Act.put, List.setIfInBounds_toArray, List.set_cons_zero, List.set_cons_succ]
                    refine wpAnyH_takeL (i := 12) (v := undef) rfl (by kernel_rfl) (by kernel_rfl) (by kernel_rfl) (fun _ _ _ h => h) (Or.inr ⟨by rfl, rfl⟩) (by assumption) ?g33qr12
                    case' g33qr12 => try simp only [Act.put, List.setIfInBounds_toArray, List.set_cons_zero, List.set_cons_succ]
                    refine wpAnyH_takeL (i := 13) (v := undef) rfl (by kernel_rfl) (by kernel_rfl) (by kernel_rfl) (fun _ _ _ h => h) (Or.inr ⟨by rfl, rfl⟩) (by assumption) ?g33qr13
                    case' g33qr13 => try simp only [Act.put, List.setIfInBounds_toArray, List.set_cons_zero, List.set_cons_succ]
                    refine wpAnyH_takeL (i := 14) (v := undef) rfl (by kernel_rfl) (by kernel_rfl) (by kernel_rfl) (fun _ _ _ h => h) (Or.inr ⟨by rfl, rfl⟩) (by assumption) ?g33qr14
                    case' g33qr14 => try simp only [Act.put, List.setIfInBounds_toArray, List.set_cons_zero, List.set_cons_succ]
                    refine wpAnyH_takeL (i := 15) (v := undef) rfl (by kernel_rfl) (by kernel_rfl) (by kernel_rfl) (fun _ _ _ h => h) (Or.inr ⟨by rfl, rfl⟩) (by assumption) ?g33qr15
                    case' g33qr15 => try simp only [Act.put, List.setIfInBounds_toArray, List.set_cons_zero, List.set_cons_succ]
                    refine wpAnyH_takeL (i := 16) (v := undef) rfl (by kernel_rfl) (by kernel_rfl) (by kernel_rfl) (fun _ _ _ h => h) (Or.inr ⟨by rfl, rfl⟩) (by assumption) ?g33qr16
                    case' g33qr16 => try simp only [Act.put, List.setIfInBounds_toArray, List.set_cons_zero, List.set_cons_succ]
                    refine wpAnyH_takeL (i := 17) (v := undef) rfl (by kernel_rfl) (by kernel_rfl) (by kernel_rfl) (fun _ _ _ h => h) (Or.inr ⟨by rfl, rfl⟩) (by assumption) ?g33qr17
                    case' g33qr17 => try simp only [Act.put, List.setIfInBounds_toArray, List.set_cons_zero, List.set_cons_succ]
                    refine wpAnyH_ready (rs := [18]) (by kernel_rfl) (by simp) ?_
                    refine AllReadyH.consL rfl (fun K hK => ?_) AllReadyH.nil
                    refine cast (if_neg (fun h => Bool.noConfusion (show false = true from h))).symm ?_
                    refine hK.out _ _ (by assumption) (fun hSg33q1 => ?_)
                    clear hK K
                    try simp only [Act.put, List.setIfInBounds_toArray, List.set_cons_zero, List.set_cons_succ]
                    refine wpAnyH_takeL (i := 19) (v := undef) rfl (by kernel_rfl) (by kernel_rfl) (by kernel_rfl) (fun _ _ _ h => h) (Or.inr ⟨by rfl, rfl⟩) (by assumption) ?g33qr19
                    case' g33qr19 => try simp only [Act.put, List.setIfInBounds_toArray, List.set_cons_zero, List.set_cons_succ]
                    refine wpAnyH_takeL (i := 20) (v := ?g33qv20) rfl (by kernel_rfl) (by kernel_rfl) (by kernel_rfl) (fun _ _ _ h => h) (Or.inl ⟨by rfl, ?g33qy20⟩) (by assumption) ?g33qr20
                    case g33qy20 => first | (intro w hSw; (try dsimp only at hSw); go_simp; done) | (intro w hSw; (try dsimp only at hSw); go_simp; with_reducible rfl)
                    case' g33qr20 => try simp only [Act.put, List.setIfInBounds_toArray, List.set_cons_zero, List.set_cons_succ]
                    refine wpAnyH_done (by kernel_rfl) ?_ _
                    clear g1 g2 f2 c0 d0
                    go_wp2
                    first
                      | go_roundw
                      | refine ⟨?rel, ?measure⟩
                    case rel => exact ⟨k + 1, by omega, by go_num, hid HXI.out.drew⟩
                    case measure => simp [intOf]; omega
                  · obtain ⟨a, ha⟩ : ∃ a, w32 ((s.addr : Int) + k) = a := ⟨_, rfl⟩
                    obtain ⟨kk, hkk⟩ : ∃ kk, w32 (k : Int) = kk := ⟨_, rfl⟩
                    have e1 : IntKind.u32.wrap (k : Int) = (kk : Int) := by rw [wrap_w32, hkk]
                    have e2 : IntKind.u32.wrap ((s.addr : Int) + kk) = (a : Int) := by rw [wrap_w32, ← hkk, w32_addR, ha]
                    have hal : a < 4294967296 := by rw [← ha]; exact w32_lt _
                    have hnear : nearB Q a = true := by
                      have hs2 : (applyOb o).secs[i]? = some s' := by rw [HXD.out]; exact HSS2.out
                      obtain ⟨pp, hp1, hp2⟩ := apply_near HZ.out HSS.out hs2 (k := k) (by rw [HXK.out, HYK.out]; intro e; injection e with e; exact h3 e.symm)
                      rw [ha] at hp2
                      refine List.any_eq_true.2 ⟨pp, ?_, decide_eq_true hp2⟩
                      rw [← HQ.out]
                      exact asc_mem.2 hp1
                    have hn7 := fun W (hE : Ext w7 W) => near7_any W AQ Q.length cq Q (HSQ.out.ext hE) a hal
                    rw [hnear] at hn7
                    have HN7 := hid hn7
                    have n1 : ((x : Int) != y) = true := by simp; omega
                    have HX7I := hid (HX.out.trans (HXE9.out.trans HXI.out))
                    clear ha hkk hal hnear hn7 h3
                    go_wp2_with fail
                    refine wp_region_held_drew (S := (fun w' => w'.cell? ⟨aZ, 1, none⟩ = some (.int .u32 s.addr) ∧ w'.cell? ⟨aZ, 2, none⟩ = some (.slice (some ⟨bA, oA, none⟩) s.data.length dc) ∧ w'.cell? ⟨bZ, 2, none⟩ = some (.slice (some ⟨bB, oB, none⟩) s.data.length dd) ∧ w'.cell? ⟨bA, oA + k, none⟩ = some (.int .u8 x) ∧ w'.cell? ⟨bB, oB + k, none⟩ = some (.int .u8 y))) (by kernel_rfl) ⟨g1, g2, f2, c0, d0⟩ (fun hSg34q0 => ?_)
                    refine wpAnyH_takeL (i := 0) (v := ?g34qv0) rfl (by kernel_rfl) (by kernel_rfl) (by kernel_rfl) (fun _ _ _ h => h) (Or.inl ⟨by rfl, ?g34qy0⟩) (by assumption) ?g34qr0
                    case g34qy0 => first | (intro w hSw; (try dsimp only at hSw); go_simp; done) | (intro w hSw; (try dsimp only at hSw); go_simp; with_reducible rfl)
                    case' g34qr0 => try simp only [Act.put, List.setIfInBounds_toArray, List.set_cons_zero, List.set_cons_succ]
                    refine wpAnyH_takeL (i := 1) (v := ?g34qv1) rfl (by kernel_rfl) (by kernel_rfl) (by kernel_rfl) (fun _ _ _ h => h) (Or.inl ⟨by rfl, ?g34qy1⟩) (by assumption) ?g34qr1
                    case g34qy1 => first | (intro w hSw; (try dsimp only at hSw); go_simp; done) | (intro w hSw; (try dsimp only at hSw); go_simp; with_reducible rfl)
                    case' g34qr1 => try simp only [Act.put, List.setIfInBounds_toArray, List.set_cons_zero, List.set_cons_succ]
                    refine wpAnyH_takeL (i := 2) (v := ?g34qv2) rfl (by kernel_rfl) (by kernel_rfl) (by kernel_rfl) (fun _ _ _ h => h) (Or.inl ⟨by rfl, ?g34qy2⟩) (by assumption) ?g34qr2
                    case g34qy2 => first | (intro w hSw; (try dsimp only at hSw); go_simp; done) | (intro w hSw; (try dsimp only at hSw); go_simp; with_reducible rfl)
                    case' g34qr2 => try simp only [Act.put, List.setIfInBounds_toArray, List.set_cons_zero, List.set_cons_succ]
                    refine wpAnyH_takeL (i := 3) (v := ?g34qv3) rfl (by kernel_rfl) (by kernel_rfl) (by kernel_rfl) (fun _ _ _ h => h) (Or.inl ⟨by rfl, ?g34qy3⟩) (by assumption) ?g34qr3
                    case g34qy3 => first | (intro w hSw; (try dsimp only at hSw); go_simp; done) | (intro w hSw; (try dsimp only at hSw); go_simp; with_reducible rfl)
                    case' g34qr3 => try simp only [Act.put, List.setIfInBounds_toArray, List.set_cons_zero, List.set_cons_succ]
                    refine wpAnyH_takeL (i := 4) (v := ?g34qv4) rfl (by kernel_rfl) (by kernel_rfl) (by kernel_rfl) (fun _ _ _ h => h) (Or.inl ⟨by rfl, ?g34qy4⟩) (by assumption) ?g34qr4
                    case g34qy4 => first | (intro w hSw; (try dsimp only at hSw); go_simp; done) | (intro w hSw; (try dsimp only at hSw); go_simp; with_reducible rfl)
                    case' g34qr4 => try simp only [Act.put, List.setIfInBounds_toArray, List.set_cons_zero, List.set_cons_succ]
                    refine wpAnyH_takeL (i := 5) (v := ?g34qv5) rfl (by kernel_rfl) (by kernel_rfl) (by kernel_rfl) (fun _ _ _ h => h) (Or.inl ⟨by rfl, ?g34qy5⟩) (by assumption) ?g34qr5
                    case g34qy5 => first | (intro w hSw; (try dsimp only at hSw); go_simp; done) | (intro w hSw; (try dsimp only at hSw); go_simp; with_reducible rfl)
                    case' g34qr5 => try simp only [Act.put, List.setIfInBounds_toArray, List.set_cons_zero, List.set_cons_succ]
                    refine wpAnyH_takeL (i := 6) (v := ?g34qv6) rfl (by kernel_rfl) (by kernel_rfl) (by kernel_rfl) (fun _ _ _ h => h) (Or.inl ⟨by rfl, ?g34qy6⟩) (by assumption) ?g34qr6
                    case g34qy6 => first | (intro w hSw; (try dsimp only at hSw); go_simp; done) | (intro w hSw; (try dsimp only at hSw); go_simp; with_reducible rfl)
                    case' g34qr6 => try simp only [Act.put, List.setIfInBounds_toArray, List.set_cons_zero, List.set_cons_succ]
                    refine wpAnyH_takeL (i := 7) (v := ?g34qv7) rfl (by kernel_rfl) (by kernel_rfl) (by kernel_rfl) (fun _ _ _ h => h) (Or.inl ⟨by rfl, ?g34qy7⟩) (by assumption) ?g34qr7
                    case g34qy7 => first | (intro w hSw; (try dsimp only at hSw); go_simp; done) | (intro w hSw; (try dsimp only at hSw); go_simp; with_reducible rfl)
                    case' g34qr7 => try simp only [Act.put, List.setIfInBounds_toArray, List.set_cons_zero, List.set_cons_succ]
                    refine wpAnyH_takeL (i := 8) (v := ?g34qv8) rfl (by kernel_rfl) (by kernel_rfl) (by kernel_rfl) (fun _ _ _ h => h) (Or.inl ⟨by rfl, ?g34qy8⟩) (by assumption) ?g34qr8
                    case g34qy8 => first | (intro w hSw; (try dsimp only at hSw); go_simp; done) | (intro w hSw; (try dsimp only at hSw); go_simp; with_reducible rfl)
                    case' g34qr8 => try simp only [Act.put, List.setIfInBounds_toArray, List.set_cons_zero, List.set_cons_succ]
                    refine wpAnyH_takeL (i := 9) (v := ?g34qv9) rfl (by kernel_rfl) (by kernel_rfl) (by kernel_rfl) (fun _ _ _ h => h) (Or.inl ⟨by rfl, ?g34qy9⟩) (by assumption) ?g34qr9
                    case g34qy9 => first | (intro w hSw; (try dsimp only at hSw); go_simp; done) | (intro w hSw; (try dsimp only at hSw); go_simp; with_reducible rfl)
                    case' g34qr9 => try simp only [Act.put, List.setIfInBounds_toArray, List.set_cons_zero, List.set_cons_succ]
                    refine wpAnyH_takeL (i := 10) (v := ?g34qv10) rfl (by kernel_rfl) (by kernel_rfl) (by kernel_rfl) (fun _ _ _ h => h) (Or.inl ⟨by rfl, ?g34qy10⟩) (by assumption) ?g34qr10
                    case g34qy10 => first | (intro w hSw; (try dsimp only at hSw); go_simp; done) | (intro w hSw; (try dsimp only at hSw); go_simp; with_reducible rfl)
                    case' g34qr10 => try simp only [Act.put, List.setIfInBounds_toArray, List.set_cons_zero, List.set_cons_succ]
                    refine wpAnyH_takeL (i := 11) (v := ?g34qv11) rfl (by kernel_rfl) (by kernel_rfl) (by kernel_rfl) (fun _ _ _ h => h) (Or.inl ⟨by rfl, ?g34qy11⟩) (by assumption) ?g34qr11
                    case g34qy11 => first | (intro w hSw; (try dsimp only at hSw); go_simp; done) | (intro w hSw; (try dsimp only at hSw); go_simp; with_reducible rfl)
                    case' g34qr11 => try simp only [Act.put, List.setIfInBounds_toArray, List.set_cons_zero, List.set_cons_succ]
                    refine wpAnyH_takeL (i := 12) (v := ?g34qv12) rfl (by kernel_rfl) (by kernel_rfl) (by kernel_rfl) (fun _ _ _ h => h) (Or.inl ⟨by rfl, ?g34qy12⟩) (by assumption) ?g34qr12
                    case g34qy12 => first | (intro w hSw; (try dsimp only at hSw); go_simp; done) | (intro w hSw; (try dsimp only at hSw); go_simp; with_reducible rfl)
                    case' g34qr12 => try simp only [Act.put, List.setIfInBounds_toArray, List.set_cons_zero, List.set_cons_succ]
                    refine wpAnyH_takeL (i := 13) (v := ?g34qv13) rfl (by kernel_rfl) (by kernel_rfl) (by kernel_rfl) (fun _ _ _ h => h) (Or.inl ⟨by rfl, ?g34qy13⟩) (by assumption) ?g34qr13
                    case g34qy13 => first | (intro w hSw; (try dsimp only at hSw); go_simp; done) | (intro w hSw; (try dsimp only at hSw); go_simp; with_reducible rfl)
                    case' g34qr13 => try simp only [Act.put, List.setIfInBounds_toArray, List.set_cons_zero, List.set_cons_succ]
                    refine wpAnyH_takeL (i := 14) (v := ?g34qv14) rfl (by kernel_rfl) (by kernel_rfl) (by kernel_rfl) (fun _ _ _ h => h) (Or.inl ⟨by rfl, ?g34qy14⟩) (by assumption) ?g34qr14
                    case g34qy14 => first | (intro w hSw; (try dsimp only at hSw); go_simp; done) | (intro w hSw; (try dsimp only at hSw); go_simp; with_reducible rfl)
                    case' g34qr14 => try simp only [Act.put, List.setIfInBounds_toArray, List.set_cons_zero, List.set_cons_succ]
                    refine wpAnyH_takeL (i := 15) (v := ?g34qv15) rfl (by kernel_rfl) (by kernel_rfl) (by kernel_rfl) (fun _ _ _ h => h) (Or.inl ⟨by rfl, ?g34qy15⟩) (by assumption) ?g34qr15
                    case g34qy15 => first | (intro w hSw; (try dsimp only at hSw); go_simp; done) | (intro w hSw; (try dsimp only at hSw); go_simp; with_reducible rfl)
                    case' g34qr15 => try simp only [Act.put, List.setIfInBounds_toArray, List.set_cons_zero, List.set_cons_succ]
                    refine wpAnyH_takeL (i := 16) (v := ?g34qv16) rfl (by kernel_rfl) (by kernel_rfl) (by kernel_rfl) (fun _ _ _ h => h) (Or.inl ⟨by rfl, ?g34qy16⟩) (by assumption) ?g34qr16
                    case g34qy16 => first | (intro w hSw; (try dsimp only at hSw); go_simp; done) | (intro w hSw; (try dsimp only at hSw); go_simp; with_reducible rfl)
                    case' g34qr16 => try simp only [Act.put, List.setIfInBounds_toArray, List.set_cons_zero, List.set_cons_succ]
                    refine wpAnyH_takeL (i := 17) (v := ?g34qv17) rfl (by kernel_rfl) (by kernel_rfl) (by kernel_rfl) (fun _ _ _ h => h) (Or.inl ⟨by rfl, ?g34qy17⟩) (by assumption) ?g34qr17
                    case g34qy17 => first | (intro w hSw; (try dsimp only at hSw); go_simp; done) | (intro w hSw; (try dsimp only at hSw); go_simp; with_reducible rfl)
                    case' g34qr17 => try simp only [Act.put, List.setIfInBounds_toArray, List.set_cons_zero, List.set_cons_succ]
                    refine wpAnyH_ready (rs := [18]) (by kernel_rfl) (by simp) ?_
                    refine AllReadyH.consL rfl (fun K hK => ?_) AllReadyH.nil
                    go_simp
                    go_at_call 23
                    refine (HN7.out _ HX7I.out.drew).mono ?_
                    rintro e w9 ⟨rfl, hw9⟩
                    subst hw9
                    refine hK.out _ _ ⟨g1, g2, f2, c0, d0⟩ (fun hSg34q1 => ?_)
                    clear hK K
                    try simp only [Act.put, List.setIfInBounds_toArray, List.set_cons_zero, List.set_cons_succ]
                    refine wpAnyH_takeL (i := 19) (v := ?g34qv19) rfl (by kernel_rfl) (by kernel_rfl) (by kernel_rfl) (fun _ _ _ h => h) (Or.inl ⟨by rfl, ?g34qy19⟩) (by assumption) ?g34qr19
                    case g34qy19 => first | (intro w hSw; (try dsimp only at hSw); go_simp; done) | (intro w hSw; (try dsimp only at hSw); go_simp; with_reducible rfl)
                    case' g34qr19 => try simp only [Act.put, List.setIfInBounds_toArray, List.set_cons_zero, List.set_cons_succ]
                    refine wpAnyH_takeL (i := 20) (v := ?g34qv20) rfl (by kernel_rfl) (by kernel_rfl) (by kernel_rfl) (fun _ _ _ h => h) (Or.inl ⟨by rfl, ?g34qy20⟩) (by assumption) ?g34qr20
                    case g34qy20 => first | (intro w hSw; (try dsimp only at hSw); go_simp; done) | (intro w hSw; (try dsimp only at hSw); go_simp; with_reducible rfl)
                    case' g34qr20 => try simp only [Act.put, List.setIfInBounds_toArray, List.set_cons_zero, List.set_cons_succ]
                    refine wpAnyH_done (by kernel_rfl) ?_ _
                    clear g1 g2 f2 c0 d0
                    go_wp2
                    first
                      | go_roundw
                      | refine ⟨?rel, ?measure⟩
                    case rel => exact ⟨k + 1, by omega, by go_num, hid HXI.out.drew⟩
                    case measure => simp [intOf]; omega
                · obtain rfl : k = s.data.length := by omega
                  have h1' := HI.out
                  have hcs := HCS.out
                  go_wp2
                  first
                    | go_roundw
                    | refine ⟨?rel, ?measure⟩
                  case rel => exact ⟨i + 1, by omega, by go_num, hid (HX.out.trans (HXE9.out.trans HXI.out))⟩
                  case measure => simp [intOf]; omega
      case' g32qb11x11 =>
        go_simp
        obtain ⟨wL, bZ, hA1, hsz, hEg32q1, hob⟩ := extAllocZ HXg32q_0.out
        try have HNE := hid (show aZ ≠ bZ by have := HZA.out.lt; omega)
        refine Eq.mpr (congrArg (K _) hA1) ?_
        first | rw [hsz] | (have hq : wr.heap.size = bZ := hsz; rw [hq]; clear hq) | skip
        have HZB := hid hob
        clear hA1 hsz hob
        have HXg32q_1 := hid (HXg32q_0.out.trans hEg32q1)
        clear hEg32q1
        refine hK.out _ _ (extc12 HCC.out HXg32q_1.out) (fun hSg32q1 => ?_)
        clear hK K
        try simp only [Act.put, List.setIfInBounds_toArray, List.set_cons_zero, List.set_cons_succ]
        refine wpAnyH_ready (rs := [10]) (by kernel_rfl) (by simp) ?_
        refine (AllReadyH.consL rfl (fun K hK => ?g32qb10x15) AllReadyH.nil)
        case' g32qb10x15 =>
          go_simp
          obtain ⟨wL, aZ, hA1, hsz, hEg32q2, hob⟩ := extAllocZ HXg32q_1.out
          try have HNE := hid (show aZ ≠ bZ by have := HZB.out.lt; omega)
          refine Eq.mpr (congrArg (K _) hA1) ?_
          first | rw [hsz] | (have hq : wr.heap.size = aZ := hsz; rw [hq]; clear hq) | skip
          have HZA := hid hob
          clear hA1 hsz hob
          have HXg32q_2 := hid (HXg32q_1.out.trans hEg32q2)
          have HZB := hid (HZB.out.ext hEg32q2)
          clear hEg32q2
          refine hK.out _ _ (extc12 HCC.out HXg32q_2.out) (fun hSg32q2 => ?_)
          clear hK K
          try simp only [Act.put, List.setIfInBounds_toArray, List.set_cons_zero, List.set_cons_succ]
          refine wpAnyH_ready (rs := [12]) (by kernel_rfl) (by simp) ?_
          refine (AllReadyH.consL rfl (fun K hK => ?g32qb12x16) AllReadyH.nil)
          case' g32qb12x16 =>
            have z0 := HZA.out.c0
            have z1 := HZA.out.c1
            have z2 := HZA.out.c2
            have z3 := HZA.out.c3
            have z4 := HZA.out.c4
            have zf := HZA.out.fz
            go_simp
            change K _ (put5 _ aZ (.string s.name) (.int .u32 s.addr) (.slice dA s.data.length dc) (.bool s.wr) (.bool s.ex))
            have HXg32q_3 := hid (put5_ext HXg32q_2.out HZA.out.ge (.string s.name) (.int .u32 s.addr) (.slice dA s.data.length dc) (.bool s.wr) (.bool s.ex))
            have HZB := hid (HZB.out.far HNE.out (.string s.name) (.int .u32 s.addr) (.slice dA s.data.length dc) (.bool s.wr) (.bool s.ex))
            have HCA := hid (put5_cells HZA.out (.string s.name) (.int .u32 s.addr) (.slice dA s.data.length dc) (.bool s.wr) (.bool s.ex))
            clear z0 z1 z2 z3 z4 zf
            refine hK.out _ _ (extc12 HCC.out HXg32q_3.out) (fun hSg32q3 => ?_)
            clear hK K
            try simp only [Act.put, List.setIfInBounds_toArray, List.set_cons_zero, List.set_cons_succ]
            refine wpAnyH_ready (rs := [13]) (by kernel_rfl) (by simp) ?_
            refine (AllReadyH.consL rfl (fun K hK => ?g32qb13x17) AllReadyH.nil)
            case' g32qb13x17 =>
              have z0 := HZB.out.c0
              have z1 := HZB.out.c1
              have z2 := HZB.out.c2
              have z3 := HZB.out.c3
              have z4 := HZB.out.c4
              have zf := HZB.out.fz
              go_simp
              change K _ (put5 _ bZ (.string s'.name) (.int .u32 s'.addr) (.slice dB s'.data.length dd) (.bool s'.wr) (.bool s'.ex))
              have HXg32q_4 := hid (put5_ext HXg32q_3.out HZB.out.ge (.string s'.name) (.int .u32 s'.addr) (.slice dB s'.data.length dd) (.bool s'.wr) (.bool s'.ex))
              have HXend := HXg32q_4
              have HCA := hid (And.intro (put5_far HNE.out.symm HCA.out.1 (.string s'.name) (.int .u32 s'.addr) (.slice dB s'.data.length dd) (.bool s'.wr) (.bool s'.ex)) (And.intro (put5_far HNE.out.symm HCA.out.2.1 (.string s'.name) (.int .u32 s'.addr) (.slice dB s'.data.length dd) (.bool s'.wr) (.bool s'.ex)) (put5_far HNE.out.symm HCA.out.2.2 (.string s'.name) (.int .u32 s'.addr) (.slice dB s'.data.length dd) (.bool s'.wr) (.bool s'.ex))))
              have HCB := hid (put5_cells HZB.out (.string s'.name) (.int .u32 s'.addr) (.slice dB s'.data.length dd) (.bool s'.wr) (.bool s'.ex))
              clear z0 z1 z2 z3 z4 zf
              refine hK.out _ _ (extc12 HCC.out HXg32q_4.out) (fun hSg32q4 => ?_)
              clear hK K
              try simp only [Act.put, List.setIfInBounds_toArray, List.set_cons_zero, List.set_cons_succ]
              refine wpAnyH_done (by kernel_rfl) ?_ _
              have HXE9 := HXend
              generalize hW9 : put5 (put5 _ _ _ _ _ _ _) _ _ _ _ _ _ = W9 at HXE9 HCA HCB ⊢
              have hk := hkey
              simp only [secKey, Prod.mk.injEq] at hk
              obtain ⟨k1, k2, k3, -, -⟩ := hk
              obtain ⟨g0, g1, g2⟩ := HCA.out
              obtain ⟨f0, f1, f2⟩ := HCB.out
              rw [k1] at f0
              rw [k2] at f1
              rw [k3] at f2
              clear hW9 k1 k2 k3
              go_wp2_with fail
              clear g0 g1 g2 f0 f1 f2
              have HKY := hid hkey
              have hl : s'.data.length = s.data.length := key_len hkey
              have HLL := hid hl
              clear hl hkey
              obtain ⟨V, hV⟩ : ∃ V, V = wr := ⟨_, rfl⟩
              obtain rfl := hV
              go_loopw [11] (fun q wr => ∃ k : Nat, k ≤ s.data.length ∧ q = .int .i64 k ∧ Hid (Ext W9 wr)) (fun q _ => s.data.length - (intOf q).toNat)
              case atStart => exact ⟨0, by omega, rfl, hid (Ext.refl _)⟩
              case round =>
                obtain ⟨k, hk, rfl, HXI⟩ := hrel
                have g1 := HXI.out.cell HCA.out.2.1
                have g2 := HXI.out.cell HCA.out.2.2
                have f2 := HXI.out.cell HCB.out.2.2
                rw [HLL.out] at f2
                have hcp := HCPA.out
                by_cases h2 : k < s.data.length
                · obtain ⟨x, hx⟩ : ∃ x, s.data[k]? = some x := ⟨_, List.getElem?_eq_getElem h2⟩
                  obtain ⟨y, hy⟩ : ∃ y, s'.data[k]? = some y := ⟨_, List.getElem?_eq_getElem (by have := HLL.out; omega)⟩
                  obtain ⟨bA, oA, rfl, c0, hx8⟩ := Sl.num_at (HDA.out.ext (HXE9.out.trans HXI.out)) hx
                  obtain ⟨bB, oB, rfl, d0, hy8⟩ := Sl.num_at (HDB.out.ext (HXE9.out.trans HXI.out)) hy
                  have HXK := hid hx
                  have HYK := hid hy
                  have i1 : (0 : Int) ≤ (k : Int) := by omega
                  have i2 : (k : Int) < (s.data.length : Int) := by omega
                  clear hx hy hx8 hy8
                  by_cases h3 : x = y
                  · subst h3
                    have n1 : ((x : Int) != x) = false := by simp
                    go_wp2_with fail
                    refine wp_region_held_drew (S := (fun w' => w'.cell? ⟨aZ, 2, none⟩ = some (.slice (some ⟨bA, oA, none⟩) s.data.length dc) ∧ w'.cell? ⟨bZ, 2, none⟩ = some (.slice (some ⟨bB, oB, none⟩) s.data.length dd) ∧ w'.cell? ⟨bA, oA + k, none⟩ = some (.int .u8 x) ∧ w'.cell? ⟨bB, oB + k, none⟩ = some (.int .u8 x))) (by kernel_rfl) ⟨g2, f2, c0, d0⟩ (fun hSg35q0 => ?_)
                    refine wpAnyH_takeL (i := 0) (v := ?g35qv0) rfl (by kernel_rfl) (by kernel_rfl) (by kernel_rfl) (fun _ _ _ h => h) (Or.inl ⟨by rfl, ?g35qy0⟩) (by assumption) ?g35qr0
                    case g35qy0 => first | (intro w hSw; (try dsimp only at hSw); go_simp; done) | (intro w hSw; (try dsimp only at hSw); go_simp; with_reducible rfl)
                    case' g35qr0 => try simp only [Act.put, List.setIfInBounds_toArray, List.set_cons_zero, List.set_cons_succ]
                    refine wpAnyH_takeL (i := 1) (v := ?g35qv1) rfl (by kernel_rfl) (by kernel_rfl) (by kernel_rfl) (fun _ _ _ h => h) (Or.inl ⟨by rfl, ?g35qy1⟩) (by assumption) ?g35qr1
                    case g35qy1 => first | (intro w hSw; (try dsimp only at hSw); go_simp; done) | (intro w hSw; (try dsimp only at hSw); go_simp; with_reducible rfl)
                    case' g35qr1 => try simp only [Act.put, List.setIfInBounds_toArray, List.set_cons_zero, List.set_cons_succ]
                    refine wpAnyH_takeL (i := 2) (v := ?g35qv2) rfl (by kernel_rfl) (by kernel_rfl) (by kernel_rfl) (fun _ _ _ h => h) (Or.inl ⟨by rfl, ?g35qy2⟩) (by assumption) ?g35qr2
                    case g35qy2 => first | (intro w hSw; (try dsimp only at hSw); go_simp; done) | (intro w hSw; (try dsimp only at hSw); go_simp; with_reducible rfl)
                    case' g35qr2 => try simp only [Act.put, List.setIfInBounds_toArray, List.set_cons_zero, List.set_cons_succ]
                    refine wpAnyH_takeL (i := 3) (v := ?g35qv3) rfl (by kernel_rfl) (by kernel_rfl) (by kernel_rfl) (fun _ _ _ h => h) (Or.inl ⟨by rfl, ?g35qy3⟩) (by assumption) ?g35qr3
                    case g35qy3 => first | (intro w hSw; (try dsimp only at hSw); go_simp; done) | (intro w hSw; (try dsimp only at hSw); go_simp; with_reducible rfl)
                    case' g35qr3 => try simp only [Act.put, List.setIfInBounds_toArray, List.set_cons_zero, List.set_cons_succ]
                    refine wpAnyH_takeL (i := 4) (v := ?g35qv4) rfl (by kernel_rfl) (by kernel_rfl) (by kernel_rfl) (fun _ _ _ h => h) (Or.inl ⟨by rfl, ?g35qy4⟩) (by assumption) ?g35qr4
                    case g35qy4 => first | (intro w hSw; (try dsimp only at hSw); go_simp; done) | (intro w hSw; (try dsimp only at hSw); go_simp; with_reducible rfl)
                    case' g35qr4 => try simp only [Act.put, List.setIfInBounds_toArray, List.set_cons_zero, List.set_cons_succ]
                    refine wpAnyH_takeL (i := 5) (v := ?g35qv5) rfl (by kernel_rfl) (by kernel_rfl) (by kernel_rfl) (fun _ _ _ h => h) (Or.inl ⟨by rfl, ?g35qy5⟩) (by assumption) ?g35qr5
                    case g35qy5 => first | (intro w hSw; (try dsimp only at hSw); go_simp; done) | (intro w hSw; (try dsimp only at hSw); go_simp; with_reducible rfl)
                    case' g35qr5 => try simp only [Act.put, List.setIfInBounds_toArray, List.set_cons_zero, List.set_cons_succ]
                    refine wpAnyH_takeL (i := 6) (v := ?g35qv6) rfl (by kernel_rfl) (by kernel_rfl) (by kernel_rfl) (fun _ _ _ h => h) (Or.inl ⟨by rfl, ?g35qy6⟩) (by assumption) ?g35qr6
                    case g35qy6 => first | (intro w hSw; (try dsimp only at hSw); go_simp; done) | (intro w hSw; (try dsimp only at hSw); go_simp; with_reducible rfl)
                    case' g35qr6 => try simp only [Act.put, List.setIfInBounds_toArray, List.set_cons_zero, List.set_cons_succ]
                    refine wpAnyH_takeL (i := 7) (v := ?g35qv7) rfl (by kernel_rfl) (by kernel_rfl) (by kernel_rfl) (fun _ _ _ h => h) (Or.inl ⟨by rfl, ?g35qy7⟩) (by assumption) ?g35qr7
                    case g35qy7 => first | (intro w hSw; (try dsimp only at hSw); go_simp; done) | (intro w hSw; (try dsimp only at hSw); go_simp; with_reducible rfl)
                    case' g35qr7 => try simp only [Act.put, List.setIfInBounds_toArray, List.set_cons_zero, List.set_cons_succ]
                    refine wpAnyH_takeL (i := 8) (v := ?g35qv8) rfl (by kernel_rfl) (by kernel_rfl) (by kernel_rfl) (fun _ _ _ h => h) (Or.inl ⟨by rfl, ?g35qy8⟩) (by assumption) ?g35qr8
                    case g35qy8 => first | (intro w hSw; (try dsimp only at hSw); go_simp; done) | (intro w hSw; (try dsimp only at hSw); go_simp; with_reducible rfl)
                    case' g35qr8 => try simp only [Act.put, List.setIfInBounds_toArray, List.set_cons_zero, List.set_cons_succ]
                    refine wpAnyH_takeL (i := 9) (v := ?g35qv9) rfl (by kernel_rfl) (by kernel_rfl) (by kernel_rfl) (fun _ _ _ h => h) (Or.inl ⟨by rfl, ?g35qy9⟩) (by assumption) ?g35qr9
                    case g35qy9 => first | (intro w hSw; (try dsimp only at hSw); go_simp; done) | (intro w hSw; (try dsimp only at hSw); go_simp; with_reducible rfl)
                    case' g35qr9 => try simp only [Act.put, List.setIfInBounds_toArray, List.set_cons_zero, List.set_cons_succ]
                    refine wpAnyH_takeL (i := 10) (v := ?g35qv10) rfl (by kernel_rfl) (by kernel_rfl) (by kernel_rfl) (fun _ _ _ h => h) (Or.inl ⟨by rfl, ?g35qy10⟩) (by assumption) ?g35qr10
                    case g35qy10 => first | (intro w hSw; (try dsimp only at hSw); go_simp; done) | (intro w hSw; (try dsimp only at hSw); go_simp; with_reducible rfl)
                    case' g35qr10 => try simp only [Act.put, List.setIfInBounds_toArray, List.set_cons_zero, List.set_cons_succ]
                    refine wpAnyH_takeL (i := 11) (v := ?g35qv11) rfl (by kernel_rfl) (by kernel_rfl) (by kernel_rfl) (fun _ _ _ h => h) (Or.inl ⟨by rfl, ?g35qy11⟩) (by assumption) ?g35qr11
                    case g35qy11 => first | (intro w hSw; (try dsimp only at hSw); go_simp; done) | (intro w hSw; (try dsimp only at hSw); go_simp; with_reducible rfl)
                    case' g35qr11 => try simp only [Act.put, List.setIfInBounds_toArray, List.set_cons_zero, List.set_cons_succ]
                    refine wpAnyH_takeL (i := 12) (v := undef) rfl (by kernel_rfl) (by kernel_rfl) (by kernel_rfl) (fun _ _ _ h => h) (Or.inr ⟨by rfl, rfl⟩) (by assumption) ?g35qr12
                    case' g35qr12 => try simp only [Act.put, List.setIfInBounds_toArray, List.set_cons_zero, List.set_cons_succ]
                    refine wpAnyH_takeL (i := 13) (v := undef) rfl (by kernel_rfl) (by kernel_rfl) (by kernel_rfl) (fun _ _ _ h => h) (Or.inr ⟨by rfl, rfl⟩) (by assumption) ?g35qr13
                    case' g35qr13 => try simp only [Act.put, List.setIfInBounds_toArray, List.set_cons_zero, List.set_cons_succ]
                    refine wpAnyH_takeL (i := 14) (v := undef) rfl (by kernel_rfl) (by kernel_rfl) (by kernel_rfl) (fun _ _ _ h => h) (Or.inr ⟨by rfl, rfl⟩) (by assumption) ?g35qr14
                    case' g35qr14 => try simp only [Act.put, List.setIfInBounds_toArray, List.set_cons_zero, List.set_cons_succ]
                    refine wpAnyH_takeL (i := 15) (v := undef) rfl (by kernel_rfl) (by kernel_rfl) (by kernel_rfl) (fun _ _ _ h => h) (Or.inr ⟨by rfl, rfl⟩) (by assumption) ?g35qr15
                    case' g35qr15 => try simp only [Act.put, List.setIfInBounds_toArray, List.set_cons_zero, List.set_cons_succ]
                    refine wpAnyH_takeL (i := 16) (v := undef) rfl (by kernel_rfl) (by kernel_rfl) (by kernel_rfl) (fun _ _ _ h => h) (Or.inr ⟨by rfl, rfl⟩) (by assumption) ?g35qr16
                    case' g35qr16 => try simp only [Act.put, List.setIfInBounds_toArray, List.set_cons_zero, List.set_cons_succ]
                    refine wpAnyH_takeL (i := 17) (v := undef) rfl (by kernel_rfl) (by kernel_rfl) (by kernel_rfl) (fun _ _ _ h => h) (Or.inr ⟨by rfl, rfl⟩) (by assumption) ?g35qr17
                    case' g35qr17 => try simp only [Act.put, List.setIfInBounds_toArray, List.set_cons_zero, List.set_cons_succ]
                    refine wpAnyH_ready (rs := [18]) (by kernel_rfl) (by simp) ?_
                    refine AllReadyH.consL rfl (fun K hK => ?_) AllReadyH.nil
                    refine cast (if_neg (fun h => Bool.noConfusion (show false = true from h))).symm ?_
                    refine hK.out _ _ (by assumption) (fun hSg35q1 => ?_)
                    clear hK K
                    try simp only [Act.put, List.setIfInBounds_toArray, List.set_cons_zero, List.set_cons_succ]
                    refine wpAnyH_takeL (i := 19) (v := undef) rfl (by kernel_rfl) (by kernel_rfl) (by kernel_rfl) (fun _ _ _ h => h) (Or.inr ⟨by rfl, rfl⟩) (by assumption) ?g35qr19
                    case' g35qr19 => try simp only [Act.put, List.setIfInBounds_toArray, List.set_cons_zero, List.set_cons_succ]
                    refine wpAnyH_takeL (i := 20) (v := ?g35qv20) rfl (by kernel_rfl) (by kernel_rfl) (by kernel_rfl) (fun _ _ _ h => h) (Or.inl ⟨by rfl, ?g35qy20⟩) (by assumption) ?g35qr20
                    case g35qy20 => first | (intro w hSw; (try dsimp only at hSw); go_simp; done) | (intro w hSw; (try dsimp only at hSw); go_simp; with_reducible rfl)
                    case' g35qr20 => try simp only [Act.put, List.setIfInBounds_toArray, List.set_cons_zero, List.set_cons_succ]
                    refine wpAnyH_done (by kernel_rfl) ?_ _
                    clear g1 g2 f2 c0 d0
                    go_wp2
                    first
                      | go_roundw
                      | refine ⟨?rel, ?measure⟩
                    case rel => exact ⟨k + 1, by omega, by go_num, hid HXI.out.drew⟩
                    case measure => simp [intOf]; omega
                  · obtain ⟨a, ha⟩ : ∃ a, w32 ((s.addr : Int) + k) = a := ⟨_, rfl⟩
                    obtain ⟨kk, hkk⟩ : ∃ kk, w32 (k : Int) = kk := ⟨_, rfl⟩
                    have e1 : IntKind.u32.wrap (k : Int) = (kk : Int) := by rw [wrap_w32, hkk]
                    have e2 : IntKind.u32.wrap ((s.addr : Int) + kk) = (a : Int) := by rw [wrap_w32, ← hkk, w32_addR, ha]
                    have hal : a < 4294967296 := by rw [← ha]; exact w32_lt _
                    have hnear : nearB Q a = true := by
                      have hs2 : (applyOb o).secs[i]? = some s' := by rw [HXD.out]; exact HSS2.out
                      obtain ⟨pp, hp1, hp2⟩ := apply_near HZ.out HSS.out hs2 (k := k) (by rw [HXK.out, HYK.out]; intro e; injection e with e; exact h3 e.symm)
                      rw [ha] at hp2
                      refine List.any_eq_true.2 ⟨pp, ?_, decide_eq_true hp2⟩
                      rw [← HQ.out]
                      exact asc_mem.2 hp1
                    have hn7 := fun W (hE : Ext w7 W) => near7_any W AQ Q.length cq Q (HSQ.out.ext hE) a hal
                    rw [hnear] at hn7
                    have HN7 := hid hn7
                    have n1 : ((x : Int) != y) = true := by simp; omega
                    have HX7I := hid (HX.out.trans (HXE9.out.trans HXI.out))
                    clear ha hkk hal hnear hn7 h3
                    go_wp2_with fail
                    refine wp_region_held_drew (S := (fun w' => w'.cell? ⟨aZ, 1, none⟩ = some (.int .u32 s.addr) ∧ w'.cell? ⟨aZ, 2, none⟩ = some (.slice (some ⟨bA, oA, none⟩) s.data.length dc) ∧ w'.cell? ⟨bZ, 2, none⟩ = some (.slice (some ⟨bB, oB, none⟩) s.data.length dd) ∧ w'.cell? ⟨bA, oA + k, none⟩ = some (.int .u8 x) ∧ w'.cell? ⟨bB, oB + k, none⟩ = some (.int .u8 y))) (by kernel_rfl) ⟨g1, g2, f2, c0, d0⟩ (fun hSg36q0 => ?_)
                    refine wpAnyH_takeL (i := 0) (v := ?g36qv0) rfl (by kernel_rfl) (by kernel_rfl) (by kernel_rfl) (fun _ _ _ h => h) (Or.inl ⟨by rfl, ?g36qy0⟩) (by assumption) ?g36qr0
                    case g36qy0 => first | (intro w hSw; (try dsimp only at hSw); go_simp; done) | (intro w hSw; (try dsimp only at hSw); go_simp; with_reducible rfl)
                    case' g36qr0 => try simp only [Act.put, List.setIfInBounds_toArray, List.set_cons_zero, List.set_cons_succ]
                    refine wpAnyH_takeL (i := 1) (v := ?g36qv1) rfl (by kernel_rfl) (by kernel_rfl) (by kernel_rfl) (fun _ _ _ h => h) (Or.inl ⟨by rfl, ?g36qy1⟩) (by assumption) ?g36qr1
                    case g36qy1 => first | (intro w hSw; (try dsimp only at hSw); go_simp; done) | (intro w hSw; (try dsimp only at hSw); go_simp; with_reducible rfl)
                    case' g36qr1 => try simp only [Act.put, List.setIfInBounds_toArray, List.set_cons_zero, List.set_cons_succ]
                    refine wpAnyH_takeL (i := 2) (v := ?g36qv2) rfl (by kernel_rfl) (by kernel_rfl) (by kernel_rfl) (fun _ _ _ h => h) (Or.inl ⟨by rfl, ?g36qy2⟩) (by assumption) ?g36qr2
                    case g36qy2 => first | (intro w hSw; (try dsimp only at hSw); go_simp; done) | (intro w hSw; (try dsimp only at hSw); go_simp; with_reducible rfl)
                    case' g36qr2 => try simp only [Act.put, List.setIfInBounds_toArray, List.set_cons_zero, List.set_cons_succ]
                    refine wpAnyH_takeL (i := 3) (v := ?g36qv3) rfl (by kernel_rfl) (by kernel_rfl) (by kernel_rfl) (fun _ _ _ h => h) (Or.inl ⟨by rfl, ?g36qy3⟩) (by assumption) ?g36qr3
                    case g36qy3 => first | (intro w hSw; (try dsimp only at hSw); go_simp; done) | (intro w hSw; (try dsimp only at hSw); go_simp; with_reducible rfl)
                    case' g36qr3 => try simp only [Act.put, List.setIfInBounds_toArray, List.set_cons_zero, List.set_cons_succ]
                    refine wpAnyH_takeL (i := 4) (v := ?g36qv4) rfl (by kernel_rfl) (by kernel_rfl) (by kernel_rfl) (fun _ _ _ h => h) (Or.inl ⟨by rfl, ?g36qy4⟩) (by assumption) ?g36qr4
                    case g36qy4 => first | (intro w hSw; (try dsimp only at hSw); go_simp; done) | (intro w hSw; (try dsimp only at hSw); go_simp; with_reducible rfl)
                    case' g36qr4 => try simp only [Act.put, List.setIfInBounds_toArray, List.set_cons_zero, List.set_cons_succ]
                    refine wpAnyH_takeL (i := 5) (v := ?g36qv5) rfl (by kernel_rfl) (by kernel_rfl) (by kernel_rfl) (fun _ _ _ h => h) (Or.inl ⟨by rfl, ?g36qy5⟩) (by assumption) ?g36qr5
                    case g36qy5 => first | (intro w hSw; (try dsimp only at hSw); go_simp; done) | (intro w hSw; (try dsimp only at hSw); go_simp; with_reducible rfl)
                    case' g36qr5 => try simp only [Act.put, List.setIfInBounds_toArray, List.set_cons_zero, List.set_cons_succ]
                    refine wpAnyH_takeL (i := 6) (v := ?g36qv6) rfl (by kernel_rfl) (by kernel_rfl) (by kernel_rfl) (fun _ _ _ h => h) (Or.inl ⟨by rfl, ?g36qy6⟩) (by assumption) ?g36qr6
                    case g36qy6 => first | (intro w hSw; (try dsimp only at hSw); go_simp; done) | (intro w hSw; (try dsimp only at hSw); go_simp; with_reducible rfl)
                    case' g36qr6 => try simp only [Act.put, List.setIfInBounds_toArray, List.set_cons_zero, List.set_cons_succ]
                    refine wpAnyH_takeL (i := 7) (v := ?g36qv7) rfl (by kernel_rfl) (by kernel_rfl) (by kernel_rfl) (fun _ _ _ h => h) (Or.inl ⟨by rfl, ?g36qy7⟩) (by assumption) ?g36qr7
                    case g36qy7 => first | (intro w hSw; (try dsimp only at hSw); go_simp; done) | (intro w hSw; (try dsimp only at hSw); go_simp; with_reducible rfl)
                    case' g36qr7 => try simp only [Act.put, List.setIfInBounds_toArray, List.set_cons_zero, List.set_cons_succ]
                    refine wpAnyH_takeL (i := 8) (v := ?g36qv8) rfl (by kernel_rfl) (by kernel_rfl) (by kernel_rfl) (fun _ _ _ h => h) (Or.inl ⟨by rfl, ?g36qy8⟩) (by assumption) ?g36qr8
                    case g36qy8 => first | (intro w hSw; (try dsimp only at hSw); go_simp; done) | (intro w hSw; (try dsimp only at hSw); go_simp; with_reducible rfl)
                    case' g36qr8 => try simp only [Act.put, List.setIfInBounds_toArray, List.set_cons_zero, List.set_cons_succ]
                    refine wpAnyH_takeL (i := 9) (v := ?g36qv9) rfl (by kernel_rfl) (by kernel_rfl) (by kernel_rfl) (fun _ _ _ h => h) (Or.inl ⟨by rfl, ?g36qy9⟩) (by assumption) ?g36qr9
                    case g36qy9 => first | (intro w hSw; (try dsimp only at hSw); go_simp; done) | (intro w hSw; (try dsimp only at hSw); go_simp; with_reducible rfl)
                    case' g36qr9 => try simp only [Act.put, List.setIfInBounds_toArray, List.set_cons_zero, List.set_cons_succ]
                    refine wpAnyH_takeL (i := 10) (v := ?g36qv10) rfl (by kernel_rfl) (by kernel_rfl) (by kernel_rfl) (fun _ _ _ h => h) (Or.inl ⟨by rfl, ?g36qy10⟩) (by assumption) ?g36qr10
                    case g36qy10 => first | (intro w hSw; (try dsimp only at hSw); go_simp; done) | (intro w hSw; (try dsimp only at hSw); go_simp; with_reducible rfl)
                    case' g36qr10 => try simp only [Act.put, List.setIfInBounds_toArray, List.set_cons_zero, List.set_cons_succ]
                    refine wpAnyH_takeL (i := 11) (v := ?g36qv11) rfl (by kernel_rfl) (by kernel_rfl) (by kernel_rfl) (fun _ _ _ h => h) (Or.inl ⟨by rfl, ?g36qy11⟩) (by assumption) ?g36qr11
                    case g36qy11 => first | (intro w hSw; (try dsimp only at hSw); go_simp; done) | (intro w hSw; (try dsimp only at hSw); go_simp; with_reducible rfl)
                    case' g36qr11 => try simp only [Act.put, List.setIfInBounds_toArray, List.set_cons_zero, List.set_cons_succ]
                    refine wpAnyH_takeL (i := 12) (v := ?g36qv12) rfl (by kernel_rfl) (by kernel_rfl) (by kernel_rfl) (fun _ _ _ h => h) (Or.inl ⟨by rfl, ?g36qy12⟩) (by assumption) ?g36qr12
                    case g36qy12 => first | (intro w hSw; (try dsimp only at hSw); go_simp; done) | (intro w hSw; (try dsimp only at hSw); go_simp; with_reducible rfl)
                    case' g36qr12 => try simp only [Act.put, List.setIfInBounds_toArray, List.set_cons_zero, List.set_cons_succ]
                    refine wpAnyH_takeL (i := 13) (v := ?g36qv13) rfl (by kernel_rfl) (by kernel_rfl) (by kernel_rfl) (fun _ _ _ h => h) (Or.inl ⟨by rfl, ?g36qy13⟩) (by assumption) ?g36qr13
                    case g36qy13 => first | (intro w hSw; (try dsimp only at hSw); go_simp; done) | (intro w hSw; (try dsimp only at hSw); go_simp; with_reducible rfl)
                    case' g36qr13 => try simp only [Act.put, List.setIfInBounds_toArray, List.set_cons_zero, List.set_cons_succ]
                    refine wpAnyH_takeL (i := 14) (v := ?g36qv14) rfl (by kernel_rfl) (by kernel_rfl) (by kernel_rfl) (fun _ _ _ h => h) (Or.inl ⟨by rfl, ?g36qy14⟩) (by assumption) ?g36qr14
                    case g36qy14 => first | (intro w hSw; (try dsimp only at hSw); go_simp; done) | (intro w hSw; (try dsimp only at hSw); go_simp; with_reducible rfl)
                    case' g36qr14 => try simp only [Act.put, List.setIfInBounds_toArray, List.set_cons_zero, List.set_cons_succ]
                    refine wpAnyH_takeL (i := 15) (v := ?g36qv15) rfl (by kernel_rfl) (by kernel_rfl) (by kernel_rfl) (fun _ _ _ h => h) (Or.inl ⟨by rfl, ?g36qy15⟩) (by assumption) ?g36qr15
                    case g36qy15 => first | (intro w hSw; (try dsimp only at hSw); go_simp; done) | (intro w hSw; (try dsimp only at hSw); go_simp; with_reducible rfl)
                    case' g36qr15 => try simp only [Act.put, List.setIfInBounds_toArray, List.set_cons_zero, List.set_cons_succ]
                    refine wpAnyH_takeL (i := 16) (v := ?g36qv16) rfl (by kernel_rfl) (by kernel_rfl) (by kernel_rfl) (fun _ _ _ h => h) (Or.inl ⟨by rfl, ?g36qy16⟩) (by assumption) ?g36qr16
                    case g36qy16 => first | (intro w hSw; (try dsimp only at hSw); go_simp; done) | (intro w hSw; (try dsimp only at hSw); go_simp; with_reducible rfl)
                    case' g36qr16 => try simp only [Act.put, List.setIfInBounds_toArray, List.set_cons_zero, List.set_cons_succ]
                    refine wpAnyH_takeL (i := 17) (v := ?g36qv17) rfl (by kernel_rfl) (by kernel_rfl) (by kernel_rfl) (fun _ _ _ h => h) (Or.inl ⟨by rfl, ?g36qy17⟩) (by assumption) ?g36qr17
                    case g36qy17 => first | (intro w hSw; (try dsimp only at hSw); go_simp; done) | (intro w hSw; (try dsimp only at hSw); go_simp; with_reducible rfl)
                    case' g36qr17 => try simp only [Act.put, List.setIfInBounds_toArray, List.set_cons_zero, List.set_cons_succ]
                    refine wpAnyH_ready (rs := [18]) (by kernel_rfl) (by simp) ?_
                    refine AllReadyH.consL rfl (fun K hK => ?_) AllReadyH.nil
                    go_simp
                    go_at_call 23
                    refine (HN7.out _ HX7I.out.drew).mono ?_
                    rintro e w9 ⟨rfl, hw9⟩
                    subst hw9
                    refine hK.out _ _ ⟨g1, g2, f2, c0, d0⟩ (fun hSg36q1 => ?_)
                    clear hK K
                    try simp only [Act.put, List.setIfInBounds_toArray, List.set_cons_zero, List.set_cons_succ]
                    refine wpAnyH_takeL (i := 19) (v := ?g36qv19) rfl (by kernel_rfl) (by kernel_rfl) (by kernel_rfl) (fun _ _ _ h => h) (Or.inl ⟨by rfl, ?g36qy19⟩) (by assumption) ?g36qr19
                    case g36qy19 => first | (intro w hSw; (try dsimp only at hSw); go_simp; done) | (intro w hSw; (try dsimp only at hSw); go_simp; with_reducible rfl)
                    case' g36qr19 => try simp only [Act.put, List.setIfInBounds_toArray, List.set_cons_zero, List.set_cons_succ]
                    refine wpAnyH_takeL (i := 20) (v := ?g36qv20) rfl (by kernel_rfl) (by kernel_rfl) (by kernel_rfl) (fun _ _ _ h => h) (Or.inl ⟨by rfl, ?g36qy20⟩) (by assumption) ?g36qr20
                    case g36qy20 => first | (intro w hSw; (try dsimp only at hSw); go_simp; done) | (intro w hSw; (try dsimp only at hSw); go_simp; with_reducible rfl)
                    case' g36qr20 => try simp only [Act.put, List.setIfInBounds_toArray, List.set_cons_zero, List.set_cons_succ]
                    refine wpAnyH_done (by kernel_rfl) ?_ _
                    clear g1 g2 f2 c0 d0
                    go_wp2
                    first
                      | go_roundw
                      | refine ⟨?rel, ?measure⟩
                    case rel => exact ⟨k + 1, by omega, by go_num, hid HXI.out.drew⟩
                    case measure => simp [intOf]; omega
                · obtain rfl : k = s.data.length := by omega
                  have h1' := HI.out
                  have hcs := HCS.out
                  go_wp2
                  first
                    | go_roundw
                    | refine ⟨?rel, ?measure⟩
                  case rel => exact ⟨i + 1, by omega, by go_num, hid (HX.out.trans (HXE9.out.trans HXI.out))⟩
                  case measure => simp [intOf]; omega
    · obtain rfl : i = ns := by omega
      go_wp2_with fail
      refine (example7_any _).mono ?_
      rintro e w9 ⟨rfl, hx9⟩
      have HX9 := hid ((HX7.out.trans HX.out).trans hx9)
      clear hx9
      go_wp2
      go_ret
      exact ⟨rfl, HX9.out⟩
end Go.Proofs.Ytnlofhbimfcejaa
