/- The law RelocRebase. -/
import Derived.Test.YtnlofhbimfcejaaRrbW
import Derived.Test.YtnlofhbimfcejaaR7B
namespace Go.Proofs.Ytnlofhbimfcejaa
open Go.RowKit Go.Deco
set_option linter.unusedSimpArgs false
set_option linter.unusedVariables false

theorem grownBy_byte {w : World} (g k : Nat) (v : Value) : w.grownBy (w.setCell ⟨g, k, none⟩ v) (some g) :=
  ⟨rfl, rfl, rfl, by simp, fun i hi hne => Below.heap_setCell _ _ _ i (by intro e; exact hne (by rw [e]))⟩
theorem SecsX.byte {w : World} {base hi : Nat} {tS : TypeId} {v : Value} {H : List Hd} {l : List Sec} (x : SecsX w base hi tS 5 v H l) {k g c f b : Nat} {h : Hd} {s : Sec} (hk : H[k]? = some h) (hs : l[k]? = some s) (hd : h.dv = .slice (some ⟨g, 0, none⟩) s.data.length c) (hb : b < 256) :
    SecsX (w.setCell ⟨g, f, none⟩ (.int .u8 b)) base hi tS 5 v H (l.set k { s with data := s.data.set f b }) := by
  have h0 := x.data k h s hk hs
  rw [hd] at h0
  refine x.bytes hk hs ?_ (by simp) ?_
  · rw [hd]
    exact OwnS.num_set h0 hb f
  · rw [hd]
    exact grownBy_byte g f _
theorem SecsX.tight {w : World} {base hi : Nat} {tS t8 : TypeId} {v : Value} {H : List Hd} {l : List Sec} (x : SecsX w base hi tS t8 v H l) : SecsX w base w.heap.size tS t8 v H l :=
  ⟨x.own, x.len, x.of, x.data, x.apart, x.sep, fun b hb => (x.own.block b hb).2, fun k h b hk hb => by
    obtain ⟨s, hs⟩ : ∃ s, l[k]? = some s := ⟨_, List.getElem?_eq_getElem (by have := (List.getElem?_eq_some_iff.1 hk).1; have := x.len; omega)⟩
    exact ((x.data k h s hk hs).block b hb).2⟩
theorem applyR_bad {o : Ob} (h : obCheck o ≠ 0) : applyR o = (Ob.zero, obCheck o) := by rw [applyR, if_neg h]
theorem applyR_ok {o : Ob} (h : obCheck o = 0) : applyR o = (applyOb o, 0) := by rw [applyR, if_pos h]
theorem key_addr {s s' : Sec} (h : secKey s' = secKey s) : s'.addr = s.addr := by
  simp only [secKey, Prod.mk.injEq] at h
  exact h.2.1
theorem movS_data (m : Nat) (s : Sec) : (movS m s).data = s.data := rfl

set_option maxRecDepth 100000 in
set_option maxHeartbeats 8000000 in
theorem rrb_any (w : World) (o : Ob) (As Ay Ar : Option Addr) (ns cs ny cy nr cr : Nat) (hs : Sl secR w All (.slice As ns cs) o.secs) (hy : Sl symR w All (.slice Ay ny cy) o.syms) (hr : Sl relR w All (.slice Ar nr cr) o.rels) (m : Nat) (hm : m < 4294967296) :
    Calls Try.prog 7 #[.agg #[.int .u32 o.entry, .slice As ns cs, .slice Ay ny cy, .slice Ar nr cr], .int .u32 m] w (OneTrue w) := by
  have HCS := hid hs.cap
  have HCR := hid hr.cap
  have HLS := hid hs.len
  have HLY := hid hy.len
  have HLR := hid hr.len
  have HM := hid hm
  clear hm
  obtain ⟨V0, hV0⟩ : ∃ W0, w.alloc (.cells #[.int .u32 o.entry, .slice As ns cs, .slice Ay ny cy, .slice Ar nr cr] 27) = W0 := ⟨_, rfl⟩
  have hE0 : Ext w V0 := by rw [← hV0]; exact (Ext.refl w).alloc _
  have hB : Box4 V0 w.heap.size (.int .u32 o.entry) (.slice As ns cs) (.slice Ay ny cy) (.slice Ar nr cr) := by rw [← hV0]; exact Box4.new w _ _ _ _ _
  have HB := hid hB
  have HE00 := hid hE0
  have hyc := hy.cap
  have hrc := hr.cap
  have HSM := hid (small_any V0 o As Ay Ar ns cs ny cy nr cr (hs.ext hE0) hyc hrc)
  have HS := hid hs
  have HY := hid hy
  have HR := hid hr
  obtain ⟨b0, b1, b2, b3, bf⟩ := HB.out
  clear hE0 hB hs hy hr hyc hrc bf
  go_enter Try.func7, Try.ntmps7
  go_wp2_with fail
  clear hV0 b0 b1 b2 b3
  refine (HSM.out).mono ?_
  rintro e w1 ⟨⟨b, rfl, hb⟩, hx1⟩
  have HX1 := hid hx1
  clear hx1
  cases b
  case' false =>
    clear hb
    go_wp2_with fail
    refine (example7_any _).mono ?_
    rintro e w2 ⟨rfl, hx2⟩
    have HX2 := hid (HE00.out.trans (HX1.out.trans hx2))
    clear hx2
    go_wp2
    go_ret
    exact ⟨rfl, HX2.out⟩
  have HSML := hid (hb rfl)
  have hE1 := HE00.out.trans HX1.out
  have HE1 := hid hE1
  have HBB := hid (HB.out.ext HX1.out)
  clear hb hE1
  obtain ⟨V0', hV0'⟩ : ∃ V, V = w1 := ⟨_, rfl⟩
  have HD0 := hid (Ext.refl w1)
  obtain ⟨y0, y1, y2, y3, yf⟩ := HBB.out
  go_wp2_with fail
  clear y0 y1 y2 y3 yf hV0' V0'
  have hEw := HE1.out
  have HE1' : Hid (Ext w w1) := hid hEw
  clear hEw
  obtain ⟨V1, hV1⟩ : ∃ V, V = w1 := ⟨_, rfl⟩
  obtain rfl := hV1
  have hc1 := fun W (h : Ext w W) => (rlapply_any W o As Ay Ar _ cs _ cy _ cr (HS.out.ext h) (HY.out.ext h) (HR.out.ext h)).mono (fun e w' h => ApplyIs.obr h)
  have hc2 := fun W (h : Ext w W) => (rlrebase_any W o As Ay Ar _ cs _ cy _ cr (HS.out.ext h) (HY.out.ext h) (HR.out.ext h) m).mono (fun e w' h => RebaseIs.obr h)
  have hc3 := fun W (h : Ext w W) => check7_any W o As Ay Ar ns cs ny cy nr cr (HS.out.ext h) (HY.out.ext h) (HR.out.ext h)
  by_cases h0 : obCheck o = 0
  case neg =>
    obtain ⟨er, hEr⟩ : ∃ er, obCheck o = er := ⟨_, rfl⟩
    obtain ⟨X, hX⟩ : ∃ X, X = Ob.zero := ⟨_, rfl⟩
    rw [applyR_bad h0, hEr] at hc1
    rw [rebaseR_bad h0, hEr] at hc2
    rw [hEr] at hc3
    dsimp only at hc1 hc2
    rw [← hX] at hc1 hc2
    have HC1 := hid hc1
    have HC2 := hid hc2
    have HC3 := hid hc3
    have n1 : ((er : Int) != 0) = true := by rw [← hEr]; simp; omega
    have n2 : ((er : Int) != er) = false := by simp
    have n3 : ((er : Int) == er) = true := by simp
    clear hc1 hc2 hc3 hEr hX h0
    refine (HC1.out _ HE1.out).mono ?_
    rintro e w2 ⟨hx2, A2, B2, C2, a2, b2, c2, rfl, hs2, hy2, hr2⟩
    have hp2 := Box4.new w2 (.int .u32 X.entry) (.slice A2 X.secs.length a2) (.slice B2 X.syms.length b2) (.slice C2 X.rels.length c2) 27
    obtain ⟨V2, hV2⟩ : ∃ V, w2.alloc (.cells #[.int .u32 X.entry, .slice A2 X.secs.length a2, .slice B2 X.syms.length b2, .slice C2 X.rels.length c2] 27) = V := ⟨_, rfl⟩
    rw [hV2] at hp2
    have hA2 : Ext w2 V2 := by rw [← hV2]; exact (Ext.refl w2).alloc _
    have hE2 : Ext V1 V2 := hx2.trans hA2
    have HE2 := hid (HE1.out.trans hE2)
    have HD2 := hid hE2
    have HP2 := hid hp2
    have HS2 := hid (hs2.ext hA2)
    have HY2 := hid (hy2.ext hA2)
    have HR2 := hid (hr2.ext hA2)
    clear hx2 hs2 hy2 hr2 hE2 hA2 hp2
    obtain ⟨y0, y1, y2, y3, yf⟩ := HBB.out.ext HD2.out
    go_wp2_with fail
    clear y0 y1 y2 y3 yf hV2
    refine (HC2.out _ HE2.out).mono ?_
    rintro e w3 ⟨hx3, A3, B3, C3, a3, b3, c3, rfl, hs3, hy3, hr3⟩
    have hp3 := Box4.new w3 (.int .u32 X.entry) (.slice A3 X.secs.length a3) (.slice B3 X.syms.length b3) (.slice C3 X.rels.length c3) 27
    obtain ⟨V3, hV3⟩ : ∃ V, w3.alloc (.cells #[.int .u32 X.entry, .slice A3 X.secs.length a3, .slice B3 X.syms.length b3, .slice C3 X.rels.length c3] 27) = V := ⟨_, rfl⟩
    rw [hV3] at hp3
    have hA3 : Ext w3 V3 := by rw [← hV3]; exact (Ext.refl w3).alloc _
    have hE3 : Ext V2 V3 := hx3.trans hA3
    have HE3 := hid (HE2.out.trans hE3)
    have HD3 := hid hE3
    have HP3 := hid hp3
    have HS3 := hid (hs3.ext hA3)
    have HY3 := hid (hy3.ext hA3)
    have HR3 := hid (hr3.ext hA3)
    clear hx3 hs3 hy3 hr3 hE3 hA3 hp3
    obtain ⟨y0, y1, y2, y3, yf⟩ := HBB.out.ext (HD2.out.trans HD3.out)
    go_wp2_with fail
    clear y0 y1 y2 y3 yf hV3
    refine (HC3.out _ HE3.out).mono ?_
    rintro e w4 ⟨rfl, hx4⟩
    have HX4 := hid (HE3.out.trans hx4)
    clear hx4
    go_wp2_with fail
    refine (example7_any _).mono ?_
    rintro e w7 ⟨rfl, hx7⟩
    have HX7 := hid (HX4.out.trans hx7)
    clear hx7
    go_wp2
    go_ret
    exact ⟨rfl, HX7.out⟩
  obtain ⟨X, hX⟩ : ∃ X, applyOb o = X := ⟨_, rfl⟩
  rw [applyR_ok h0, hX] at hc1
  rw [h0] at hc3
  dsimp only at hc1
  have HC1 := hid hc1
  have HC3 := hid hc3
  have HZ := hid h0
  have HXD := hid hX
  have xe : X.entry = o.entry := by rw [← hX]; rfl
  have xs : X.secs.length = ns := by rw [← hX]; exact (fold_len o.rels o.secs).trans HLS.out.symm
  have HXE := hid (And.intro xe xs)
  clear hc1 hc3 hX xe xs
  refine (HC1.out _ HE1.out).mono ?_
  rintro e w2 ⟨hx2, A2, B2, C2, a2, b2, c2, rfl, hs2, hy2, hr2⟩
  have hp2 := Box4.new w2 (.int .u32 X.entry) (.slice A2 X.secs.length a2) (.slice B2 X.syms.length b2) (.slice C2 X.rels.length c2) 27
  obtain ⟨V2, hV2⟩ : ∃ V, w2.alloc (.cells #[.int .u32 X.entry, .slice A2 X.secs.length a2, .slice B2 X.syms.length b2, .slice C2 X.rels.length c2] 27) = V := ⟨_, rfl⟩
  rw [hV2] at hp2
  have hA2 : Ext w2 V2 := by rw [← hV2]; exact (Ext.refl w2).alloc _
  have hE2 : Ext V1 V2 := hx2.trans hA2
  have HE2 := hid (HE1.out.trans hE2)
  have HD2 := hid hE2
  have HP2 := hid hp2
  have HS2 := hid (hs2.ext hA2)
  have HY2 := hid (hy2.ext hA2)
  have HR2 := hid (hr2.ext hA2)
  clear hx2 hs2 hy2 hr2 hE2 hA2 hp2
  obtain ⟨y0, y1, y2, y3, yf⟩ := HBB.out.ext HD2.out
  go_wp2_with fail
  clear y0 y1 y2 y3 yf hV2
  by_cases h1 : obCheck (moveOb o m) = 0
  case neg =>
    obtain ⟨er, hEr⟩ : ∃ er, obCheck (moveOb o m) = er := ⟨_, rfl⟩
    obtain ⟨Z, hZ⟩ : ∃ Z, Z = Ob.zero := ⟨_, rfl⟩
    rw [rebaseR_bad2 h0 h1, hEr] at hc2
    dsimp only at hc2
    rw [← hZ] at hc2
    have HC2 := hid hc2
    have n1 : ((er : Int) != 0) = true := by rw [← hEr]; simp; omega
    have xl2 : ((Z.secs.length : Int) == 0) = true := by rw [hZ]; rfl
    have HXL := hid xl2
    clear hc2 hEr hZ h0 h1 xl2
    refine (HC2.out _ HE2.out).mono ?_
    rintro e w3 ⟨hx3, A3, B3, C3, a3, b3, c3, rfl, hs3, hy3, hr3⟩
    have hp3 := Box4.new w3 (.int .u32 Z.entry) (.slice A3 Z.secs.length a3) (.slice B3 Z.syms.length b3) (.slice C3 Z.rels.length c3) 27
    obtain ⟨V3, hV3⟩ : ∃ V, w3.alloc (.cells #[.int .u32 Z.entry, .slice A3 Z.secs.length a3, .slice B3 Z.syms.length b3, .slice C3 Z.rels.length c3] 27) = V := ⟨_, rfl⟩
    rw [hV3] at hp3
    have hA3 : Ext w3 V3 := by rw [← hV3]; exact (Ext.refl w3).alloc _
    have hE3 : Ext V2 V3 := hx3.trans hA3
    have HE3 := hid (HE2.out.trans hE3)
    have HD3 := hid hE3
    have HP3 := hid hp3
    have HS3 := hid (hs3.ext hA3)
    have HY3 := hid (hy3.ext hA3)
    have HR3 := hid (hr3.ext hA3)
    clear hx3 hs3 hy3 hr3 hE3 hA3 hp3
    obtain ⟨y0, y1, y2, y3, yf⟩ := HBB.out.ext (HD2.out.trans HD3.out)
    go_wp2_with fail
    clear y0 y1 y2 y3 yf hV3
    refine (HC3.out _ HE3.out).mono ?_
    rintro e w4 ⟨rfl, hx4⟩
    obtain ⟨p0, p1, p2, p3, -⟩ := HP3.out.ext hx4
    have HX4 := hid (HE3.out.trans hx4)
    have xl2 := HXL.out
    clear hx4
    go_wp2_with fail
    clear p0 p1 p2 p3 xl2
    refine (example7_any _).mono ?_
    rintro e w7 ⟨rfl, hx7⟩
    have HX7 := hid (HX4.out.trans hx7)
    clear hx7
    go_wp2
    go_ret
    exact ⟨rfl, HX7.out⟩
  obtain ⟨M, hMd⟩ : ∃ M, moveOb o m = M := ⟨_, rfl⟩
  have hreb := reb_of h0 h1 HM.out
  have hse : w32 ((M.entry : Int) - (o.entry : Int)) = m := by
    have := HM.out
    rw [← hMd]
    show w32 (((w32 ((o.entry : Int) + m) : Nat) : Int) - (o.entry : Int)) = m
    unfold w32
    omega
  have ml : M.secs.length = ns := by rw [← hMd]; exact (List.length_map _).trans HLS.out.symm
  rw [rebaseR_ok h0 h1, hMd] at hc2
  rw [hMd] at h1 hreb
  dsimp only at hc2
  have HC2 := hid hc2
  have HMZ := hid h1
  have HME := hid (And.intro hse ml)
  have hxs : (applyOb o).secs = X.secs := by rw [HXD.out]
  rw [hxs] at hreb
  have HRB := hid hreb
  clear hc2 h0 h1 hMd hse ml hreb hxs
  refine (HC2.out _ HE2.out).mono ?_
  rintro e w3 ⟨hx3, A3, B3, C3, a3, b3, c3, rfl, hs3, hy3, hr3⟩
  have hp3 := Box4.new w3 (.int .u32 M.entry) (.slice A3 M.secs.length a3) (.slice B3 M.syms.length b3) (.slice C3 M.rels.length c3) 27
  obtain ⟨V3, hV3⟩ : ∃ V, w3.alloc (.cells #[.int .u32 M.entry, .slice A3 M.secs.length a3, .slice B3 M.syms.length b3, .slice C3 M.rels.length c3] 27) = V := ⟨_, rfl⟩
  rw [hV3] at hp3
  have hA3 : Ext w3 V3 := by rw [← hV3]; exact (Ext.refl w3).alloc _
  have hE3 : Ext V2 V3 := hx3.trans hA3
  have HE3 := hid (HE2.out.trans hE3)
  have HD3 := hid hE3
  have HP3 := hid hp3
  have HS3 := hid (hs3.ext hA3)
  have HY3 := hid (hy3.ext hA3)
  have HR3 := hid (hr3.ext hA3)
  clear hx3 hs3 hy3 hr3 hE3 hA3 hp3
  obtain ⟨y0, y1, y2, y3, yf⟩ := HBB.out.ext (HD2.out.trans HD3.out)
  go_wp2_with fail
  clear y0 y1 y2 y3 yf hV3
  refine (HC3.out _ HE3.out).mono ?_
  rintro e w4 ⟨rfl, hx4⟩
  have HX4 := hid (HE3.out.trans hx4)
  have HD4 := hid (HD3.out.trans hx4)
  have hcy := rlapply_any w4 M A3 B3 C3 _ a3 _ b3 _ c3 (HS3.out.ext hx4) (HY3.out.ext hx4) (HR3.out.ext hx4)
  have HCY := hid hcy
  obtain ⟨p0, p1, p2, p3, -⟩ := HP3.out.ext hx4
  clear hx4 hcy
  go_wp2_with fail
  clear p0 p1 p2 p3
  refine (HCY.out).mono ?_
  rintro e w5 hap
  rcases hap with ⟨hb, -, -⟩ | ⟨-, AS, AY, cS, cY, H, hi, rfl, hx5, hsx5, hsy5⟩
  · exact absurd HMZ.out hb
  have hsx6 := SecsX.tight hsx5
  rw [HME.out.2] at hsx6 ⊢
  have hp5 := Box4.new w5 (.int .u32 M.entry) (.slice AS ns cS) (.slice AY M.syms.length cY) (.slice none 0 0) 27
  obtain ⟨V5, hV5⟩ : ∃ V, w5.alloc (.cells #[.int .u32 M.entry, .slice AS ns cS, .slice AY M.syms.length cY, .slice none 0 0] 27) = V := ⟨_, rfl⟩
  rw [hV5] at hp5
  have hA5 : Ext w5 V5 := by rw [← hV5]; exact (Ext.refl w5).alloc _
  have hz5 : w5.heap.size < V5.heap.size := by rw [← hV5]; simp
  obtain ⟨Y, hY⟩ : ∃ Y, (applyOb M).secs = Y := ⟨_, rfl⟩
  have hreb := HRB.out
  rw [hY] at hsx6 hreb
  have HSY := hid (hsx6.ext hA5)
  have HX5 := hid (hx5.trans hA5)
  have HZ5 := hid hz5
  have HRB := hid hreb
  have HHI := hid hx5.size
  have HP5 := hid hp5
  have hq5 : V5.setCell ⟨w5.heap.size, 3, none⟩ (.slice none 0 0) = V5 := by rw [← hV5]; simp [go_sem]
  clear hx5 hsx5 hsy5 hsx6 hA5 hz5 hY hreb hp5
  obtain ⟨y0, y1, y2, y3, -⟩ := HBB.out.ext (HD2.out.trans (HD4.out.trans HX5.out))
  obtain ⟨p0, p1, p2, p3, -⟩ := HP2.out.ext (HD4.out.trans HX5.out)
  obtain ⟨q0, q1, q2, q3, qf⟩ := HP5.out
  obtain ⟨xe, xs⟩ := HXE.out
  have hse := HME.out.1
  rw [xe] at p0
  rw [xs] at p1
  have ent : IntKind.u32.wrap ((M.entry : Int) - (o.entry : Int)) = (m : Int) := by rw [wrap_w32, hse]
  have n1 : ((ns : Int) != ns) = false := by simp
  have n2 : ((m : Int) != m) = false := by simp
  clear hse xe xs
  go_wp2_with fail
  clear y0 y1 y2 y3 p0 p1 p2 p3 q0 q1 q2 q3 qf ent n1 n2 hV5 hq5
  go_loopw [11] (fun i wr => ∃ k : Nat, k ≤ ns ∧ i = .int .i64 k ∧ Hid (Ext V5 wr)) (fun i _ => ns - (intOf i).toNat)
  case atStart => exact ⟨0, by omega, rfl, hid (Ext.refl _)⟩
  case round =>
    obtain ⟨i, hi, rfl, HX⟩ := hrel
    obtain ⟨y0, y1, y2, y3, -⟩ := HBB.out.ext (HD2.out.trans (HD4.out.trans (HX5.out.trans HX.out)))
    by_cases h1 : i < ns
    · have HI := hid h1
      obtain ⟨p0, p1, p2, p3, -⟩ := HP2.out.ext (HD4.out.trans (HX5.out.trans HX.out))
      obtain ⟨q0, q1, q2, q3, -⟩ := HP5.out.ext HX.out
      rw [HXE.out.2] at p1
      obtain ⟨s, hs⟩ : ∃ s, o.secs[i]? = some s := ⟨_, List.getElem?_eq_getElem (by have := HLS.out; omega)⟩
      obtain ⟨x, hx, hkx⟩ := shape_at HRB.out.keyX hs
      obtain ⟨y, hyy, hky⟩ := shape_at HRB.out.keyY (k := i) (s := movS m s) (by rw [List.getElem?_map, hs]; rfl)
      obtain ⟨ba, oa, dA, ca, rfl, -, -, -, -, a0, a1, a2', a3', a4⟩ := Sl.sec_at (HS.out.ext (HX4.out.trans (HX5.out.trans HX.out))) hs
      obtain ⟨bb, ob, dB, cb, rfl, -, -, -, -, b0, b1, b2, b3, b4⟩ := Sl.sec_at (HS2.out.ext (HD4.out.trans (HX5.out.trans HX.out))) hx
      obtain ⟨bc, oc, dC, cc, rfl, -, -, -, -, c0, c1, c2, c3, c4⟩ := Sl.sec_at ((HSY.out.ext HX.out).sl (S := All) (fun _ _ => trivial)) hyy
      rw [key_len hkx] at b2
      rw [show y.data.length = s.data.length from (key_len hky).trans (congrArg List.length (movS_data m s))] at c2
      rw [key_addr hkx] at b1
      rw [show y.addr = w32 ((s.addr : Int) + m) from key_addr hky] at c1
      obtain ⟨L, hL⟩ : ∃ L, s.data.length = L := ⟨_, rfl⟩
      obtain ⟨ya, hya⟩ : ∃ ya, w32 ((s.addr : Int) + m) = ya := ⟨_, rfl⟩
      obtain ⟨sa, hsa⟩ : ∃ sa, s.addr = sa := ⟨_, rfl⟩
      have ew : IntKind.u32.wrap ((ya : Int) - (sa : Int)) = (m : Int) := by
        have := HM.out
        rw [← hya, ← hsa, wrap_w32]
        unfold w32
        omega
      rw [hL] at a2' b2 c2
      rw [hya] at c1
      rw [hsa] at b1
      have n1 : ((L : Int) != L) = false := by simp
      have n2 : ((m : Int) != m) = false := by simp
      have i1 : (0 : Int) ≤ (i : Int) := by omega
      have i2 : (i : Int) < (ns : Int) := by omega
      clear hs hx hkx hyy hky hL hya hsa a0 a1 a3' a4 b0 b3 b4 c0 c3 c4
      have hcs := HCS.out
      go_wp2_with fail
      refine wp_region_held_drew (S := (fun w' => w'.cell? ⟨w.heap.size, 1, none⟩ = some (.slice (some ⟨ba, oa, none⟩) ns cs) ∧ w'.cell? ⟨w2.heap.size, 1, none⟩ = some (.slice (some ⟨bb, ob, none⟩) ns a2) ∧ w'.cell? ⟨w5.heap.size, 1, none⟩ = some (.slice (some ⟨bc, oc, none⟩) ns cS) ∧ w'.cell? ⟨ba, oa + i * 5 + 2, none⟩ = some (.slice dA L ca) ∧ w'.cell? ⟨bb, ob + i * 5 + 1, none⟩ = some (.int .u32 sa) ∧ w'.cell? ⟨bb, ob + i * 5 + 2, none⟩ = some (.slice dB L cb) ∧ w'.cell? ⟨bc, oc + i * 5 + 1, none⟩ = some (.int .u32 ya) ∧ w'.cell? ⟨bc, oc + i * 5 + 2, none⟩ = some (.slice dC L cc))) (by kernel_rfl) ⟨y1, p1, q1, a2', b1, b2, c1, c2⟩ (fun hSg1q0 => ?_)
      refine wpAnyH_takeL (i := 0) (v := ?g1qv0) rfl (by kernel_rfl) (by kernel_rfl) (by kernel_rfl) (fun _ _ _ h => h) (Or.inl ⟨by rfl, ?g1qy0⟩) (by assumption) ?g1qr0
      case g1qy0 => first | (intro w hSw; (try dsimp only at hSw); go_simp; done) | (intro w hSw; (try dsimp only at hSw); go_simp; with_reducible rfl)
      case' g1qr0 => try simp only [Act.put, List.setIfInBounds_toArray, List.set_cons_zero, List.set_cons_succ]
      refine wpAnyH_takeL (i := 1) (v := ?g1qv1) rfl (by kernel_rfl) (by kernel_rfl) (by kernel_rfl) (fun _ _ _ h => h) (Or.inl ⟨by rfl, ?g1qy1⟩) (by assumption) ?g1qr1
      case g1qy1 => first | (intro w hSw; (try dsimp only at hSw); go_simp; done) | (intro w hSw; (try dsimp only at hSw); go_simp; with_reducible rfl)
      case' g1qr1 => try simp only [Act.put, List.setIfInBounds_toArray, List.set_cons_zero, List.set_cons_succ]
      refine wpAnyH_takeL (i := 2) (v := ?g1qv2) rfl (by kernel_rfl) (by kernel_rfl) (by kernel_rfl) (fun _ _ _ h => h) (Or.inl ⟨by rfl, ?g1qy2⟩) (by assumption) ?g1qr2
      case g1qy2 => first | (intro w hSw; (try dsimp only at hSw); go_simp; done) | (intro w hSw; (try dsimp only at hSw); go_simp; with_reducible rfl)
      case' g1qr2 => try simp only [Act.put, List.setIfInBounds_toArray, List.set_cons_zero, List.set_cons_succ]
      refine wpAnyH_takeL (i := 3) (v := ?g1qv3) rfl (by kernel_rfl) (by kernel_rfl) (by kernel_rfl) (fun _ _ _ h => h) (Or.inl ⟨by rfl, ?g1qy3⟩) (by assumption) ?g1qr3
      case g1qy3 => first | (intro w hSw; (try dsimp only at hSw); go_simp; done) | (intro w hSw; (try dsimp only at hSw); go_simp; with_reducible rfl)
      case' g1qr3 => try simp only [Act.put, List.setIfInBounds_toArray, List.set_cons_zero, List.set_cons_succ]
      refine wpAnyH_takeL (i := 4) (v := ?g1qv4) rfl (by kernel_rfl) (by kernel_rfl) (by kernel_rfl) (fun _ _ _ h => h) (Or.inl ⟨by rfl, ?g1qy4⟩) (by assumption) ?g1qr4
      case g1qy4 => first | (intro w hSw; (try dsimp only at hSw); go_simp; done) | (intro w hSw; (try dsimp only at hSw); go_simp; with_reducible rfl)
      case' g1qr4 => try simp only [Act.put, List.setIfInBounds_toArray, List.set_cons_zero, List.set_cons_succ]
      refine wpAnyH_takeL (i := 5) (v := ?g1qv5) rfl (by kernel_rfl) (by kernel_rfl) (by kernel_rfl) (fun _ _ _ h => h) (Or.inl ⟨by rfl, ?g1qy5⟩) (by assumption) ?g1qr5
      case g1qy5 => first | (intro w hSw; (try dsimp only at hSw); go_simp; done) | (intro w hSw; (try dsimp only at hSw); go_simp; with_reducible rfl)
      case' g1qr5 => try simp only [Act.put, List.setIfInBounds_toArray, List.set_cons_zero, List.set_cons_succ]
      refine wpAnyH_takeL (i := 6) (v := ?g1qv6) rfl (by kernel_rfl) (by kernel_rfl) (by kernel_rfl) (fun _ _ _ h => h) (Or.inl ⟨by rfl, ?g1qy6⟩) (by assumption) ?g1qr6
      case g1qy6 => first | (intro w hSw; (try dsimp only at hSw); go_simp; done) | (intro w hSw; (try dsimp only at hSw); go_simp; with_reducible rfl)
      case' g1qr6 => try simp only [Act.put, List.setIfInBounds_toArray, List.set_cons_zero, List.set_cons_succ]
      refine wpAnyH_takeL (i := 7) (v := ?g1qv7) rfl (by kernel_rfl) (by kernel_rfl) (by kernel_rfl) (fun _ _ _ h => h) (Or.inl ⟨by rfl, ?g1qy7⟩) (by assumption) ?g1qr7
      case g1qy7 => first | (intro w hSw; (try dsimp only at hSw); go_simp; done) | (intro w hSw; (try dsimp only at hSw); go_simp; with_reducible rfl)
      case' g1qr7 => try simp only [Act.put, List.setIfInBounds_toArray, List.set_cons_zero, List.set_cons_succ]
      refine wpAnyH_takeL (i := 8) (v := ?g1qv8) rfl (by kernel_rfl) (by kernel_rfl) (by kernel_rfl) (fun _ _ _ h => h) (Or.inl ⟨by rfl, ?g1qy8⟩) (by assumption) ?g1qr8
      case g1qy8 => first | (intro w hSw; (try dsimp only at hSw); go_simp; done) | (intro w hSw; (try dsimp only at hSw); go_simp; with_reducible rfl)
      case' g1qr8 => try simp only [Act.put, List.setIfInBounds_toArray, List.set_cons_zero, List.set_cons_succ]
      refine wpAnyH_takeL (i := 9) (v := ?g1qv9) rfl (by kernel_rfl) (by kernel_rfl) (by kernel_rfl) (fun _ _ _ h => h) (Or.inl ⟨by rfl, ?g1qy9⟩) (by assumption) ?g1qr9
      case g1qy9 => first | (intro w hSw; (try dsimp only at hSw); go_simp; done) | (intro w hSw; (try dsimp only at hSw); go_simp; with_reducible rfl)
      case' g1qr9 => try simp only [Act.put, List.setIfInBounds_toArray, List.set_cons_zero, List.set_cons_succ]
      refine wpAnyH_takeL (i := 10) (v := ?g1qv10) rfl (by kernel_rfl) (by kernel_rfl) (by kernel_rfl) (fun _ _ _ h => h) (Or.inl ⟨by rfl, ?g1qy10⟩) (by assumption) ?g1qr10
      case g1qy10 => first | (intro w hSw; (try dsimp only at hSw); go_simp; done) | (intro w hSw; (try dsimp only at hSw); go_simp; with_reducible rfl)
      case' g1qr10 => try simp only [Act.put, List.setIfInBounds_toArray, List.set_cons_zero, List.set_cons_succ]
      refine wpAnyH_takeL (i := 11) (v := ?g1qv11) rfl (by kernel_rfl) (by kernel_rfl) (by kernel_rfl) (fun _ _ _ h => h) (Or.inl ⟨by rfl, ?g1qy11⟩) (by assumption) ?g1qr11
      case g1qy11 => first | (intro w hSw; (try dsimp only at hSw); go_simp; done) | (intro w hSw; (try dsimp only at hSw); go_simp; with_reducible rfl)
      case' g1qr11 => try simp only [Act.put, List.setIfInBounds_toArray, List.set_cons_zero, List.set_cons_succ]
      refine wpAnyH_takeL (i := 12) (v := ?g1qv12) rfl (by kernel_rfl) (by kernel_rfl) (by kernel_rfl) (fun _ _ _ h => h) (Or.inl ⟨by rfl, ?g1qy12⟩) (by assumption) ?g1qr12
      case g1qy12 => first | (intro w hSw; (try dsimp only at hSw); go_simp; done) | (intro w hSw; (try dsimp only at hSw); go_simp; with_reducible rfl)
      case' g1qr12 => try simp only [Act.put, List.setIfInBounds_toArray, List.set_cons_zero, List.set_cons_succ]
      refine wpAnyH_takeL (i := 13) (v := ?g1qv13) rfl (by kernel_rfl) (by kernel_rfl) (by kernel_rfl) (fun _ _ _ h => h) (Or.inl ⟨by rfl, ?g1qy13⟩) (by assumption) ?g1qr13
      case g1qy13 => first | (intro w hSw; (try dsimp only at hSw); go_simp; done) | (intro w hSw; (try dsimp only at hSw); go_simp; with_reducible rfl)
      case' g1qr13 => try simp only [Act.put, List.setIfInBounds_toArray, List.set_cons_zero, List.set_cons_succ]
      refine wpAnyH_takeL (i := 14) (v := ?g1qv14) rfl (by kernel_rfl) (by kernel_rfl) (by kernel_rfl) (fun _ _ _ h => h) (Or.inl ⟨by rfl, ?g1qy14⟩) (by assumption) ?g1qr14
      case g1qy14 => first | (intro w hSw; (try dsimp only at hSw); go_simp; done) | (intro w hSw; (try dsimp only at hSw); go_simp; with_reducible rfl)
      case' g1qr14 => try simp only [Act.put, List.setIfInBounds_toArray, List.set_cons_zero, List.set_cons_succ]
      refine wpAnyH_takeL (i := 15) (v := ?g1qv15) rfl (by kernel_rfl) (by kernel_rfl) (by kernel_rfl) (fun _ _ _ h => h) (Or.inl ⟨by rfl, ?g1qy15⟩) (by assumption) ?g1qr15
      case g1qy15 => first | (intro w hSw; (try dsimp only at hSw); go_simp; done) | (intro w hSw; (try dsimp only at hSw); go_simp; with_reducible rfl)
      case' g1qr15 => try simp only [Act.put, List.setIfInBounds_toArray, List.set_cons_zero, List.set_cons_succ]
      refine wpAnyH_takeL (i := 16) (v := ?g1qv16) rfl (by kernel_rfl) (by kernel_rfl) (by kernel_rfl) (fun _ _ _ h => h) (Or.inl ⟨by rfl, ?g1qy16⟩) (by assumption) ?g1qr16
      case g1qy16 => first | (intro w hSw; (try dsimp only at hSw); go_simp; done) | (intro w hSw; (try dsimp only at hSw); go_simp; with_reducible rfl)
      case' g1qr16 => try simp only [Act.put, List.setIfInBounds_toArray, List.set_cons_zero, List.set_cons_succ]
      refine wpAnyH_takeL (i := 17) (v := ?g1qv17) rfl (by kernel_rfl) (by kernel_rfl) (by kernel_rfl) (fun _ _ _ h => h) (Or.inl ⟨by rfl, ?g1qy17⟩) (by assumption) ?g1qr17
      case g1qy17 => first | (intro w hSw; (try dsimp only at hSw); go_simp; done) | (intro w hSw; (try dsimp only at hSw); go_simp; with_reducible rfl)
      case' g1qr17 => try simp only [Act.put, List.setIfInBounds_toArray, List.set_cons_zero, List.set_cons_succ]
      refine wpAnyH_takeL (i := 18) (v := ?g1qv18) rfl (by kernel_rfl) (by kernel_rfl) (by kernel_rfl) (fun _ _ _ h => h) (Or.inl ⟨by rfl, ?g1qy18⟩) (by assumption) ?g1qr18
      case g1qy18 => first | (intro w hSw; (try dsimp only at hSw); go_simp; done) | (intro w hSw; (try dsimp only at hSw); go_simp; with_reducible rfl)
      case' g1qr18 => try simp only [Act.put, List.setIfInBounds_toArray, List.set_cons_zero, List.set_cons_succ]
      refine wpAnyH_takeL (i := 19) (v := ?g1qv19) rfl (by kernel_rfl) (by kernel_rfl) (by kernel_rfl) (fun _ _ _ h => h) (Or.inl ⟨by rfl, ?g1qy19⟩) (by assumption) ?g1qr19
      case g1qy19 => first | (intro w hSw; (try dsimp only at hSw); go_simp; done) | (intro w hSw; (try dsimp only at hSw); go_simp; with_reducible rfl)
      case' g1qr19 => try simp only [Act.put, List.setIfInBounds_toArray, List.set_cons_zero, List.set_cons_succ]
      refine wpAnyH_takeL (i := 20) (v := ?g1qv20) rfl (by kernel_rfl) (by kernel_rfl) (by kernel_rfl) (fun _ _ _ h => h) (Or.inl ⟨by rfl, ?g1qy20⟩) (by assumption) ?g1qr20
      case g1qy20 => first | (intro w hSw; (try dsimp only at hSw); go_simp; done) | (intro w hSw; (try dsimp only at hSw); go_simp; with_reducible rfl)
      case' g1qr20 => try simp only [Act.put, List.setIfInBounds_toArray, List.set_cons_zero, List.set_cons_succ]
      refine wpAnyH_takeL (i := 21) (v := ?g1qv21) rfl (by kernel_rfl) (by kernel_rfl) (by kernel_rfl) (fun _ _ _ h => h) (Or.inl ⟨by rfl, ?g1qy21⟩) (by assumption) ?g1qr21
      case g1qy21 => first | (intro w hSw; (try dsimp only at hSw); go_simp; done) | (intro w hSw; (try dsimp only at hSw); go_simp; with_reducible rfl)
      case' g1qr21 => try simp only [Act.put, List.setIfInBounds_toArray, List.set_cons_zero, List.set_cons_succ]
      refine wpAnyH_takeL (i := 22) (v := ?g1qv22) rfl (by kernel_rfl) (by kernel_rfl) (by kernel_rfl) (fun _ _ _ h => h) (Or.inl ⟨by rfl, ?g1qy22⟩) (by assumption) ?g1qr22
      case g1qy22 => first | (intro w hSw; (try dsimp only at hSw); go_simp; done) | (intro w hSw; (try dsimp only at hSw); go_simp; with_reducible rfl)
      case' g1qr22 => try simp only [Act.put, List.setIfInBounds_toArray, List.set_cons_zero, List.set_cons_succ]
      refine wpAnyH_takeL (i := 23) (v := ?g1qv23) rfl (by kernel_rfl) (by kernel_rfl) (by kernel_rfl) (fun _ _ _ h => h) (Or.inl ⟨by rfl, ?g1qy23⟩) (by assumption) ?g1qr23
      case g1qy23 => first | (intro w hSw; (try dsimp only at hSw); go_simp; done) | (intro w hSw; (try dsimp only at hSw); go_simp; with_reducible rfl)
      case' g1qr23 => try simp only [Act.put, List.setIfInBounds_toArray, List.set_cons_zero, List.set_cons_succ]
      refine wpAnyH_takeL (i := 24) (v := ?g1qv24) rfl (by kernel_rfl) (by kernel_rfl) (by kernel_rfl) (fun _ _ _ h => h) (Or.inl ⟨by rfl, ?g1qy24⟩) (by assumption) ?g1qr24
      case g1qy24 => first | (intro w hSw; (try dsimp only at hSw); go_simp; done) | (intro w hSw; (try dsimp only at hSw); go_simp; with_reducible rfl)
      case' g1qr24 => try simp only [Act.put, List.setIfInBounds_toArray, List.set_cons_zero, List.set_cons_succ]
      refine wpAnyH_takeL (i := 25) (v := ?g1qv25) rfl (by kernel_rfl) (by kernel_rfl) (by kernel_rfl) (fun _ _ _ h => h) (Or.inl ⟨by rfl, ?g1qy25⟩) (by assumption) ?g1qr25
      case g1qy25 => first | (intro w hSw; (try dsimp only at hSw); go_simp; done) | (intro w hSw; (try dsimp only at hSw); go_simp; with_reducible rfl)
      case' g1qr25 => try simp only [Act.put, List.setIfInBounds_toArray, List.set_cons_zero, List.set_cons_succ]
      refine wpAnyH_takeL (i := 26) (v := ?g1qv26) rfl (by kernel_rfl) (by kernel_rfl) (by kernel_rfl) (fun _ _ _ h => h) (Or.inl ⟨by rfl, ?g1qy26⟩) (by assumption) ?g1qr26
      case g1qy26 => first | (intro w hSw; (try dsimp only at hSw); go_simp; done) | (intro w hSw; (try dsimp only at hSw); go_simp; with_reducible rfl)
      case' g1qr26 => try simp only [Act.put, List.setIfInBounds_toArray, List.set_cons_zero, List.set_cons_succ]
      refine wpAnyH_takeL (i := 27) (v := ?g1qv27) rfl (by kernel_rfl) (by kernel_rfl) (by kernel_rfl) (fun _ _ _ h => h) (Or.inl ⟨by rfl, ?g1qy27⟩) (by assumption) ?g1qr27
      case g1qy27 => first | (intro w hSw; (try dsimp only at hSw); go_simp; done) | (intro w hSw; (try dsimp only at hSw); go_simp; with_reducible rfl)
      case' g1qr27 => try simp only [Act.put, List.setIfInBounds_toArray, List.set_cons_zero, List.set_cons_succ]
      refine wpAnyH_takeL (i := 28) (v := ?g1qv28) rfl (by kernel_rfl) (by kernel_rfl) (by kernel_rfl) (fun _ _ _ h => h) (Or.inl ⟨by rfl, ?g1qy28⟩) (by assumption) ?g1qr28
      case g1qy28 => first | (intro w hSw; (try dsimp only at hSw); go_simp; done) | (intro w hSw; (try dsimp only at hSw); go_simp; with_reducible rfl)
      case' g1qr28 => try simp only [Act.put, List.setIfInBounds_toArray, List.set_cons_zero, List.set_cons_succ]
      refine wpAnyH_takeL (i := 29) (v := ?g1qv29) rfl (by kernel_rfl) (by kernel_rfl) (by kernel_rfl) (fun _ _ _ h => h) (Or.inl ⟨by rfl, ?g1qy29⟩) (by assumption) ?g1qr29
      case g1qy29 => first | (intro w hSw; (try dsimp only at hSw); go_simp; done) | (intro w hSw; (try dsimp only at hSw); go_simp; with_reducible rfl)
      case' g1qr29 => try simp only [Act.put, List.setIfInBounds_toArray, List.set_cons_zero, List.set_cons_succ]
      refine wpAnyH_takeL (i := 30) (v := ?g1qv30) rfl (by kernel_rfl) (by kernel_rfl) (by kernel_rfl) (fun _ _ _ h => h) (Or.inl ⟨by rfl, ?g1qy30⟩) (by assumption) ?g1qr30
      case g1qy30 => first | (intro w hSw; (try dsimp only at hSw); go_simp; done) | (intro w hSw; (try dsimp only at hSw); go_simp; with_reducible rfl)
      case' g1qr30 => try simp only [Act.put, List.setIfInBounds_toArray, List.set_cons_zero, List.set_cons_succ]
      refine wpAnyH_takeL (i := 31) (v := ?g1qv31) rfl (by kernel_rfl) (by kernel_rfl) (by kernel_rfl) (fun _ _ _ h => h) (Or.inl ⟨by rfl, ?g1qy31⟩) (by assumption) ?g1qr31
      case g1qy31 => first | (intro w hSw; (try dsimp only at hSw); go_simp; done) | (intro w hSw; (try dsimp only at hSw); go_simp; with_reducible rfl)
      case' g1qr31 => try simp only [Act.put, List.setIfInBounds_toArray, List.set_cons_zero, List.set_cons_succ]
      refine wpAnyH_takeL (i := 32) (v := ?g1qv32) rfl (by kernel_rfl) (by kernel_rfl) (by kernel_rfl) (fun _ _ _ h => h) (Or.inl ⟨by rfl, ?g1qy32⟩) (by assumption) ?g1qr32
      case g1qy32 => first | (intro w hSw; (try dsimp only at hSw); go_simp; done) | (intro w hSw; (try dsimp only at hSw); go_simp; with_reducible rfl)
      case' g1qr32 => try simp only [Act.put, List.setIfInBounds_toArray, List.set_cons_zero, List.set_cons_succ]
      refine wpAnyH_takeL (i := 33) (v := ?g1qv33) rfl (by kernel_rfl) (by kernel_rfl) (by kernel_rfl) (fun _ _ _ h => h) (Or.inl ⟨by rfl, ?g1qy33⟩) (by assumption) ?g1qr33
      case g1qy33 => first | (intro w hSw; (try dsimp only at hSw); go_simp; done) | (intro w hSw; (try dsimp only at hSw); go_simp; with_reducible rfl)
      case' g1qr33 => try simp only [Act.put, List.setIfInBounds_toArray, List.set_cons_zero, List.set_cons_succ]
      refine wpAnyH_takeL (i := 34) (v := ?g1qv34) rfl (by kernel_rfl) (by kernel_rfl) (by kernel_rfl) (fun _ _ _ h => h) (Or.inl ⟨by rfl, ?g1qy34⟩) (by assumption) ?g1qr34
      case g1qy34 => first | (intro w hSw; (try dsimp only at hSw); go_simp; done) | (intro w hSw; (try dsimp only at hSw); go_simp; with_reducible rfl)
      case' g1qr34 => try simp only [Act.put, List.setIfInBounds_toArray, List.set_cons_zero, List.set_cons_succ]
      refine wpAnyH_takeL (i := 35) (v := ?g1qv35) rfl (by kernel_rfl) (by kernel_rfl) (by kernel_rfl) (fun _ _ _ h => h) (Or.inl ⟨by rfl, ?g1qy35⟩) (by assumption) ?g1qr35
      case g1qy35 => first | (intro w hSw; (try dsimp only at hSw); go_simp; done) | (intro w hSw; (try dsimp only at hSw); go_simp; with_reducible rfl)
      case' g1qr35 => try simp only [Act.put, List.setIfInBounds_toArray, List.set_cons_zero, List.set_cons_succ]
      refine wpAnyH_takeL (i := 36) (v := ?g1qv36) rfl (by kernel_rfl) (by kernel_rfl) (by kernel_rfl) (fun _ _ _ h => h) (Or.inl ⟨by rfl, ?g1qy36⟩) (by assumption) ?g1qr36
      case g1qy36 => first | (intro w hSw; (try dsimp only at hSw); go_simp; done) | (intro w hSw; (try dsimp only at hSw); go_simp; with_reducible rfl)
      case' g1qr36 => try simp only [Act.put, List.setIfInBounds_toArray, List.set_cons_zero, List.set_cons_succ]
      refine wpAnyH_takeL (i := 37) (v := ?g1qv37) rfl (by kernel_rfl) (by kernel_rfl) (by kernel_rfl) (fun _ _ _ h => h) (Or.inl ⟨by rfl, ?g1qy37⟩) (by assumption) ?g1qr37
      case g1qy37 => first | (intro w hSw; (try dsimp only at hSw); go_simp; done) | (intro w hSw; (try dsimp only at hSw); go_simp; with_reducible rfl)
      case' g1qr37 => try simp only [Act.put, List.setIfInBounds_toArray, List.set_cons_zero, List.set_cons_succ]
      refine wpAnyH_takeL (i := 38) (v := ?g1qv38) rfl (by kernel_rfl) (by kernel_rfl) (by kernel_rfl) (fun _ _ _ h => h) (Or.inl ⟨by rfl, ?g1qy38⟩) (by assumption) ?g1qr38
      case g1qy38 => first | (intro w hSw; (try dsimp only at hSw); go_simp; done) | (intro w hSw; (try dsimp only at hSw); go_simp; with_reducible rfl)
      case' g1qr38 => try simp only [Act.put, List.setIfInBounds_toArray, List.set_cons_zero, List.set_cons_succ]
      refine wpAnyH_takeL (i := 39) (v := ?g1qv39) rfl (by kernel_rfl) (by kernel_rfl) (by kernel_rfl) (fun _ _ _ h => h) (Or.inl ⟨by rfl, ?g1qy39⟩) (by assumption) ?g1qr39
      case g1qy39 => first | (intro w hSw; (try dsimp only at hSw); go_simp; done) | (intro w hSw; (try dsimp only at hSw); go_simp; with_reducible rfl)
      case' g1qr39 => try simp only [Act.put, List.setIfInBounds_toArray, List.set_cons_zero, List.set_cons_succ]
      refine wpAnyH_takeL (i := 40) (v := ?g1qv40) rfl (by kernel_rfl) (by kernel_rfl) (by kernel_rfl) (fun _ _ _ h => h) (Or.inl ⟨by rfl, ?g1qy40⟩) (by assumption) ?g1qr40
      case g1qy40 => first | (intro w hSw; (try dsimp only at hSw); go_simp; done) | (intro w hSw; (try dsimp only at hSw); go_simp; with_reducible rfl)
      case' g1qr40 => try simp only [Act.put, List.setIfInBounds_toArray, List.set_cons_zero, List.set_cons_succ]
      refine wpAnyH_takeL (i := 41) (v := ?g1qv41) rfl (by kernel_rfl) (by kernel_rfl) (by kernel_rfl) (fun _ _ _ h => h) (Or.inl ⟨by rfl, ?g1qy41⟩) (by assumption) ?g1qr41
      case g1qy41 => first | (intro w hSw; (try dsimp only at hSw); go_simp; done) | (intro w hSw; (try dsimp only at hSw); go_simp; with_reducible rfl)
      case' g1qr41 => try simp only [Act.put, List.setIfInBounds_toArray, List.set_cons_zero, List.set_cons_succ]
      refine wpAnyH_takeL (i := 42) (v := ?g1qv42) rfl (by kernel_rfl) (by kernel_rfl) (by kernel_rfl) (fun _ _ _ h => h) (Or.inl ⟨by rfl, ?g1qy42⟩) (by assumption) ?g1qr42
      case g1qy42 => first | (intro w hSw; (try dsimp only at hSw); go_simp; done) | (intro w hSw; (try dsimp only at hSw); go_simp; with_reducible rfl)
      case' g1qr42 => try simp only [Act.put, List.setIfInBounds_toArray, List.set_cons_zero, List.set_cons_succ]
      refine wpAnyH_takeL (i := 43) (v := ?g1qv43) rfl (by kernel_rfl) (by kernel_rfl) (by kernel_rfl) (fun _ _ _ h => h) (Or.inl ⟨by rfl, ?g1qy43⟩) (by assumption) ?g1qr43
      case g1qy43 => first | (intro w hSw; (try dsimp only at hSw); go_simp; done) | (intro w hSw; (try dsimp only at hSw); go_simp; with_reducible rfl)
      case' g1qr43 => try simp only [Act.put, List.setIfInBounds_toArray, List.set_cons_zero, List.set_cons_succ]
      refine wpAnyH_takeL (i := 44) (v := ?g1qv44) rfl (by kernel_rfl) (by kernel_rfl) (by kernel_rfl) (fun _ _ _ h => h) (Or.inl ⟨by rfl, ?g1qy44⟩) (by assumption) ?g1qr44
      case g1qy44 => first | (intro w hSw; (try dsimp only at hSw); go_simp; done) | (intro w hSw; (try dsimp only at hSw); go_simp; with_reducible rfl)
      case' g1qr44 => try simp only [Act.put, List.setIfInBounds_toArray, List.set_cons_zero, List.set_cons_succ]
      refine wpAnyH_takeL (i := 45) (v := ?g1qv45) rfl (by kernel_rfl) (by kernel_rfl) (by kernel_rfl) (fun _ _ _ h => h) (Or.inl ⟨by rfl, ?g1qy45⟩) (by assumption) ?g1qr45
      case g1qy45 => first | (intro w hSw; (try dsimp only at hSw); go_simp; done) | (intro w hSw; (try dsimp only at hSw); go_simp; with_reducible rfl)
      case' g1qr45 => try simp only [Act.put, List.setIfInBounds_toArray, List.set_cons_zero, List.set_cons_succ]
      refine wpAnyH_takeL (i := 46) (v := ?g1qv46) rfl (by kernel_rfl) (by kernel_rfl) (by kernel_rfl) (fun _ _ _ h => h) (Or.inl ⟨by rfl, ?g1qy46⟩) (by assumption) ?g1qr46
      case g1qy46 => first | (intro w hSw; (try dsimp only at hSw); go_simp; done) | (intro w hSw; (try dsimp only at hSw); go_simp; with_reducible rfl)
      case' g1qr46 => try simp only [Act.put, List.setIfInBounds_toArray, List.set_cons_zero, List.set_cons_succ]
      refine wpAnyH_takeL (i := 47) (v := ?g1qv47) rfl (by kernel_rfl) (by kernel_rfl) (by kernel_rfl) (fun _ _ _ h => h) (Or.inl ⟨by rfl, ?g1qy47⟩) (by assumption) ?g1qr47
      case g1qy47 => first | (intro w hSw; (try dsimp only at hSw); go_simp; done) | (intro w hSw; (try dsimp only at hSw); go_simp; with_reducible rfl)
      case' g1qr47 => try simp only [Act.put, List.setIfInBounds_toArray, List.set_cons_zero, List.set_cons_succ]
      refine wpAnyH_takeL (i := 48) (v := ?g1qv48) rfl (by kernel_rfl) (by kernel_rfl) (by kernel_rfl) (fun _ _ _ h => h) (Or.inl ⟨by rfl, ?g1qy48⟩) (by assumption) ?g1qr48
      case g1qy48 => first | (intro w hSw; (try dsimp only at hSw); go_simp; done) | (intro w hSw; (try dsimp only at hSw); go_simp; with_reducible rfl)
      case' g1qr48 => try simp only [Act.put, List.setIfInBounds_toArray, List.set_cons_zero, List.set_cons_succ]
      refine wpAnyH_done (by kernel_rfl) ?_ _
      clear y0 y1 y2 y3 p0 p1 p2 p3 q0 q1 q2 q3 a2' b1 b2 c1 c2 ew n1 n2 i1 i2
      go_wp2
      first
        | go_roundw
        | refine ⟨?rel, ?measure⟩
      case rel => exact ⟨i + 1, by omega, by go_num, hid HX.out.drew⟩
      case measure => simp [intOf]; omega
    · obtain rfl : i = ns := by omega
      obtain ⟨V6, hV6⟩ : ∃ V, V = wr := ⟨_, rfl⟩
      obtain rfl := hV6
      go_wp2
      clear y0 y1 y2 y3
      go_loopw [12] (fun q wr => ∃ (j : Nat) (Z : List Sec), j ≤ nr ∧ q = .int .i64 j ∧ Hid (SecsX wr w4.heap.size w5.heap.size 46 5 (.slice AS i cS) H Z) ∧ Hid (MixP X.secs Y Z (cov (o.rels.take j))) ∧ Hid (Ext w4 wr) ∧ Hid (w5.heap.size < wr.heap.size) ∧ Hid (wr.cell? ⟨w5.heap.size, 1, none⟩ = some (.slice AS i cS))) (fun q _ => nr - (intOf q).toNat)
      case atStart => exact ⟨0, Y, by omega, rfl, hid (HSY.out.ext HX.out), hid (MixP.start (by simp [cov])), hid (HX5.out.trans HX.out), hid (Nat.lt_of_lt_of_le HZ5.out HX.out.size), hid (HP5.out.ext HX.out).2.1⟩
      case round =>
        obtain ⟨j, Z, hj, rfl, HIZ, HMX, HX2, HSZ, HQB⟩ := hrel
        obtain ⟨y0, y1, y2, y3, -⟩ := HBB.out.ext (HD2.out.trans (HD4.out.trans HX2.out))
        by_cases h2 : j < nr
        · have HJ := hid h2
          obtain ⟨r, hkr⟩ : ∃ r, o.rels[j]? = some r := ⟨_, List.getElem?_eq_getElem (by have := HLR.out; omega)⟩
          obtain ⟨b, off, rfl, -, e0, e1, e2, e3, e4⟩ := Sl.rel_at (HR.out.ext (HX4.out.trans HX2.out)) hkr
          obtain ⟨kk, s, f, t, u1, u2, u3, u4, u5, u6⟩ := relOne_zero (HRB.out.val r (List.mem_of_getElem? hkr))
          obtain ⟨x, hx, hkx⟩ := shape_at HRB.out.keyX u2
          obtain ⟨y, hyy, hky⟩ := shape_at HRB.out.keyY (k := kk) (s := movS m s) (by rw [List.getElem?_map, u2]; rfl)
          obtain ⟨z, hz, hkz⟩ := shape_at HMX.out.shape hyy
          have hlx : x.data.length = s.data.length := key_len hkx
          have hlz : z.data.length = s.data.length := (key_len hkz).trans ((key_len hky).trans (congrArg List.length (movS_data m s)))
          obtain ⟨L, hL⟩ : ∃ L, s.data.length = L := ⟨_, rfl⟩
          rw [hL] at hlx hlz u4
          have hwz : word4 z.data f = word4 y.data f := by
            have hb : ∀ t, t < 4 → z.data[f + t]? = y.data[f + t]? := fun t ht => by
              have := HMX.out.no kk (f + t) (HRB.out.free j r hkr kk f t u1 u3 ht)
              rwa [byt_at hz, byt_at hyy] at this
            unfold word4
            rw [show z.data[f]? = y.data[f]? from hb 0 (by omega), hb 1 (by omega), hb 2 (by omega), hb 3 (by omega)]
          have hnum := HRB.out.num j r hkr kk f x y u1 u3 hx hyy
          rw [← hwz] at hnum
          obtain ⟨wz, hwzv⟩ : ∃ v, word4 z.data f = v := ⟨_, rfl⟩
          obtain ⟨wx, hwxv⟩ : ∃ v, word4 x.data f = v := ⟨_, rfl⟩
          rw [hwzv, hwxv] at hnum
          have hcov := fun i' j' => cov_snoc hkr i' j'
          obtain ⟨h, hh⟩ : ∃ h, H[kk]? = some h := ⟨_, List.getElem?_eq_getElem (by have := (List.getElem?_eq_some_iff.1 hz).1; have := HIZ.out.len; omega)⟩
          obtain ⟨g, rfl, hgb⟩ := HIZ.out.own.at0 (by have := HIZ.out.own.len; have := (List.getElem?_eq_some_iff.1 hh).1; omega)
          obtain ⟨m2, -⟩ := hdrP.cell HIZ.out.own hh (i := 2) rfl
          rw [show kk * hdrR.size + 2 = kk * 5 + 2 from rfl] at m2
          have hhd := HIZ.out.of kk h z hh hz
          have hkn : kk < i := by have := HIZ.out.own.len; have := (List.getElem?_eq_some_iff.1 hh).1; omega
          have hdat := HIZ.out.data kk h z hh hz
          have hwl1 := fun (W : World) (hE : Ext wr W) => word7_any W h.A h.n h.c f z.data ((hdat.ext hE).num_sl (fun _ _ => trivial))
          obtain ⟨bb, ob, dX, cX, rfl, hdX, hcX, -, -, b0, b1, b2, b3, b4⟩ := Sl.sec_at (HS2.out.ext (HD4.out.trans HX2.out)) hx
          have hwl2 := fun (W : World) (hE : Ext wr W) => word7_any W dX x.data.length cX f x.data (hdX.ext hE)
          obtain ⟨nm, ad, hA, hn, hc, wr_, ex⟩ := h
          dsimp only [Hd.dv] at m2 hhd hdat hwl1
          obtain ⟨-, rfl, -, -, rfl⟩ := hhd
          rw [hlz] at m2 hwl1 hdat hh
          rw [hlx] at b2 hwl2
          rw [hwzv] at hwl1
          rw [hwxv] at hwl2
          have HWZ := hid fun W hE => hwl1 W hE u4
          have HWX := hid fun W hE => hwl2 W hE u4
          obtain ⟨gd, rfl, hgd⟩ := OwnS.at0 (A := hA) (n := L) (c := hc) hdat (by omega)
          have hgh := HIZ.out.topd kk _ gd hh rfl
          have HGD := hid (And.intro hgd hgh)
          have HHK := hid hh
          have HZK := hid hz
          have HXK := hid (And.intro hx (And.intro hlx (And.intro hlz u4)))
          have HDX := hid hdX
          have HNUM := hid hnum
          have HCOV := hid hcov
          have hdl : L ≤ hc ∧ hc ≤ 9223372036854775807 := hdat.sl.cap
          have hxl : L ≤ cX ∧ cX ≤ 9223372036854775807 := by rw [← hlx]; exact hdX.cap
          obtain ⟨sec, of_, kd, sym, add⟩ := r
          dsimp only at u1 u3 e0 e1 e2 e3 e4
          subst u1 u3
          obtain ⟨p0, p1, p2, p3, -⟩ := HP2.out.ext (HD4.out.trans HX2.out)
          rw [HXE.out.2] at p1
          have i1 : (0 : Int) ≤ (kk : Int) := by omega
          have i2 : (kk : Int) < (i : Int) := by omega
          have i3 : (0 : Int) ≤ (f : Int) := by omega
          clear hkr u2 u4 u5 hx hkx hyy hky hz hkz hlx hlz hL hwz hnum hwzv hwxv hh hgb hkn hdat hwl1 hwl2 hdX hgd hgh hcov b0 b1 b3 b4
          obtain ⟨W1, hW1⟩ : ∃ W1, wr.alloc (.cells #[.int .i64 kk, .int .i64 f, .int .i64 kd, .string sym, .int .i32 add] 36) = W1 := ⟨_, rfl⟩
          have hE1 : Ext wr W1 := by rw [← hW1]; exact (Ext.refl wr).alloc _
          have x0 : W1.cell? ⟨wr.heap.size, 0, none⟩ = some (.int .i64 kk) := by rw [← hW1]; simp [go_sem]
          have x1 : W1.cell? ⟨wr.heap.size, 1, none⟩ = some (.int .i64 f) := by rw [← hW1]; simp [go_sem]
          have x2 : W1.cell? ⟨wr.heap.size, 2, none⟩ = some (.int .i64 kd) := by rw [← hW1]; simp [go_sem]
          have p1' := hE1.cell p1
          have qb := hE1.cell HQB.out
          have m2' := hE1.cell m2
          have b2' := hE1.cell b2
          have HE1' := hid hE1
          have hw1 : wr.heap.size < W1.heap.size := by rw [← hW1]; simp
          have HW1 := hid hw1
          clear p0 p1 p2 p3 m2 b2 hE1 hw1 y0 y1 y2
          by_cases hkd : kd = 2
          · subst hkd
            have esub : IntKind.u32.wrap ((wz : Int) - (wx : Int)) = (0 : Int) := by rw [wrap_w32, HNUM.out]; rfl
            have n1 : ((0 : Int) != 0) = false := by simp
            have n3 : ((2 : Int) == 2) = true := by simp
            go_wp2_with fail
            refine wp_region_held_drew (S := (fun w' => w'.cell? ⟨wr.heap.size, 0, none⟩ = some (.int .i64 kk) ∧ w'.cell? ⟨wr.heap.size, 1, none⟩ = some (.int .i64 f) ∧ w'.cell? ⟨w2.heap.size, 1, none⟩ = some (.slice (some ⟨bb, ob, none⟩) i a2) ∧ w'.cell? ⟨bb, ob + kk * 5 + 2, none⟩ = some (.slice dX L cX))) (by kernel_rfl) ⟨x0, x1, p1', b2'⟩ (fun hSg2q0 => ?_)
            refine wpAnyH_takeL (i := 0) (v := ?g2qv0) rfl (by kernel_rfl) (by kernel_rfl) (by kernel_rfl) (fun _ _ _ h => h) (Or.inl ⟨by rfl, ?g2qy0⟩) (by assumption) ?g2qr0
            case g2qy0 => first | (intro w hSw; (try dsimp only at hSw); go_simp; done) | (intro w hSw; (try dsimp only at hSw); go_simp; with_reducible rfl)
            case' g2qr0 => try simp only [Act.put, List.setIfInBounds_toArray, List.set_cons_zero, List.set_cons_succ]
            refine wpAnyH_takeL (i := 1) (v := ?g2qv1) rfl (by kernel_rfl) (by kernel_rfl) (by kernel_rfl) (fun _ _ _ h => h) (Or.inl ⟨by rfl, ?g2qy1⟩) (by assumption) ?g2qr1
            case g2qy1 => first | (intro w hSw; (try dsimp only at hSw); go_simp; done) | (intro w hSw; (try dsimp only at hSw); go_simp; with_reducible rfl)
            case' g2qr1 => try simp only [Act.put, List.setIfInBounds_toArray, List.set_cons_zero, List.set_cons_succ]
            refine wpAnyH_takeL (i := 2) (v := ?g2qv2) rfl (by kernel_rfl) (by kernel_rfl) (by kernel_rfl) (fun _ _ _ h => h) (Or.inl ⟨by rfl, ?g2qy2⟩) (by assumption) ?g2qr2
            case g2qy2 => first | (intro w hSw; (try dsimp only at hSw); go_simp; done) | (intro w hSw; (try dsimp only at hSw); go_simp; with_reducible rfl)
            case' g2qr2 => try simp only [Act.put, List.setIfInBounds_toArray, List.set_cons_zero, List.set_cons_succ]
            refine wpAnyH_takeL (i := 4) (v := ?g2qv4) rfl (by kernel_rfl) (by kernel_rfl) (by kernel_rfl) (fun _ _ _ h => h) (Or.inl ⟨by rfl, ?g2qy4⟩) (by assumption) ?g2qr4
            case g2qy4 => first | (intro w hSw; (try dsimp only at hSw); go_simp; done) | (intro w hSw; (try dsimp only at hSw); go_simp; with_reducible rfl)
            case' g2qr4 => try simp only [Act.put, List.setIfInBounds_toArray, List.set_cons_zero, List.set_cons_succ]
            refine wpAnyH_takeL (i := 5) (v := ?g2qv5) rfl (by kernel_rfl) (by kernel_rfl) (by kernel_rfl) (fun _ _ _ h => h) (Or.inl ⟨by rfl, ?g2qy5⟩) (by assumption) ?g2qr5
            case g2qy5 => first | (intro w hSw; (try dsimp only at hSw); go_simp; done) | (intro w hSw; (try dsimp only at hSw); go_simp; with_reducible rfl)
            case' g2qr5 => try simp only [Act.put, List.setIfInBounds_toArray, List.set_cons_zero, List.set_cons_succ]
            refine wpAnyH_takeL (i := 6) (v := ?g2qv6) rfl (by kernel_rfl) (by kernel_rfl) (by kernel_rfl) (fun _ _ _ h => h) (Or.inl ⟨by rfl, ?g2qy6⟩) (by assumption) ?g2qr6
            case g2qy6 => first | (intro w hSw; (try dsimp only at hSw); go_simp; done) | (intro w hSw; (try dsimp only at hSw); go_simp; with_reducible rfl)
            case' g2qr6 => try simp only [Act.put, List.setIfInBounds_toArray, List.set_cons_zero, List.set_cons_succ]
            refine wpAnyH_takeL (i := 7) (v := ?g2qv7) rfl (by kernel_rfl) (by kernel_rfl) (by kernel_rfl) (fun _ _ _ h => h) (Or.inl ⟨by rfl, ?g2qy7⟩) (by assumption) ?g2qr7
            case g2qy7 => first | (intro w hSw; (try dsimp only at hSw); go_simp; done) | (intro w hSw; (try dsimp only at hSw); go_simp; with_reducible rfl)
            case' g2qr7 => try simp only [Act.put, List.setIfInBounds_toArray, List.set_cons_zero, List.set_cons_succ]
            refine wpAnyH_takeL (i := 8) (v := ?g2qv8) rfl (by kernel_rfl) (by kernel_rfl) (by kernel_rfl) (fun _ _ _ h => h) (Or.inl ⟨by rfl, ?g2qy8⟩) (by assumption) ?g2qr8
            case g2qy8 => first | (intro w hSw; (try dsimp only at hSw); go_simp; done) | (intro w hSw; (try dsimp only at hSw); go_simp; with_reducible rfl)
            case' g2qr8 => try simp only [Act.put, List.setIfInBounds_toArray, List.set_cons_zero, List.set_cons_succ]
            refine wpAnyH_takeL (i := 9) (v := ?g2qv9) rfl (by kernel_rfl) (by kernel_rfl) (by kernel_rfl) (fun _ _ _ h => h) (Or.inl ⟨by rfl, ?g2qy9⟩) (by assumption) ?g2qr9
            case g2qy9 => first | (intro w hSw; (try dsimp only at hSw); go_simp; done) | (intro w hSw; (try dsimp only at hSw); go_simp; with_reducible rfl)
            case' g2qr9 => try simp only [Act.put, List.setIfInBounds_toArray, List.set_cons_zero, List.set_cons_succ]
            refine wpAnyH_takeL (i := 10) (v := ?g2qv10) rfl (by kernel_rfl) (by kernel_rfl) (by kernel_rfl) (fun _ _ _ h => h) (Or.inl ⟨by rfl, ?g2qy10⟩) (by assumption) ?g2qr10
            case g2qy10 => first | (intro w hSw; (try dsimp only at hSw); go_simp; done) | (intro w hSw; (try dsimp only at hSw); go_simp; with_reducible rfl)
            case' g2qr10 => try simp only [Act.put, List.setIfInBounds_toArray, List.set_cons_zero, List.set_cons_succ]
            refine wpAnyH_takeL (i := 11) (v := ?g2qv11) rfl (by kernel_rfl) (by kernel_rfl) (by kernel_rfl) (fun _ _ _ h => h) (Or.inl ⟨by rfl, ?g2qy11⟩) (by assumption) ?g2qr11
            case g2qy11 => first | (intro w hSw; (try dsimp only at hSw); go_simp; done) | (intro w hSw; (try dsimp only at hSw); go_simp; with_reducible rfl)
            case' g2qr11 => try simp only [Act.put, List.setIfInBounds_toArray, List.set_cons_zero, List.set_cons_succ]
            refine wpAnyH_takeL (i := 12) (v := ?g2qv12) rfl (by kernel_rfl) (by kernel_rfl) (by kernel_rfl) (fun _ _ _ h => h) (Or.inl ⟨by rfl, ?g2qy12⟩) (by assumption) ?g2qr12
            case g2qy12 => first | (intro w hSw; (try dsimp only at hSw); go_simp; done) | (intro w hSw; (try dsimp only at hSw); go_simp; with_reducible rfl)
            case' g2qr12 => try simp only [Act.put, List.setIfInBounds_toArray, List.set_cons_zero, List.set_cons_succ]
            refine wpAnyH_takeL (i := 15) (v := ?g2qv15) rfl (by kernel_rfl) (by kernel_rfl) (by kernel_rfl) (fun _ _ _ h => h) (Or.inl ⟨by rfl, ?g2qy15⟩) (by assumption) ?g2qr15
            case g2qy15 => first | (intro w hSw; (try dsimp only at hSw); go_simp; done) | (intro w hSw; (try dsimp only at hSw); go_simp; with_reducible rfl)
            case' g2qr15 => try simp only [Act.put, List.setIfInBounds_toArray, List.set_cons_zero, List.set_cons_succ]
            refine wpAnyH_ready (rs := [3]) (by kernel_rfl) (by simp) ?_
            refine AllReadyH.consL rfl (fun K hK => ?_) AllReadyH.nil
            go_simp
            go_at_call 25
            refine (HWZ.out _ HE1'.out.drew).mono ?_
            rintro e w9 ⟨rfl, hx9⟩
            have HX9 := hid ((Ext.refl W1).drew.trans hx9)
            clear hx9
            refine hK.out _ _ ⟨HX9.out.cell x0, HX9.out.cell x1, HX9.out.cell p1', HX9.out.cell b2'⟩ (fun hSg2q1 => ?_)
            clear hK K
            try simp only [Act.put, List.setIfInBounds_toArray, List.set_cons_zero, List.set_cons_succ]
            refine wpAnyH_ready (rs := [13]) (by kernel_rfl) (by simp) ?_
            refine AllReadyH.consL rfl (fun K hK => ?_) AllReadyH.nil
            go_simp
            go_at_call 25
            refine (HWX.out _ (HE1'.out.trans HX9.out)).mono ?_
            rintro e w10 ⟨rfl, hx10⟩
            have HX10 := hid (HX9.out.trans hx10)
            clear hx10
            refine hK.out _ _ ⟨HX10.out.cell x0, HX10.out.cell x1, HX10.out.cell p1', HX10.out.cell b2'⟩ (fun hSg2q2 => ?_)
            clear hK K
            try simp only [Act.put, List.setIfInBounds_toArray, List.set_cons_zero, List.set_cons_succ]
            refine wpAnyH_takeL (i := 14) (v := ?g2qv14) rfl (by kernel_rfl) (by kernel_rfl) (by kernel_rfl) (fun _ _ _ h => h) (Or.inl ⟨by rfl, ?g2qy14⟩) (by assumption) ?g2qr14
            case g2qy14 => first | (intro w hSw; (try dsimp only at hSw); go_simp; done) | (intro w hSw; (try dsimp only at hSw); go_simp; with_reducible rfl)
            case' g2qr14 => try simp only [Act.put, List.setIfInBounds_toArray, List.set_cons_zero, List.set_cons_succ]
            refine wpAnyH_takeL (i := 16) (v := ?g2qv16) rfl (by kernel_rfl) (by kernel_rfl) (by kernel_rfl) (fun _ _ _ h => h) (Or.inl ⟨by rfl, ?g2qy16⟩) (by assumption) ?g2qr16
            case g2qy16 => first | (intro w hSw; (try dsimp only at hSw); go_simp; done) | (intro w hSw; (try dsimp only at hSw); go_simp; with_reducible rfl)
            case' g2qr16 => try simp only [Act.put, List.setIfInBounds_toArray, List.set_cons_zero, List.set_cons_succ]
            refine wpAnyH_done (by kernel_rfl) ?_ _
            have HCE := hid (And.intro (HX10.out.cell x0) (HX10.out.cell x1))
            have HSZ1 : Hid (w5.heap.size < w10.heap.size) := hid (Nat.lt_of_lt_of_le (Nat.lt_trans HSZ.out HW1.out) HX10.out.size)
            have HI1 := hid (HIZ.out.ext (HE1'.out.trans HX10.out))
            have HX1 := hid (HX2.out.trans (HE1'.out.trans HX10.out))
            have HQ1 := hid (HX10.out.cell qb)
            have hbox : gd ≠ wr.heap.size ∧ gd ≠ w5.heap.size := by have := HSZ.out; have := HGD.out.2; omega
            have HBOX := hid hbox
            clear x0 x1 x2 p1' b2' m2' qb hbox esub n1 n3
            obtain ⟨V, hV⟩ : ∃ V, V = wr := ⟨_, rfl⟩
            obtain rfl := hV
            go_wp2
            go_loopw [16] (fun a wr => ∃ (q : Nat) (Z' : List Sec), q ≤ 4 ∧ a = .int .i64 q ∧ Hid (SecsX wr w4.heap.size w5.heap.size 46 5 (.slice (some ⟨g, 0, none⟩) i cS) H Z') ∧ Hid (MixP X.secs Y Z' (fun i' j' => cov (o.rels.take j) i' j' ∨ (i' = kk ∧ f ≤ j' ∧ j' < f + q))) ∧ Hid (Ext w4 wr) ∧ Hid (w5.heap.size < wr.heap.size) ∧ Hid (wr.cell? ⟨w5.heap.size, 1, none⟩ = some (.slice (some ⟨g, 0, none⟩) i cS) ∧ wr.cell? ⟨V.heap.size, 0, none⟩ = some (.int .i64 kk) ∧ wr.cell? ⟨V.heap.size, 1, none⟩ = some (.int .i64 f))) (fun a _ => 4 - (intOf a).toNat)
            case atStart =>
              refine ⟨0, Z, by omega, rfl, HI1, hid (HMX.out.congr fun i' j' => ⟨fun h => h.elim id fun h => absurd h.2 (by omega), .inl⟩), HX1, HSZ1, hid ⟨HQ1.out, HCE.out⟩⟩
            case round =>
              obtain ⟨q, Z', hq4, rfl, HQI, HQM, HQX, HQS, HQC⟩ := hrel
              by_cases h3 : q < 4
              · obtain ⟨-, x0, x1⟩ := HQC.out
                obtain ⟨hxk, hxl', hzl, hfl⟩ := HXK.out
                obtain ⟨z', hz', hkz'⟩ := shape_at (HQM.out.shape.trans HMX.out.shape.symm) HZK.out
                have hzl' : z'.data.length = L := (key_len hkz').trans hzl
                obtain ⟨p0, p1, p2, p3, -⟩ := HP2.out.ext (HD4.out.trans HQX.out)
                rw [HXE.out.2] at p1
                obtain ⟨xb, hxb⟩ : ∃ xb, x.data[f + q]? = some xb := ⟨_, List.getElem?_eq_getElem (by omega)⟩
                obtain ⟨bb', ob', dX', cX', hA', hdX', -, -, -, -, -, b2', -, -⟩ := Sl.sec_at (HS2.out.ext (HD4.out.trans HQX.out)) hxk
                cases hA'
                obtain ⟨bX, oX, rfl, g0, hx8⟩ := hdX'.num_at hxb
                rw [hxl'] at b2'
                have hdl' := hdl
                have ef : IntKind.i64.wrap ((f : Int) + (q : Int)) = (f : Int) + (q : Int) := IntWalk.i64_in _ (by omega)
                have et : ((f : Int) + (q : Int)).toNat = f + q := by omega
                have i4 : (0 : Int) ≤ (f : Int) + (q : Int) := by omega
                have i5 : (f : Int) + (q : Int) < (L : Int) := by omega
                have exm : (xb : Int) % 256 = (xb : Int) := by omega
                have hsx5 := SecsX.byte (HQI.out.ext (Ext.refl wr).drew) (g := gd) (c := hc) (f := f + q) (b := xb) HHK.out hz' (by show Value.slice _ _ _ = Value.slice _ _ _; rw [hzl']) hx8
                have hm5 : MixP X.secs Y (Z'.set kk { z' with data := z'.data.set (f + q) xb }) (fun i' j' => cov (o.rels.take j) i' j' ∨ (i' = kk ∧ f ≤ j' ∧ j' < f + (q + 1))) :=
                  HQM.out.step hz' hxk (by omega) hxb (fun i' j' => ⟨fun h => by
                    rcases h with h | ⟨h1, h2, h3⟩
                    · exact .inl (.inl h)
                    · by_cases e : j' = f + q
                      · exact .inr ⟨h1, e⟩
                      · exact .inl (.inr ⟨h1, h2, by omega⟩), fun h => by
                    rcases h with (h | ⟨h1, h2, h3⟩) | ⟨h1, h2⟩
                    · exact .inl h
                    · exact .inr ⟨h1, h2, by omega⟩
                    · exact .inr ⟨h1, by omega, by omega⟩⟩)
                have HM5 := hid hm5
                have HSX5 := hid hsx5
                have HX5' : Hid (Ext w4 (wr.drew.setCell ⟨gd, f + q, none⟩ (.int .u8 xb))) := hid (by exact HQX.out.drew.setCell HGD.out.1.1 _)
                have HSZ5' : Hid (w5.heap.size < (wr.drew.setCell ⟨gd, f + q, none⟩ (.int .u8 xb)).heap.size) := hid (by simpa using HQS.out)
                have HC5 : Hid ((wr.drew.setCell ⟨gd, f + q, none⟩ (.int .u8 xb)).cell? ⟨w5.heap.size, 1, none⟩ = some (.slice (some ⟨g, 0, none⟩) i cS) ∧ (wr.drew.setCell ⟨gd, f + q, none⟩ (.int .u8 xb)).cell? ⟨V.heap.size, 0, none⟩ = some (.int .i64 kk) ∧ (wr.drew.setCell ⟨gd, f + q, none⟩ (.int .u8 xb)).cell? ⟨V.heap.size, 1, none⟩ = some (.int .i64 f)) := hid (by
                  have hb := HBOX.out
                  obtain ⟨t1, t2, t3⟩ := HQC.out
                  exact ⟨(World.cell?_setCell_other _ _ _ _ (by intro e; exact hb.2 (congrArg Addr.block e))).trans t1, (World.cell?_setCell_other _ _ _ _ (by intro e; exact hb.1 (congrArg Addr.block e))).trans t2, (World.cell?_setCell_other _ _ _ _ (by intro e; exact hb.1 (congrArg Addr.block e))).trans t3⟩)
                have hrow := HQI.out.data kk _ z' HHK.out hz'
                dsimp only [Hd.dv] at hrow
                obtain ⟨yb, hyb⟩ : ∃ yb, z'.data[f + q]? = some yb := ⟨_, List.getElem?_eq_getElem (by omega)⟩
                obtain ⟨d1, d2⟩ := OwnS.num_cell hrow hyb
                have d1d : wr.drew.cell? ⟨gd, f + q, none⟩ = some (.int .u8 yb) := d1
                have d2d : wr.drew.frozen? ⟨gd, f + q, none⟩ = false := d2
                clear hyb hrow d1 d2 hm5 hsx5 hxk hxl' hzl hfl hz' hkz' hzl' hxb hx8 hdX' p0 p2 p3
                go_wp2_with fail
                refine wp_region_split 19 (by kernel_rfl) rfl rfl (by kernel_rfl) (fun w' => w'.cell? ⟨V.heap.size, 0, none⟩ = some (.int .i64 kk) ∧ w'.cell? ⟨V.heap.size, 1, none⟩ = some (.int .i64 f) ∧ w'.cell? ⟨w2.heap.size, 1, none⟩ = some (.slice (some ⟨bb, ob, none⟩) i a2) ∧ w'.cell? ⟨bb, ob + kk * 5 + 2, none⟩ = some (.slice (some ⟨bX, oX, none⟩) L cX') ∧ w'.cell? ⟨bX, oX + (f + q), none⟩ = some (.int .u8 xb)) ⟨x0, x1, p1, b2', g0⟩ (fun hSg3q0 => ?_)
                refine wpAnyH_takeL (i := 0) (v := ?g3qv0) rfl (by kernel_rfl) (by kernel_rfl) (by kernel_rfl) (fun _ _ _ h => h) (Or.inl ⟨by rfl, ?g3qy0⟩) (by assumption) ?g3qr0
                case g3qy0 => first | (intro w hSw; (try dsimp only at hSw); go_simp; done) | (intro w hSw; (try dsimp only at hSw); go_simp; with_reducible rfl)
                case' g3qr0 => try simp only [Act.put, List.setIfInBounds_toArray, List.set_cons_zero, List.set_cons_succ]
                refine wpAnyH_takeL (i := 1) (v := ?g3qv1) rfl (by kernel_rfl) (by kernel_rfl) (by kernel_rfl) (fun _ _ _ h => h) (Or.inl ⟨by rfl, ?g3qy1⟩) (by assumption) ?g3qr1
                case g3qy1 => first | (intro w hSw; (try dsimp only at hSw); go_simp; done) | (intro w hSw; (try dsimp only at hSw); go_simp; with_reducible rfl)
                case' g3qr1 => try simp only [Act.put, List.setIfInBounds_toArray, List.set_cons_zero, List.set_cons_succ]
                refine wpAnyH_takeL (i := 2) (v := ?g3qv2) rfl (by kernel_rfl) (by kernel_rfl) (by kernel_rfl) (fun _ _ _ h => h) (Or.inl ⟨by rfl, ?g3qy2⟩) (by assumption) ?g3qr2
                case g3qy2 => first | (intro w hSw; (try dsimp only at hSw); go_simp; done) | (intro w hSw; (try dsimp only at hSw); go_simp; with_reducible rfl)
                case' g3qr2 => try simp only [Act.put, List.setIfInBounds_toArray, List.set_cons_zero, List.set_cons_succ]
                refine wpAnyH_takeL (i := 3) (v := ?g3qv3) rfl (by kernel_rfl) (by kernel_rfl) (by kernel_rfl) (fun _ _ _ h => h) (Or.inl ⟨by rfl, ?g3qy3⟩) (by assumption) ?g3qr3
                case g3qy3 => first | (intro w hSw; (try dsimp only at hSw); go_simp; done) | (intro w hSw; (try dsimp only at hSw); go_simp; with_reducible rfl)
                case' g3qr3 => try simp only [Act.put, List.setIfInBounds_toArray, List.set_cons_zero, List.set_cons_succ]
                refine wpAnyH_takeL (i := 4) (v := ?g3qv4) rfl (by kernel_rfl) (by kernel_rfl) (by kernel_rfl) (fun _ _ _ h => h) (Or.inl ⟨by rfl, ?g3qy4⟩) (by assumption) ?g3qr4
                case g3qy4 => first | (intro w hSw; (try dsimp only at hSw); go_simp; done) | (intro w hSw; (try dsimp only at hSw); go_simp; with_reducible rfl)
                case' g3qr4 => try simp only [Act.put, List.setIfInBounds_toArray, List.set_cons_zero, List.set_cons_succ]
                refine wpAnyH_takeL (i := 5) (v := ?g3qv5) rfl (by kernel_rfl) (by kernel_rfl) (by kernel_rfl) (fun _ _ _ h => h) (Or.inl ⟨by rfl, ?g3qy5⟩) (by assumption) ?g3qr5
                case g3qy5 => first | (intro w hSw; (try dsimp only at hSw); go_simp; done) | (intro w hSw; (try dsimp only at hSw); go_simp; with_reducible rfl)
                case' g3qr5 => try simp only [Act.put, List.setIfInBounds_toArray, List.set_cons_zero, List.set_cons_succ]
                refine wpAnyH_takeL (i := 6) (v := ?g3qv6) rfl (by kernel_rfl) (by kernel_rfl) (by kernel_rfl) (fun _ _ _ h => h) (Or.inl ⟨by rfl, ?g3qy6⟩) (by assumption) ?g3qr6
                case g3qy6 => first | (intro w hSw; (try dsimp only at hSw); go_simp; done) | (intro w hSw; (try dsimp only at hSw); go_simp; with_reducible rfl)
                case' g3qr6 => try simp only [Act.put, List.setIfInBounds_toArray, List.set_cons_zero, List.set_cons_succ]
                refine wpAnyH_takeL (i := 7) (v := ?g3qv7) rfl (by kernel_rfl) (by kernel_rfl) (by kernel_rfl) (fun _ _ _ h => h) (Or.inl ⟨by rfl, ?g3qy7⟩) (by assumption) ?g3qr7
                case g3qy7 => first | (intro w hSw; (try dsimp only at hSw); go_simp; done) | (intro w hSw; (try dsimp only at hSw); go_simp; with_reducible rfl)
                case' g3qr7 => try simp only [Act.put, List.setIfInBounds_toArray, List.set_cons_zero, List.set_cons_succ]
                refine wpAnyH_takeL (i := 8) (v := ?g3qv8) rfl (by kernel_rfl) (by kernel_rfl) (by kernel_rfl) (fun _ _ _ h => h) (Or.inl ⟨by rfl, ?g3qy8⟩) (by assumption) ?g3qr8
                case g3qy8 => first | (intro w hSw; (try dsimp only at hSw); go_simp; done) | (intro w hSw; (try dsimp only at hSw); go_simp; with_reducible rfl)
                case' g3qr8 => try simp only [Act.put, List.setIfInBounds_toArray, List.set_cons_zero, List.set_cons_succ]
                refine wpAnyH_takeL (i := 9) (v := ?g3qv9) rfl (by kernel_rfl) (by kernel_rfl) (by kernel_rfl) (fun _ _ _ h => h) (Or.inl ⟨by rfl, ?g3qy9⟩) (by assumption) ?g3qr9
                case g3qy9 => first | (intro w hSw; (try dsimp only at hSw); go_simp; done) | (intro w hSw; (try dsimp only at hSw); go_simp; with_reducible rfl)
                case' g3qr9 => try simp only [Act.put, List.setIfInBounds_toArray, List.set_cons_zero, List.set_cons_succ]
                refine wpAnyH_takeL (i := 10) (v := ?g3qv10) rfl (by kernel_rfl) (by kernel_rfl) (by kernel_rfl) (fun _ _ _ h => h) (Or.inl ⟨by rfl, ?g3qy10⟩) (by assumption) ?g3qr10
                case g3qy10 => first | (intro w hSw; (try dsimp only at hSw); go_simp; done) | (intro w hSw; (try dsimp only at hSw); go_simp; with_reducible rfl)
                case' g3qr10 => try simp only [Act.put, List.setIfInBounds_toArray, List.set_cons_zero, List.set_cons_succ]
                refine wpAnyH_takeL (i := 11) (v := ?g3qv11) rfl (by kernel_rfl) (by kernel_rfl) (by kernel_rfl) (fun _ _ _ h => h) (Or.inl ⟨by rfl, ?g3qy11⟩) (by assumption) ?g3qr11
                case g3qy11 => first | (intro w hSw; (try dsimp only at hSw); go_simp; done) | (intro w hSw; (try dsimp only at hSw); go_simp; with_reducible rfl)
                case' g3qr11 => try simp only [Act.put, List.setIfInBounds_toArray, List.set_cons_zero, List.set_cons_succ]
                refine wpAnyH_takeL (i := 12) (v := ?g3qv12) rfl (by kernel_rfl) (by kernel_rfl) (by kernel_rfl) (fun _ _ _ h => h) (Or.inl ⟨by rfl, ?g3qy12⟩) (by assumption) ?g3qr12
                case g3qy12 => first | (intro w hSw; (try dsimp only at hSw); go_simp; done) | (intro w hSw; (try dsimp only at hSw); go_simp; with_reducible rfl)
                case' g3qr12 => try simp only [Act.put, List.setIfInBounds_toArray, List.set_cons_zero, List.set_cons_succ]
                refine wpAnyH_takeL (i := 13) (v := ?g3qv13) rfl (by kernel_rfl) (by kernel_rfl) (by kernel_rfl) (fun _ _ _ h => h) (Or.inl ⟨by rfl, ?g3qy13⟩) (by assumption) ?g3qr13
                case g3qy13 => first | (intro w hSw; (try dsimp only at hSw); go_simp; done) | (intro w hSw; (try dsimp only at hSw); go_simp; with_reducible rfl)
                case' g3qr13 => try simp only [Act.put, List.setIfInBounds_toArray, List.set_cons_zero, List.set_cons_succ]
                refine wpAnyH_takeL (i := 14) (v := ?g3qv14) rfl (by kernel_rfl) (by kernel_rfl) (by kernel_rfl) (fun _ _ _ h => h) (Or.inl ⟨by rfl, ?g3qy14⟩) (by assumption) ?g3qr14
                case g3qy14 => first | (intro w hSw; (try dsimp only at hSw); go_simp; done) | (intro w hSw; (try dsimp only at hSw); go_simp; with_reducible rfl)
                case' g3qr14 => try simp only [Act.put, List.setIfInBounds_toArray, List.set_cons_zero, List.set_cons_succ]
                refine wpAnyH_takeL (i := 15) (v := ?g3qv15) rfl (by kernel_rfl) (by kernel_rfl) (by kernel_rfl) (fun _ _ _ h => h) (Or.inl ⟨by rfl, ?g3qy15⟩) (by assumption) ?g3qr15
                case g3qy15 => first | (intro w hSw; (try dsimp only at hSw); go_simp; done) | (intro w hSw; (try dsimp only at hSw); go_simp; with_reducible rfl)
                case' g3qr15 => try simp only [Act.put, List.setIfInBounds_toArray, List.set_cons_zero, List.set_cons_succ]
                refine wpAnyH_takeL (i := 16) (v := ?g3qv16) rfl (by kernel_rfl) (by kernel_rfl) (by kernel_rfl) (fun _ _ _ h => h) (Or.inl ⟨by rfl, ?g3qy16⟩) (by assumption) ?g3qr16
                case g3qy16 => first | (intro w hSw; (try dsimp only at hSw); go_simp; done) | (intro w hSw; (try dsimp only at hSw); go_simp; with_reducible rfl)
                case' g3qr16 => try simp only [Act.put, List.setIfInBounds_toArray, List.set_cons_zero, List.set_cons_succ]
                refine wpAnyH_takeL (i := 17) (v := ?g3qv17) rfl (by kernel_rfl) (by kernel_rfl) (by kernel_rfl) (fun _ _ _ h => h) (Or.inl ⟨by rfl, ?g3qy17⟩) (by assumption) ?g3qr17
                case g3qy17 => first | (intro w hSw; (try dsimp only at hSw); go_simp; done) | (intro w hSw; (try dsimp only at hSw); go_simp; with_reducible rfl)
                case' g3qr17 => try simp only [Act.put, List.setIfInBounds_toArray, List.set_cons_zero, List.set_cons_succ]
                refine wpAnyH_takeL (i := 18) (v := ?g3qv18) rfl (by kernel_rfl) (by kernel_rfl) (by kernel_rfl) (fun _ _ _ h => h) (Or.inl ⟨by rfl, ?g3qy18⟩) (by assumption) ?g3qr18
                case g3qy18 => first | (intro w hSw; (try dsimp only at hSw); go_simp; done) | (intro w hSw; (try dsimp only at hSw); go_simp; with_reducible rfl)
                case' g3qr18 => try simp only [Act.put, List.setIfInBounds_toArray, List.set_cons_zero, List.set_cons_succ]
                refine wpAnyH_done (by kernel_rfl) ?_ _
                change wpList _ _ _ _ _ _
                clear x0 x1 p1 b2' g0
                go_wp2
                first
                  | go_roundw
                  | refine ⟨?rel, ?measure⟩
                case rel => exact ⟨q + 1, _, by omega, by go_num, HSX5, HM5, HX5', HSZ5', HC5⟩
                case measure => simp [intOf]; omega
              · obtain rfl : q = 4 := by omega
                have hm6 : MixP X.secs Y Z' (cov (o.rels.take (j + 1))) := HQM.out.congr fun i' j' => by
                  rw [HCOV.out i' j']
                  constructor
                  · rintro (h | ⟨h1, h2, h3⟩)
                    · exact .inl h
                    · exact .inr ⟨by omega, by omega, by omega⟩
                  · rintro (h | ⟨h1, h2, h3⟩)
                    · exact .inl h
                    · exact .inr ⟨by omega, by omega, by omega⟩
                have HM6 := hid hm6
                have h2' := HJ.out
                have hrc := HCR.out
                clear hm6
                go_wp2
                first
                  | go_roundw
                  | refine ⟨?rel, ?measure⟩
                case rel =>
                  have hrc := HCR.out
                  have h2' := HJ.out
                  exact ⟨j + 1, Z', by omega, by go_num, HQI, HM6, HQX, HQS, hid HQC.out.1⟩
                case measure =>
                  have h2' := HJ.out
                  simp [intOf]
                  omega
          · have esub : IntKind.u32.wrap ((wz : Int) - (wx : Int)) = (m : Int) := by
              rw [wrap_w32, HNUM.out, more7, if_neg hkd]
            have n1 : ((m : Int) != m) = false := by simp
            have n3 : ((kd : Int) == 2) = false := by simpa using hkd
            clear hkd
            go_wp2_with fail
            refine wp_region_held_drew (S := (fun w' => w'.cell? ⟨wr.heap.size, 0, none⟩ = some (.int .i64 kk) ∧ w'.cell? ⟨wr.heap.size, 1, none⟩ = some (.int .i64 f) ∧ w'.cell? ⟨w2.heap.size, 1, none⟩ = some (.slice (some ⟨bb, ob, none⟩) i a2) ∧ w'.cell? ⟨bb, ob + kk * 5 + 2, none⟩ = some (.slice dX L cX))) (by kernel_rfl) ⟨x0, x1, p1', b2'⟩ (fun hSg4q0 => ?_)
            refine wpAnyH_takeL (i := 0) (v := ?g4qv0) rfl (by kernel_rfl) (by kernel_rfl) (by kernel_rfl) (fun _ _ _ h => h) (Or.inl ⟨by rfl, ?g4qy0⟩) (by assumption) ?g4qr0
            case g4qy0 => first | (intro w hSw; (try dsimp only at hSw); go_simp; done) | (intro w hSw; (try dsimp only at hSw); go_simp; with_reducible rfl)
            case' g4qr0 => try simp only [Act.put, List.setIfInBounds_toArray, List.set_cons_zero, List.set_cons_succ]
            refine wpAnyH_takeL (i := 1) (v := ?g4qv1) rfl (by kernel_rfl) (by kernel_rfl) (by kernel_rfl) (fun _ _ _ h => h) (Or.inl ⟨by rfl, ?g4qy1⟩) (by assumption) ?g4qr1
            case g4qy1 => first | (intro w hSw; (try dsimp only at hSw); go_simp; done) | (intro w hSw; (try dsimp only at hSw); go_simp; with_reducible rfl)
            case' g4qr1 => try simp only [Act.put, List.setIfInBounds_toArray, List.set_cons_zero, List.set_cons_succ]
            refine wpAnyH_takeL (i := 2) (v := ?g4qv2) rfl (by kernel_rfl) (by kernel_rfl) (by kernel_rfl) (fun _ _ _ h => h) (Or.inl ⟨by rfl, ?g4qy2⟩) (by assumption) ?g4qr2
            case g4qy2 => first | (intro w hSw; (try dsimp only at hSw); go_simp; done) | (intro w hSw; (try dsimp only at hSw); go_simp; with_reducible rfl)
            case' g4qr2 => try simp only [Act.put, List.setIfInBounds_toArray, List.set_cons_zero, List.set_cons_succ]
            refine wpAnyH_takeL (i := 4) (v := ?g4qv4) rfl (by kernel_rfl) (by kernel_rfl) (by kernel_rfl) (fun _ _ _ h => h) (Or.inl ⟨by rfl, ?g4qy4⟩) (by assumption) ?g4qr4
            case g4qy4 => first | (intro w hSw; (try dsimp only at hSw); go_simp; done) | (intro w hSw; (try dsimp only at hSw); go_simp; with_reducible rfl)
            case' g4qr4 => try simp only [Act.put, List.setIfInBounds_toArray, List.set_cons_zero, List.set_cons_succ]
            refine wpAnyH_takeL (i := 5) (v := ?g4qv5) rfl (by kernel_rfl) (by kernel_rfl) (by kernel_rfl) (fun _ _ _ h => h) (Or.inl ⟨by rfl, ?g4qy5⟩) (by assumption) ?g4qr5
            case g4qy5 => first | (intro w hSw; (try dsimp only at hSw); go_simp; done) | (intro w hSw; (try dsimp only at hSw); go_simp; with_reducible rfl)
            case' g4qr5 => try simp only [Act.put, List.setIfInBounds_toArray, List.set_cons_zero, List.set_cons_succ]
            refine wpAnyH_takeL (i := 6) (v := ?g4qv6) rfl (by kernel_rfl) (by kernel_rfl) (by kernel_rfl) (fun _ _ _ h => h) (Or.inl ⟨by rfl, ?g4qy6⟩) (by assumption) ?g4qr6
            case g4qy6 => first | (intro w hSw; (try dsimp only at hSw); go_simp; done) | (intro w hSw; (try dsimp only at hSw); go_simp; with_reducible rfl)
            case' g4qr6 => try simp only [Act.put, List.setIfInBounds_toArray, List.set_cons_zero, List.set_cons_succ]
            refine wpAnyH_takeL (i := 7) (v := ?g4qv7) rfl (by kernel_rfl) (by kernel_rfl) (by kernel_rfl) (fun _ _ _ h => h) (Or.inl ⟨by rfl, ?g4qy7⟩) (by assumption) ?g4qr7
            case g4qy7 => first | (intro w hSw; (try dsimp only at hSw); go_simp; done) | (intro w hSw; (try dsimp only at hSw); go_simp; with_reducible rfl)
            case' g4qr7 => try simp only [Act.put, List.setIfInBounds_toArray, List.set_cons_zero, List.set_cons_succ]
            refine wpAnyH_takeL (i := 8) (v := ?g4qv8) rfl (by kernel_rfl) (by kernel_rfl) (by kernel_rfl) (fun _ _ _ h => h) (Or.inl ⟨by rfl, ?g4qy8⟩) (by assumption) ?g4qr8
            case g4qy8 => first | (intro w hSw; (try dsimp only at hSw); go_simp; done) | (intro w hSw; (try dsimp only at hSw); go_simp; with_reducible rfl)
            case' g4qr8 => try simp only [Act.put, List.setIfInBounds_toArray, List.set_cons_zero, List.set_cons_succ]
            refine wpAnyH_takeL (i := 9) (v := ?g4qv9) rfl (by kernel_rfl) (by kernel_rfl) (by kernel_rfl) (fun _ _ _ h => h) (Or.inl ⟨by rfl, ?g4qy9⟩) (by assumption) ?g4qr9
            case g4qy9 => first | (intro w hSw; (try dsimp only at hSw); go_simp; done) | (intro w hSw; (try dsimp only at hSw); go_simp; with_reducible rfl)
            case' g4qr9 => try simp only [Act.put, List.setIfInBounds_toArray, List.set_cons_zero, List.set_cons_succ]
            refine wpAnyH_takeL (i := 10) (v := ?g4qv10) rfl (by kernel_rfl) (by kernel_rfl) (by kernel_rfl) (fun _ _ _ h => h) (Or.inl ⟨by rfl, ?g4qy10⟩) (by assumption) ?g4qr10
            case g4qy10 => first | (intro w hSw; (try dsimp only at hSw); go_simp; done) | (intro w hSw; (try dsimp only at hSw); go_simp; with_reducible rfl)
            case' g4qr10 => try simp only [Act.put, List.setIfInBounds_toArray, List.set_cons_zero, List.set_cons_succ]
            refine wpAnyH_takeL (i := 11) (v := ?g4qv11) rfl (by kernel_rfl) (by kernel_rfl) (by kernel_rfl) (fun _ _ _ h => h) (Or.inl ⟨by rfl, ?g4qy11⟩) (by assumption) ?g4qr11
            case g4qy11 => first | (intro w hSw; (try dsimp only at hSw); go_simp; done) | (intro w hSw; (try dsimp only at hSw); go_simp; with_reducible rfl)
            case' g4qr11 => try simp only [Act.put, List.setIfInBounds_toArray, List.set_cons_zero, List.set_cons_succ]
            refine wpAnyH_takeL (i := 12) (v := ?g4qv12) rfl (by kernel_rfl) (by kernel_rfl) (by kernel_rfl) (fun _ _ _ h => h) (Or.inl ⟨by rfl, ?g4qy12⟩) (by assumption) ?g4qr12
            case g4qy12 => first | (intro w hSw; (try dsimp only at hSw); go_simp; done) | (intro w hSw; (try dsimp only at hSw); go_simp; with_reducible rfl)
            case' g4qr12 => try simp only [Act.put, List.setIfInBounds_toArray, List.set_cons_zero, List.set_cons_succ]
            refine wpAnyH_takeL (i := 15) (v := ?g4qv15) rfl (by kernel_rfl) (by kernel_rfl) (by kernel_rfl) (fun _ _ _ h => h) (Or.inl ⟨by rfl, ?g4qy15⟩) (by assumption) ?g4qr15
            case g4qy15 => first | (intro w hSw; (try dsimp only at hSw); go_simp; done) | (intro w hSw; (try dsimp only at hSw); go_simp; with_reducible rfl)
            case' g4qr15 => try simp only [Act.put, List.setIfInBounds_toArray, List.set_cons_zero, List.set_cons_succ]
            refine wpAnyH_ready (rs := [3]) (by kernel_rfl) (by simp) ?_
            refine AllReadyH.consL rfl (fun K hK => ?_) AllReadyH.nil
            go_simp
            go_at_call 25
            refine (HWZ.out _ HE1'.out.drew).mono ?_
            rintro e w9 ⟨rfl, hx9⟩
            have HX9 := hid ((Ext.refl W1).drew.trans hx9)
            clear hx9
            refine hK.out _ _ ⟨HX9.out.cell x0, HX9.out.cell x1, HX9.out.cell p1', HX9.out.cell b2'⟩ (fun hSg4q1 => ?_)
            clear hK K
            try simp only [Act.put, List.setIfInBounds_toArray, List.set_cons_zero, List.set_cons_succ]
            refine wpAnyH_ready (rs := [13]) (by kernel_rfl) (by simp) ?_
            refine AllReadyH.consL rfl (fun K hK => ?_) AllReadyH.nil
            go_simp
            go_at_call 25
            refine (HWX.out _ (HE1'.out.trans HX9.out)).mono ?_
            rintro e w10 ⟨rfl, hx10⟩
            have HX10 := hid (HX9.out.trans hx10)
            clear hx10
            refine hK.out _ _ ⟨HX10.out.cell x0, HX10.out.cell x1, HX10.out.cell p1', HX10.out.cell b2'⟩ (fun hSg4q2 => ?_)
            clear hK K
            try simp only [Act.put, List.setIfInBounds_toArray, List.set_cons_zero, List.set_cons_succ]
            refine wpAnyH_takeL (i := 14) (v := ?g4qv14) rfl (by kernel_rfl) (by kernel_rfl) (by kernel_rfl) (fun _ _ _ h => h) (Or.inl ⟨by rfl, ?g4qy14⟩) (by assumption) ?g4qr14
            case g4qy14 => first | (intro w hSw; (try dsimp only at hSw); go_simp; done) | (intro w hSw; (try dsimp only at hSw); go_simp; with_reducible rfl)
            case' g4qr14 => try simp only [Act.put, List.setIfInBounds_toArray, List.set_cons_zero, List.set_cons_succ]
            refine wpAnyH_takeL (i := 16) (v := ?g4qv16) rfl (by kernel_rfl) (by kernel_rfl) (by kernel_rfl) (fun _ _ _ h => h) (Or.inl ⟨by rfl, ?g4qy16⟩) (by assumption) ?g4qr16
            case g4qy16 => first | (intro w hSw; (try dsimp only at hSw); go_simp; done) | (intro w hSw; (try dsimp only at hSw); go_simp; with_reducible rfl)
            case' g4qr16 => try simp only [Act.put, List.setIfInBounds_toArray, List.set_cons_zero, List.set_cons_succ]
            refine wpAnyH_done (by kernel_rfl) ?_ _
            have HCE := hid (And.intro (HX10.out.cell x0) (HX10.out.cell x1))
            have HSZ1 : Hid (w5.heap.size < w10.heap.size) := hid (Nat.lt_of_lt_of_le (Nat.lt_trans HSZ.out HW1.out) HX10.out.size)
            have HI1 := hid (HIZ.out.ext (HE1'.out.trans HX10.out))
            have HX1 := hid (HX2.out.trans (HE1'.out.trans HX10.out))
            have HQ1 := hid (HX10.out.cell qb)
            have hbox : gd ≠ wr.heap.size ∧ gd ≠ w5.heap.size := by have := HSZ.out; have := HGD.out.2; omega
            have HBOX := hid hbox
            clear x0 x1 x2 p1' b2' m2' qb hbox esub n1 n3
            obtain ⟨V, hV⟩ : ∃ V, V = wr := ⟨_, rfl⟩
            obtain rfl := hV
            go_wp2
            go_loopw [16] (fun a wr => ∃ (q : Nat) (Z' : List Sec), q ≤ 4 ∧ a = .int .i64 q ∧ Hid (SecsX wr w4.heap.size w5.heap.size 46 5 (.slice (some ⟨g, 0, none⟩) i cS) H Z') ∧ Hid (MixP X.secs Y Z' (fun i' j' => cov (o.rels.take j) i' j' ∨ (i' = kk ∧ f ≤ j' ∧ j' < f + q))) ∧ Hid (Ext w4 wr) ∧ Hid (w5.heap.size < wr.heap.size) ∧ Hid (wr.cell? ⟨w5.heap.size, 1, none⟩ = some (.slice (some ⟨g, 0, none⟩) i cS) ∧ wr.cell? ⟨V.heap.size, 0, none⟩ = some (.int .i64 kk) ∧ wr.cell? ⟨V.heap.size, 1, none⟩ = some (.int .i64 f))) (fun a _ => 4 - (intOf a).toNat)
            case atStart =>
              refine ⟨0, Z, by omega, rfl, HI1, hid (HMX.out.congr fun i' j' => ⟨fun h => h.elim id fun h => absurd h.2 (by omega), .inl⟩), HX1, HSZ1, hid ⟨HQ1.out, HCE.out⟩⟩
            case round =>
              obtain ⟨q, Z', hq4, rfl, HQI, HQM, HQX, HQS, HQC⟩ := hrel
              by_cases h3 : q < 4
              · obtain ⟨-, x0, x1⟩ := HQC.out
                obtain ⟨hxk, hxl', hzl, hfl⟩ := HXK.out
                obtain ⟨z', hz', hkz'⟩ := shape_at (HQM.out.shape.trans HMX.out.shape.symm) HZK.out
                have hzl' : z'.data.length = L := (key_len hkz').trans hzl
                obtain ⟨p0, p1, p2, p3, -⟩ := HP2.out.ext (HD4.out.trans HQX.out)
                rw [HXE.out.2] at p1
                obtain ⟨xb, hxb⟩ : ∃ xb, x.data[f + q]? = some xb := ⟨_, List.getElem?_eq_getElem (by omega)⟩
                obtain ⟨bb', ob', dX', cX', hA', hdX', -, -, -, -, -, b2', -, -⟩ := Sl.sec_at (HS2.out.ext (HD4.out.trans HQX.out)) hxk
                cases hA'
                obtain ⟨bX, oX, rfl, g0, hx8⟩ := hdX'.num_at hxb
                rw [hxl'] at b2'
                have hdl' := hdl
                have ef : IntKind.i64.wrap ((f : Int) + (q : Int)) = (f : Int) + (q : Int) := IntWalk.i64_in _ (by omega)
                have et : ((f : Int) + (q : Int)).toNat = f + q := by omega
                have i4 : (0 : Int) ≤ (f : Int) + (q : Int) := by omega
                have i5 : (f : Int) + (q : Int) < (L : Int) := by omega
                have exm : (xb : Int) % 256 = (xb : Int) := by omega
                have hsx5 := SecsX.byte (HQI.out.ext (Ext.refl wr).drew) (g := gd) (c := hc) (f := f + q) (b := xb) HHK.out hz' (by show Value.slice _ _ _ = Value.slice _ _ _; rw [hzl']) hx8
                have hm5 : MixP X.secs Y (Z'.set kk { z' with data := z'.data.set (f + q) xb }) (fun i' j' => cov (o.rels.take j) i' j' ∨ (i' = kk ∧ f ≤ j' ∧ j' < f + (q + 1))) :=
                  HQM.out.step hz' hxk (by omega) hxb (fun i' j' => ⟨fun h => by
                    rcases h with h | ⟨h1, h2, h3⟩
                    · exact .inl (.inl h)
                    · by_cases e : j' = f + q
                      · exact .inr ⟨h1, e⟩
                      · exact .inl (.inr ⟨h1, h2, by omega⟩), fun h => by
                    rcases h with (h | ⟨h1, h2, h3⟩) | ⟨h1, h2⟩
                    · exact .inl h
                    · exact .inr ⟨h1, h2, by omega⟩
                    · exact .inr ⟨h1, by omega, by omega⟩⟩)
                have HM5 := hid hm5
                have HSX5 := hid hsx5
                have HX5' : Hid (Ext w4 (wr.drew.setCell ⟨gd, f + q, none⟩ (.int .u8 xb))) := hid (by exact HQX.out.drew.setCell HGD.out.1.1 _)
                have HSZ5' : Hid (w5.heap.size < (wr.drew.setCell ⟨gd, f + q, none⟩ (.int .u8 xb)).heap.size) := hid (by simpa using HQS.out)
                have HC5 : Hid ((wr.drew.setCell ⟨gd, f + q, none⟩ (.int .u8 xb)).cell? ⟨w5.heap.size, 1, none⟩ = some (.slice (some ⟨g, 0, none⟩) i cS) ∧ (wr.drew.setCell ⟨gd, f + q, none⟩ (.int .u8 xb)).cell? ⟨V.heap.size, 0, none⟩ = some (.int .i64 kk) ∧ (wr.drew.setCell ⟨gd, f + q, none⟩ (.int .u8 xb)).cell? ⟨V.heap.size, 1, none⟩ = some (.int .i64 f)) := hid (by
                  have hb := HBOX.out
                  obtain ⟨t1, t2, t3⟩ := HQC.out
                  exact ⟨(World.cell?_setCell_other _ _ _ _ (by intro e; exact hb.2 (congrArg Addr.block e))).trans t1, (World.cell?_setCell_other _ _ _ _ (by intro e; exact hb.1 (congrArg Addr.block e))).trans t2, (World.cell?_setCell_other _ _ _ _ (by intro e; exact hb.1 (congrArg Addr.block e))).trans t3⟩)
                have hrow := HQI.out.data kk _ z' HHK.out hz'
                dsimp only [Hd.dv] at hrow
                obtain ⟨yb, hyb⟩ : ∃ yb, z'.data[f + q]? = some yb := ⟨_, List.getElem?_eq_getElem (by omega)⟩
                obtain ⟨d1, d2⟩ := OwnS.num_cell hrow hyb
                have d1d : wr.drew.cell? ⟨gd, f + q, none⟩ = some (.int .u8 yb) := d1
                have d2d : wr.drew.frozen? ⟨gd, f + q, none⟩ = false := d2
                clear hyb hrow d1 d2 hm5 hsx5 hxk hxl' hzl hfl hz' hkz' hzl' hxb hx8 hdX' p0 p2 p3
                go_wp2_with fail
                refine wp_region_split 19 (by kernel_rfl) rfl rfl (by kernel_rfl) (fun w' => w'.cell? ⟨V.heap.size, 0, none⟩ = some (.int .i64 kk) ∧ w'.cell? ⟨V.heap.size, 1, none⟩ = some (.int .i64 f) ∧ w'.cell? ⟨w2.heap.size, 1, none⟩ = some (.slice (some ⟨bb, ob, none⟩) i a2) ∧ w'.cell? ⟨bb, ob + kk * 5 + 2, none⟩ = some (.slice (some ⟨bX, oX, none⟩) L cX') ∧ w'.cell? ⟨bX, oX + (f + q), none⟩ = some (.int .u8 xb)) ⟨x0, x1, p1, b2', g0⟩ (fun hSg5q0 => ?_)
                refine wpAnyH_takeL (i := 0) (v := ?g5qv0) rfl (by kernel_rfl) (by kernel_rfl) (by kernel_rfl) (fun _ _ _ h => h) (Or.inl ⟨by rfl, ?g5qy0⟩) (by assumption) ?g5qr0
                case g5qy0 => first | (intro w hSw; (try dsimp only at hSw); go_simp; done) | (intro w hSw; (try dsimp only at hSw); go_simp; with_reducible rfl)
                case' g5qr0 => try simp only [Act.put, List.setIfInBounds_toArray, List.set_cons_zero, List.set_cons_succ]
                refine wpAnyH_takeL (i := 1) (v := ?g5qv1) rfl (by kernel_rfl) (by kernel_rfl) (by kernel_rfl) (fun _ _ _ h => h) (Or.inl ⟨by rfl, ?g5qy1⟩) (by assumption) ?g5qr1
                case g5qy1 => first | (intro w hSw; (try dsimp only at hSw); go_simp; done) | (intro w hSw; (try dsimp only at hSw); go_simp; with_reducible rfl)
                case' g5qr1 => try simp only [Act.put, List.setIfInBounds_toArray, List.set_cons_zero, List.set_cons_succ]
                refine wpAnyH_takeL (i := 2) (v := ?g5qv2) rfl (by kernel_rfl) (by kernel_rfl) (by kernel_rfl) (fun _ _ _ h => h) (Or.inl ⟨by rfl, ?g5qy2⟩) (by assumption) ?g5qr2
                case g5qy2 => first | (intro w hSw; (try dsimp only at hSw); go_simp; done) | (intro w hSw; (try dsimp only at hSw); go_simp; with_reducible rfl)
                case' g5qr2 => try simp only [Act.put, List.setIfInBounds_toArray, List.set_cons_zero, List.set_cons_succ]
                refine wpAnyH_takeL (i := 3) (v := ?g5qv3) rfl (by kernel_rfl) (by kernel_rfl) (by kernel_rfl) (fun _ _ _ h => h) (Or.inl ⟨by rfl, ?g5qy3⟩) (by assumption) ?g5qr3
                case g5qy3 => first | (intro w hSw; (try dsimp only at hSw); go_simp; done) | (intro w hSw; (try dsimp only at hSw); go_simp; with_reducible rfl)
                case' g5qr3 => try simp only [Act.put, List.setIfInBounds_toArray, List.set_cons_zero, List.set_cons_succ]
                refine wpAnyH_takeL (i := 4) (v := ?g5qv4) rfl (by kernel_rfl) (by kernel_rfl) (by kernel_rfl) (fun _ _ _ h => h) (Or.inl ⟨by rfl, ?g5qy4⟩) (by assumption) ?g5qr4
                case g5qy4 => first | (intro w hSw; (try dsimp only at hSw); go_simp; done) | (intro w hSw; (try dsimp only at hSw); go_simp; with_reducible rfl)
                case' g5qr4 => try simp only [Act.put, List.setIfInBounds_toArray, List.set_cons_zero, List.set_cons_succ]
                refine wpAnyH_takeL (i := 5) (v := ?g5qv5) rfl (by kernel_rfl) (by kernel_rfl) (by kernel_rfl) (fun _ _ _ h => h) (Or.inl ⟨by rfl, ?g5qy5⟩) (by assumption) ?g5qr5
                case g5qy5 => first | (intro w hSw; (try dsimp only at hSw); go_simp; done) | (intro w hSw; (try dsimp only at hSw); go_simp; with_reducible rfl)
                case' g5qr5 => try simp only [Act.put, List.setIfInBounds_toArray, List.set_cons_zero, List.set_cons_succ]
                refine wpAnyH_takeL (i := 6) (v := ?g5qv6) rfl (by kernel_rfl) (by kernel_rfl) (by kernel_rfl) (fun _ _ _ h => h) (Or.inl ⟨by rfl, ?g5qy6⟩) (by assumption) ?g5qr6
                case g5qy6 => first | (intro w hSw; (try dsimp only at hSw); go_simp; done) | (intro w hSw; (try dsimp only at hSw); go_simp; with_reducible rfl)
                case' g5qr6 => try simp only [Act.put, List.setIfInBounds_toArray, List.set_cons_zero, List.set_cons_succ]
                refine wpAnyH_takeL (i := 7) (v := ?g5qv7) rfl (by kernel_rfl) (by kernel_rfl) (by kernel_rfl) (fun _ _ _ h => h) (Or.inl ⟨by rfl, ?g5qy7⟩) (by assumption) ?g5qr7
                case g5qy7 => first | (intro w hSw; (try dsimp only at hSw); go_simp; done) | (intro w hSw; (try dsimp only at hSw); go_simp; with_reducible rfl)
                case' g5qr7 => try simp only [Act.put, List.setIfInBounds_toArray, List.set_cons_zero, List.set_cons_succ]
                refine wpAnyH_takeL (i := 8) (v := ?g5qv8) rfl (by kernel_rfl) (by kernel_rfl) (by kernel_rfl) (fun _ _ _ h => h) (Or.inl ⟨by rfl, ?g5qy8⟩) (by assumption) ?g5qr8
                case g5qy8 => first | (intro w hSw; (try dsimp only at hSw); go_simp; done) | (intro w hSw; (try dsimp only at hSw); go_simp; with_reducible rfl)
                case' g5qr8 => try simp only [Act.put, List.setIfInBounds_toArray, List.set_cons_zero, List.set_cons_succ]
                refine wpAnyH_takeL (i := 9) (v := ?g5qv9) rfl (by kernel_rfl) (by kernel_rfl) (by kernel_rfl) (fun _ _ _ h => h) (Or.inl ⟨by rfl, ?g5qy9⟩) (by assumption) ?g5qr9
                case g5qy9 => first | (intro w hSw; (try dsimp only at hSw); go_simp; done) | (intro w hSw; (try dsimp only at hSw); go_simp; with_reducible rfl)
                case' g5qr9 => try simp only [Act.put, List.setIfInBounds_toArray, List.set_cons_zero, List.set_cons_succ]
                refine wpAnyH_takeL (i := 10) (v := ?g5qv10) rfl (by kernel_rfl) (by kernel_rfl) (by kernel_rfl) (fun _ _ _ h => h) (Or.inl ⟨by rfl, ?g5qy10⟩) (by assumption) ?g5qr10
                case g5qy10 => first | (intro w hSw; (try dsimp only at hSw); go_simp; done) | (intro w hSw; (try dsimp only at hSw); go_simp; with_reducible rfl)
                case' g5qr10 => try simp only [Act.put, List.setIfInBounds_toArray, List.set_cons_zero, List.set_cons_succ]
                refine wpAnyH_takeL (i := 11) (v := ?g5qv11) rfl (by kernel_rfl) (by kernel_rfl) (by kernel_rfl) (fun _ _ _ h => h) (Or.inl ⟨by rfl, ?g5qy11⟩) (by assumption) ?g5qr11
                case g5qy11 => first | (intro w hSw; (try dsimp only at hSw); go_simp; done) | (intro w hSw; (try dsimp only at hSw); go_simp; with_reducible rfl)
                case' g5qr11 => try simp only [Act.put, List.setIfInBounds_toArray, List.set_cons_zero, List.set_cons_succ]
                refine wpAnyH_takeL (i := 12) (v := ?g5qv12) rfl (by kernel_rfl) (by kernel_rfl) (by kernel_rfl) (fun _ _ _ h => h) (Or.inl ⟨by rfl, ?g5qy12⟩) (by assumption) ?g5qr12
                case g5qy12 => first | (intro w hSw; (try dsimp only at hSw); go_simp; done) | (intro w hSw; (try dsimp only at hSw); go_simp; with_reducible rfl)
                case' g5qr12 => try simp only [Act.put, List.setIfInBounds_toArray, List.set_cons_zero, List.set_cons_succ]
                refine wpAnyH_takeL (i := 13) (v := ?g5qv13) rfl (by kernel_rfl) (by kernel_rfl) (by kernel_rfl) (fun _ _ _ h => h) (Or.inl ⟨by rfl, ?g5qy13⟩) (by assumption) ?g5qr13
                case g5qy13 => first | (intro w hSw; (try dsimp only at hSw); go_simp; done) | (intro w hSw; (try dsimp only at hSw); go_simp; with_reducible rfl)
                case' g5qr13 => try simp only [Act.put, List.setIfInBounds_toArray, List.set_cons_zero, List.set_cons_succ]
                refine wpAnyH_takeL (i := 14) (v := ?g5qv14) rfl (by kernel_rfl) (by kernel_rfl) (by kernel_rfl) (fun _ _ _ h => h) (Or.inl ⟨by rfl, ?g5qy14⟩) (by assumption) ?g5qr14
                case g5qy14 => first | (intro w hSw; (try dsimp only at hSw); go_simp; done) | (intro w hSw; (try dsimp only at hSw); go_simp; with_reducible rfl)
                case' g5qr14 => try simp only [Act.put, List.setIfInBounds_toArray, List.set_cons_zero, List.set_cons_succ]
                refine wpAnyH_takeL (i := 15) (v := ?g5qv15) rfl (by kernel_rfl) (by kernel_rfl) (by kernel_rfl) (fun _ _ _ h => h) (Or.inl ⟨by rfl, ?g5qy15⟩) (by assumption) ?g5qr15
                case g5qy15 => first | (intro w hSw; (try dsimp only at hSw); go_simp; done) | (intro w hSw; (try dsimp only at hSw); go_simp; with_reducible rfl)
                case' g5qr15 => try simp only [Act.put, List.setIfInBounds_toArray, List.set_cons_zero, List.set_cons_succ]
                refine wpAnyH_takeL (i := 16) (v := ?g5qv16) rfl (by kernel_rfl) (by kernel_rfl) (by kernel_rfl) (fun _ _ _ h => h) (Or.inl ⟨by rfl, ?g5qy16⟩) (by assumption) ?g5qr16
                case g5qy16 => first | (intro w hSw; (try dsimp only at hSw); go_simp; done) | (intro w hSw; (try dsimp only at hSw); go_simp; with_reducible rfl)
                case' g5qr16 => try simp only [Act.put, List.setIfInBounds_toArray, List.set_cons_zero, List.set_cons_succ]
                refine wpAnyH_takeL (i := 17) (v := ?g5qv17) rfl (by kernel_rfl) (by kernel_rfl) (by kernel_rfl) (fun _ _ _ h => h) (Or.inl ⟨by rfl, ?g5qy17⟩) (by assumption) ?g5qr17
                case g5qy17 => first | (intro w hSw; (try dsimp only at hSw); go_simp; done) | (intro w hSw; (try dsimp only at hSw); go_simp; with_reducible rfl)
                case' g5qr17 => try simp only [Act.put, List.setIfInBounds_toArray, List.set_cons_zero, List.set_cons_succ]
                refine wpAnyH_takeL (i := 18) (v := ?g5qv18) rfl (by kernel_rfl) (by kernel_rfl) (by kernel_rfl) (fun _ _ _ h => h) (Or.inl ⟨by rfl, ?g5qy18⟩) (by assumption) ?g5qr18
                case g5qy18 => first | (intro w hSw; (try dsimp only at hSw); go_simp; done) | (intro w hSw; (try dsimp only at hSw); go_simp; with_reducible rfl)
                case' g5qr18 => try simp only [Act.put, List.setIfInBounds_toArray, List.set_cons_zero, List.set_cons_succ]
                refine wpAnyH_done (by kernel_rfl) ?_ _
                change wpList _ _ _ _ _ _
                clear x0 x1 p1 b2' g0
                go_wp2
                first
                  | go_roundw
                  | refine ⟨?rel, ?measure⟩
                case rel => exact ⟨q + 1, _, by omega, by go_num, HSX5, HM5, HX5', HSZ5', HC5⟩
                case measure => simp [intOf]; omega
              · obtain rfl : q = 4 := by omega
                have hm6 : MixP X.secs Y Z' (cov (o.rels.take (j + 1))) := HQM.out.congr fun i' j' => by
                  rw [HCOV.out i' j']
                  constructor
                  · rintro (h | ⟨h1, h2, h3⟩)
                    · exact .inl h
                    · exact .inr ⟨by omega, by omega, by omega⟩
                  · rintro (h | ⟨h1, h2, h3⟩)
                    · exact .inl h
                    · exact .inr ⟨by omega, by omega, by omega⟩
                have HM6 := hid hm6
                have h2' := HJ.out
                have hrc := HCR.out
                clear hm6
                go_wp2
                first
                  | go_roundw
                  | refine ⟨?rel, ?measure⟩
                case rel =>
                  have hrc := HCR.out
                  have h2' := HJ.out
                  exact ⟨j + 1, Z', by omega, by go_num, HQI, HM6, HQX, HQS, hid HQC.out.1⟩
                case measure =>
                  have h2' := HJ.out
                  simp [intOf]
                  omega
        · obtain rfl : j = nr := by omega
          have hmx := HMX.out
          rw [List.take_of_length_le (by have := HLR.out; omega)] at hmx
          have HMF := hid hmx
          obtain ⟨V6, hV6⟩ : ∃ V, V = wr := ⟨_, rfl⟩
          obtain rfl := hV6
          clear hmx
          go_wp2
          clear y0 y1 y2 y3
          go_loopw [17] (fun q wr => ∃ k : Nat, k ≤ i ∧ q = .int .i64 k ∧ Hid (Ext V6 wr)) (fun q _ => i - (intOf q).toNat)
          case atStart => exact ⟨0, by omega, rfl, hid (Ext.refl _)⟩
          case round =>
            obtain ⟨k, hk, rfl, HX3⟩ := hrel
            obtain ⟨y0, y1, y2, y3, -⟩ := HBB.out.ext (HD2.out.trans (HD4.out.trans (HX2.out.trans HX3.out)))
            by_cases h3 : k < i
            · obtain ⟨p0, p1, p2, p3, -⟩ := HP2.out.ext (HD4.out.trans (HX2.out.trans HX3.out))
              rw [HXE.out.2] at p1
              have qb := HX3.out.cell HQB.out
              obtain ⟨x, hx⟩ : ∃ x, X.secs[k]? = some x := ⟨_, List.getElem?_eq_getElem (by have := HXE.out.2; omega)⟩
              obtain ⟨z, hz⟩ : ∃ z, Z[k]? = some z := ⟨_, List.getElem?_eq_getElem (by have := HIZ.out.len; have := HIZ.out.own.len; omega)⟩
              have hd := HMF.out.done HRB.out.rest hz hx
              obtain ⟨bb, ob, dX, cX, rfl, hdX, hcX, -, -, b0, b1, b2, b3, b4⟩ := Sl.sec_at (HS2.out.ext (HD4.out.trans (HX2.out.trans HX3.out))) hx
              obtain ⟨bc, oc, dZ, cZ, rfl, hdZ, hcZ, -, -, c0, c1, c2, c3, c4⟩ := Sl.sec_at ((HIZ.out.ext HX3.out).sl (S := All) (fun _ _ => trivial)) hz
              have cv1 := run_str (P := Try.prog) 44 9 5 Try.underlying44 Try.underlying5 Try.underlying9 (hdX.ext (Ext.refl wr).drew)
              have cv2 := run_str (P := Try.prog) 44 9 5 Try.underlying44 Try.underlying5 Try.underlying9 (hdZ.ext (Ext.refl wr).drew)
              rw [hd] at cv2 c2
              obtain ⟨T, hT⟩ : ∃ T, strOf x.data = T := ⟨_, rfl⟩
              rw [hT] at cv1 cv2
              have n1 : (T.toList != T.toList) = false := by simp
              have i1 : (0 : Int) ≤ (k : Int) := by omega
              have i2 : (k : Int) < (i : Int) := by omega
              clear hx hz hd hT hdX hdZ b0 b1 b3 b4 c0 c1 c3 c4 p0 p2 p3
              have hcs := HCS.out
              go_wp2_with fail
              refine wp_region_held_drew (S := (fun w' => w'.cell? ⟨w2.heap.size, 1, none⟩ = some (.slice (some ⟨bb, ob, none⟩) i a2) ∧ w'.cell? ⟨w5.heap.size, 1, none⟩ = some (.slice (some ⟨bc, oc, none⟩) i cS) ∧ w'.cell? ⟨bb, ob + k * 5 + 2, none⟩ = some (.slice dX x.data.length cX) ∧ w'.cell? ⟨bc, oc + k * 5 + 2, none⟩ = some (.slice dZ x.data.length cZ) ∧ (convert 44 9 (.slice dX x.data.length cX)).run Try.prog w' = .ok (.string T) w' ∧ (convert 44 9 (.slice dZ x.data.length cZ)).run Try.prog w' = .ok (.string T) w')) (by kernel_rfl) ⟨p1, qb, b2, c2, cv1, cv2⟩ (fun hSg6q0 => ?_)
              refine wpAnyH_takeL (i := 0) (v := ?g6qv0) rfl (by kernel_rfl) (by kernel_rfl) (by kernel_rfl) (fun _ _ _ h => h) (Or.inl ⟨by rfl, ?g6qy0⟩) (by assumption) ?g6qr0
              case g6qy0 => first | (intro w hSw; (try dsimp only at hSw); go_simp; done) | (intro w hSw; (try dsimp only at hSw); go_simp; with_reducible rfl)
              case' g6qr0 => try simp only [Act.put, List.setIfInBounds_toArray, List.set_cons_zero, List.set_cons_succ]
              refine wpAnyH_takeL (i := 1) (v := ?g6qv1) rfl (by kernel_rfl) (by kernel_rfl) (by kernel_rfl) (fun _ _ _ h => h) (Or.inl ⟨by rfl, ?g6qy1⟩) (by assumption) ?g6qr1
              case g6qy1 => first | (intro w hSw; (try dsimp only at hSw); go_simp; done) | (intro w hSw; (try dsimp only at hSw); go_simp; with_reducible rfl)
              case' g6qr1 => try simp only [Act.put, List.setIfInBounds_toArray, List.set_cons_zero, List.set_cons_succ]
              refine wpAnyH_takeL (i := 2) (v := ?g6qv2) rfl (by kernel_rfl) (by kernel_rfl) (by kernel_rfl) (fun _ _ _ h => h) (Or.inl ⟨by rfl, ?g6qy2⟩) (by assumption) ?g6qr2
              case g6qy2 => first | (intro w hSw; (try dsimp only at hSw); go_simp; done) | (intro w hSw; (try dsimp only at hSw); go_simp; with_reducible rfl)
              case' g6qr2 => try simp only [Act.put, List.setIfInBounds_toArray, List.set_cons_zero, List.set_cons_succ]
              refine wpAnyH_takeL (i := 3) (v := ?g6qv3) rfl (by kernel_rfl) (by kernel_rfl) (by kernel_rfl) (fun _ _ _ h => h) (Or.inl ⟨by rfl, ?g6qy3⟩) (by assumption) ?g6qr3
              case g6qy3 => first | (intro w hSw; (try dsimp only at hSw); go_simp; done) | (intro w hSw; (try dsimp only at hSw); go_simp; with_reducible rfl)
              case' g6qr3 => try simp only [Act.put, List.setIfInBounds_toArray, List.set_cons_zero, List.set_cons_succ]
              refine wpAnyH_takeL (i := 4) (v := ?g6qv4) rfl (by kernel_rfl) (by kernel_rfl) (by kernel_rfl) (fun _ _ _ h => h) (Or.inl ⟨by rfl, ?g6qy4⟩) (by assumption) ?g6qr4
              case g6qy4 => first | (intro w hSw; (try dsimp only at hSw); go_simp; done) | (intro w hSw; (try dsimp only at hSw); go_simp; with_reducible rfl)
              case' g6qr4 => try simp only [Act.put, List.setIfInBounds_toArray, List.set_cons_zero, List.set_cons_succ]
              refine wpAnyH_takeL (i := 5) (v := ?g6qv5) rfl (by kernel_rfl) (by kernel_rfl) (by kernel_rfl) (fun _ _ _ h => h) (Or.inl ⟨by rfl, ?g6qy5⟩) (by assumption) ?g6qr5
              case g6qy5 => first | (intro w hSw; (try dsimp only at hSw); go_simp; done) | (intro w hSw; (try dsimp only at hSw); go_simp; with_reducible rfl)
              case' g6qr5 => try simp only [Act.put, List.setIfInBounds_toArray, List.set_cons_zero, List.set_cons_succ]
              refine wpAnyH_takeL (i := 6) (v := ?g6qv6) rfl (by kernel_rfl) (by kernel_rfl) (by kernel_rfl) (fun _ _ _ h => h) (Or.inl ⟨by rfl, ?g6qy6⟩) (by assumption) ?g6qr6
              case g6qy6 => first | (intro w hSw; (try dsimp only at hSw); go_simp; done) | (intro w hSw; (try dsimp only at hSw); go_simp; with_reducible rfl)
              case' g6qr6 => try simp only [Act.put, List.setIfInBounds_toArray, List.set_cons_zero, List.set_cons_succ]
              refine wpAnyH_takeL (i := 7) (v := ?g6qv7) rfl (by kernel_rfl) (by kernel_rfl) (by kernel_rfl) (fun _ _ _ h => h) (Or.inl ⟨by rfl, ?g6qy7⟩) (by assumption) ?g6qr7
              case g6qy7 => first | (intro w hSw; (try dsimp only at hSw); go_simp; done) | (intro w hSw; (try dsimp only at hSw); go_simp; with_reducible rfl)
              case' g6qr7 => try simp only [Act.put, List.setIfInBounds_toArray, List.set_cons_zero, List.set_cons_succ]
              refine wpAnyH_takeL (i := 8) (v := ?g6qv8) rfl (by kernel_rfl) (by kernel_rfl) (by kernel_rfl) (fun _ _ _ h => h) (Or.inl ⟨by rfl, ?g6qy8⟩) (by assumption) ?g6qr8
              case g6qy8 => first | (intro w hSw; (try dsimp only at hSw); go_simp; done) | (intro w hSw; (try dsimp only at hSw); go_simp; with_reducible rfl)
              case' g6qr8 => try simp only [Act.put, List.setIfInBounds_toArray, List.set_cons_zero, List.set_cons_succ]
              refine wpAnyH_takeL (i := 9) (v := ?g6qv9) rfl (by kernel_rfl) (by kernel_rfl) (by kernel_rfl) (fun _ _ _ h => h) (Or.inl ⟨by rfl, ?g6qy9⟩) (by assumption) ?g6qr9
              case g6qy9 => first | (intro w hSw; (try dsimp only at hSw); go_simp; done) | (intro w hSw; (try dsimp only at hSw); go_simp; with_reducible rfl)
              case' g6qr9 => try simp only [Act.put, List.setIfInBounds_toArray, List.set_cons_zero, List.set_cons_succ]
              refine wpAnyH_takeL (i := 10) (v := ?g6qv10) rfl (by kernel_rfl) (by kernel_rfl) (by kernel_rfl) (fun _ _ _ h => h) (Or.inl ⟨by rfl, ?g6qy10⟩) (by assumption) ?g6qr10
              case g6qy10 => first | (intro w hSw; (try dsimp only at hSw); go_simp; done) | (intro w hSw; (try dsimp only at hSw); go_simp; with_reducible rfl)
              case' g6qr10 => try simp only [Act.put, List.setIfInBounds_toArray, List.set_cons_zero, List.set_cons_succ]
              refine wpAnyH_takeL (i := 11) (v := ?g6qv11) rfl (by kernel_rfl) (by kernel_rfl) (by kernel_rfl) (fun _ _ _ h => h) (Or.inl ⟨by rfl, ?g6qy11⟩) (by assumption) ?g6qr11
              case g6qy11 => first | (intro w hSw; (try dsimp only at hSw); go_simp; done) | (intro w hSw; (try dsimp only at hSw); go_simp; with_reducible rfl)
              case' g6qr11 => try simp only [Act.put, List.setIfInBounds_toArray, List.set_cons_zero, List.set_cons_succ]
              refine wpAnyH_takeL (i := 12) (v := ?g6qv12) rfl (by kernel_rfl) (by kernel_rfl) (by kernel_rfl) (fun _ _ _ h => h) (Or.inl ⟨by rfl, ?g6qy12⟩) (by assumption) ?g6qr12
              case g6qy12 => first | (intro w hSw; (try dsimp only at hSw); go_simp; done) | (intro w hSw; (try dsimp only at hSw); go_simp; with_reducible rfl)
              case' g6qr12 => try simp only [Act.put, List.setIfInBounds_toArray, List.set_cons_zero, List.set_cons_succ]
              refine wpAnyH_takeL (i := 13) (v := ?g6qv13) rfl (by kernel_rfl) (by kernel_rfl) (by kernel_rfl) (fun _ _ _ h => h) (Or.inl ⟨by rfl, ?g6qy13⟩) (by assumption) ?g6qr13
              case g6qy13 => first | (intro w hSw; (try dsimp only at hSw); go_simp; done) | (intro w hSw; (try dsimp only at hSw); go_simp; with_reducible rfl)
              case' g6qr13 => try simp only [Act.put, List.setIfInBounds_toArray, List.set_cons_zero, List.set_cons_succ]
              refine wpAnyH_takeL (i := 14) (v := ?g6qv14) rfl (by kernel_rfl) (by kernel_rfl) (by kernel_rfl) (fun _ _ _ h => h) (Or.inl ⟨by rfl, ?g6qy14⟩) (by assumption) ?g6qr14
              case g6qy14 => first | (intro w hSw; (try dsimp only at hSw); go_simp; done) | (intro w hSw; (try dsimp only at hSw); go_simp; with_reducible rfl)
              case' g6qr14 => try simp only [Act.put, List.setIfInBounds_toArray, List.set_cons_zero, List.set_cons_succ]
              refine wpAnyH_done (by kernel_rfl) ?_ _
              clear y0 y1 y2 y3 p1 qb b2 c2 cv1 cv2 n1
              go_wp2
              first
                | go_roundw
                | refine ⟨?rel, ?measure⟩
              case rel => exact ⟨k + 1, by omega, by go_num, hid HX3.out.drew⟩
              case measure => simp [intOf]; omega
            · obtain rfl : k = i := by omega
              go_wp2_with fail
              refine (example7_any _).mono ?_
              rintro e w9 ⟨rfl, hx9⟩
              have HX9 := hid (((HX4.out.trans HX2.out).trans HX3.out).trans hx9)
              clear hx9
              go_wp2
              go_ret
              exact ⟨rfl, HX9.out⟩
end Go.Proofs.Ytnlofhbimfcejaa
