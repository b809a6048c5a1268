/- decompilerref34.arrange. -/
import Derived.Test.YtacmjhcfjhpkeaaGreatDoorRfIm
import Derived.Test.YtacmjhcfjhpkeaaGreatDoorStdm
namespace Go.Proofs.YtacmjhcfjhpkeaaGreatDoor
open Go.RowKit Go.Deco
set_option linter.unusedSimpArgs false
set_option linter.unusedVariables false

theorem Box5.same {w w' : World} {b : Nat} {v0 v1 v2 v3 v4 : Value} (h : Box5 w b v0 v1 v2 v3 v4) (e : w'.heap[b]? = w.heap[b]?) : Box5 w' b v0 v1 v2 v3 v4 :=
 ⟨(World.cell?_of_block (a := ⟨b, 0, none⟩) e).trans h.1, (World.cell?_of_block (a := ⟨b, 1, none⟩) e).trans h.2.1, (World.cell?_of_block (a := ⟨b, 2, none⟩) e).trans h.2.2.1, (World.cell?_of_block (a := ⟨b, 3, none⟩) e).trans h.2.2.2.1, (World.cell?_of_block (a := ⟨b, 4, none⟩) e).trans h.2.2.2.2.1, fun i => (World.frozen?_of_block (a := ⟨b, i, none⟩) e).trans (h.2.2.2.2.2 i)⟩
set_option maxRecDepth 100000 in
set_option maxHeartbeats 8000000 in
theorem rarrange_any (d : Nat) (T : Nat → Prop) (w : World) (A : Option Addr) (n c : Nat) (p : List (Int × Ty)) (hl : Sl (fdR (tyR d)) w T (.slice A n c) p) (hn : n ≤ 100000) (hoff : ∀ f ∈ p, (0 ≤ f.1 ∧ f.1 ≤ 131072) ∧ bnT f.2 = true) :
  Calls Tryz.prog 48 #[.slice A n c] w (TyErr (d + 3) T w (arrangeF p)) := by
 have hln := hl.len
 obtain ⟨G, hG⟩ : ∃ G, groupsF p = G := ⟨_, rfl⟩
 obtain ⟨L, hL⟩ : ∃ L, fieldsF p = L := ⟨_, rfl⟩
 have hLG : L = G.map fun g => (fieldG g).1 := by rw [← hL, ← hG]; rfl
 have hga := groups_all (P := fun f => (0 ≤ f.1 ∧ f.1 ≤ 131072) ∧ bnT f.2 = true) hoff
 have hgl := groups_len p
 rw [hG] at hga hgl
 have hLen : L.length = G.length := by rw [hLG, List.length_map]
 have hLo : ∀ f ∈ L, (0 ≤ f.1 ∧ f.1 ≤ 131072) ∧ bnT f.2 = true := by
  intro f hf
  rw [hLG] at hf
  obtain ⟨g, hg, rfl⟩ := List.mem_map.1 hf
  obtain ⟨x, hx, e⟩ := fieldG_off (hga g hg).1
  refine ⟨by rw [e]; exact ((hga g hg).2.1 x hx).1, fieldG_bn (hga g hg).1 fun x hx => ((hga g hg).2.1 x hx).2⟩
 have harr : arrangeF p = if 64 < L.length then (Ty.unk, 6) else if rowF L then (Ty.arr (headF L).2 L.length, 0) else (Ty.str L, 0) := by rw [← hL]; rfl
 obtain ⟨R, hR⟩ : ∃ R, arrangeF p = R := ⟨_, rfl⟩
 rw [hR] at harr ⊢
 have HRR := hid harr
 have HLN := hid hln
 have HG := hid hG
 have HGA := hid (fun (g : List (Int × Ty)) (hg : g ∈ G) => (⟨(hga g hg).1, fun x hx => ((hga g hg).2.1 x hx).1, by have := (hga g hg).2.2; omega⟩ : g ≠ [] ∧ (∀ x ∈ g, 0 ≤ x.1 ∧ x.1 ≤ 131072) ∧ g.length ≤ 100000))
 have HLG := hid hLG
 have HLL := hid hLen
 have HLO := hid hLo
 obtain ⟨m, hm⟩ : ∃ m, G.length = m := ⟨_, rfl⟩
 have hmn : m ≤ 100000 := by omega
 have HM := hid hm
 obtain ⟨W0, hW0⟩ : ∃ W0, w.alloc (.cells #[.int .i64 0, .int .i64 0, .int .i64 0, .slice none 0 0, .slice none 0 0] 25) = W0 := ⟨_, rfl⟩
 have hE0 : Ext w W0 := by rw [← hW0]; exact (Ext.refl w).alloc _
 have HB0 : Hid (Box5 W0 w.heap.size (.int .i64 0) (.int .i64 0) (.int .i64 0) (.slice none 0 0) (.slice none 0 0)) := hid (by rw [← hW0]; exact Box5.new w _ _ _ _ _ _)
 have hs0 : w.heap.size < W0.heap.size := HB0.out.lt
 have HS0 := hid hs0
 have HL := hid ((hl.mono (S' := fun b => (T b ∧ b < w.heap.size) ∨ w.heap.size < b) fun b hb hi => .inl ⟨hb, hi.lt⟩).ext hE0)
 have HOFF := hid hoff
 have HE0 := hid hE0
 obtain ⟨i0, hi0, hz0, hz1, hz2⟩ := info_parts info_fd
 have HI := hid hi0
 have HI0 := hid hz0
 have HI1 := hid hz1
 have HI2 := hid hz2
 clear hi0 hz0 hz1 hz2 hln hG hL hLG hga hgl hLen hLo harr hR hl hoff hm hE0 hs0
 unfold TyErr
 go_enter Tryz.func48, Tryz.ntmps48
 go_wp2
 clear hW0
 go_loopw [5, 4] (fun i s4 wr => ∃ (k : Nat) (A2 : Option Addr) (c2 : Nat), k ≤ n ∧ i = .int .i64 k ∧ s4 = .slice A2 k c2 ∧ Hid (Sl (fdR (tyR d)) wr (fun b => (T b ∧ b < w.heap.size) ∨ w.heap.size < b) (.slice A2 k c2) (stab ltF (p.take k))) ∧ Hid (Ext W0 wr)) (fun i _ _ => n - (intOf i).toNat)
 case atStart => exact ⟨0, none, 0, by omega, rfl, rfl, hid (by simpa [stab] using Sl.nil), hid (Ext.refl _)⟩
 case round =>
  obtain ⟨k, A2, c2, hk, rfl, rfl, HO, HX⟩ := hrel
  by_cases h1 : k < n
  ·obtain ⟨x, hx⟩ : ∃ x, p[k]? = some x := ⟨_, List.getElem?_eq_getElem (by have := HLN.out; omega)⟩
   obtain ⟨d', b, off, A1, n1, c1, B1, m1, e1, hd, rfl, hv1, hi1, x0, x1, x2, x3, x4, x5⟩ := (HL.out.ext HX.out).fd_at hx
   have hst : stab ltF (p.take (k + 1)) = insR ltF x (stab ltF (p.take k)) := by rw [take_snoc' hx, stab_snoc]
   have hsl : stab ltF (p.take k) = stab ltF (p.take k) := rfl
   have HC := hid (by
    have h := HO.out
    rw [hd] at h
    exact rins_any d' _ wr A2 k c2 (stab ltF (p.take k)) h (by omega) x _ ⟨A1, n1, c1, B1, m1, e1, rfl, hi1, hv1⟩)
   have hil : (insR ltF x (stab ltF (p.take k))).length = k + 1 := by
    rw [insR_len, stab_len, List.length_take]
    have := HLN.out
    omega
   have HST := hid hst
   have HIL := hid hil
   have HD := hid hd
   have hkn : (k : Int) < (n : Int) := by omega
   clear hst hsl hil hd hv1 hi1 hx
   go_wp2_with fail
   refine (HC.out).mono ?_
   rintro e w5 ⟨A5, c5, rfl, hs5, hx5⟩
   rw [HIL.out] at hs5 ⊢
   have HX5 := hid (HX.out.trans hx5)
   have HS5 : Hid (Sl (fdR (tyR d)) w5 (fun b => (T b ∧ b < w.heap.size) ∨ w.heap.size < b) (.slice A5 (k + 1) c5) (stab ltF (p.take (k + 1)))) := hid (by
    rw [HST.out, HD.out]
    refine hs5.mono fun b hb _ => ?_
    rcases hb with hb | hb
    ·exact hb
    ·have h1 := HX.out.size
     have h2 := HS0.out
     exact .inr (by omega))
   clear hs5 hx5 x0 x1 x2 x3 x4 x5
   go_wp2
   first
    | go_roundw
    | refine ⟨?rel, ?measure⟩
   case rel => exact ⟨k + 1, A5, c5, by omega, by go_num, rfl, HS5, HX5⟩
   case measure => simp [intOf]; omega
  ·have hkn : ¬ (k : Int) < (n : Int) := by omega
   obtain rfl : k = n := by omega
   have ho := HO.out
   rw [List.take_of_length_le (by have := HLN.out; omega)] at ho
   have HGC := hid (rgroups_any d (fun b => ((T b ∧ b < w.heap.size) ∨ w.heap.size < b) ∧ b < wr.heap.size) wr A2 k c2 (stab ltF p) (fun b hb => hb.2) (ho.mono fun b hb hi => ⟨hb, hi.lt⟩) hn (fun f hf => (HOFF.out f ((stabF_mem p f).1 hf)).1))
   rw [show ((stab ltF p).foldl grpS ([], 0)).1 = groupsF p from rfl, HG.out] at HGC
   clear ho HO
   go_wp2_with fail
   refine (HGC.out).mono ?_
   rintro e wg ⟨A1, c1, rfl, hs1, hx1⟩
   rw [HM.out] at hs1 ⊢
   have HS1 := hid (hs1.mono (S' := fun b => b < wg.heap.size ∧ ((T b ∧ b < w.heap.size) ∨ w.heap.size < b)) fun b hb hi => ⟨hi.lt, by
    have h1 := HX.out.size
    have h2 := HS0.out
    rcases hb with hb | hb
    ·exact hb.1
    ·exact .inr (by omega)⟩)
   have HX1 := hid (HX.out.trans hx1)
   clear hs1 hx1 HGC
   by_cases h64 : 64 < m
   ·have d1 : decide ((m : Int) > 64) = true := decide_eq_true (by omega)
    have hm64 : (m : Int) > 64 := by omega
    have HRV : Hid (R = (Ty.unk, 6)) := hid (by rw [HRR.out, if_pos (by have := HLL.out; have := HM.out; omega)])
    have HXA := hid (HE0.out.trans HX1.out)
    have HB := hid (HB0.out.ext HX1.out)
    have r0 := HB.out.1
    have r1 := HB.out.2.1
    have r2 := HB.out.2.2.1
    have r3 := HB.out.2.2.2.1
    have r4 := HB.out.2.2.2.2.1
    have f0 := HB.out.2.2.2.2.2 0
    have f1 := HB.out.2.2.2.2.2 1
    have f2 := HB.out.2.2.2.2.2 2
    have f3 := HB.out.2.2.2.2.2 3
    have f4 := HB.out.2.2.2.2.2 4
    have hc := set5_cells r0 r1 r2 r3 r4 (.int .i64 0) (.int .i64 0) (.int .i64 0) (.slice none 0 0) (.slice none 0 0)
    have hx := set5_ext HXA.out (Nat.le_refl _) (.int .i64 0) (.int .i64 0) (.int .i64 0) (.slice none 0 0) (.slice none 0 0)
    obtain ⟨W6, hW6⟩ : ∃ W6, ((((wg.setCell ⟨w.heap.size, 0, none⟩ (.int .i64 0)).setCell ⟨w.heap.size, 1, none⟩ (.int .i64 0)).setCell ⟨w.heap.size, 2, none⟩ (.int .i64 0)).setCell ⟨w.heap.size, 3, none⟩ (.slice none 0 0)).setCell ⟨w.heap.size, 4, none⟩ (.slice none 0 0) = W6 := ⟨_, rfl⟩
    rw [hW6] at hc hx
    obtain ⟨t0, t1, t2, t3, t4⟩ := hc
    have HX6 := hid hx
    have HW6 := hid hW6
    clear hx hW6
    go_wp2
    rw [HW6.out]
    clear r0 r1 r2 r3 r4
    refine bodyPost_ret (v := .tuple #[.agg #[.int .i64 0, .int .i64 0, .int .i64 0, .slice none 0 0, .slice none 0 0], .int .i64 6]) (by simp [results, Tryz.results48, go_sem, t0, t1, t2, t3, t4]) rfl ?_
    refine ⟨_, by rw [HRV.out]; rfl, ?_, HX6.out⟩
    rw [HRV.out]
    exact tyV_leaf _ _ _ 0 0 (by unfold i64b; omega) (by unfold i64b; omega)
   have d1 : decide ((m : Int) > 64) = false := decide_eq_false (by omega)
   have hk64 : ¬ (m : Int) > 64 := by omega
   obtain ⟨w9, hw9⟩ : ∃ w9, wg.alloc (.cells #[.int .i64 5, .int .i64 0, .int .i64 0, .slice none 0 0, .slice none 0 0] 25) = w9 := ⟨_, rfl⟩
   have hE9 : Ext wg w9 := by rw [← hw9]; exact (Ext.refl wg).alloc _
   have HB9 : Hid (Box5 w9 wg.heap.size (.int .i64 5) (.int .i64 0) (.int .i64 0) (.slice none 0 0) (.slice none 0 0)) := hid (by rw [← hw9]; exact Box5.new wg _ _ _ _ _ _)
   have HE9 := hid hE9
   have HTB : Hid (w.heap.size < wg.heap.size ∧ wg.heap.size < w9.heap.size) := hid ⟨by have := HX1.out.size; have := HS0.out; omega, HB9.out.lt⟩
   obtain ⟨rw0, hrw0⟩ : ∃ b, decide ((m : Int) ≥ 2) = b := ⟨_, rfl⟩
   have HRW0 : Hid (rw0 = decide (1 < m)) := hid (by rw [← hrw0]; congr 1; exact propext ⟨fun h => by omega, fun h => by omega⟩)
   have HW9 := hid hw9
   clear hE9 h64 hw9
   go_wp2
   rw [HW9.out]
   clear hrw0
   go_loopw [10, 8, 9] (fun i s8 s9 wr => ∃ (k : Nat) (row : Bool) (at_ : Int) (A2 : Option Addr) (c2 : Nat), k ≤ m ∧ 0 ≤ at_ ∧ at_ ≤ 262144 ∧ i = .int .i64 k ∧ s8 = .bool row ∧ s9 = .int .i64 at_ ∧ Hid (Box5 wr wg.heap.size (.int .i64 5) (.int .i64 0) (.int .i64 0) (.slice none 0 0) (.slice A2 k c2)) ∧
    Hid (OwnS (fdR (tyR (d + 2))) wr w9.heap.size 48 (fun b => ((T b ∧ b < w.heap.size) ∨ w.heap.size < b) ∧ b ≠ wg.heap.size) (.slice A2 k c2) (L.take k)) ∧ Hid ((rw0 && rowFrom (headF L).2 0 L) = (row && rowFrom (headF L).2 at_ (L.drop k))) ∧ Hid (Ext wg wr) ∧ Hid (w9.heap.size ≤ wr.heap.size)) (fun i _ _ _ => m - (intOf i).toNat)
   case atStart => exact ⟨0, rw0, 0, none, 0, by omega, by omega, by omega, rfl, rfl, rfl, HB9, hid (by simpa using OwnS.nil), hid rfl, HE9, hid (Nat.le_refl _)⟩
   case round =>
    obtain ⟨k, row, at_, A2, c2, hk, ha0, ha1, rfl, rfl, rfl, HB, HO, HRO, HXR, HSZ⟩ := hrel
    by_cases h1 : k < m
    ·obtain ⟨g, hg⟩ : ∃ g, G[k]? = some g := ⟨_, List.getElem?_eq_getElem (by have := HM.out; omega)⟩
     obtain ⟨bg, og, cs, rfl, ⟨vg, rfl, hvg⟩, hcs⟩ := HS1.out.get hg
     obtain ⟨A3, c3, rfl, hc3, hc4⟩ := hvg.form
     have p0 := HXR.out.cell (hcs 0 _ rfl)
     rw [show k * (slR (fdR (tyR d))).size + 0 = k by simp [slR]] at p0
     have hgm := HGA.out g (List.mem_of_getElem? hg)
     have hfx : L[k]? = some (fieldG g).1 := by rw [HLG.out, List.getElem?_map, hg]; rfl
     obtain ⟨f, hf⟩ : ∃ f, fieldG g = f := ⟨_, rfl⟩
     have HFC := hid (rfield_any d wr (fun b => b < wg.heap.size ∧ ((T b ∧ b < w.heap.size) ∨ w.heap.size < b)) A3 g.length c3 g (hvg.ext HXR.out) (List.length_pos_iff.2 hgm.1) hgm.2.2 hgm.2.1)
     rw [hf] at HFC hfx
     obtain ⟨gl, hgl⟩ : ∃ gl, g.length = gl := ⟨_, rfl⟩
     rw [hgl] at p0 HFC
     have HFX := hid hfx
     have HKL := hid (show (L.take k).length = k by rw [List.length_take]; have := HLL.out; have := HM.out; omega)
     have hfo := HLO.out f.1 (List.mem_of_getElem? hfx)
     have hkm : (k : Int) < (m : Int) := by omega
     obtain ⟨y, hy⟩ : ∃ y, L[0]? = some y := ⟨_, List.getElem?_eq_getElem (by have := HLL.out; have := HM.out; omega)⟩
     have hyh : headF L = y := by
      cases L with
      | nil => cases hy
      | cons a l => simpa [headF] using hy
     have HYH := hid hyh
     have HY := hid hy
     have hst : rowFrom (headF L).2 at_ (L.drop k) = (decide (f.1.1 = at_) && sameT f.1.2 y.2 && rowFrom (headF L).2 (endF f.1) (L.drop (k + 1))) := by rw [drop_cons' hfx, rowFrom, hyh]
     have HST := hid hst
     clear hcs hvg hg hgm hf hgl hfx hc3 hc4 hy hyh hst
     obtain ⟨⟨fo, ft⟩, fb⟩ := f
     simp only at HFC hfo HST HFX
     go_wp2_with fail
     refine (HFC.out).mono ?_
     rintro e w3 ⟨_, rfl, ⟨A5, n5, c5, B5, m5, e5, rfl, hi5, hv5⟩, hx3⟩
     have HX3 := hid hx3
     have HI5 := hid hi5
     have hv5' : TyV (d + 1) w3 (fun b => (((T b ∧ b < w.heap.size) ∨ w.heap.size < b) ∧ b ≠ wg.heap.size) ∧ some b ≠ (Value.slice A2 k c2).ownBlock) (.agg #[.int .i64 ft.kind, .int .i64 ft.size, .int .i64 ft.count, .slice A5 n5 c5, .slice B5 m5 e5]) ft := hv5.mono fun b hb hi => by
      have h1 := HSZ.out
      have h2 := HTB.out
      refine ⟨?_, fun e => ?_⟩
      ·rcases hb with hb | hb
       ·exact ⟨hb.2, by omega⟩
       ·exact ⟨.inr (by omega), by omega⟩
      ·have h3 := HO.out.block b e.symm
       rcases hb with hb | hb
       ·omega
       ·omega
     have HV5 := hid hv5'
     obtain ⟨W2, hW2⟩ : ∃ W2, w3.alloc (.cells #[.int .i64 fo, .int .i64 ft.kind, .int .i64 ft.size, .int .i64 ft.count, .slice A5 n5 c5, .slice B5 m5 e5] 48) = W2 := ⟨_, rfl⟩
     have hE2 : Ext w3 W2 := by rw [← hW2]; exact (Ext.refl _).alloc _
     have q0 : W2.cell? ⟨w3.heap.size, 0, none⟩ = some (.int .i64 fo) := by rw [← hW2]; simp [go_sem]
     have q1 : W2.cell? ⟨w3.heap.size, 1, none⟩ = some (.int .i64 ft.kind) := by rw [← hW2]; simp [go_sem]
     have q2 : W2.cell? ⟨w3.heap.size, 2, none⟩ = some (.int .i64 ft.size) := by rw [← hW2]; simp [go_sem]
     have q3 : W2.cell? ⟨w3.heap.size, 3, none⟩ = some (.int .i64 ft.count) := by rw [← hW2]; simp [go_sem]
     have q4 : W2.cell? ⟨w3.heap.size, 4, none⟩ = some (.slice A5 n5 c5) := by rw [← hW2]; simp [go_sem]
     have q5 : W2.cell? ⟨w3.heap.size, 5, none⟩ = some (.slice B5 m5 e5) := by rw [← hW2]; simp [go_sem]
     have HQ := hid (And.intro q0 (And.intro q1 (And.intro q2 (And.intro q3 (And.intro q4 q5)))))
     have HE2 := hid hE2
     have HO2 := hid (HO.out.ext (hx3.trans hE2))
     have HX2 := hid (HXR.out.trans (hx3.trans hE2))
     have HB2 := hid (HB.out.ext (hx3.trans hE2))
     have b4 := HB2.out.2.2.2.2.1
     have HSB : Hid (wg.heap.size < w3.heap.size ∧ w3.heap.size < W2.heap.size ∧ w9.heap.size ≤ w3.heap.size) := hid (by
      have h1 := HTB.out
      have h2 := HSZ.out
      have h3 := hx3.size
      have h4 := World.block_lt_of_cell? _ _ q0
      exact ⟨by omega, h4, by omega⟩)
     have hfn1 : w3.heap.size ≠ wg.heap.size := by have := HSB.out; omega
     have hfn2 : wg.heap.size ≠ w3.heap.size := by have := HSB.out; omega
     clear hi5 hv5 hv5' hx3 hE2 p0
     go_wp2_with (first
      | (at_builtin; refine wpList_app1l rfl (.tmp 50) (.tmp 52) 23 rfl w9.heap.size 48 i0 _ 6 80 Tryz.underlying23 HI.out HI0.out HI1.out HI2.out rfl (fdR (tyR (d + 2))) (fdR_size _) (.slice A2 k c2) (L.take k) rfl HO2.out W2.heap.size rfl (fo, ft) rfl (fd_rel.2 ⟨A5, n5, c5, B5, m5, e5, rfl, HI5.out, HV5.out.ext HE2.out⟩) (by have := HKL.out; omega) (by have := HKL.out; omega) (by have := HSB.out; omega) ?_; intro A6 c6 w6 hown6 hg6 hloc6; rw [HKL.out] at hown6 hloc6; have HO6 := hid hown6; have HG6 := hid hg6; have HLC6 := hid hloc6; have HX6 := hid ((HX2.out.alloc _).grown hg6 (fun q hq => Nat.le_of_lt (Nat.lt_of_lt_of_le HTB.out.2 (HO2.out.block q hq).1)));
          have HK6 := hid (fun (b : Nat) (hb : b < W2.heap.size) (hne : some b ≠ (Value.slice A2 k c2).ownBlock) => (hg6.block b (by simp; omega) hne).trans (Below.heap_alloc _ _ _ hb)); clear hown6 hg6 hloc6; rw [HKL.out];
          have b4 := (World.cell?_of_block (a := ⟨wg.heap.size, 4, none⟩) (HK6.out wg.heap.size (by have := HSB.out; omega) (fun e => by have h1 := (HO2.out.block _ e.symm).1; have h2 := HTB.out; omega))).trans HB2.out.2.2.2.2.1;
          have bf4 := (World.frozen?_of_block (a := ⟨wg.heap.size, 4, none⟩) (HK6.out wg.heap.size (by have := HSB.out; omega) (fun e => by have h1 := (HO2.out.block _ e.symm).1; have h2 := HTB.out; omega))).trans (HB2.out.2.2.2.2.2 4))
      | fail)
     obtain ⟨W7, hW7⟩ : ∃ W7, w6.setCell ⟨wg.heap.size, 4, none⟩ (.slice A6 (k + 1) c6) = W7 := ⟨_, rfl⟩
     rw [hW7]
     have hfar : ∀ b, b ≠ wg.heap.size → W7.heap[b]? = w6.heap[b]? := fun b hb => by rw [← hW7]; exact Below.heap_setCell _ _ _ _ hb
     have htb : w6.heap[wg.heap.size]? = W2.heap[wg.heap.size]? := HK6.out wg.heap.size (by have := HSB.out; omega) (fun e => by have h1 := (HO2.out.block _ e.symm).1; have h2 := HTB.out; omega)
     have HB7 : Hid (Box5 W7 wg.heap.size (.int .i64 5) (.int .i64 0) (.int .i64 0) (.slice none 0 0) (.slice A6 (k + 1) c6)) := hid (by rw [← hW7]; exact (HB2.out.same htb).put4 _)
     have HO7 : Hid (OwnS (fdR (tyR (d + 2))) W7 w9.heap.size 48 (fun b => ((T b ∧ b < w.heap.size) ∨ w.heap.size < b) ∧ b ≠ wg.heap.size) (.slice A6 (k + 1) c6) (L.take (k + 1))) := hid (by
      rw [← hW7, take_snoc' HFX.out]
      exact HO6.out.set_far (fun e => by have h1 : w9.heap.size ≤ wg.heap.size := (HO6.out.block _ e).1; have h2 := HTB.out; omega) (fun b hb => hb.2))
     have HX7 := hid (show Ext wg W7 by rw [← hW7]; exact HX6.out.setCell (p := ⟨wg.heap.size, 4, none⟩) (Nat.le_refl _) _)
     have HSZ7 : Hid (w9.heap.size ≤ W7.heap.size) := hid (by
      have h2 : W2.heap.size ≤ w6.heap.size := by have := HG6.out.size; simp at this; omega
      have h3 : W7.heap.size = w6.heap.size := by rw [← hW7]; simp
      have h4 := HSB.out
      omega)
     have hq : W7.heap[w3.heap.size]? = W2.heap[w3.heap.size]? := (hfar _ hfn1).trans (HK6.out _ HSB.out.2.1 (fun e => by have h1 := (HO2.out.block _ e.symm); have h2 := (HO.out.block _ e.symm).2; have h3 := HX3.out.size; omega))
     have q0 := (World.cell?_of_block (a := ⟨w3.heap.size, 0, none⟩) hq).trans HQ.out.1
     have q1 := (World.cell?_of_block (a := ⟨w3.heap.size, 1, none⟩) hq).trans HQ.out.2.1
     have q2 := (World.cell?_of_block (a := ⟨w3.heap.size, 2, none⟩) hq).trans HQ.out.2.2.1
     have q3 := (World.cell?_of_block (a := ⟨w3.heap.size, 3, none⟩) hq).trans HQ.out.2.2.2.1
     have q4 := (World.cell?_of_block (a := ⟨w3.heap.size, 4, none⟩) hq).trans HQ.out.2.2.2.2.1
     have q5 := (World.cell?_of_block (a := ⟨w3.heap.size, 5, none⟩) hq).trans HQ.out.2.2.2.2.2
     have hvf : TyV (d + 1) W7 All (.agg #[.int .i64 ft.kind, .int .i64 ft.size, .int .i64 ft.count, .slice A5 n5 c5, .slice B5 m5 e5]) ft := TyV.all (TyV.keep (fun b hb hi => (hfar b hb.1.2).trans ((HK6.out b (by have := hi.lt; have := HE2.out.size; omega) hb.2).trans (HE2.out.block hi.lt))) HV5.out)
     have HVF := hid hvf
     have HFD := hid (fun (w' : World) (hw : Ext W7 w') => (⟨A5, n5, c5, B5, m5, e5, rfl, HI5.out, HVF.out.ext hw⟩ : FdV (d + 1) w' All (.agg #[.int .i64 fo, .int .i64 ft.kind, .int .i64 ft.size, .int .i64 ft.count, .slice A5 n5 c5, .slice B5 m5 e5]) (fo, ft)))
     have hyt : (L.take (k + 1))[0]? = some y := by rw [List.getElem?_take]; simp; exact HY.out
     obtain ⟨d', b, off, A7, n7, c7, B7, m7, e7, hd, rfl, hv7, -, -, y1, y2, y3, y4, y5⟩ := HO7.out.sl.fd_at hyt
     obtain rfl : d' = d + 1 := by omega
     rw [Nat.zero_mul, Nat.add_zero] at y1 y2 y3 y4 y5
     have HV7 := hid hv7
     have b4 := HB7.out.2.2.2.2.1
     obtain ⟨r, hr⟩ : ∃ r, sameT ft y.2 = r := ⟨_, rfl⟩
     have HSC := hid (fun (w' : World) (hw : Ext W7 w') => same31_any (d + 1) w' ft y.2 _ _ (HVF.out.ext hw) (HV7.out.ext hw))
     rw [hr] at HSC
     have hst2 := HST.out
     rw [hr] at hst2
     have HEC := hid (fun (w' : World) (hw : Ext W7 w') => rend_any (d + 1) w' (fo, ft) _ (HFD.out w' hw) hfo.1.1 hfo.1.2)
     have hen0 := endF_ge (fo, ft)
     have hen1 : endF (fo, ft) ≤ 262144 := by have h1 := sizeT_le ft; have h2 := hfo.1.2; unfold endF; simp at h2 ⊢; omega
     have hfo0 := hfo.1.1
     obtain ⟨en, hen⟩ : ∃ en, endF (fo, ft) = en := ⟨_, rfl⟩
     rw [hen] at HEC hen0 hen1 hst2
     simp only at hen0 hfo0 hst2
     have hen2 : 0 ≤ en := by omega
     have HST2 := hid hst2
     obtain ⟨row', hrow⟩ : ∃ s, (row && (decide (fo = at_) && r)) = s := ⟨_, rfl⟩
     have HRW := hid hrow
     have hk1 : (0 : Int) < ((k + 1 : Nat) : Int) := by omega
     have hk1' : (0 : Int) < (k : Int) + 1 := by omega
     clear hW7 hfar htb hq hvf hyt hd hv7 hr hst2 hen hen0 hrow bf4 hfo
     go_cut [8] from 55 to 71 (fun s wx => s = .bool row' ∧ Hid (Ext W7 wx))
     case first =>
      cases row with
      | false =>
       obtain rfl : row' = false := HRW.out.symm
       go_wp2_with fail
       refine wp_region_held_drew (S := (fun w' => w'.cell? ⟨w3.heap.size, 0, none⟩ = some (.int .i64 fo) ∧ w'.cell? ⟨w3.heap.size, 1, none⟩ = some (.int .i64 ft.kind) ∧ w'.cell? ⟨w3.heap.size, 2, none⟩ = some (.int .i64 ft.size) ∧ w'.cell? ⟨w3.heap.size, 3, none⟩ = some (.int .i64 ft.count) ∧ w'.cell? ⟨w3.heap.size, 4, none⟩ = some (.slice A5 n5 c5) ∧ w'.cell? ⟨w3.heap.size, 5, none⟩ = some (.slice B5 m5 e5) ∧ w'.cell? ⟨wg.heap.size, 4, none⟩ = some (.slice (some ⟨b, off, none⟩) (k + 1) c6) ∧ w'.cell? ⟨b, off + 1, none⟩ = some (.int .i64 y.2.kind) ∧ w'.cell? ⟨b, off + 2, none⟩ = some (.int .i64 y.2.size) ∧ w'.cell? ⟨b, off + 3, none⟩ = some (.int .i64 y.2.count) ∧ w'.cell? ⟨b, off + 4, none⟩ = some (.slice A7 n7 c7) ∧ w'.cell? ⟨b, off + 5, none⟩ = some (.slice B7 m7 e7))) (by kernel_rfl) ⟨q0, q1, q2, q3, q4, q5, b4, y1, y2, y3, y4, y5⟩ (fun hSg63q0 => ?_)
       refine rgT2 0 1 ?_
       refine rgU4 2 3 4 5 ?_
       refine rgT2 6 7 ?_
       refine rgU4 8 9 10 11 ?_
       refine rgU2 12 13 ?_
       refine rgU 14 ?_
       refine rgC 15 (fun K hK => ?_)
       refine cast (if_neg (fun h => Bool.noConfusion (show false = true from h))).symm ?_
       refine rgK hK (by assumption) (fun hSg63q1 => ?_)
       clear hK K
       refine rgT2 16 17 ?_
       refine wpAnyH_done (by kernel_rfl) ?_ _
       go_wp2
       go_meet
       exact ⟨rfl, hid (Ext.refl W7).drew⟩
      | true =>
       by_cases ho : fo = at_
       ·have g1 : (fo == at_) = true := by simp [ho]
        have hs : row' = r := by rw [← HRW.out]; simp [ho]
        rw [← hs] at HSC
        clear hs ho
        go_wp2_with fail
        refine wp_region_held_drew (S := (fun w' => w'.cell? ⟨w3.heap.size, 0, none⟩ = some (.int .i64 fo) ∧ w'.cell? ⟨w3.heap.size, 1, none⟩ = some (.int .i64 ft.kind) ∧ w'.cell? ⟨w3.heap.size, 2, none⟩ = some (.int .i64 ft.size) ∧ w'.cell? ⟨w3.heap.size, 3, none⟩ = some (.int .i64 ft.count) ∧ w'.cell? ⟨w3.heap.size, 4, none⟩ = some (.slice A5 n5 c5) ∧ w'.cell? ⟨w3.heap.size, 5, none⟩ = some (.slice B5 m5 e5) ∧ w'.cell? ⟨wg.heap.size, 4, none⟩ = some (.slice (some ⟨b, off, none⟩) (k + 1) c6) ∧ w'.cell? ⟨b, off + 1, none⟩ = some (.int .i64 y.2.kind) ∧ w'.cell? ⟨b, off + 2, none⟩ = some (.int .i64 y.2.size) ∧ w'.cell? ⟨b, off + 3, none⟩ = some (.int .i64 y.2.count) ∧ w'.cell? ⟨b, off + 4, none⟩ = some (.slice A7 n7 c7) ∧ w'.cell? ⟨b, off + 5, none⟩ = some (.slice B7 m7 e7))) (by kernel_rfl) ⟨q0, q1, q2, q3, q4, q5, b4, y1, y2, y3, y4, y5⟩ (fun hSg64q0 => ?_)
        refine rgT6 0 1 2 3 4 5 ?_
        refine rgT6 6 7 8 9 10 11 ?_
        refine rgT3 12 13 14 ?_
        refine rgC 15 (fun K hK => ?_)
        go_simp
        go_at_call 21
        refine (HSC.out _ (Ext.refl W7).drew).mono ?_
        rintro e w8 ⟨rfl, hx8⟩
        have HX8 := hid hx8.drew_left
        clear hx8
        refine rgK hK ⟨HX8.out.cell q0, HX8.out.cell q1, HX8.out.cell q2, HX8.out.cell q3, HX8.out.cell q4, HX8.out.cell q5, HX8.out.cell b4, HX8.out.cell y1, HX8.out.cell y2, HX8.out.cell y3, HX8.out.cell y4, HX8.out.cell y5⟩ (fun hSg64q1 => ?_)
        clear hK K
        refine rgT2 16 17 ?_
        refine wpAnyH_done (by kernel_rfl) ?_ _
        go_wp2
        go_meet
        exact ⟨rfl, HX8⟩
       ·have g1 : (fo == at_) = false := by simp [ho]
        obtain rfl : row' = false := by rw [← HRW.out]; simp [ho]
        clear ho
        go_wp2_with fail
        refine wp_region_held_drew (S := (fun w' => w'.cell? ⟨w3.heap.size, 0, none⟩ = some (.int .i64 fo) ∧ w'.cell? ⟨w3.heap.size, 1, none⟩ = some (.int .i64 ft.kind) ∧ w'.cell? ⟨w3.heap.size, 2, none⟩ = some (.int .i64 ft.size) ∧ w'.cell? ⟨w3.heap.size, 3, none⟩ = some (.int .i64 ft.count) ∧ w'.cell? ⟨w3.heap.size, 4, none⟩ = some (.slice A5 n5 c5) ∧ w'.cell? ⟨w3.heap.size, 5, none⟩ = some (.slice B5 m5 e5) ∧ w'.cell? ⟨wg.heap.size, 4, none⟩ = some (.slice (some ⟨b, off, none⟩) (k + 1) c6) ∧ w'.cell? ⟨b, off + 1, none⟩ = some (.int .i64 y.2.kind) ∧ w'.cell? ⟨b, off + 2, none⟩ = some (.int .i64 y.2.size) ∧ w'.cell? ⟨b, off + 3, none⟩ = some (.int .i64 y.2.count) ∧ w'.cell? ⟨b, off + 4, none⟩ = some (.slice A7 n7 c7) ∧ w'.cell? ⟨b, off + 5, none⟩ = some (.slice B7 m7 e7))) (by kernel_rfl) ⟨q0, q1, q2, q3, q4, q5, b4, y1, y2, y3, y4, y5⟩ (fun hSg65q0 => ?_)
        refine rgT6 0 1 2 3 4 5 ?_
        refine rgT2 6 7 ?_
        refine rgU4 8 9 10 11 ?_
        refine rgU2 12 13 ?_
        refine rgU 14 ?_
        refine rgC 15 (fun K hK => ?_)
        refine cast (if_neg (fun h => Bool.noConfusion (show false = true from h))).symm ?_
        refine rgK hK (by assumption) (fun hSg65q1 => ?_)
        clear hK K
        refine rgT2 16 17 ?_
        refine wpAnyH_done (by kernel_rfl) ?_ _
        go_wp2
        go_meet
        exact ⟨rfl, hid (Ext.refl W7).drew⟩
     case rest =>
      obtain ⟨rfl, HXD⟩ := hcut
      obtain ⟨V, hV⟩ : ∃ V, V = wc := ⟨_, rfl⟩
      obtain rfl := hV
      have q0 := HXD.out.cell q0
      have q1 := HXD.out.cell q1
      have q2 := HXD.out.cell q2
      have q3 := HXD.out.cell q3
      have q4 := HXD.out.cell q4
      have q5 := HXD.out.cell q5
      clear b4 y1 y2 y3 y4 y5
      go_wp2_with fail
      refine (HEC.out _ HXD.out).mono ?_
      rintro e w10 ⟨rfl, hx10⟩
      have HXF := hid (HXD.out.trans hx10)
      have HRO2 : Hid ((rw0 && rowFrom (headF L).2 0 L) = (row' && rowFrom (headF L).2 en (L.drop (k + 1)))) := hid (by
       rw [HRO.out, HST2.out, ← HRW.out]
       cases row <;> cases decide (fo = at_) <;> cases r <;> rfl)
      clear hx10 q0 q1 q2 q3 q4 q5
      go_wp2
      first
       | go_roundw
       | refine ⟨?rel, ?measure⟩
      case rel => exact ⟨k + 1, row', en, _, c6, by omega, hen2, hen1, by go_num, rfl, rfl, hid (HB7.out.ext HXF.out), hid (HO7.out.ext HXF.out), HRO2, hid (HX7.out.trans HXF.out), hid (Nat.le_trans HSZ7.out HXF.out.size)⟩
      case measure => simp [intOf]; omega
    ·have hkm : ¬ (k : Int) < (m : Int) := by omega
     obtain rfl : k = m := by omega
     have ho := HO.out
     rw [List.take_of_length_le (by have := HLL.out; have := HM.out; omega)] at ho
     have HO2 := hid ho
     have HML : Hid (L.length = k) := hid (by rw [HLL.out, HM.out])
     have hrow : rowF L = row := by
      have h := HRO.out
      rw [List.drop_eq_nil_of_le (by have := HML.out; omega), rowFrom, Bool.and_true, HRW0.out] at h
      rw [rowF, HML.out, ← h]
     have HR := hid hrow
     have HXA := hid (HE0.out.trans (HX1.out.trans HXR.out))
     have HBR := hid (HB0.out.ext (HX1.out.trans HXR.out))
     have HPL : Hid (∀ b, ((T b ∧ b < w.heap.size) ∨ w.heap.size < b) ∧ b ≠ wg.heap.size → b ≠ w.heap.size ∧ (T b ∨ w.heap.size ≤ b)) := hid (fun b hb => by
      rcases hb.1 with h | h
      ·exact ⟨by omega, .inl h.1⟩
      ·exact ⟨by omega, .inr (by omega)⟩)
     have HSL : Hid (Sl (fdR (tyR (d + 2))) wr (fun b => b ≠ w.heap.size ∧ (T b ∨ w.heap.size ≤ b)) (.slice A2 k c2) L) := hid (HO2.out.slT (fun b hb => HPL.out b hb) fun b hb => by
      have h0 := (HO2.out.block b hb).1
      have h1 := HTB.out
      exact ⟨by omega, .inr (by omega)⟩)
     have b0 := HB.out.1
     have b1 := HB.out.2.1
     have b2 := HB.out.2.2.1
     have b3 := HB.out.2.2.2.1
     have b4 := HB.out.2.2.2.2.1
     have hn1 : wg.heap.size ≠ w.heap.size := by have := HTB.out; omega
     have hn2 : w.heap.size ≠ wg.heap.size := by have := HTB.out; omega
     clear ho hrow
     cases row with
     | true =>
      have HRV : Hid (R = (Ty.arr (headF L).2 L.length, 0)) := hid (by rw [HRR.out, if_neg (by have := HML.out; omega), HR.out, if_pos rfl])
      have hk0 : 0 < k := by
       have h := HR.out
       rw [rowF, Bool.and_eq_true, decide_eq_true_eq] at h
       have := HML.out
       omega
      obtain ⟨y, hy⟩ : ∃ y, L[0]? = some y := ⟨_, List.getElem?_eq_getElem (by have := HML.out; omega)⟩
      have hyh : headF L = y := by
       cases L with
       | nil => cases hy
       | cons a l => simpa [headF] using hy
      obtain ⟨d', b, off, A5, n5, c5, B5, m5, e5, hd, rfl, hv5, hi5, y0, y1, y2, y3, y4, y5⟩ := HSL.out.fd_at hy
      rw [Nat.zero_mul, Nat.add_zero] at y0 y1 y2 y3 y4 y5
      have HC4 := hid (rarr_any d' _ wr y.2 _ hv5 k (by unfold i64b; omega))
      have HYH := hid hyh
      have HD := hid hd
      have hk1 : (0 : Int) < (k : Int) := by omega
      clear hyh hd hv5 hi5 hy y0 b0 b1 b2 b3
      go_wp2_with fail
      refine (HC4.out).mono ?_
      rintro e w5 ⟨_, rfl, ⟨A7, n7, c7, B7, m7, e7, rfl, hv7⟩, hx5⟩
      have hv7' : TyV (d' + 1) w5 (fun b => (b ≠ w.heap.size ∧ (T b ∨ w.heap.size ≤ b)) ∨ wr.heap.size ≤ b) (.agg #[.int .i64 (Ty.arr y.2 k).kind, .int .i64 (Ty.arr y.2 k).size, .int .i64 (Ty.arr y.2 k).count, .slice A7 n7 c7, .slice B7 m7 e7]) (Ty.arr y.2 k) := ⟨A7, n7, c7, B7, m7, e7, rfl, hv7⟩
      have HV7 := hid hv7'
      have HB5 := hid (HBR.out.ext hx5)
      have HXA5 := hid (HXA.out.trans hx5)
      clear hx5 hv7 hv7' y1 y2 y3 y4 y5 b4
      have r0 := HB5.out.1
      have r1 := HB5.out.2.1
      have r2 := HB5.out.2.2.1
      have r3 := HB5.out.2.2.2.1
      have r4 := HB5.out.2.2.2.2.1
      have f0 := HB5.out.2.2.2.2.2 0
      have f1 := HB5.out.2.2.2.2.2 1
      have f2 := HB5.out.2.2.2.2.2 2
      have f3 := HB5.out.2.2.2.2.2 3
      have f4 := HB5.out.2.2.2.2.2 4
      have hc := set5_cells r0 r1 r2 r3 r4 (.int .i64 (Ty.arr y.2 k).kind) (.int .i64 (Ty.arr y.2 k).size) (.int .i64 (Ty.arr y.2 k).count) (.slice A7 n7 c7) (.slice B7 m7 e7)
      have hx := set5_ext HXA5.out (Nat.le_refl _) (.int .i64 (Ty.arr y.2 k).kind) (.int .i64 (Ty.arr y.2 k).size) (.int .i64 (Ty.arr y.2 k).count) (.slice A7 n7 c7) (.slice B7 m7 e7)
      obtain ⟨W6, hW6⟩ : ∃ W6, ((((w5.setCell ⟨w.heap.size, 0, none⟩ (.int .i64 (Ty.arr y.2 k).kind)).setCell ⟨w.heap.size, 1, none⟩ (.int .i64 (Ty.arr y.2 k).size)).setCell ⟨w.heap.size, 2, none⟩ (.int .i64 (Ty.arr y.2 k).count)).setCell ⟨w.heap.size, 3, none⟩ (.slice A7 n7 c7)).setCell ⟨w.heap.size, 4, none⟩ (.slice B7 m7 e7) = W6 := ⟨_, rfl⟩
      rw [hW6] at hc hx
      obtain ⟨t0, t1, t2, t3, t4⟩ := hc
      have HX6 := hid hx
      have HW6 := hid hW6
      clear hx hW6
      go_wp2
      rw [HW6.out]
      clear r0 r1 r2 r3 r4
      refine bodyPost_ret (v := .tuple #[.agg #[.int .i64 (Ty.arr y.2 k).kind, .int .i64 (Ty.arr y.2 k).size, .int .i64 (Ty.arr y.2 k).count, .slice A7 n7 c7, .slice B7 m7 e7], .int .i64 0]) (by simp [results, Tryz.results48, go_sem, t0, t1, t2, t3, t4]) rfl ?_
      refine ⟨_, by rw [HRV.out]; rfl, ?_, HX6.out⟩
      rw [HRV.out, HYH.out, HML.out]
      have hsz : w.heap.size < wr.heap.size := HBR.out.lt
      refine TyV.up (by have := HD.out; omega) (TyV.mono (fun b hb _ => ?_) (TyV.keep (fun b hb _ => ?_) HV7.out))
      ·rcases hb with hb | hb
       ·exact hb.2
       ·exact .inr (by omega)
      rw [← HW6.out]
      exact set5_heap _ _ _ _ _ _ _ (by rcases hb with hb | hb; exact hb.1; omega)
     | false =>
      have HRV : Hid (R = (Ty.str L, 0)) := hid (by rw [HRR.out, if_neg (by have := HML.out; omega), HR.out, if_neg (by simp)])
      have r0 := HBR.out.1
      have r1 := HBR.out.2.1
      have r2 := HBR.out.2.2.1
      have r3 := HBR.out.2.2.2.1
      have r4 := HBR.out.2.2.2.2.1
      have f0 := HBR.out.2.2.2.2.2 0
      have f1 := HBR.out.2.2.2.2.2 1
      have f2 := HBR.out.2.2.2.2.2 2
      have f3 := HBR.out.2.2.2.2.2 3
      have f4 := HBR.out.2.2.2.2.2 4
      have hc := set5_cells r0 r1 r2 r3 r4 (.int .i64 5) (.int .i64 0) (.int .i64 0) (.slice none 0 0) (.slice A2 k c2)
      have hx := set5_ext HXA.out (Nat.le_refl _) (.int .i64 5) (.int .i64 0) (.int .i64 0) (.slice none 0 0) (.slice A2 k c2)
      obtain ⟨W6, hW6⟩ : ∃ W6, ((((wr.setCell ⟨w.heap.size, 0, none⟩ (.int .i64 5)).setCell ⟨w.heap.size, 1, none⟩ (.int .i64 0)).setCell ⟨w.heap.size, 2, none⟩ (.int .i64 0)).setCell ⟨w.heap.size, 3, none⟩ (.slice none 0 0)).setCell ⟨w.heap.size, 4, none⟩ (.slice A2 k c2) = W6 := ⟨_, rfl⟩
      rw [hW6] at hc hx
      obtain ⟨t0, t1, t2, t3, t4⟩ := hc
      have HX6 := hid hx
      have HW6 := hid hW6
      clear hx hW6
      go_wp2
      rw [HW6.out]
      clear r0 r1 r2 r3 r4 b0 b1 b2 b3 b4
      refine bodyPost_ret (v := .tuple #[.agg #[.int .i64 5, .int .i64 0, .int .i64 0, .slice none 0 0, .slice A2 k c2], .int .i64 0]) (by simp [results, Tryz.results48, go_sem, t0, t1, t2, t3, t4]) rfl ?_
      refine ⟨_, by rw [HRV.out]; rfl, ?_, HX6.out⟩
      rw [HRV.out]
      have hsl2 := HSL.out.keep (w' := W6) (fun b hb _ => by
       rw [← HW6.out]
       exact set5_heap _ _ _ _ _ _ _ hb.1)
      exact TyV.up (Nat.le_succ _) ⟨none, 0, 0, A2, k, c2, rfl, Sl.nil, hsl2.mono fun b hb _ => hb.2, by show i64b 5; unfold i64b; omega, by show i64b 0; unfold i64b; omega, by show i64b 0; unfold i64b; omega⟩
end Go.Proofs.YtacmjhcfjhpkeaaGreatDoor
