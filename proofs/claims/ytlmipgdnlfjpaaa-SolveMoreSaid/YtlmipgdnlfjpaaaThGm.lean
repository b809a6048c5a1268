/- Merged by program from texts of my own. -/
import Derived.Test.YtlmipgdnlfjpaaaThem
namespace Go.Proofs.Ytlmipgdnlfjpaaa
open Go.RowKit Go.Deco Go.Maps
set_option linter.unusedSimpArgs false
set_option linter.unusedVariables false
theorem badL_unk (ts : List Ty) : badL (ts ++ [Ty.unk]) = badL ts := by
 have h := badL_take (ts := ts ++ [Ty.unk]) (k := ts.length) (x := Ty.unk) (by simp)
 rw [List.take_left' rfl, if_neg (by decide), List.append_nil, List.take_of_length_le (by simp)] at h
 exact h
set_option maxRecDepth 100000 in
set_option maxHeartbeats 8000000 in
theorem more_any (d : Nat) (w : World) (A : Option Addr) (m me : Nat) (l : List Con) (n : Int) (hs : Sl (conR (tyR d)) w All (.slice A m me) l) :
  Calls Try.prog 6 #[.slice A m me, .int .i64 n] w (TBool w true) := by
 have hln := hs.len
 have HS := hid hs
 have HL := hid hln
 have HFEW := hid (few_any d w A m me l hs)
 obtain ⟨i0, hi0, hz0, hz1, hz2⟩ := info_parts info_ty33
 have HI := hid hi0
 have HZ1 := hid hz1
 clear hs hln hi0 hz0 hz1 hz2
 go_enter Try.func6, Try.ntmps6
 go_wp2_with fail
 refine HFEW.out.mono ?_
 rintro e w1 ⟨b, rfl, hx1, hb⟩
 have HX1 := hid hx1
 have HB := hid hb
 clear hx1 hb
 cases b
 case false =>
  go_wp2_with fail
  refine (ex_any w1).mono ?_
  rintro e w2 ⟨rfl, hx2⟩
  have HX2 := hid hx2
  clear hx2
  go_wp2
  go_ret
  exact ⟨rfl, HX1.out.trans HX2.out⟩
 by_cases h12 : n > 12
 ·have g1 : (12 : Int) < n := h12
  go_wp2_with fail
  refine (ex_any w1).mono ?_
  rintro e w2 ⟨rfl, hx2⟩
  have HX2 := hid hx2
  clear hx2
  go_wp2
  go_ret
  exact ⟨rfl, HX1.out.trans HX2.out⟩
 have g1 : ¬ (12 : Int) < n := h12
 have HN12 := hid g1
 have HFW := hid (HB.out rfl)
 clear h12
 go_wp2_with fail
 refine (cons_any d w1 A m me l (HS.out.ext HX1.out) (by have := HFW.out.1; have := HL.out; omega)).mono ?_
 rintro e w2 ⟨A2, c2, rfl, hl2, hx2⟩
 obtain ⟨L, hL⟩ : ∃ L, l.length = L := ⟨_, rfl⟩
 rw [hL] at hl2 ⊢
 have HLL := hid hL
 have HS2 := hid hl2
 have HX2 := hid (HX1.out.trans hx2)
 clear hx2 hl2 g1 hL
 go_wp2_with fail
 refine (solve_any d w2 A2 L c2 l n HS2.out (few_cnt HFW.out)).mono ?_
 rintro e w3 hsv
 rcases hsv with ⟨h1, rfl, hx3⟩ | ⟨hz, ts, A3, c3, B3, d3, dd, rfl, hso, hst, hsb, hx3⟩
 ·obtain ⟨ck, hck⟩ : ∃ ck, checkC l n = ck := ⟨_, rfl⟩
  rw [hck] at h1 ⊢
  have HX3 := hid (HX2.out.trans hx3)
  have g1 : ((ck : Int) != 0) = true := by simp; omega
  obtain ⟨WN4, hW5⟩ : ∃ W5, (w3).alloc (.cells #[.slice none 0 0, .slice none 0 0] 30) = W5 := ⟨_, rfl⟩
  have hB5 : Box2 WN4 (w3).heap.size (.slice none 0 0) (.slice none 0 0) := by rw [← hW5]; exact Box2.new w3 _ _ _
  have hE5 : Ext w3 WN4 := by rw [← hW5]; exact (Ext.refl _).alloc _
  obtain ⟨WS4, hW6, hB6, hH6, hS6, hX6⟩ := box2_set hB5 (.slice none 0 0) (.slice none 0 0)
  have HXS4 := hid (hX6 w3 hE5 (Nat.le_refl _))
  have HWS4 := hid hW6
  have HBS4 := hid hB6
  obtain ⟨z0, z1, zf⟩ := hB5
  have f0 := zf 0
  have f1 := zf 1
  obtain ⟨t0, t1, -⟩ := hB6
  clear hE5 hW6 hH6 hS6 hX6 zf
  clear h1 hck hx3
  go_upto_region 5 with fail
  rw [HWS4.out]
  clear z0 z1 f0 f1 hW5
  go_wp2_with fail
  refine (ex_any _).mono ?_
  rintro e w6 ⟨rfl, hx6⟩
  have HX6 := hid hx6
  clear hx6
  go_wp2
  go_ret
  exact ⟨rfl, HX3.out.trans (HXS4.out.trans HX6.out)⟩
 have HX3 := hid (HX2.out.trans hx3)
 have HX23 := hid hx3
 have HSO := hid hso
 have HTS := hid (hst.mono (S' := fun b => b < w3.heap.size) fun _ _ hi => hi.lt)
 have HBD := hid (hsb.mono (S' := fun b => b < w3.heap.size) fun _ _ hi => hi.lt)
 have HNN := hid hso.1
 have HOK := hid (check_zeroC.1 hz)
 obtain ⟨N, rfl⟩ : ∃ N : Nat, n = N := ⟨n.toNat, by have := HOK.out.1; omega⟩
 obtain ⟨K, hK⟩ : ∃ K, ts.length = K := ⟨_, rfl⟩
 obtain ⟨BL, hBL⟩ : ∃ BL, badL ts = BL := ⟨_, rfl⟩
 rw [hBL] at HBD ⊢
 rw [hK] at HTS ⊢
 obtain rfl : K = N := by have := HNN.out; omega
 have HK := hid hK
 have HBLL := hid hBL
 obtain ⟨q, hq⟩ : ∃ q, BL.length = q := ⟨_, rfl⟩
 rw [hq] at HBD ⊢
 have HQ := hid hq
 have hkm : K ≤ 12 := by have := HN12.out; omega
 clear hz hso hst hsb hx3 hK hBL hq
 obtain ⟨WN4, hW5⟩ : ∃ W5, (w3).alloc (.cells #[.slice none 0 0, .slice none 0 0] 30) = W5 := ⟨_, rfl⟩
 have hB5 : Box2 WN4 (w3).heap.size (.slice none 0 0) (.slice none 0 0) := by rw [← hW5]; exact Box2.new w3 _ _ _
 have hE5 : Ext w3 WN4 := by rw [← hW5]; exact (Ext.refl _).alloc _
 obtain ⟨WS4, hW6, hB6, hH6, hS6, hX6⟩ := box2_set hB5 (.slice A3 K c3) (.slice B3 q d3)
 have HXS4 := hid (hX6 w3 hE5 (Nat.le_refl _))
 have HWS4 := hid hW6
 have HBS4 := hid hB6
 obtain ⟨z0, z1, zf⟩ := hB5
 have f0 := zf 0
 have f1 := zf 1
 obtain ⟨t0, t1, -⟩ := hB6
 clear hE5 hW6 hH6 hS6 hX6 zf
 go_upto_region 5 with fail
 rw [HWS4.out]
 clear z0 z1 f0 f1 hW5
 have HXW := hid (HX3.out.trans HXS4.out)
 have HXW2 := hid (HX23.out.trans HXS4.out)
 have HSV2 := hid (solve_any d WS4 A2 L c2 l ((K : Int) + 1) (HS2.out.ext HXW2.out) (by have h := HFW.out; intro h0; exact few_cnt h h0))
 have e1 : IntKind.i64.wrap ((K : Int) + 1) = (K : Int) + 1 := IntWalk.i64_in _ (by omega)
 go_wp2_with fail
 refine HSV2.out.mono ?_
 rintro e w5 hsv
 rcases hsv with ⟨h1, -, -⟩ | ⟨hz, us, A5, c5, B5, d5, dd5, rfl, hso, hst, hsb, hx5⟩
 ·refine absurd (check_zeroC.2 ⟨by omega, by omega, HOK.out.2.2.1, fun c hc => ?_⟩) h1
  have h := HOK.out.2.2.2 c hc
  exact ⟨h.k0, h.k1, h.w, h.a0, by have := h.a1; omega, h.b0, fun e => by have := h.b1 e; omega, h.t⟩
 have hus : us = ts ++ [Ty.unk] := solves_more HOK.out.2.2.2 HSO.out hso
 have hul : us.length = K + 1 := by rw [hus, List.length_append, HK.out]; rfl
 have hut : us.take K = ts := by rw [hus, List.take_left' HK.out]
 have huk : us[K]? = some Ty.unk := by rw [hus, List.getElem?_append_right (by have := HK.out; omega), HK.out, Nat.sub_self]; rfl
 have hub : badL us = BL := by rw [hus, badL_unk, HBLL.out]
 rw [hub, HQ.out] at hsb ⊢
 rw [hul] at hst ⊢
 have HX5 := hid (HXS4.out.trans hx5)
 have HX45 := hid hx5
 have HUT := hid hut
 obtain ⟨d6, bx, ox, P1, np1, cp1, P2, np2, cp2, hd6, rfl, -, x0, -⟩ := hst.ty_at huk
 have HX0 : Hid (w5.cell? ⟨bx, ox + K * 5, none⟩ = some (.int .i64 0)) := hid x0
 have HUS := hid (hst.mono (S' := fun b => b < w5.heap.size) fun _ _ hi => hi.lt)
 have HUB := hid (hsb.mono (S' := fun b => b < w5.heap.size) fun _ _ hi => hi.lt)
 have HBS4' := hid (HBS4.out.ext hx5)
 clear hus hul hut huk hub hst hsb hx5 hz hso t0 t1 x0 hd6
 obtain ⟨WN6, hW5⟩ : ∃ W5, (w5).alloc (.cells #[.slice none 0 0, .slice none 0 0] 30) = W5 := ⟨_, rfl⟩
 have hB5 : Box2 WN6 (w5).heap.size (.slice none 0 0) (.slice none 0 0) := by rw [← hW5]; exact Box2.new w5 _ _ _
 have hE5 : Ext w5 WN6 := by rw [← hW5]; exact (Ext.refl _).alloc _
 obtain ⟨WS6, hW6, hB6, hH6, hS6, hX6⟩ := box2_set hB5 (.slice (some ⟨bx, ox, none⟩) (K + 1) c5) (.slice B5 q d5)
 have HXS6 := hid (hX6 w5 hE5 (Nat.le_refl _))
 have HWS6 := hid hW6
 have HBS6 := hid hB6
 obtain ⟨z0, z1, zf⟩ := hB5
 have f0 := zf 0
 have f1 := zf 1
 obtain ⟨t0, t1, -⟩ := hB6
 clear hE5 hW6 hH6 hS6 hX6 zf
 go_upto_region 8 with fail
 rw [HWS6.out]
 clear z0 z1 f0 f1 hW5
 have HBA := hid (HBS4'.out.ext HXS6.out)
 obtain ⟨s0, s1, -⟩ := HBA.out
 have x0 := HXS6.out.cell HX0.out
 have hfz := HBS6.out.2.2 0
 have HUS6 := hid (HUS.out.ext HXS6.out)
 go_upto_region 11 with (first
  | ((with_reducible refine wpList_at_slice 27 (.tmp 69) none (some (.tmp 70)) rfl rfl ?_); refine wpList_to rfl 27 37 (.tmp 69) (.tmp 70) rfl Try.underlying27 i0 HI.out (tyR dd5) (by rw [HZ1.out, tyR_size]) rfl HUS6.out K rfl (by omega) ?_; intro A8 hA8; rw [HUT.out] at hA8; have HA8 := hid hA8; clear hA8)
  | fail)
 obtain ⟨W8, hW8⟩ : ∃ W8, WS6.setCell ⟨w5.heap.size, 0, none⟩ (.slice A8 K c5) = W8 := ⟨_, rfl⟩
 rw [hW8]
 have hB8 := HBS6.out.put0 (.slice A8 K c5)
 have hHH : ∀ b, b ≠ w5.heap.size → W8.heap[b]? = WS6.heap[b]? := fun b hb => by rw [← hW8]; exact Below.heap_setCell _ _ _ _ hb
 have hx8 : Ext w5 W8 := by rw [← hW8]; exact HXS6.out.setCell (Nat.le_refl _) _
 rw [hW8] at hB8
 have hus8 := HA8.out.keep (w' := W8) fun b hb _ => hHH b (by have hb' : b < w5.heap.size := hb; omega)
 have hsb := HBS4'.out.ext hx8
 have HX8 := hid hx8
 have HXF := hid (HX3.out.trans (HX5.out.trans hx8))
 have HXE := hid (HX5.out.trans hx8)
 have HTR1 := hid (fun w' => toref_any w' A3 B3 K c3 q d3)
 have HTR2 := hid (fun w' => toref_any w' A8 B5 K c5 q d5)
 have HSM := hid (fun (w' : World) (hx : Ext W8 w') => same33_any (dd + dd5) w' A3 B3 A8 B5 K c3 q d3 K c5 q d5 ts ts BL BL
  (sl_le (d := dd) (by omega) ((HTS.out.mono (S' := All) fun _ _ _ => trivial).ext (HXE.out.trans hx))) (sl_le (d := dd5) (by omega) ((hus8.mono (S' := All) fun _ _ _ => trivial).ext hx))
  ((HBD.out.mono (S' := All) fun _ _ _ => trivial).ext (HXE.out.trans hx)) ((HUB.out.mono (S' := All) fun _ _ _ => trivial).ext (HX8.out.trans hx)))
 rw [show (decide (ts = ts) && decide (BL = BL)) = true from by rw [decide_eq_true rfl, decide_eq_true rfl]; rfl] at HSM
 obtain ⟨u0, u1, -⟩ := hsb
 obtain ⟨y0, y1, -⟩ := hB8
 have HSK := hid (fun (w' : World) (hx : Ext W8 w') => (show w'.cell? ⟨w3.heap.size, 0, none⟩ = some (.slice A3 K c3) ∧ w'.cell? ⟨w3.heap.size, 1, none⟩ = some (.slice B3 q d3) ∧ w'.cell? ⟨w5.heap.size, 0, none⟩ = some (.slice A8 K c5) ∧ w'.cell? ⟨w5.heap.size, 1, none⟩ = some (.slice B5 q d5) from ⟨hx.cell u0, hx.cell u1, hx.cell y0, hx.cell y1⟩))
 clear u0 u1 y0 y1 s0 s1 t0 t1 x0 hfz hHH hx8 hus8 hW8
 have HXg1q_0 := hid ((Ext.refl W8).drew)
 refine wp_region_held_drew (S := (fun w' => w'.cell? ⟨w3.heap.size, 0, none⟩ = some (.slice A3 K c3) ∧ w'.cell? ⟨w3.heap.size, 1, none⟩ = some (.slice B3 q d3) ∧ w'.cell? ⟨w5.heap.size, 0, none⟩ = some (.slice A8 K c5) ∧ w'.cell? ⟨w5.heap.size, 1, none⟩ = some (.slice B5 q d5))) (by kernel_rfl) (HSK.out _ (Ext.refl _).drew) (fun hSg1q0 => ?_)
 refine rgT2 0 2 ?_
 refine wpAnyH_ready (rs := [1]) (by kernel_rfl) (by simp) ?_
 refine (AllReadyH.consL rfl (fun K hK => ?g1qb1x3) AllReadyH.nil)
 case' g1qb1x3 =>
  go_simp
  go_at_call 14
  refine (HTR1.out _).mono ?_
  rintro e w9 ⟨rfl, hEg1q1⟩
  have HXg1q_1 := hid (HXg1q_0.out.trans hEg1q1)
  clear hEg1q1
  refine rgK hK (HSK.out _ HXg1q_1.out) (fun hSg1q1 => ?_)
  clear hK K
  refine wpAnyH_ready (rs := [3]) (by kernel_rfl) (by simp) ?_
  refine (AllReadyH.consL rfl (fun K hK => ?g1qb3x4) AllReadyH.nil)
  case' g1qb3x4 =>
   go_simp
   go_at_call 14
   refine (HTR2.out _).mono ?_
   rintro e w9 ⟨rfl, hEg1q2⟩
   have HXg1q_2 := hid (HXg1q_1.out.trans hEg1q2)
   clear hEg1q2
   refine rgK hK (HSK.out _ HXg1q_2.out) (fun hSg1q2 => ?_)
   clear hK K
   refine wpAnyH_ready (rs := [4]) (by kernel_rfl) (by simp) ?_
   refine (AllReadyH.consL rfl (fun K hK => ?g1qb4x5) AllReadyH.nil)
   case' g1qb4x5 =>
    go_simp
    go_at_call 13
    refine (HSM.out _ HXg1q_2.out).mono ?_
    rintro e w9 ⟨rfl, hEg1q3⟩
    have HXg1q_3 := hid (HXg1q_2.out.trans hEg1q3)
    clear hEg1q3
    refine rgK hK (HSK.out _ HXg1q_3.out) (fun hSg1q3 => ?_)
    clear hK K
    refine rgT 5 ?_
    refine wpAnyH_ready (rs := [6]) (by kernel_rfl) (by simp) ?_
    refine (AllReadyH.consL rfl (fun K hK => ?g1qb6x7) AllReadyH.nil)
    case' g1qb6x7 =>
     go_simp
     go_at_call 8
     refine (ex_any _).mono ?_
     rintro e w9 ⟨rfl, hEg1q4⟩
     have HXg1q_4 := hid (HXg1q_3.out.trans hEg1q4)
     clear hEg1q4
     refine rgK hK (HSK.out _ HXg1q_4.out) (fun hSg1q4 => ?_)
     clear hK K
     refine rgT2 7 8 ?_
     refine wpAnyH_done (by kernel_rfl) ?_ _
     go_wp2
     go_ret
     exact ⟨rfl, HXF.out.trans HXg1q_4.out⟩
end Go.Proofs.Ytlmipgdnlfjpaaa
