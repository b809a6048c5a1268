/- Merged by program from texts of my own. -/
import Derived.Test.YtlmipgdnlfjpaaaTham
import Derived.Test.YtlmipgdnlfjpaaaThDm
namespace Go.Proofs.Ytlmipgdnlfjpaaa
open Go.RowKit Go.Deco Go.Maps
set_option linter.unusedSimpArgs false
set_option linter.unusedVariables false
theorem few_cnt {l : List Con} {n : Int} (h : l.length ≤ 16 ∧ ∀ c ∈ l, shalT c.type 64 = true → cntT c.type ≤ 40) (h0 : checkC l n = 0) : cntL l ≤ 1000000000 := by
 have hok := (check_zeroC.1 h0).2.2.2
 have := cntL_le (l := l) (B := 40) fun c hc hk => h.2 c hc (goodT_iff.1 ((hok c hc).t hk)).1
 have := h.1
 omega
theorem solves_bn {l : List Con} {n : Int} {ts : List Ty} (h : Solves l n ts) : ∀ t ∈ ts, bnT t = true := by
 intro t ht
 obtain ⟨v, hv⟩ := List.mem_iff_getElem?.1 ht
 have hg := goodT_iff.1 (varty_good (h.2 v t hv))
 exact bn_good t hg.2.1 hg.2.2
theorem conv_le {d d' : Nat} (hd : d ≤ d') {w : World} {S : Nat → Prop} {v : Value} {c : Con} (h : ConV d w S v c) : ConV d' w S v c := by
 obtain ⟨A, n, e, B, m, f, rfl, h1, h2⟩ := h
 exact ⟨A, n, e, B, m, f, rfl, h1, tyv_le hd h2⟩
theorem sl_le {d d' : Nat} (hd : d ≤ d') {w : World} {S : Nat → Prop} {v : Value} {l : List Ty} (h : Sl (tyR d) w S v l) : Sl (tyR d') w S v l :=
 Sl.up (by rw [tyR_size, tyR_size]) (tyR_le hd) h
set_option maxRecDepth 100000 in
set_option maxHeartbeats 8000000 in
theorem satisfies_any (d : Nat) (w : World) (A : Option Addr) (m me : Nat) (l : List Con) (n : Int) (hs : Sl (conR (tyR d)) w All (.slice A m me) l) :
  Calls Try.prog 3 #[.slice A m me, .int .i64 n] w (TBool w true) := by
 have hln := hs.len
 have HS := hid hs
 have HL := hid hln
 have HFEW := hid (few_any d w A m me l hs)
 obtain ⟨j0, hj, hj0, hj1, hj2⟩ := info_parts info_int
 have HJ := hid hj
 have HJ0 := hid hj0
 have HJ1 := hid hj1
 have HJ2 := hid hj2
 clear hs hln hj hj0 hj1 hj2
 go_enter Try.func3, Try.ntmps3
 go_wp2_with fail
 refine HFEW.out.mono ?_
 rintro e w1 ⟨b, rfl, hx1, hb⟩
 have HX1 := hid hx1
 have HB := hid hb
 clear hx1 hb
 cases b
 case false =>
  go_wp2_with fail
  refine (ex_any w1).mono ?_
  rintro e w2 ⟨rfl, hx2⟩
  have HX2 := hid hx2
  clear hx2
  go_wp2
  go_ret
  exact ⟨rfl, HX1.out.trans HX2.out⟩
 by_cases h12 : n > 12
 ·have g1 : (12 : Int) < n := h12
  go_wp2_with fail
  refine (ex_any w1).mono ?_
  rintro e w2 ⟨rfl, hx2⟩
  have HX2 := hid hx2
  clear hx2
  go_wp2
  go_ret
  exact ⟨rfl, HX1.out.trans HX2.out⟩
 have g1 : ¬ (12 : Int) < n := h12
 have HFW := hid (HB.out rfl)
 clear h12
 go_wp2_with fail
 refine (cons_any d w1 A m me l (HS.out.ext HX1.out) (by have := HFW.out.1; have := HL.out; omega)).mono ?_
 rintro e w2 ⟨A2, c2, rfl, hl2, hx2⟩
 obtain ⟨L, hL⟩ : ∃ L, l.length = L := ⟨_, rfl⟩
 rw [hL] at hl2 ⊢
 have HLL := hid hL
 have HS2 := hid hl2
 have HX2 := hid (HX1.out.trans hx2)
 clear hx2 hl2 g1 hL
 go_wp2_with fail
 refine (solve_any d w2 A2 L c2 l n HS2.out (few_cnt HFW.out)).mono ?_
 rintro e w3 hsv
 rcases hsv with ⟨h1, rfl, hx3⟩ | ⟨hz, ts, A3, c3, B3, d3, dd, rfl, hso, hst, hsb, hx3⟩
 ·obtain ⟨ck, hck⟩ : ∃ ck, checkC l n = ck := ⟨_, rfl⟩
  rw [hck] at h1 ⊢
  have HX3 := hid (HX2.out.trans hx3)
  have g1 : ((ck : Int) != 0) = true := by simp; omega
  obtain ⟨WN4, hW5⟩ : ∃ W5, (w3).alloc (.cells #[.slice none 0 0, .slice none 0 0] 30) = W5 := ⟨_, rfl⟩
  have hB5 : Box2 WN4 (w3).heap.size (.slice none 0 0) (.slice none 0 0) := by rw [← hW5]; exact Box2.new w3 _ _ _
  have hE5 : Ext w3 WN4 := by rw [← hW5]; exact (Ext.refl _).alloc _
  obtain ⟨WS4, hW6, hB6, hH6, hS6, hX6⟩ := box2_set hB5 (.slice none 0 0) (.slice none 0 0)
  have HXS4 := hid (hX6 w3 hE5 (Nat.le_refl _))
  have HWS4 := hid hW6
  have HBS4 := hid hB6
  obtain ⟨z0, z1, zf⟩ := hB5
  have f0 := zf 0
  have f1 := zf 1
  obtain ⟨t0, t1, -⟩ := hB6
  clear hE5 hW6 hH6 hS6 hX6 zf
  clear h1 hck hx3
  go_upto_region 5 with fail
  rw [HWS4.out]
  clear z0 z1 f0 f1 hW5
  go_wp2_with fail
  refine (ex_any _).mono ?_
  rintro e w6 ⟨rfl, hx6⟩
  have HX6 := hid hx6
  clear hx6
  go_wp2
  go_ret
  exact ⟨rfl, HX3.out.trans (HXS4.out.trans HX6.out)⟩
 have HX3 := hid (HX2.out.trans hx3)
 have HX23 := hid hx3
 have HZ := hid hz
 have HSO := hid hso
 have HTS := hid (hst.mono (S' := All) fun _ _ _ => trivial)
 have HBD := hid (hsb.mono (S' := All) fun _ _ _ => trivial)
 have HNN := hid hso.1
 have HOK := hid (check_zeroC.1 hz)
 obtain ⟨N, rfl⟩ : ∃ N : Nat, n = N := ⟨n.toNat, by have := HOK.out.1; omega⟩
 obtain ⟨K, hK⟩ : ∃ K, ts.length = K := ⟨_, rfl⟩
 obtain ⟨BL, hBL⟩ : ∃ BL, badL ts = BL := ⟨_, rfl⟩
 rw [hBL] at HBD ⊢
 rw [hK] at HTS ⊢
 obtain rfl : K = N := by have := HNN.out; omega
 have HK := hid hK
 have HBLL := hid hBL
 obtain ⟨q, hq⟩ : ∃ q, BL.length = q := ⟨_, rfl⟩
 rw [hq] at HBD ⊢
 have HQ := hid hq
 clear hz hso hst hsb hx3 hK hBL hq
 obtain ⟨WN4, hW5⟩ : ∃ W5, (w3).alloc (.cells #[.slice none 0 0, .slice none 0 0] 30) = W5 := ⟨_, rfl⟩
 have hB5 : Box2 WN4 (w3).heap.size (.slice none 0 0) (.slice none 0 0) := by rw [← hW5]; exact Box2.new w3 _ _ _
 have hE5 : Ext w3 WN4 := by rw [← hW5]; exact (Ext.refl _).alloc _
 obtain ⟨WS4, hW6, hB6, hH6, hS6, hX6⟩ := box2_set hB5 (.slice A3 K c3) (.slice B3 q d3)
 have HXS4 := hid (hX6 w3 hE5 (Nat.le_refl _))
 have HWS4 := hid hW6
 have HBS4 := hid hB6
 obtain ⟨z0, z1, zf⟩ := hB5
 have f0 := zf 0
 have f1 := zf 1
 obtain ⟨t0, t1, -⟩ := hB6
 clear hE5 hW6 hH6 hS6 hX6 zf
 go_upto_region 5 with fail
 rw [HWS4.out]
 clear z0 z1 f0 f1 hW5
 have HXW := hid (HX3.out.trans HXS4.out)
 have HXS := hid HXS4.out
 have HXW2 := hid (HX23.out.trans HXS4.out)
 obtain ⟨V, hV⟩ : ∃ V, WS4 = V := ⟨_, rfl⟩
 obtain ⟨p, hp⟩ : ∃ p, w3.heap.size = p := ⟨_, rfl⟩
 rw [hV] at HXW HXW2 HXS t0 t1 HXS4 ⊢
 rw [hp] at t0 t1 ⊢
 have HT0 := hid t0
 have HT1 := hid t1
 clear hV hp HXS4 HWS4 HBS4
 have hsm : L ≤ 16 := by have := HFW.out.1; have := HLL.out; omega
 have hkm : K ≤ 65536 := by have := HOK.out.2.1; omega
 go_upto_region 9 with fail
 go_wp2
 go_loopw [8] (fun i wr => ∃ k : Nat, k ≤ L ∧ i = .int .i64 k ∧ Hid (Ext V wr)) (fun i _ => L - (intOf i).toNat)
 case atStart => exact ⟨0, by omega, rfl, hid (Ext.refl _)⟩
 case round =>
  obtain ⟨k, hk, rfl, HX⟩ := hrel
  obtain ⟨V2, hV2⟩ : ∃ V2, V2 = wr := ⟨_, rfl⟩
  obtain rfl := hV2
  clear t0 t1
  have t0 := HX.out.cell HT0.out
  have t1 := HX.out.cell HT1.out
  by_cases h1 : k < L
  ·obtain ⟨c, hc⟩ : ∃ c, l[k]? = some c := ⟨_, List.getElem?_eq_getElem (by have := HLL.out; omega)⟩
   obtain ⟨d', bx, ox, P1, np1, cp1, P2, np2, cp2, hd, rfl, hv1, hbx, -⟩ := (HS2.out.ext (HXW2.out.trans HX.out)).con_at hc
   have HSC := hid (fun w' (hx : Ext V2 w') => sat_any (dd + d') w' A3 B3 K c3 q d3 ts c _ (sl_le (d := dd) (by omega) (HTS.out.ext (HXS.out.trans (HX.out.trans hx)))) (solves_bn HSO.out) (conv_le (d := d') (by omega) (hv1.ext hx)))
   rw [show satC ts c = true from solves_sat HOK.out.2.2.2 HSO.out c (List.mem_of_getElem? hc)] at HSC
   obtain ⟨x0, x1, x2, x3, x4, x5, x6, x7, x8, x9⟩ := hbx
   have HSK := hid (fun (w' : World) (hx : Ext V2 w') => (show w'.cell? ⟨p, 0, none⟩ = some (.slice A3 K c3) ∧ w'.cell? ⟨p, 1, none⟩ = some (.slice B3 q d3) ∧ w'.cell? ⟨bx, ox + k * 10, none⟩ = some (.int .i64 c.kind) ∧ w'.cell? ⟨bx, ox + k * 10 + 1, none⟩ = some (.int .i64 c.a) ∧ w'.cell? ⟨bx, ox + k * 10 + 2, none⟩ = some (.int .i64 c.b) ∧ w'.cell? ⟨bx, ox + k * 10 + 3, none⟩ = some (.int .i64 c.off) ∧ w'.cell? ⟨bx, ox + k * 10 + 4, none⟩ = some (.int .i64 c.width) ∧ w'.cell? ⟨bx, ox + k * 10 + 5, none⟩ = some (.int .i64 c.type.kind) ∧ w'.cell? ⟨bx, ox + k * 10 + 6, none⟩ = some (.int .i64 c.type.size) ∧ w'.cell? ⟨bx, ox + k * 10 + 7, none⟩ = some (.int .i64 c.type.count) ∧ w'.cell? ⟨bx, ox + k * 10 + 8, none⟩ = some (.slice P1 np1 cp1) ∧ w'.cell? ⟨bx, ox + k * 10 + 9, none⟩ = some (.slice P2 np2 cp2) from ⟨hx.cell t0, hx.cell t1, hx.cell x0, hx.cell x1, hx.cell x2, hx.cell x3, hx.cell x4, hx.cell x5, hx.cell x6, hx.cell x7, hx.cell x8, hx.cell x9⟩))
   have i1 : (k : Int) < (L : Int) := by omega
   clear hc hd hv1 x0 x1 x2 x3 x4 x5 x6 x7 x8 x9 t0 t1
   go_upto_region 12 with fail
   have HXg1q_0 := hid ((Ext.refl V2).drew)
   refine wp_region_held_drew (S := (fun w' => w'.cell? ⟨p, 0, none⟩ = some (.slice A3 K c3) ∧ w'.cell? ⟨p, 1, none⟩ = some (.slice B3 q d3) ∧ w'.cell? ⟨bx, ox + k * 10, none⟩ = some (.int .i64 c.kind) ∧ w'.cell? ⟨bx, ox + k * 10 + 1, none⟩ = some (.int .i64 c.a) ∧ w'.cell? ⟨bx, ox + k * 10 + 2, none⟩ = some (.int .i64 c.b) ∧ w'.cell? ⟨bx, ox + k * 10 + 3, none⟩ = some (.int .i64 c.off) ∧ w'.cell? ⟨bx, ox + k * 10 + 4, none⟩ = some (.int .i64 c.width) ∧ w'.cell? ⟨bx, ox + k * 10 + 5, none⟩ = some (.int .i64 c.type.kind) ∧ w'.cell? ⟨bx, ox + k * 10 + 6, none⟩ = some (.int .i64 c.type.size) ∧ w'.cell? ⟨bx, ox + k * 10 + 7, none⟩ = some (.int .i64 c.type.count) ∧ w'.cell? ⟨bx, ox + k * 10 + 8, none⟩ = some (.slice P1 np1 cp1) ∧ w'.cell? ⟨bx, ox + k * 10 + 9, none⟩ = some (.slice P2 np2 cp2))) (by kernel_rfl) (HSK.out _ (Ext.refl _).drew) (fun hSg1q0 => ?_)
   refine rgT4 0 1 2 3 ?_
   refine rgT 4 ?_
   refine wpAnyH_ready (rs := [5]) (by kernel_rfl) (by simp) ?_
   refine (AllReadyH.consL rfl (fun K hK => ?g1qb5x6) AllReadyH.nil)
   case' g1qb5x6 =>
    go_simp
    go_at_call 11
    refine (HSC.out _ HXg1q_0.out).mono ?_
    rintro e w5 ⟨rfl, hEg1q1⟩
    have HXg1q_1 := hid (HXg1q_0.out.trans hEg1q1)
    clear hEg1q1
    refine rgK hK (HSK.out _ HXg1q_1.out) (fun hSg1q1 => ?_)
    clear hK K
    refine rgT 6 ?_
    refine wpAnyH_done (by kernel_rfl) ?_ _
    go_wp2
    first
     | go_roundw
     | refine ⟨?rel, ?measure⟩
    case rel => exact ⟨k + 1, by omega, by go_num, hid (HX.out.trans HXg1q_1.out)⟩
    case measure => simp [intOf]; omega
  ·obtain rfl : k = L := by omega
   have i1 : ¬ (k : Int) < (k : Int) := by omega
   have HXA := hid (HXS.out.trans HX.out)
   have HXB := hid (HXW.out.trans HX.out)
   have HTX := hid (HTS.out.ext HXA.out)
   have HBX := hid (HBD.out.ext HXA.out)
   have HT0 := hid t0
   have HT1 := hid t1
   clear h1 HS HFEW HXW HXS HXW2 HX HTS HBD HX1 HX2 HX3 HX23 HS2 HB
   go_wp2
   go_loopw [9, 10] (fun o i wr => ∃ (k q : Nat) (B : Option Addr) (cb : Nat), k ≤ K ∧ i = .int .i64 k ∧ q ≤ k ∧ o = .slice B q cb ∧ Hid ((badL (ts.take k)).length = q) ∧ Hid (OwnS natR wr V2.heap.size 3 All (.slice B q cb) (badL (ts.take k))) ∧ Hid (Ext V2 wr)) (fun _ i _ => K - (intOf i).toNat)
   case atStart => exact ⟨0, 0, none, 0, by omega, rfl, by omega, rfl, hid rfl, hid OwnS.nil, hid (Ext.refl _)⟩
   case round =>
    obtain ⟨k2, q2, B, cb, hk2, rfl, hq2, rfl, HQ2, HO, HX⟩ := hrel
    obtain ⟨V3, hV3⟩ : ∃ V3, V3 = wr := ⟨_, rfl⟩
    obtain rfl := hV3
    clear t0 t1
    have t0 := HX.out.cell HT0.out
    have t1 := HX.out.cell HT1.out
    by_cases h1 : k2 < K
    ·obtain ⟨x, hx⟩ : ∃ x, ts[k2]? = some x := ⟨_, List.getElem?_eq_getElem (by have := HK.out; omega)⟩
     obtain ⟨d1, bx, ox, P1, np1, cp1, P2, np2, cp2, hd, rfl, -, x0, -⟩ := (HTX.out.ext HX.out).ty_at hx
     have HBT := hid (badL_take hx)
     have i1 : (k2 : Int) < (K : Int) := by omega
     clear hx hd
     by_cases h2 : x.kind = 6
     ·have g2 : (x.kind == 6) = true := by simp [h2]
      rw [if_pos h2] at HBT
      clear h2
      go_wp2_with (first
       | (at_builtin; refine wpList_app1l rfl (.tmp 70) (.tmp 72) 28 rfl V2.heap.size 3 j0 _ 1 8 Try.underlying28 HJ.out HJ0.out HJ1.out HJ2.out rfl natR rfl (.slice B q2 cb) (badL (ts.take k2)) rfl HO.out V3.heap.size rfl k2 rfl ⟨rfl, by omega⟩ (by have := HQ2.out; omega) (by have := HQ2.out; omega) HX.out.size ?_; intro A5 c5 w5 hown5 hg5 hl5; rw [HQ2.out] at hown5; rw [HQ2.out]; have HO5 := hid hown5; have HG5 := hid hg5; have HL5 := hid hl5; clear hown5 hg5 hl5)
       | fail)
      first
       | go_roundw
       | refine ⟨?rel, ?measure⟩
      case rel => exact ⟨k2 + 1, q2 + 1, A5, c5, by omega, by go_num, by omega, by go_num, hid (by rw [HBT.out]; simp [HQ2.out]), hid (by rw [HBT.out]; exact HO5.out), hid ((HX.out.alloc _).grown HG5.out (fun g hg => (HO.out.block g hg).1))⟩
      case measure => simp [intOf]; omega
     ·have g2 : (x.kind == 6) = false := by simp [h2]
      rw [if_neg h2, List.append_nil] at HBT
      clear h2
      go_wp2
      first
       | go_roundw
       | refine ⟨?rel, ?measure⟩
      case rel => exact ⟨k2 + 1, q2, B, cb, by omega, by go_num, by omega, rfl, hid (by rw [HBT.out]; exact HQ2.out), hid (by rw [HBT.out]; exact HO.out), HX⟩
      case measure => simp [intOf]; omega
    ·obtain rfl : k2 = K := by omega
     have i1 : ¬ (k2 : Int) < (k2 : Int) := by omega
     have ht : ts.take k2 = ts := List.take_of_length_le (by have := HK.out; omega)
     have ho := HO.out
     rw [ht, HBLL.out] at ho
     have HO9 := hid ho.sl
     clear h1 ht ho
     go_wp2_with fail
     refine (ints_any _ _ _ _ _ _ _ _ _ (HBX.out.ext HX.out) HO9.out).mono ?_
     rintro e w5 ⟨rfl, hx5⟩
     rw [show decide (BL = BL) = true from decide_eq_true rfl]
     have HX5 := hid hx5
     clear hx5
     go_wp2_with fail
     refine (ex_any _).mono ?_
     rintro e w6 ⟨rfl, hx6⟩
     have HX6 := hid hx6
     clear hx6
     go_wp2
     go_ret
     exact ⟨rfl, HXB.out.trans (HX.out.trans (HX5.out.trans HX6.out))⟩
end Go.Proofs.Ytlmipgdnlfjpaaa
namespace Go.Proofs.Ytlmipgdnlfjpaaa
open Go.RowKit Go.Deco Go.Maps
set_option linter.unusedSimpArgs false
set_option linter.unusedVariables false
set_option maxRecDepth 100000 in
set_option maxHeartbeats 4000000 in
theorem toref_any (w : World) (A B : Option Addr) (n c m e : Nat) :
  Calls Try.prog 14 #[.agg #[.slice A n c, .slice B m e]] w (fun x w' => x = .returned (.agg #[.slice A n c, .slice B m e]) ∧ Ext w w') := by
 obtain ⟨W0, hW0⟩ : ∃ W0, (w.alloc (.cells #[.slice A n c, .slice B m e] 30)).alloc (.cells #[.slice none 0 0, .slice none 0 0] 44) = W0 := ⟨_, rfl⟩
 have hE0 : Ext w W0 := by rw [← hW0]; exact ((Ext.refl w).alloc _).alloc _
 have hP : Box2 W0 w.heap.size (.slice A n c) (.slice B m e) := by rw [← hW0]; exact (Box2.new w _ _ _).ext ((Ext.refl _).alloc _)
 have hR : Box2 W0 (w.heap.size + 1) (.slice none 0 0) (.slice none 0 0) := by
  rw [← hW0]
  have := Box2.new (w.alloc (.cells #[.slice A n c, .slice B m e] 30)) (.slice none 0 0) (.slice none 0 0) 44
  rwa [show (w.alloc (.cells #[.slice A n c, .slice B m e] 30)).heap.size = w.heap.size + 1 by simp] at this
 obtain ⟨W1, hW1, hB1, hH1, hS1, hX1⟩ := box2_set hR (.slice A n c) (.slice B m e)
 have HX1 := hid (hX1 w hE0 (by omega))
 have HW1 := hid hW1
 obtain ⟨t0, t1, -⟩ := hB1
 obtain ⟨p0, p1, -⟩ := hP
 obtain ⟨r0, r1, rf⟩ := hR
 have f0 := rf 0
 have f1 := rf 1
 clear hE0 hW1 hH1 hS1 hX1 rf
 go_enter Try.func14, Try.ntmps14
 go_wp2
 rw [HW1.out]
 clear r0 r1 p0 p1 hW0
 refine bodyPost_ret (v := .agg #[.slice A n c, .slice B m e]) (by simp [results, Try.results14, go_sem, t0, t1]) rfl ?_
 exact ⟨rfl, HX1.out⟩
set_option maxRecDepth 100000 in
set_option maxHeartbeats 8000000 in
theorem same33_any (d : Nat) (w : World) (A1 B1 A2 B2 : Option Addr) (n1 c1 m1 e1 n2 c2 m2 e2 : Nat) (a b : List Ty) (x y : List Nat)
  (ha : Sl (tyR d) w All (.slice A1 n1 c1) a) (hb : Sl (tyR d) w All (.slice A2 n2 c2) b) (hx : Sl natR w All (.slice B1 m1 e1) x) (hy : Sl natR w All (.slice B2 m2 e2) y) :
  Calls Try.prog 13 #[.agg #[.slice A1 n1 c1, .slice B1 m1 e1], .agg #[.slice A2 n2 c2, .slice B2 m2 e2]] w (TBool w (decide (a = b) && decide (x = y))) := by
 obtain ⟨W0, hW0⟩ : ∃ W0, (w.alloc (.cells #[.slice A1 n1 c1, .slice B1 m1 e1] 44)).alloc (.cells #[.slice A2 n2 c2, .slice B2 m2 e2] 44) = W0 := ⟨_, rfl⟩
 have hE0 : Ext w W0 := by rw [← hW0]; exact ((Ext.refl w).alloc _).alloc _
 have hP : Box2 W0 w.heap.size (.slice A1 n1 c1) (.slice B1 m1 e1) := by rw [← hW0]; exact (Box2.new w _ _ _).ext ((Ext.refl _).alloc _)
 have hQ : Box2 W0 (w.heap.size + 1) (.slice A2 n2 c2) (.slice B2 m2 e2) := by
  rw [← hW0]
  have := Box2.new (w.alloc (.cells #[.slice A1 n1 c1, .slice B1 m1 e1] 44)) (.slice A2 n2 c2) (.slice B2 m2 e2) 44
  rwa [show (w.alloc (.cells #[.slice A1 n1 c1, .slice B1 m1 e1] 44)).heap.size = w.heap.size + 1 by simp] at this
 obtain ⟨z, hz⟩ : ∃ z, (decide (a = b) && decide (x = y)) = z := ⟨_, rfl⟩
 rw [hz]
 obtain ⟨q, hq⟩ : ∃ q, decide (x = y) = q := ⟨_, rfl⟩
 rw [hq] at hz
 have HZ := hid hz
 have HQQ := hid hq
 have hla := ha.len
 have hlb := hb.len
 have hcp := ha.cap
 have HA := hid (ha.ext hE0)
 have HB := hid (hb.ext hE0)
 have HLA := hid hla
 have HLB := hid hlb
 have HIN := hid (ints_any W0 B1 B2 m1 e1 m2 e2 x y (hx.ext hE0) (hy.ext hE0))
 rw [hq] at HIN
 have HE0 := hid hE0
 have hnm : n1 ≤ 9223372036854775807 := by have := hcp.1; have := hcp.2; omega
 obtain ⟨p0, p1, -⟩ := hP
 obtain ⟨r0, r1, -⟩ := hQ
 have HP0 := hid p0
 have HR0 := hid r0
 clear ha hb hx hy hz hq hla hlb hcp hE0
 go_enter Try.func13, Try.ntmps13
 by_cases h1 : n1 = n2
 case neg =>
  have g1 : ((n1 : Int) != (n2 : Int)) = true := by simp; omega
  obtain rfl : z = false := by rw [← HZ.out, decide_eq_false (show ¬ a = b by intro h; exact h1 (by rw [HLA.out, HLB.out, h]))]; rfl
  clear h1
  go_wp2
  go_ret
  exact ⟨rfl, HE0.out⟩
 subst h1
 have g1 : ((n1 : Int) != (n1 : Int)) = false := by simp
 go_wp2_with fail
 refine HIN.out.mono ?_
 rintro e w1 ⟨rfl, hx1⟩
 have HX1 := hid hx1
 clear hx1 p0 p1 r0 r1
 cases q
 case false =>
  obtain rfl : z = false := by rw [← HZ.out, Bool.and_false]
  go_wp2
  go_ret
  exact ⟨rfl, HE0.out.trans HX1.out⟩
 have HZ2 : Hid (decide (a = b) = z) := hid (by rw [← HZ.out, Bool.and_true])
 clear g1 hW0
 go_wp2
 go_loopw [5] (fun i wr => ∃ j : Nat, j ≤ n1 ∧ i = .int .i64 j ∧ Hid (Ext W0 wr) ∧ Hid (a.take j = b.take j)) (fun i _ => n1 - (intOf i).toNat)
 case atStart => exact ⟨0, by omega, rfl, HX1, hid rfl⟩
 case round =>
  obtain ⟨j, hj, rfl, HX, HT⟩ := hrel
  obtain ⟨V, hV⟩ : ∃ V, V = wr := ⟨_, rfl⟩
  obtain rfl := hV
  have p0 := HX.out.cell HP0.out
  have r0 := HX.out.cell HR0.out
  by_cases h1 : j < n1
  ·obtain ⟨s, hs⟩ : ∃ s, a[j]? = some s := ⟨_, List.getElem?_eq_getElem (by have := HLA.out; omega)⟩
   obtain ⟨t, ht⟩ : ∃ t, b[j]? = some t := ⟨_, List.getElem?_eq_getElem (by have := HLB.out; omega)⟩
   obtain ⟨d1, bx, ox, P1, np1, cp1, P2, np2, cp2, hd1, rfl, hv1, x0, x1, x2, x3, x4⟩ := (HA.out.ext HX.out).ty_at hs
   obtain ⟨d2, by', oy, Q1, nq1, cq1, Q2, nq2, cq2, hd2, rfl, hv2, y0, y1, y2, y3, y4⟩ := (HB.out.ext HX.out).ty_at ht
   obtain rfl : d1 = d2 := by omega
   have HSS := hid hs
   have HTT := hid ht
   have HSM := hid (fun (w' : World) (hx : Ext V w') => same31_any d1 w' s t _ _ (hv1.ext hx) (hv2.ext hx))
   obtain ⟨g, hg⟩ : ∃ g, sameT s t = g := ⟨_, rfl⟩
   rw [hg] at HSM
   have HG := hid hg
   have HSK := hid (fun (w' : World) (hx : Ext V w') => (show w'.cell? ⟨w.heap.size, 0, none⟩ = some (.slice (some ⟨bx, ox, none⟩) n1 c1) ∧ w'.cell? ⟨w.heap.size + 1, 0, none⟩ = some (.slice (some ⟨by', oy, none⟩) n1 c2) ∧ w'.cell? ⟨bx, ox + j * 5, none⟩ = some (.int .i64 s.kind) ∧ w'.cell? ⟨bx, ox + j * 5 + 1, none⟩ = some (.int .i64 s.size) ∧ w'.cell? ⟨bx, ox + j * 5 + 2, none⟩ = some (.int .i64 s.count) ∧ w'.cell? ⟨bx, ox + j * 5 + 3, none⟩ = some (.slice P1 np1 cp1) ∧ w'.cell? ⟨bx, ox + j * 5 + 4, none⟩ = some (.slice P2 np2 cp2) ∧ w'.cell? ⟨by', oy + j * 5, none⟩ = some (.int .i64 t.kind) ∧ w'.cell? ⟨by', oy + j * 5 + 1, none⟩ = some (.int .i64 t.size) ∧ w'.cell? ⟨by', oy + j * 5 + 2, none⟩ = some (.int .i64 t.count) ∧ w'.cell? ⟨by', oy + j * 5 + 3, none⟩ = some (.slice Q1 nq1 cq1) ∧ w'.cell? ⟨by', oy + j * 5 + 4, none⟩ = some (.slice Q2 nq2 cq2) from ⟨hx.cell p0, hx.cell r0, hx.cell x0, hx.cell x1, hx.cell x2, hx.cell x3, hx.cell x4, hx.cell y0, hx.cell y1, hx.cell y2, hx.cell y3, hx.cell y4⟩))
   have i1 : (j : Int) < (n1 : Int) := by omega
   clear hs ht hd1 hd2 hv1 hv2 x0 x1 x2 x3 x4 y0 y1 y2 y3 y4 hg r0
   go_upto_region 6 with fail
   clear p0
   have HXg1q_0 := hid ((Ext.refl V).drew)
   refine wp_region_held_drew (S := (fun w' => w'.cell? ⟨w.heap.size, 0, none⟩ = some (.slice (some ⟨bx, ox, none⟩) n1 c1) ∧ w'.cell? ⟨w.heap.size + 1, 0, none⟩ = some (.slice (some ⟨by', oy, none⟩) n1 c2) ∧ w'.cell? ⟨bx, ox + j * 5, none⟩ = some (.int .i64 s.kind) ∧ w'.cell? ⟨bx, ox + j * 5 + 1, none⟩ = some (.int .i64 s.size) ∧ w'.cell? ⟨bx, ox + j * 5 + 2, none⟩ = some (.int .i64 s.count) ∧ w'.cell? ⟨bx, ox + j * 5 + 3, none⟩ = some (.slice P1 np1 cp1) ∧ w'.cell? ⟨bx, ox + j * 5 + 4, none⟩ = some (.slice P2 np2 cp2) ∧ w'.cell? ⟨by', oy + j * 5, none⟩ = some (.int .i64 t.kind) ∧ w'.cell? ⟨by', oy + j * 5 + 1, none⟩ = some (.int .i64 t.size) ∧ w'.cell? ⟨by', oy + j * 5 + 2, none⟩ = some (.int .i64 t.count) ∧ w'.cell? ⟨by', oy + j * 5 + 3, none⟩ = some (.slice Q1 nq1 cq1) ∧ w'.cell? ⟨by', oy + j * 5 + 4, none⟩ = some (.slice Q2 nq2 cq2))) (by kernel_rfl) (HSK.out _ (Ext.refl _).drew) (fun hSg1q0 => ?_)
   refine rgT6 0 1 2 3 4 5 ?_
   refine rgT4 6 7 8 9 ?_
   refine wpAnyH_ready (rs := [10]) (by kernel_rfl) (by simp) ?_
   refine (AllReadyH.consL rfl (fun K hK => ?g1qb10x11) AllReadyH.nil)
   case' g1qb10x11 =>
    go_simp
    go_at_call 17
    refine (HSM.out _ HXg1q_0.out).mono ?_
    rintro e w5 ⟨rfl, hEg1q1⟩
    have HXg1q_1 := hid (HXg1q_0.out.trans hEg1q1)
    clear hEg1q1
    refine rgK hK (HSK.out _ HXg1q_1.out) (fun hSg1q1 => ?_)
    clear hK K
    refine rgT 11 ?_
    refine wpAnyH_done (by kernel_rfl) ?_ _
    cases g
    ·obtain rfl : z = false := by
      rw [← HZ2.out]
      refine decide_eq_false (fun e => ?_)
      have h5 := HSS.out
      rw [e, HTT.out] at h5
      cases h5
      have h6 := HG.out
      rw [sameT_self] at h6
      cases h6
     go_wp2
     go_ret
     exact ⟨rfl, HE0.out.trans (HX.out.trans HXg1q_1.out)⟩
    ·have hst : s = t := (sameT_iff s t).1 HG.out
     have HST := hid hst
     clear hst
     go_wp2
     first
      | go_roundw
      | refine ⟨?rel, ?measure⟩
     case rel => exact ⟨j + 1, by omega, by go_num, hid (HX.out.trans HXg1q_1.out), hid (by rw [List.take_add_one, List.take_add_one, HSS.out, HTT.out, HT.out, HST.out])⟩
     case measure => simp [intOf]; omega
  ·obtain rfl : j = n1 := by omega
   have i1 : ¬ (j : Int) < (j : Int) := by omega
   obtain rfl : z = true := by
    rw [← HZ2.out]
    have h5 := HT.out
    rw [List.take_of_length_le (by have := HLA.out; omega), List.take_of_length_le (by have := HLB.out; omega)] at h5
    exact decide_eq_true h5
   clear h1
   go_wp2
   go_ret
   exact ⟨rfl, HE0.out.trans HX.out⟩
end Go.Proofs.Ytlmipgdnlfjpaaa
