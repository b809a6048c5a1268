/- Merged by program from texts of my own. -/
import Derived.Test.YtlmipgdnlfjpaaaThem
namespace Go.Proofs.Ytlmipgdnlfjpaaa
open Go.RowKit Go.Deco Go.Maps
set_option linter.unusedSimpArgs false
set_option linter.unusedVariables false
theorem info_con32 : (Try.prog.info? 42).map (fun i => (i.zero, i.size, i.bytes)) = some (some (.agg #[.int .i64 0, .int .i64 0, .int .i64 0, .int .i64 0, .int .i64 0, .int .i64 0, .int .i64 0, .int .i64 0, .slice none 0 0, .slice none 0 0]), 10, 112) := by kernel_rfl
def rotK (l : List Con) (u k : Nat) : List Con := (List.range k).filterMap fun j => l[(j + u) % l.length]?
theorem rotK_step {l : List Con} {u k : Nat} {c : Con} (h : l[(k + u) % l.length]? = some c) : rotK l u (k + 1) = rotK l u k ++ [c] := by
 unfold rotK
 rw [List.range_succ, List.filterMap_append]
 simp [h]
theorem rotK_mem {l : List Con} {u : Nat} {c : Con} : c ∈ rotK l u l.length ↔ c ∈ l := by
 unfold rotK
 rw [List.mem_filterMap]
 constructor
 ·rintro ⟨j, _, h⟩
  exact List.mem_of_getElem? h
 ·intro h
  obtain ⟨i, hi⟩ := List.mem_iff_getElem?.1 h
  have hlt : i < l.length := (List.getElem?_eq_some_iff.1 hi).1
  have hm : u % l.length < l.length := Nat.mod_lt _ (by omega)
  refine ⟨(i + l.length - u % l.length) % l.length, List.mem_range.2 (Nat.mod_lt _ (by omega)), ?_⟩
  have e : ((i + l.length - u % l.length) % l.length + u) % l.length = i := by
   rw [Nat.mod_add_mod]
   have e1 : i + l.length - u % l.length + u = i + l.length * (1 + u / l.length) := by
    have := Nat.mod_add_div u l.length
    rw [Nat.mul_add, Nat.mul_one]
    omega
   rw [e1, Nat.add_mul_mod_self_left, Nat.mod_eq_of_lt hlt]
  rw [e]
  exact hi
def OutOf (l : List Con) (n : Int) (ts : List Ty) (bs : List Nat) : Prop := (checkC l n ≠ 0 ∧ ts = [] ∧ bs = []) ∨ (checkC l n = 0 ∧ Solves l n ts ∧ bs = badL ts)
theorem solvedU {w w' : World} {l : List Con} {n : Int} {e : Ending} (h : SolvedIs w l n e w') : ∃ (A : Option Addr) (k c : Nat) (B : Option Addr) (m c' dd : Nat) (ts : List Ty) (bs : List Nat),
  e = .returned (.tuple #[.agg #[.slice A k c, .slice B m c'], .int .i64 (checkC l n : Nat)]) ∧ Sl (tyR dd) w' All (.slice A k c) ts ∧ Sl natR w' All (.slice B m c') bs ∧ Ext w w' ∧ OutOf l n ts bs := by
 rcases h with ⟨h1, rfl, hx⟩ | ⟨hz, ts, A, c, B, c', dd, rfl, hso, hst, hsb, hx⟩
 ·exact ⟨none, 0, 0, none, 0, 0, 0, [], [], rfl, Sl.nil, Sl.nil, hx, .inl ⟨h1, rfl, rfl⟩⟩
 ·exact ⟨A, _, c, B, _, c', dd, ts, badL ts, by rw [hz]; rfl, hst.mono fun _ _ _ => trivial, hsb.mono fun _ _ _ => trivial, hx, .inr ⟨hz, hso, rfl⟩⟩
theorem outof_same {l m : List Con} {n : Int} {ts us : List Ty} {bs cs : List Nat} (hs : SameCons l m) (hl : l.length = m.length) (h : OutOf l n ts bs) (k : OutOf m n us cs) : (checkC l n = 0 ↔ checkC m n = 0) ∧ us = ts ∧ cs = bs := by
 have hz : checkC l n = 0 ↔ checkC m n = 0 := by
  rw [check_zeroC, check_zeroC, hl]
  exact ⟨fun h => ⟨h.1, h.2.1, h.2.2.1, fun c hc => h.2.2.2 c ((hs c).2 hc)⟩, fun h => ⟨h.1, h.2.1, h.2.2.1, fun c hc => h.2.2.2 c ((hs c).1 hc)⟩⟩
 refine ⟨hz, ?_⟩
 rcases h with ⟨h1, rfl, rfl⟩ | ⟨h1, h2, rfl⟩
 ·rcases k with ⟨k1, rfl, rfl⟩ | ⟨k1, _, _⟩
  ·exact ⟨rfl, rfl⟩
  ·exact absurd (hz.2 k1) h1
 ·rcases k with ⟨k1, _, _⟩ | ⟨k1, k2, rfl⟩
  ·exact absurd (hz.1 h1) k1
  ·obtain rfl := ((solves_set hs).1 h2).unique k2
   exact ⟨rfl, rfl⟩
set_option maxRecDepth 100000 in
set_option maxHeartbeats 8000000 in
theorem order_any (d : Nat) (w : World) (A : Option Addr) (m me : Nat) (l : List Con) (n : Int) (u : Nat) (hu : u < 256) (hs : Sl (conR (tyR d)) w All (.slice A m me) l) :
  Calls Try.prog 4 #[.slice A m me, .int .i64 n, .int .u8 u] w (TBool w true) := by
 have hln := hs.len
 have HS := hid hs
 have HL := hid hln
 have HFEW := hid (few_any d w A m me l hs)
 obtain ⟨i0, hi0, hz0, hz1, hz2⟩ := info_parts info_con32
 have HI := hid hi0
 have HZ0 := hid hz0
 have HZ1 := hid hz1
 have HZ2 := hid hz2
 clear hs hln hi0 hz0 hz1 hz2
 go_enter Try.func4, Try.ntmps4
 go_wp2_with fail
 refine HFEW.out.mono ?_
 rintro e w1 ⟨b, rfl, hx1, hb⟩
 have HX1 := hid hx1
 have HB := hid hb
 clear hx1 hb
 cases b
 case false =>
  go_wp2_with fail
  refine (ex_any w1).mono ?_
  rintro e w2 ⟨rfl, hx2⟩
  have HX2 := hid hx2
  clear hx2
  go_wp2
  go_ret
  exact ⟨rfl, HX1.out.trans HX2.out⟩
 by_cases h12 : n > 12
 ·have g1 : (12 : Int) < n := h12
  go_wp2_with fail
  refine (ex_any w1).mono ?_
  rintro e w2 ⟨rfl, hx2⟩
  have HX2 := hid hx2
  clear hx2
  go_wp2
  go_ret
  exact ⟨rfl, HX1.out.trans HX2.out⟩
 have g1 : ¬ (12 : Int) < n := h12
 have HN12 := hid g1
 have HFW := hid (HB.out rfl)
 clear h12
 obtain ⟨L, hL⟩ : ∃ L, l.length = L := ⟨_, rfl⟩
 obtain rfl : L = m := by have := HL.out; omega
 have HLL := hid hL
 have hsm : L ≤ 16 := by have := HFW.out.1; have := HLL.out; omega
 clear hL
 go_upto_region 4 with fail
 clear g1
 go_wp2
 go_loopw [7, 8] (fun o i wr => ∃ (k : Nat) (B : Option Addr) (cb : Nat), k ≤ L ∧ i = .int .i64 k ∧ o = .slice B k cb ∧ Hid ((rotK l u k).length = k) ∧ Hid (OwnS (conR (tyR d)) wr w1.heap.size 42 (fun b => b < w1.heap.size) (.slice B k cb) (rotK l u k)) ∧ Hid (Ext w1 wr)) (fun _ i _ => L - (intOf i).toNat)
 case atStart => exact ⟨0, none, 0, by omega, rfl, rfl, hid rfl, hid OwnS.nil, hid (Ext.refl _)⟩
 case round =>
  obtain ⟨k, B, cb, hk, rfl, rfl, HQ, HO, HX⟩ := hrel
  obtain ⟨V, hV⟩ : ∃ V, V = wr := ⟨_, rfl⟩
  obtain rfl := hV
  by_cases h1 : k < L
  ·obtain ⟨c, hc⟩ : ∃ c, l[(k + u) % L]? = some c := ⟨_, List.getElem?_eq_getElem (by rw [HLL.out]; exact Nat.mod_lt _ (by omega))⟩
   have HCC := hid hc
   obtain ⟨d', bx, ox, P1, np1, cp1, P2, np2, cp2, hd, rfl, hv1, hbx, -⟩ := (HS.out.ext HX1.out).con_at hc
   obtain ⟨x0, x1, x2, x3, x4, x5, x6, x7, x8, x9⟩ := hbx
   have x0 := HX.out.cell x0
   have x1 := HX.out.cell x1
   have x2 := HX.out.cell x2
   have x3 := HX.out.cell x3
   have x4 := HX.out.cell x4
   have x5 := HX.out.cell x5
   have x6 := HX.out.cell x6
   have x7 := HX.out.cell x7
   have x8 := HX.out.cell x8
   have x9 := HX.out.cell x9
   have hrel : (conR (tyR d)).rel V (fun b => b < w1.heap.size ∧ some b ≠ (Value.slice B k cb).ownBlock) [.int .i64 c.kind, .int .i64 c.a, .int .i64 c.b, .int .i64 c.off, .int .i64 c.width, .int .i64 c.type.kind, .int .i64 c.type.size, .int .i64 c.type.count, .slice P1 np1 cp1, .slice P2 np2 cp2] c := by
    subst hd
    refine (conR (tyR (d' + 1))).ext HX.out ((conR (tyR (d' + 1))).mono (fun b _ hi => ⟨hi.lt, fun e => ?_⟩) (con_rel.2 hv1))
    have h6 := (HO.out.block b e.symm).1
    have h7 := hi.lt
    omega
   have HRL := hid hrel
   have i1 : (k : Int) < (L : Int) := by omega
   have e1 : IntKind.i64.wrap ((k : Int) + (u : Int)) = ((k + u : Nat) : Int) := (IntWalk.i64_in _ (by omega)).trans (by omega)
   have b0 : (0 : Int) ≤ ((k : Int) + (u : Int)) % (L : Int) := Int.emod_nonneg _ (by omega)
   have b1 : ((k : Int) + (u : Int)) % (L : Int) < (L : Int) := Int.emod_lt_of_pos _ (by omega)
   clear hrel hv1 hd hc
   go_wp2_with (first
    | (at_builtin; refine wpList_app1l rfl (.tmp 27) (.tmp 38) 22 rfl w1.heap.size 42 i0 _ 10 112 Try.underlying22 HI.out HZ0.out HZ1.out HZ2.out rfl (conR (tyR d)) (conR_size _) (.slice B k cb) (rotK l u k) rfl HO.out V.heap.size rfl c rfl HRL.out (by have := HQ.out; omega) (by have := HQ.out; omega) HX.out.size ?_; intro A9 c9 w9 ho9 hg9 hl9; rw [HQ.out] at ho9; rw [HQ.out]; have HO9 := hid ho9; have HG9 := hid hg9; clear ho9 hg9 hl9)
    | fail)
   first
    | go_roundw
    | refine ⟨?rel, ?measure⟩
   case rel => exact ⟨k + 1, A9, c9, by omega, by go_num, rfl, hid (by rw [rotK_step (by rw [HLL.out]; exact HCC.out), List.length_append, HQ.out]; rfl), hid (by rw [rotK_step (by rw [HLL.out]; exact HCC.out)]; exact HO9.out), hid ((HX.out.alloc _).grown HG9.out (fun q hq => (HO.out.block q hq).1))⟩
   case measure => simp [intOf]; omega
  ·obtain rfl : k = L := by omega
   have i1 : ¬ (k : Int) < (k : Int) := by omega
   have hmem : ∀ c, c ∈ rotK l u k ↔ c ∈ l := fun c => by rw [← HLL.out]; exact rotK_mem
   obtain ⟨R, hR⟩ : ∃ R, rotK l u k = R := ⟨_, rfl⟩
   rw [hR] at hmem HQ HO
   have HM := hid hmem
   have hrl := HQ.out
   have HSM := hid HO.out.sl
   rw [← hrl] at HSM
   have HRL := hid hrl
   have HFR : Hid (R.length ≤ 16 ∧ ∀ c ∈ R, shalT c.type 64 = true → cntT c.type ≤ 40) := hid ⟨by omega, fun c hc => HFW.out.2 c ((hmem c).1 hc)⟩
   have HXV := hid (HX1.out.trans HX.out)
   clear hmem hR hrl h1
   go_wp2_with fail
   refine (cons_any d V A k me l (HS.out.ext HXV.out) (by omega)).mono ?_
   rintro e w2 ⟨A2, c2, rfl, hl2, hx2⟩
   have HS2 := hid hl2
   have HX2 := hid hx2
   clear hx2 hl2
   go_wp2_with fail
   refine (solve_any d w2 A2 l.length c2 l n HS2.out (few_cnt HFW.out)).mono ?_
   rintro e w3 hsv
   obtain ⟨A3, n3, c3, B3, m3, e3, dd3, ts, bs, rfl, hst, hsb, hx3, hou⟩ := solvedU hsv
   have HST := hid hst
   have HSB := hid hsb
   have HX3 := hid hx3
   have HOU := hid hou
   obtain ⟨ck, hck⟩ : ∃ ck, checkC l n = ck := ⟨_, rfl⟩
   rw [hck]
   have HCK := hid hck
   clear hsv hst hsb hx3 hou hck
   obtain ⟨WN4, hW5⟩ : ∃ W5, (w3).alloc (.cells #[.slice none 0 0, .slice none 0 0] 30) = W5 := ⟨_, rfl⟩
   have hB5 : Box2 WN4 (w3).heap.size (.slice none 0 0) (.slice none 0 0) := by rw [← hW5]; exact Box2.new w3 _ _ _
   have hE5 : Ext w3 WN4 := by rw [← hW5]; exact (Ext.refl _).alloc _
   obtain ⟨WS4, hW6, hB6, hH6, hS6, hX6⟩ := box2_set hB5 (.slice A3 n3 c3) (.slice B3 m3 e3)
   have HXS4 := hid (hX6 w3 hE5 (Nat.le_refl _))
   have HWS4 := hid hW6
   have HBS4 := hid hB6
   obtain ⟨z0, z1, zf⟩ := hB5
   have f0 := zf 0
   have f1 := zf 1
   obtain ⟨t0, t1, -⟩ := hB6
   clear hE5 hW6 hH6 hS6 hX6 zf
   go_upto_region 9 with fail
   rw [HWS4.out]
   clear z0 z1 f0 f1 hW5
   clear t0 t1
   have HSM4 := hid (HSM.out.ext (HX2.out.trans (HX3.out.trans HXS4.out)))
   go_wp2_with fail
   rw [← HRL.out]
   refine (cons_any d WS4 B R.length cb R HSM4.out (by have := HFR.out.1; omega)).mono ?_
   rintro e w4 ⟨A4, c4, rfl, hl4, hx4⟩
   have HS4 := hid hl4
   have HX4 := hid hx4
   clear hx4 hl4
   go_wp2_with fail
   refine (solve_any d w4 A4 R.length c4 R n HS4.out (few_cnt HFR.out)).mono ?_
   rintro e w5 hsv
   obtain ⟨A5, n5, c5, B5, m5, e5, dd5, us, cs, rfl, hst, hsb, hx5, hou⟩ := solvedU hsv
   obtain ⟨hk1, rfl, rfl⟩ := outof_same (fun c => (HM.out c).symm) (by have h1 := HLL.out; have h2 := HRL.out; omega) HOU.out hou
   obtain ⟨cl, hcl⟩ : ∃ cl, checkC R n = cl := ⟨_, rfl⟩
   rw [hcl] at hk1 ⊢
   rw [HCK.out] at hk1
   have HST5 := hid hst
   have HSB5 := hid hsb
   have HX5 := hid hx5
   have HKK := hid hk1
   clear hsv hst hsb hx5 hou hcl hk1
   obtain ⟨WN6, hW5⟩ : ∃ W5, (w5).alloc (.cells #[.slice none 0 0, .slice none 0 0] 30) = W5 := ⟨_, rfl⟩
   have hB5 : Box2 WN6 (w5).heap.size (.slice none 0 0) (.slice none 0 0) := by rw [← hW5]; exact Box2.new w5 _ _ _
   have hE5 : Ext w5 WN6 := by rw [← hW5]; exact (Ext.refl _).alloc _
   obtain ⟨WS6, hW6, hB6, hH6, hS6, hX6⟩ := box2_set hB5 (.slice A5 n5 c5) (.slice B5 m5 e5)
   have HXS6 := hid (hX6 w5 hE5 (Nat.le_refl _))
   have HWS6 := hid hW6
   have HBS6 := hid hB6
   obtain ⟨z0, z1, zf⟩ := hB5
   have f0 := zf 0
   have f1 := zf 1
   obtain ⟨t0, t1, -⟩ := hB6
   clear hE5 hW6 hH6 hS6 hX6 zf
   go_upto_region 10 with fail
   rw [HWS6.out]
   clear z0 z1 f0 f1 hW5
   have HXE := hid (HXS4.out.trans (HX4.out.trans (HX5.out.trans HXS6.out)))
   have HXF := hid (HXV.out.trans (HX2.out.trans (HX3.out.trans HXE.out)))
   have HBX := hid (HBS4.out.ext (HX4.out.trans (HX5.out.trans HXS6.out)))
   obtain ⟨s0, s1, -⟩ := HBX.out
   have HTR1 := hid (fun w' => toref_any w' A3 B3 n3 c3 m3 e3)
   have HTR2 := hid (fun w' => toref_any w' A5 B5 n5 c5 m5 e5)
   have HSMM := hid (fun (w' : World) (hx : Ext WS6 w') => same33_any (dd3 + dd5) w' A3 B3 A5 B5 n3 c3 m3 e3 n5 c5 m5 e5 us us cs cs
    (sl_le (d := dd3) (by omega) (HST.out.ext (HXE.out.trans hx))) (sl_le (d := dd5) (by omega) (HST5.out.ext (HXS6.out.trans hx)))
    (HSB.out.ext (HXE.out.trans hx)) (HSB5.out.ext (HXS6.out.trans hx)))
   rw [show (decide (us = us) && decide (cs = cs)) = true from by rw [decide_eq_true rfl, decide_eq_true rfl]; rfl] at HSMM
   have HSK := hid (fun (w' : World) (hx : Ext WS6 w') => (show w'.cell? ⟨w3.heap.size, 0, none⟩ = some (.slice A3 n3 c3) ∧ w'.cell? ⟨w3.heap.size, 1, none⟩ = some (.slice B3 m3 e3) ∧ w'.cell? ⟨w5.heap.size, 0, none⟩ = some (.slice A5 n5 c5) ∧ w'.cell? ⟨w5.heap.size, 1, none⟩ = some (.slice B5 m5 e5) from ⟨hx.cell s0, hx.cell s1, hx.cell t0, hx.cell t1⟩))
   clear s0 s1 t0 t1
   by_cases h0 : ck = 0
   ·obtain rfl : cl = 0 := HKK.out.1 h0
    subst h0
    clear HCK HKK HOU
    have HXg1q_0 := hid ((Ext.refl WS6).drew)
    refine wp_region_held_drew (S := (fun w' => w'.cell? ⟨w3.heap.size, 0, none⟩ = some (.slice A3 n3 c3) ∧ w'.cell? ⟨w3.heap.size, 1, none⟩ = some (.slice B3 m3 e3) ∧ w'.cell? ⟨w5.heap.size, 0, none⟩ = some (.slice A5 n5 c5) ∧ w'.cell? ⟨w5.heap.size, 1, none⟩ = some (.slice B5 m5 e5))) (by kernel_rfl) (HSK.out _ (Ext.refl _).drew) (fun hSg1q0 => ?_)
    refine rgT6 0 1 2 3 4 5 ?_
    refine rgT2 6 8 ?_
    refine wpAnyH_ready (rs := [7]) (by kernel_rfl) (by simp) ?_
    refine (AllReadyH.consL rfl (fun K hK => ?g1qb7x9) AllReadyH.nil)
    case' g1qb7x9 =>
     go_simp
     go_at_call 14
     refine (HTR1.out _).mono ?_
     rintro e w9 ⟨rfl, hEg1q1⟩
     have HXg1q_1 := hid (HXg1q_0.out.trans hEg1q1)
     clear hEg1q1
     refine rgK hK (HSK.out _ HXg1q_1.out) (fun hSg1q1 => ?_)
     clear hK K
     refine wpAnyH_ready (rs := [9]) (by kernel_rfl) (by simp) ?_
     refine (AllReadyH.consL rfl (fun K hK => ?g1qb9x10) AllReadyH.nil)
     case' g1qb9x10 =>
      go_simp
      go_at_call 14
      refine (HTR2.out _).mono ?_
      rintro e w9 ⟨rfl, hEg1q2⟩
      have HXg1q_2 := hid (HXg1q_1.out.trans hEg1q2)
      clear hEg1q2
      refine rgK hK (HSK.out _ HXg1q_2.out) (fun hSg1q2 => ?_)
      clear hK K
      refine wpAnyH_ready (rs := [10]) (by kernel_rfl) (by simp) ?_
      refine (AllReadyH.consL rfl (fun K hK => ?g1qb10x11) AllReadyH.nil)
      case' g1qb10x11 =>
       go_simp
       go_at_call 13
       refine (HSMM.out _ HXg1q_2.out).mono ?_
       rintro e w9 ⟨rfl, hEg1q3⟩
       have HXg1q_3 := hid (HXg1q_2.out.trans hEg1q3)
       clear hEg1q3
       refine rgK hK (HSK.out _ HXg1q_3.out) (fun hSg1q3 => ?_)
       clear hK K
       refine rgT2 11 12 ?_
       refine wpAnyH_ready (rs := [13]) (by kernel_rfl) (by simp) ?_
       refine (AllReadyH.consL rfl (fun K hK => ?g1qb13x14) AllReadyH.nil)
       case' g1qb13x14 =>
        go_simp
        go_at_call 8
        refine (ex_any _).mono ?_
        rintro e w9 ⟨rfl, hEg1q4⟩
        have HXg1q_4 := hid (HXg1q_3.out.trans hEg1q4)
        clear hEg1q4
        refine rgK hK (HSK.out _ HXg1q_4.out) (fun hSg1q4 => ?_)
        clear hK K
        refine rgT2 14 15 ?_
        refine wpAnyH_done (by kernel_rfl) ?_ _
        go_wp2
        go_ret
        first
         | exact ⟨rfl, HXF.out.trans HXg1q_4.out⟩
         | exact ⟨rfl, HXF.out.trans HXg2q_4.out⟩
   ·have h9 : cl ≠ 0 := fun e => h0 (HKK.out.2 e)
    have g1 : ((ck : Int) == 0) = false := by simp; omega
    have g2 : ((cl : Int) == 0) = false := by simp; omega
    clear HKK HCK HOU h0 h9
    have HXg2q_0 := hid ((Ext.refl WS6).drew)
    refine wp_region_held_drew (S := (fun w' => w'.cell? ⟨w3.heap.size, 0, none⟩ = some (.slice A3 n3 c3) ∧ w'.cell? ⟨w3.heap.size, 1, none⟩ = some (.slice B3 m3 e3) ∧ w'.cell? ⟨w5.heap.size, 0, none⟩ = some (.slice A5 n5 c5) ∧ w'.cell? ⟨w5.heap.size, 1, none⟩ = some (.slice B5 m5 e5))) (by kernel_rfl) (HSK.out _ (Ext.refl _).drew) (fun hSg2q0 => ?_)
    refine rgT6 0 1 2 3 4 5 ?_
    refine rgT2 6 8 ?_
    refine wpAnyH_ready (rs := [7]) (by kernel_rfl) (by simp) ?_
    refine (AllReadyH.consL rfl (fun K hK => ?g2qb7x9) AllReadyH.nil)
    case' g2qb7x9 =>
     go_simp
     go_at_call 14
     refine (HTR1.out _).mono ?_
     rintro e w9 ⟨rfl, hEg2q1⟩
     have HXg2q_1 := hid (HXg2q_0.out.trans hEg2q1)
     clear hEg2q1
     refine rgK hK (HSK.out _ HXg2q_1.out) (fun hSg2q1 => ?_)
     clear hK K
     refine wpAnyH_ready (rs := [9]) (by kernel_rfl) (by simp) ?_
     refine (AllReadyH.consL rfl (fun K hK => ?g2qb9x10) AllReadyH.nil)
     case' g2qb9x10 =>
      go_simp
      go_at_call 14
      refine (HTR2.out _).mono ?_
      rintro e w9 ⟨rfl, hEg2q2⟩
      have HXg2q_2 := hid (HXg2q_1.out.trans hEg2q2)
      clear hEg2q2
      refine rgK hK (HSK.out _ HXg2q_2.out) (fun hSg2q2 => ?_)
      clear hK K
      refine wpAnyH_ready (rs := [10]) (by kernel_rfl) (by simp) ?_
      refine (AllReadyH.consL rfl (fun K hK => ?g2qb10x11) AllReadyH.nil)
      case' g2qb10x11 =>
       go_simp
       go_at_call 13
       refine (HSMM.out _ HXg2q_2.out).mono ?_
       rintro e w9 ⟨rfl, hEg2q3⟩
       have HXg2q_3 := hid (HXg2q_2.out.trans hEg2q3)
       clear hEg2q3
       refine rgK hK (HSK.out _ HXg2q_3.out) (fun hSg2q3 => ?_)
       clear hK K
       refine rgT2 11 12 ?_
       refine wpAnyH_ready (rs := [13]) (by kernel_rfl) (by simp) ?_
       refine (AllReadyH.consL rfl (fun K hK => ?g2qb13x14) AllReadyH.nil)
       case' g2qb13x14 =>
        go_simp
        go_at_call 8
        refine (ex_any _).mono ?_
        rintro e w9 ⟨rfl, hEg2q4⟩
        have HXg2q_4 := hid (HXg2q_3.out.trans hEg2q4)
        clear hEg2q4
        refine rgK hK (HSK.out _ HXg2q_4.out) (fun hSg2q4 => ?_)
        clear hK K
        refine rgT2 14 15 ?_
        refine wpAnyH_done (by kernel_rfl) ?_ _
        go_wp2
        go_ret
        first
         | exact ⟨rfl, HXF.out.trans HXg1q_4.out⟩
         | exact ⟨rfl, HXF.out.trans HXg2q_4.out⟩
end Go.Proofs.Ytlmipgdnlfjpaaa
