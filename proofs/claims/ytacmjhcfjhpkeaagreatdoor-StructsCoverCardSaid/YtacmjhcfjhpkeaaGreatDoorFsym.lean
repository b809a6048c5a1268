/- The library's stable sort at symbols: symMerge where one part has one element. The library's stable sort at symbols: symMerge. The library's stable sort at rows of fields: stableCmpFunc, SortStableFunc, of any length. -/
import Derived.Test.YtacmjhcfjhpkeaaGreatDoorFsxm
namespace Go.Proofs.YtacmjhcfjhpkeaaGreatDoor
open Go.RowKit Go.Deco
set_option linter.unusedSimpArgs false
set_option linter.unusedVariables false

set_option maxRecDepth 100000 in
set_option maxHeartbeats 4000000 in
theorem symg_l (wo w : World) (g n c : Nat) (P Y Q : List Raw) (x : Raw) (hx : Ext wo w) (ho : OwnS rawR w wo.heap.size 48 All (.slice (some ⟨g, 0, none⟩) n c) (P ++ (insP Y x 0 ++ Q))) (hY : Srt ltRw Y) (hn : n ≤ 1000000) (a m b : Nat) (ha : a = P.length) (hm : m = P.length + 1) (hb : b = P.length + 1 + Y.length) :
  Calls Tryz.prog 138 #[.slice (some ⟨g, 0, none⟩) n c, .int .i64 a, .int .i64 m, .int .i64 b, .func (.func 83) #[] #[]] w (RowS wo g n c (P ++ (mrg ltRw [x] Y ++ Q))) := by
 have hg := call_ord
 have hln := ho.len
 simp only [List.length_append, insP_len] at hln
 have hgw : wo.heap.size ≤ g := (ho.block g rfl).1
 have HY := hid hY
 have HYL : Hid (m + Y.length = b) := hid (by omega)
 have HAM : Hid (a + 1 = m) := hid (by omega)
 have HAP := hid ha
 have hbn : b ≤ n := by omega
 have hmb : m ≤ b := by omega
 have ham : a < m := by omega
 have w1 : IntKind.i64.wrap ((m : Int) - (a : Int)) = 1 := by rw [IntWalk.i64_in _ (by omega)]; omega
 have HX := hid hx
 have HO := hid ho
 have hcx : (P ++ (insP Y x 0 ++ Q))[a]? = some x := by rw [ha, List.getElem?_append_right (Nat.le_refl _)]; simp [insP_zero]
 have HCX := hid hcx
 clear hx ho hln ha hm hb hY hcx
 go_enter Tryz.func138, Tryz.ntmps138
 go_wp2
 clear w1
 go_loopw [10, 11] (fun s10 s11 wr => ∃ (i j : Nat), m ≤ i ∧ i ≤ j ∧ j ≤ b ∧ s10 = .int .i64 i ∧ s11 = .int .i64 j ∧ Hid (∀ y, i ≠ m → Y[i - m - 1]? = some y → ltRw y x = true) ∧ Hid (∀ y, j ≠ b → Y[j - m]? = some y → ltRw y x = false) ∧ Hid (OwnS rawR wr wo.heap.size 48 All (.slice (some ⟨g, 0, none⟩) n c) (P ++ (insP Y x 0 ++ Q))) ∧ Hid (Ext wo wr)) (fun s10 s11 _ => (intOf s11).toNat - (intOf s10).toNat)
 case atStart => exact ⟨m, b, by omega, hmb, by omega, rfl, rfl, hid (fun y h => absurd rfl h), hid (fun y h => absurd rfl h), HO, HX⟩
 case round =>
  obtain ⟨i, j, hmi, hij, hjb, rfl, rfl, HLO, HHI, HE, HXR⟩ := hrel
  by_cases h1 : i < j
  ·obtain ⟨h, hh⟩ : ∃ h, (i + j) / 2 = h := ⟨_, rfl⟩
   have e2 : ((i : Int) + (j : Int)) / 2 = (h : Int) := by omega
   have hh1 : i ≤ h := by omega
   have hh2 : h < j := by omega
   obtain ⟨y, hy⟩ : ∃ y, Y[h - m]? = some y := ⟨_, List.getElem?_eq_getElem (by have := HYL.out; omega)⟩
   have hdy : (P ++ (insP Y x 0 ++ Q))[h]? = some y := by
    have e : h = P.length + (h - m + 1) := by have := HAP.out; have := HAM.out; omega
    rw [e, List.getElem?_append_right (by omega), Nat.add_sub_cancel_left, insP_zero, List.cons_append, List.getElem?_cons_succ, List.getElem?_append_left (List.getElem?_eq_some_iff.1 hy).1]
    exact hy
   obtain ⟨⟨x0, x1, x2, x3, x4, x5⟩, -, -, -, -, -, -⟩ := raw_cells HE.out HCX.out
   obtain ⟨⟨y0, y1, y2, y3, y4, y5⟩, -, -, -, -, -, -⟩ := raw_cells HE.out hdy
   have i1 : (0 : Int) ≤ (a : Int) := by omega
   have i2 : (a : Int) < (n : Int) := by omega
   have i3 : (0 : Int) ≤ (h : Int) := by omega
   have i4 : (h : Int) < (n : Int) := by omega
   have HYH := hid hy
   obtain ⟨r, hr⟩ : ∃ r, ltRw y x = r := ⟨_, rfl⟩
   have HR := hid hr
   clear hh hy hdy hr
   go_upto_region 5 with fail
   clear e2
   refine wp_region_held_drew (S := (fun w' => w'.cell? ⟨g, a * 6, none⟩ = some (.int .i64 x.off) ∧ w'.cell? ⟨g, a * 6 + 1, none⟩ = some (.int .i64 x.kind) ∧ w'.cell? ⟨g, a * 6 + 2, none⟩ = some (.int .i64 x.size) ∧ w'.cell? ⟨g, a * 6 + 3, none⟩ = some (.int .i64 x.count) ∧ w'.cell? ⟨g, a * 6 + 4, none⟩ = some (.slice x.A x.n x.c) ∧ w'.cell? ⟨g, a * 6 + 5, none⟩ = some (.slice x.B x.m x.e) ∧ w'.cell? ⟨g, h * 6, none⟩ = some (.int .i64 y.off) ∧ w'.cell? ⟨g, h * 6 + 1, none⟩ = some (.int .i64 y.kind) ∧ w'.cell? ⟨g, h * 6 + 2, none⟩ = some (.int .i64 y.size) ∧ w'.cell? ⟨g, h * 6 + 3, none⟩ = some (.int .i64 y.count) ∧ w'.cell? ⟨g, h * 6 + 4, none⟩ = some (.slice y.A y.n y.c) ∧ w'.cell? ⟨g, h * 6 + 5, none⟩ = some (.slice y.B y.m y.e))) (by kernel_rfl) ⟨x0, x1, x2, x3, x4, x5, y0, y1, y2, y3, y4, y5⟩ (fun hSg53q0 => ?_)
   refine rgT6 0 1 2 3 4 5 ?_
   refine rgT3 6 7 8 ?_
   refine rgC 9 (fun K hK => ?_)
   go_simp
   go_at_call 83
   refine (cmp_raw _ y x).mono ?_
   rintro e w6 ⟨⟨z, rfl, hz⟩, hx6⟩
   have HX6 := hid hx6.drew_left
   rw [HR.out] at hz
   clear hx6
   refine rgK hK ⟨HX6.out.cell x0, HX6.out.cell x1, HX6.out.cell x2, HX6.out.cell x3, HX6.out.cell x4, HX6.out.cell x5, HX6.out.cell y0, HX6.out.cell y1, HX6.out.cell y2, HX6.out.cell y3, HX6.out.cell y4, HX6.out.cell y5⟩ (fun hSg53q1 => ?_)
   clear hK K
   refine rgT 10 ?_
   refine wpAnyH_done (by kernel_rfl) ?_ _
   have HE6 := hid (HE.out.ext HX6.out)
   have HXR6 := hid (HXR.out.trans HX6.out)
   cases r with
   | true =>
    have hz' : z < 0 := by simpa using hz
    clear hz
    go_wp2
    first
     | go_roundw
     | refine ⟨?rel, ?measure⟩
    case rel => exact ⟨h + 1, j, by omega, by omega, by omega, by first | rfl | go_num, rfl, hid (fun y' _ hy' => by rw [show h + 1 - m - 1 = h - m by omega, HYH.out] at hy'; cases hy'; exact HR.out), HHI, HE6, HXR6⟩
    case measure => simp [intOf]; omega
   | false =>
    have hz' : ¬ z < 0 := by simpa using hz
    clear hz
    go_wp2
    first
     | go_roundw
     | refine ⟨?rel, ?measure⟩
    case rel => exact ⟨i, h, by omega, by omega, by omega, rfl, by first | rfl | go_num, HLO, hid (fun y' _ hy' => by rw [HYH.out] at hy'; cases hy'; exact HR.out), HE6, HXR6⟩
    case measure => simp [intOf]; omega
  ·obtain rfl : i = j := by omega
   obtain ⟨s, hs⟩ : ∃ s, i - m = s := ⟨_, rfl⟩
   have hin : mrg ltRw [x] Y = insP Y x s := by
    rw [← hs]
    exact mrg_one_l weakRw HY.out (by have := HYL.out; omega) (fun y h0 hy => HLO.out y (by omega) hy) (fun y hy => HHI.out y (fun e => by
     have := (List.getElem?_eq_some_iff.1 hy).1
     have := HYL.out
     omega) hy)
   have HIN := hid hin
   have HSI : Hid (m + s = i) := hid (by omega)
   obtain ⟨i', hi'⟩ : ∃ i', i - 1 = i' := ⟨_, rfl⟩
   have w2 : IntKind.i64.wrap ((i : Int) - 1) = (i' : Int) := by rw [IntWalk.i64_in _ (by omega)]; omega
   have HI' : Hid (a + s = i') := hid (by have := HAM.out; have := HSI.out; omega)
   have hi'n : i' < n := by omega
   clear hs hin hi'
   have hU : ∃ U, U = wr := ⟨_, rfl⟩
   obtain ⟨U, rfl⟩ := hU
   go_wp2
   go_loopw [13] (fun s13 wr => ∃ (p k : Nat), p ≤ s ∧ k ≤ n ∧ s13 = .int .i64 k ∧ Hid (a + p = k) ∧ Hid (OwnS rawR wr wo.heap.size 48 All (.slice (some ⟨g, 0, none⟩) n c) (P ++ (insP Y x p ++ Q))) ∧ Hid (Ext wo wr)) (fun s13 _ => n - (intOf s13).toNat)
   case atStart => exact ⟨0, a, by omega, by omega, rfl, hid rfl, HE, HXR⟩
   case round =>
    obtain ⟨p, k, hp, hk, rfl, HPK, HE2, HXR2⟩ := hrel
    by_cases h2 : k < i'
    ·obtain ⟨y, hy⟩ : ∃ y, Y[p]? = some y := ⟨_, List.getElem?_eq_getElem (by have := HYL.out; have := HSI.out; have := HI'.out; have := HPK.out; omega)⟩
     obtain ⟨m1, m2, m3⟩ := move_up (P := P) (R := Q) (x := x) hy
     have hk0 : P.length + p = k := by have := HPK.out; have := HAP.out; omega
     obtain ⟨k1, hk1⟩ : ∃ k1, k + 1 = k1 := ⟨_, rfl⟩
     rw [hk0] at m1 m2 m3
     rw [hk1] at m2 m3
     have HMV := hid m3
     have hps : p + 1 ≤ s := by have := HI'.out; have := HPK.out; omega
     obtain ⟨E, hE⟩ : ∃ E, P ++ (insP Y x p ++ Q) = E := ⟨_, rfl⟩
     rw [hE] at m1 m2 HE2 HMV
     have HE := HE2
     have HXR := HXR2
     have ey := m1
     have ex := m2
     obtain ⟨⟨x0, x1, x2, x3, x4, x5⟩, f0, f1, f2, f3, f4, f5⟩ := raw_cells HE.out ex
     obtain ⟨⟨y0, y1, y2, y3, y4, y5⟩, g0, g1, g2, g3, g4, g5⟩ := raw_cells HE.out ey
     have w9 : IntKind.i64.wrap ((k : Int) + 1) = (k1 : Int) := by rw [IntWalk.i64_in _ (by omega)]; omega
     have i1 : (0 : Int) ≤ (k : Int) := by omega
     have i2 : (k : Int) < (n : Int) := by omega
     have i3 : (0 : Int) ≤ (k1 : Int) := by omega
     have hk1n : k1 < n := by omega
     have i4 : (k1 : Int) < (n : Int) := by omega
     have hpq : k ≠ k1 := by omega
     have hkk : k < k1 := by omega
     have HK1 : Hid (a + (p + 1) = k1) := hid (by have := HPK.out; omega)
     clear hy hk0 hk1 hE m1 m2 m3
     have hokx := rawP.own_ok HE.out y (List.mem_of_getElem? ex)
     have hoky := rawP.own_ok HE.out x (List.mem_of_getElem? ey)
     obtain ⟨W1, hW1⟩ : ∃ W1, (((((wr.setCell ⟨g, k * 6, none⟩ (.int .i64 y.off)).setCell ⟨g, k * 6 + 1, none⟩ (.int .i64 y.kind)).setCell ⟨g, k * 6 + 2, none⟩ (.int .i64 y.size)).setCell ⟨g, k * 6 + 3, none⟩ (.int .i64 y.count)).setCell ⟨g, k * 6 + 4, none⟩ (.slice y.A y.n y.c)).setCell ⟨g, k * 6 + 5, none⟩ (.slice y.B y.m y.e) = W1 := ⟨_, rfl⟩
     have ho1 := raw_put HE.out ey hokx
     rw [hW1] at ho1
     have ex1 : (E.set k y)[k1]? = some y := by rw [List.getElem?_set_ne hpq]; exact ex
     obtain ⟨⟨u0, u1, u2, u3, u4, u5⟩, v0, v1, v2, v3, v4, v5⟩ := raw_cells ho1 ex1
     obtain ⟨W2, hW2⟩ : ∃ W2, (((((W1.setCell ⟨g, k1 * 6, none⟩ (.int .i64 x.off)).setCell ⟨g, k1 * 6 + 1, none⟩ (.int .i64 x.kind)).setCell ⟨g, k1 * 6 + 2, none⟩ (.int .i64 x.size)).setCell ⟨g, k1 * 6 + 3, none⟩ (.int .i64 x.count)).setCell ⟨g, k1 * 6 + 4, none⟩ (.slice x.A x.n x.c)).setCell ⟨g, k1 * 6 + 5, none⟩ (.slice x.B x.m x.e) = W2 := ⟨_, rfl⟩
     have ho2 := raw_put ho1 ex1 hoky
     rw [hW2] at ho2
     have hx1 : Ext wo W1 := by rw [← hW1]; exact (((((HXR.out.setCell (p := ⟨g, k * 6, none⟩) hgw _).setCell (p := ⟨g, k * 6 + 1, none⟩) hgw _).setCell (p := ⟨g, k * 6 + 2, none⟩) hgw _).setCell (p := ⟨g, k * 6 + 3, none⟩) hgw _).setCell (p := ⟨g, k * 6 + 4, none⟩) hgw _).setCell (p := ⟨g, k * 6 + 5, none⟩) hgw _
     have hx2 : Ext wo W2 := by rw [← hW2]; exact (((((hx1.setCell (p := ⟨g, k1 * 6, none⟩) hgw _).setCell (p := ⟨g, k1 * 6 + 1, none⟩) hgw _).setCell (p := ⟨g, k1 * 6 + 2, none⟩) hgw _).setCell (p := ⟨g, k1 * 6 + 3, none⟩) hgw _).setCell (p := ⟨g, k1 * 6 + 4, none⟩) hgw _).setCell (p := ⟨g, k1 * 6 + 5, none⟩) hgw _
     have HO2 := hid ho2
     have HX2 := hid hx2
     clear hokx hoky ho1 ex1 ho2 hx1 hx2
     go_upto_region 11 with fail
     have HXg54q_0 := hid ((Ext.refl wr).drew)
     refine wp_region_held_drew (S := (fun w' => True)) (by kernel_rfl) trivial (fun hSg54q0 => ?_)
     refine rgT6 0 1 2 3 4 5 ?_
     refine rgT6 6 7 8 10 11 12 ?_
     refine wpAnyH_ready (rs := [9, 13]) (by kernel_rfl) (by simp) ?_
     refine (AllReadyH.consL rfl (fun K hK => ?g54qb9x13) (AllReadyH.consL rfl (fun K hK => ?g54qb13x13) AllReadyH.nil))
     case' g54qb9x13 =>
      have hEg54q1 := Ext.refl wr.drew
      go_simp
      have HXg54q_1 := hid (HXg54q_0.out.trans hEg54q1)
      clear hEg54q1
      refine rgK hK (keepT HXg54q_1.out) (fun hSg54q1 => ?_)
      clear hK K
      refine wpAnyH_ready (rs := [13]) (by kernel_rfl) (by simp) ?_
      refine (AllReadyH.consL rfl (fun K hK => ?g54qb13x14) AllReadyH.nil)
      case' g54qb13x14 =>
       have hEg54q2 := Ext.refl wr.drew
       go_simp
       have HXg54q_2 := hid (HXg54q_1.out.trans hEg54q2)
       clear hEg54q2
       refine rgK hK (keepT HXg54q_2.out) (fun hSg54q2 => ?_)
       clear hK K
       refine rgT 14 ?_
       refine wpAnyH_ready (rs := [15]) (by kernel_rfl) (by simp) ?_
       refine (AllReadyH.consL rfl (fun K hK => ?g54qb15x16) AllReadyH.nil)
       case' g54qb15x16 =>
        go_simp
        refine rgK hK trivial (fun hSg54q3 => ?_)
        clear hK K
        refine rgT 16 ?_
        refine wpAnyH_ready (rs := [17]) (by kernel_rfl) (by simp) ?_
        refine (AllReadyH.consL rfl (fun K hK => ?g54qb17x18) AllReadyH.nil)
        case' g54qb17x18 =>
         go_simp
         refine rgK hK trivial (fun hSg54q4 => ?_)
         clear hK K
         refine wpAnyH_done (by kernel_rfl) ?_ _
         go_wp2
         first
          | go_roundw
          | refine ⟨?rel, ?measure⟩
         case rel =>
          refine ⟨p + 1, k1, hps, by omega, by first | rfl | go_num, HK1, hid ?_, hid HX2.out.drew⟩
          have h := HO2.out.dr
          rw [HMV.out] at h
          exact h
         case measure => simp [intOf]; omega
     case' g54qb13x13 =>
      have hEg54q1 := Ext.refl wr.drew
      go_simp
      have HXg54q_1 := hid (HXg54q_0.out.trans hEg54q1)
      clear hEg54q1
      refine rgK hK (keepT HXg54q_1.out) (fun hSg54q1 => ?_)
      clear hK K
      refine wpAnyH_ready (rs := [9]) (by kernel_rfl) (by simp) ?_
      refine (AllReadyH.consL rfl (fun K hK => ?g54qb9x19) AllReadyH.nil)
      case' g54qb9x19 =>
       have hEg54q2 := Ext.refl wr.drew
       go_simp
       have HXg54q_2 := hid (HXg54q_1.out.trans hEg54q2)
       clear hEg54q2
       refine rgK hK (keepT HXg54q_2.out) (fun hSg54q2 => ?_)
       clear hK K
       refine rgT 14 ?_
       refine wpAnyH_ready (rs := [15]) (by kernel_rfl) (by simp) ?_
       refine (AllReadyH.consL rfl (fun K hK => ?g54qb15x21) AllReadyH.nil)
       case' g54qb15x21 =>
        go_simp
        refine rgK hK trivial (fun hSg54q3 => ?_)
        clear hK K
        refine rgT 16 ?_
        refine wpAnyH_ready (rs := [17]) (by kernel_rfl) (by simp) ?_
        refine (AllReadyH.consL rfl (fun K hK => ?g54qb17x23) AllReadyH.nil)
        case' g54qb17x23 =>
         go_simp
         refine rgK hK trivial (fun hSg54q4 => ?_)
         clear hK K
         refine wpAnyH_done (by kernel_rfl) ?_ _
         go_wp2
         first
          | go_roundw
          | refine ⟨?rel, ?measure⟩
         case rel =>
          refine ⟨p + 1, k1, hps, by omega, by first | rfl | go_num, HK1, hid ?_, hid HX2.out.drew⟩
          have h := HO2.out.dr
          rw [HMV.out] at h
          exact h
         case measure => simp [intOf]; omega
    ·have hps : p = s := by have := HI'.out; have := HPK.out; omega
     subst hps
     have HF : Hid (OwnS rawR wr wo.heap.size 48 All (.slice (some ⟨g, 0, none⟩) n c) (P ++ (mrg ltRw [x] Y ++ Q))) := hid (by rw [HIN.out]; exact HE2.out)
     go_wp2
     (try simp only [Exit.inBlock, Exit.then])
     refine bodyPost_ret (results_none rfl _ _ _) rfl ?_
     exact ⟨rfl, HXR2.out, HF.out⟩

set_option maxRecDepth 100000 in
set_option maxHeartbeats 4000000 in
theorem symg_r (wo w : World) (g n c : Nat) (P X Q : List Raw) (y : Raw) (hx : Ext wo w) (ho : OwnS rawR w wo.heap.size 48 All (.slice (some ⟨g, 0, none⟩) n c) (P ++ (insP X y X.length ++ Q))) (hX : Srt ltRw X) (hX1 : X.length ≠ 1) (hn : n ≤ 1000000) (a m b : Nat) (ha : a = P.length) (hm : m = P.length + X.length) (hb : b = P.length + X.length + 1) :
  Calls Tryz.prog 138 #[.slice (some ⟨g, 0, none⟩) n c, .int .i64 a, .int .i64 m, .int .i64 b, .func (.func 83) #[] #[]] w (RowS wo g n c (P ++ (mrg ltRw X [y] ++ Q))) := by
 have hg := call_ord
 have hln := ho.len
 simp only [List.length_append, insP_len] at hln
 have hgw : wo.heap.size ≤ g := (ho.block g rfl).1
 have HXS := hid hX
 have HXL : Hid (a + X.length = m) := hid (by omega)
 have HAP := hid ha
 have hbn : m < n := by omega
 have ham : a ≤ m := by omega
 obtain ⟨x1, hx1⟩ : ∃ x1, m - a = x1 := ⟨_, rfl⟩
 have hx1' : x1 ≠ 1 := by omega
 have w1 : IntKind.i64.wrap ((m : Int) - (a : Int)) = (x1 : Int) := by rw [IntWalk.i64_in _ (by omega)]; omega
 have n1 : ((x1 : Int) == 1) = false := by simp; omega
 have w2 : IntKind.i64.wrap ((b : Int) - (m : Int)) = 1 := by rw [IntWalk.i64_in _ (by omega)]; omega
 have HXX := hid hx
 have HO := hid ho
 have hcy : (P ++ (insP X y X.length ++ Q))[m]? = some y := by rw [hm, insP_all, List.getElem?_append_right (by omega), Nat.add_sub_cancel_left, List.append_assoc, List.getElem?_append_right (Nat.le_refl _)]; simp
 have HCY := hid hcy
 clear hx ho hln ha hm hb hX hcy hX1 hx1 hx1'
 go_enter Tryz.func138, Tryz.ntmps138
 go_wp2
 clear w1 w2 n1
 go_loopw [14, 15] (fun s14 s15 wr => ∃ (i j : Nat), a ≤ i ∧ i ≤ j ∧ j ≤ m ∧ s14 = .int .i64 i ∧ s15 = .int .i64 j ∧ Hid (∀ x, i ≠ a → X[i - a - 1]? = some x → ltRw y x = false) ∧ Hid (∀ x, j ≠ m → X[j - a]? = some x → ltRw y x = true) ∧ Hid (OwnS rawR wr wo.heap.size 48 All (.slice (some ⟨g, 0, none⟩) n c) (P ++ (insP X y X.length ++ Q))) ∧ Hid (Ext wo wr)) (fun s14 s15 _ => (intOf s15).toNat - (intOf s14).toNat)
 case atStart => exact ⟨a, m, by omega, ham, by omega, rfl, rfl, hid (fun y h => absurd rfl h), hid (fun y h => absurd rfl h), HO, HXX⟩
 case round =>
  obtain ⟨i, j, hmi, hij, hjb, rfl, rfl, HLO, HHI, HE, HXR⟩ := hrel
  by_cases h1 : i < j
  ·obtain ⟨h, hh⟩ : ∃ h, (i + j) / 2 = h := ⟨_, rfl⟩
   have e2 : ((i : Int) + (j : Int)) / 2 = (h : Int) := by omega
   have hh1 : i ≤ h := by omega
   have hh2 : h < j := by omega
   obtain ⟨x, hx⟩ : ∃ x, X[h - a]? = some x := ⟨_, List.getElem?_eq_getElem (by have := HXL.out; omega)⟩
   have hdx : (P ++ (insP X y X.length ++ Q))[h]? = some x := by
    have e : h = P.length + (h - a) := by have := HAP.out; omega
    rw [e, List.getElem?_append_right (by omega), Nat.add_sub_cancel_left, insP_all, List.append_assoc, List.getElem?_append_left (List.getElem?_eq_some_iff.1 hx).1]
    exact hx
   obtain ⟨⟨y0, y1, y2, y3, y4, y5⟩, -, -, -, -, -, -⟩ := raw_cells HE.out HCY.out
   obtain ⟨⟨x0, x1, x2, x3, x4, x5⟩, -, -, -, -, -, -⟩ := raw_cells HE.out hdx
   have i1 : (0 : Int) ≤ (m : Int) := by omega
   have i2 : (m : Int) < (n : Int) := by omega
   have i3 : (0 : Int) ≤ (h : Int) := by omega
   have i4 : (h : Int) < (n : Int) := by omega
   have HXH := hid hx
   obtain ⟨r, hr⟩ : ∃ r, ltRw y x = r := ⟨_, rfl⟩
   have HR := hid hr
   clear hh hx hdx hr
   go_upto_region 17 with fail
   clear e2
   refine wp_region_held_drew (S := (fun w' => w'.cell? ⟨g, m * 6, none⟩ = some (.int .i64 y.off) ∧ w'.cell? ⟨g, m * 6 + 1, none⟩ = some (.int .i64 y.kind) ∧ w'.cell? ⟨g, m * 6 + 2, none⟩ = some (.int .i64 y.size) ∧ w'.cell? ⟨g, m * 6 + 3, none⟩ = some (.int .i64 y.count) ∧ w'.cell? ⟨g, m * 6 + 4, none⟩ = some (.slice y.A y.n y.c) ∧ w'.cell? ⟨g, m * 6 + 5, none⟩ = some (.slice y.B y.m y.e) ∧ w'.cell? ⟨g, h * 6, none⟩ = some (.int .i64 x.off) ∧ w'.cell? ⟨g, h * 6 + 1, none⟩ = some (.int .i64 x.kind) ∧ w'.cell? ⟨g, h * 6 + 2, none⟩ = some (.int .i64 x.size) ∧ w'.cell? ⟨g, h * 6 + 3, none⟩ = some (.int .i64 x.count) ∧ w'.cell? ⟨g, h * 6 + 4, none⟩ = some (.slice x.A x.n x.c) ∧ w'.cell? ⟨g, h * 6 + 5, none⟩ = some (.slice x.B x.m x.e))) (by kernel_rfl) ⟨y0, y1, y2, y3, y4, y5, x0, x1, x2, x3, x4, x5⟩ (fun hSg55q0 => ?_)
   refine rgT6 0 1 2 3 4 5 ?_
   refine rgT3 6 7 8 ?_
   refine rgC 9 (fun K hK => ?_)
   go_simp
   go_at_call 83
   refine (cmp_raw _ y x).mono ?_
   rintro e w6 ⟨⟨z, rfl, hz⟩, hx6⟩
   have HX6 := hid hx6.drew_left
   rw [HR.out] at hz
   clear hx6
   refine rgK hK ⟨HX6.out.cell y0, HX6.out.cell y1, HX6.out.cell y2, HX6.out.cell y3, HX6.out.cell y4, HX6.out.cell y5, HX6.out.cell x0, HX6.out.cell x1, HX6.out.cell x2, HX6.out.cell x3, HX6.out.cell x4, HX6.out.cell x5⟩ (fun hSg55q1 => ?_)
   clear hK K
   refine rgT2 10 11 ?_
   refine wpAnyH_done (by kernel_rfl) ?_ _
   have HE6 := hid (HE.out.ext HX6.out)
   have HXR6 := hid (HXR.out.trans HX6.out)
   cases r with
   | false =>
    have hz' : ¬ z < 0 := by simpa using hz
    clear hz
    go_wp2
    first
     | go_roundw
     | refine ⟨?rel, ?measure⟩
    case rel => exact ⟨h + 1, j, by omega, by omega, by omega, by first | rfl | go_num, rfl, hid (fun y' _ hy' => by rw [show h + 1 - a - 1 = h - a by omega, HXH.out] at hy'; cases hy'; exact HR.out), HHI, HE6, HXR6⟩
    case measure => simp [intOf]; omega
   | true =>
    have hz' : z < 0 := by simpa using hz
    clear hz
    go_wp2
    first
     | go_roundw
     | refine ⟨?rel, ?measure⟩
    case rel => exact ⟨i, h, by omega, by omega, by omega, rfl, by first | rfl | go_num, HLO, hid (fun y' _ hy' => by rw [HXH.out] at hy'; cases hy'; exact HR.out), HE6, HXR6⟩
    case measure => simp [intOf]; omega
  ·obtain rfl : i = j := by omega
   obtain ⟨s, hs⟩ : ∃ s, i - a = s := ⟨_, rfl⟩
   have hin : mrg ltRw X [y] = insP X y s := by
    rw [← hs]
    exact mrg_one_r weakRw HXS.out (by have := HXL.out; omega) (fun x h0 hx => HLO.out x (by omega) hx) (fun x hx => HHI.out x (fun e => by
     have := (List.getElem?_eq_some_iff.1 hx).1
     have := HXL.out
     omega) hx)
   have HIN := hid hin
   have HSI : Hid (a + s = i) := hid (by omega)
   clear hs hin
   have hU : ∃ U, U = wr := ⟨_, rfl⟩
   obtain ⟨U, rfl⟩ := hU
   go_wp2
   go_loopw [17] (fun s17 wr => ∃ (p k : Nat), s ≤ p ∧ k ≤ m ∧ s17 = .int .i64 k ∧ Hid (a + p = k) ∧ Hid (OwnS rawR wr wo.heap.size 48 All (.slice (some ⟨g, 0, none⟩) n c) (P ++ (insP X y p ++ Q))) ∧ Hid (Ext wo wr)) (fun s17 _ => (intOf s17).toNat)
   case atStart => exact ⟨X.length, m, by have := HXL.out; have := HSI.out; omega, by omega, rfl, HXL, HE, HXR⟩
   case round =>
    obtain ⟨p, k, hp, hk, rfl, HPK, HE2, HXR2⟩ := hrel
    by_cases h2 : i < k
    ·obtain ⟨p', rfl⟩ : ∃ p', p = p' + 1 := ⟨p - 1, by have := HPK.out; have := HSI.out; omega⟩
     obtain ⟨x, hx⟩ : ∃ x, X[p']? = some x := ⟨_, List.getElem?_eq_getElem (by have := HXL.out; have := HPK.out; omega)⟩
     obtain ⟨m1, m2, m3⟩ := move_down (P := P) (R := Q) (x := y) hx
     obtain ⟨k1, hk1⟩ : ∃ k1, P.length + p' = k1 := ⟨_, rfl⟩
     have hk0 : k1 + 1 = k := by have := HPK.out; have := HAP.out; omega
     rw [hk1] at m1 m2 m3
     rw [hk0] at m2 m3
     have HMV := hid m3
     have hps : s ≤ p' := by have := HSI.out; have := HPK.out; omega
     obtain ⟨E, hE⟩ : ∃ E, P ++ (insP X y (p' + 1) ++ Q) = E := ⟨_, rfl⟩
     rw [hE] at m1 m2 HE2 HMV
     have HE := HE2
     have HXR := HXR2
     have ey := m2
     have ex := m1
     obtain ⟨⟨x0, x1, x2, x3, x4, x5⟩, f0, f1, f2, f3, f4, f5⟩ := raw_cells HE.out ex
     obtain ⟨⟨y0, y1, y2, y3, y4, y5⟩, g0, g1, g2, g3, g4, g5⟩ := raw_cells HE.out ey
     have w9 : IntKind.i64.wrap ((k : Int) - 1) = (k1 : Int) := by rw [IntWalk.i64_in _ (by omega)]; omega
     have i1 : (0 : Int) ≤ (k : Int) := by omega
     have i2 : (k : Int) < (n : Int) := by omega
     have i3 : (0 : Int) ≤ (k1 : Int) := by omega
     have hk1n : k1 < n := by omega
     have i4 : (k1 : Int) < (n : Int) := by omega
     have hpq : k ≠ k1 := by omega
     have hkk : k1 < k := by omega
     have HK1 : Hid (a + p' = k1) := hid (by have := HAP.out; omega)
     clear hx hk0 hk1 hE m1 m2 m3
     have hokx := rawP.own_ok HE.out x (List.mem_of_getElem? ex)
     have hoky := rawP.own_ok HE.out y (List.mem_of_getElem? ey)
     obtain ⟨W1, hW1⟩ : ∃ W1, (((((wr.setCell ⟨g, k * 6, none⟩ (.int .i64 x.off)).setCell ⟨g, k * 6 + 1, none⟩ (.int .i64 x.kind)).setCell ⟨g, k * 6 + 2, none⟩ (.int .i64 x.size)).setCell ⟨g, k * 6 + 3, none⟩ (.int .i64 x.count)).setCell ⟨g, k * 6 + 4, none⟩ (.slice x.A x.n x.c)).setCell ⟨g, k * 6 + 5, none⟩ (.slice x.B x.m x.e) = W1 := ⟨_, rfl⟩
     have ho1 := raw_put HE.out ey hokx
     rw [hW1] at ho1
     have ex1 : (E.set k x)[k1]? = some x := by rw [List.getElem?_set_ne hpq]; exact ex
     obtain ⟨⟨u0, u1, u2, u3, u4, u5⟩, v0, v1, v2, v3, v4, v5⟩ := raw_cells ho1 ex1
     obtain ⟨W2, hW2⟩ : ∃ W2, (((((W1.setCell ⟨g, k1 * 6, none⟩ (.int .i64 y.off)).setCell ⟨g, k1 * 6 + 1, none⟩ (.int .i64 y.kind)).setCell ⟨g, k1 * 6 + 2, none⟩ (.int .i64 y.size)).setCell ⟨g, k1 * 6 + 3, none⟩ (.int .i64 y.count)).setCell ⟨g, k1 * 6 + 4, none⟩ (.slice y.A y.n y.c)).setCell ⟨g, k1 * 6 + 5, none⟩ (.slice y.B y.m y.e) = W2 := ⟨_, rfl⟩
     have ho2 := raw_put ho1 ex1 hoky
     rw [hW2] at ho2
     have hx1 : Ext wo W1 := by rw [← hW1]; exact (((((HXR.out.setCell (p := ⟨g, k * 6, none⟩) hgw _).setCell (p := ⟨g, k * 6 + 1, none⟩) hgw _).setCell (p := ⟨g, k * 6 + 2, none⟩) hgw _).setCell (p := ⟨g, k * 6 + 3, none⟩) hgw _).setCell (p := ⟨g, k * 6 + 4, none⟩) hgw _).setCell (p := ⟨g, k * 6 + 5, none⟩) hgw _
     have hx2 : Ext wo W2 := by rw [← hW2]; exact (((((hx1.setCell (p := ⟨g, k1 * 6, none⟩) hgw _).setCell (p := ⟨g, k1 * 6 + 1, none⟩) hgw _).setCell (p := ⟨g, k1 * 6 + 2, none⟩) hgw _).setCell (p := ⟨g, k1 * 6 + 3, none⟩) hgw _).setCell (p := ⟨g, k1 * 6 + 4, none⟩) hgw _).setCell (p := ⟨g, k1 * 6 + 5, none⟩) hgw _
     have HO2 := hid ho2
     have HX2 := hid hx2
     clear hokx hoky ho1 ex1 ho2 hx1 hx2
     go_upto_region 23 with fail
     have HXg56q_0 := hid ((Ext.refl wr).drew)
     refine wp_region_held_drew (S := (fun w' => True)) (by kernel_rfl) trivial (fun hSg56q0 => ?_)
     refine rgT6 0 1 2 3 4 5 ?_
     refine rgT6 6 7 8 10 11 12 ?_
     refine wpAnyH_ready (rs := [9, 13]) (by kernel_rfl) (by simp) ?_
     refine (AllReadyH.consL rfl (fun K hK => ?g56qb9x13) (AllReadyH.consL rfl (fun K hK => ?g56qb13x13) AllReadyH.nil))
     case' g56qb9x13 =>
      have hEg56q1 := Ext.refl wr.drew
      go_simp
      have HXg56q_1 := hid (HXg56q_0.out.trans hEg56q1)
      clear hEg56q1
      refine rgK hK (keepT HXg56q_1.out) (fun hSg56q1 => ?_)
      clear hK K
      refine wpAnyH_ready (rs := [13]) (by kernel_rfl) (by simp) ?_
      refine (AllReadyH.consL rfl (fun K hK => ?g56qb13x14) AllReadyH.nil)
      case' g56qb13x14 =>
       have hEg56q2 := Ext.refl wr.drew
       go_simp
       have HXg56q_2 := hid (HXg56q_1.out.trans hEg56q2)
       clear hEg56q2
       refine rgK hK (keepT HXg56q_2.out) (fun hSg56q2 => ?_)
       clear hK K
       refine rgT 14 ?_
       refine wpAnyH_ready (rs := [15]) (by kernel_rfl) (by simp) ?_
       refine (AllReadyH.consL rfl (fun K hK => ?g56qb15x16) AllReadyH.nil)
       case' g56qb15x16 =>
        go_simp
        refine rgK hK trivial (fun hSg56q3 => ?_)
        clear hK K
        refine rgT 16 ?_
        refine wpAnyH_ready (rs := [17]) (by kernel_rfl) (by simp) ?_
        refine (AllReadyH.consL rfl (fun K hK => ?g56qb17x18) AllReadyH.nil)
        case' g56qb17x18 =>
         go_simp
         refine rgK hK trivial (fun hSg56q4 => ?_)
         clear hK K
         refine wpAnyH_done (by kernel_rfl) ?_ _
         go_wp2
         first
          | go_roundw
          | refine ⟨?rel, ?measure⟩
         case rel =>
          refine ⟨p', k1, hps, by omega, by first | rfl | go_num, HK1, hid ?_, hid HX2.out.drew⟩
          have h := HO2.out.dr
          rw [HMV.out] at h
          exact h
         case measure => simp [intOf]; omega
     case' g56qb13x13 =>
      have hEg56q1 := Ext.refl wr.drew
      go_simp
      have HXg56q_1 := hid (HXg56q_0.out.trans hEg56q1)
      clear hEg56q1
      refine rgK hK (keepT HXg56q_1.out) (fun hSg56q1 => ?_)
      clear hK K
      refine wpAnyH_ready (rs := [9]) (by kernel_rfl) (by simp) ?_
      refine (AllReadyH.consL rfl (fun K hK => ?g56qb9x19) AllReadyH.nil)
      case' g56qb9x19 =>
       have hEg56q2 := Ext.refl wr.drew
       go_simp
       have HXg56q_2 := hid (HXg56q_1.out.trans hEg56q2)
       clear hEg56q2
       refine rgK hK (keepT HXg56q_2.out) (fun hSg56q2 => ?_)
       clear hK K
       refine rgT 14 ?_
       refine wpAnyH_ready (rs := [15]) (by kernel_rfl) (by simp) ?_
       refine (AllReadyH.consL rfl (fun K hK => ?g56qb15x21) AllReadyH.nil)
       case' g56qb15x21 =>
        go_simp
        refine rgK hK trivial (fun hSg56q3 => ?_)
        clear hK K
        refine rgT 16 ?_
        refine wpAnyH_ready (rs := [17]) (by kernel_rfl) (by simp) ?_
        refine (AllReadyH.consL rfl (fun K hK => ?g56qb17x23) AllReadyH.nil)
        case' g56qb17x23 =>
         go_simp
         refine rgK hK trivial (fun hSg56q4 => ?_)
         clear hK K
         refine wpAnyH_done (by kernel_rfl) ?_ _
         go_wp2
         first
          | go_roundw
          | refine ⟨?rel, ?measure⟩
         case rel =>
          refine ⟨p', k1, hps, by omega, by first | rfl | go_num, HK1, hid ?_, hid HX2.out.drew⟩
          have h := HO2.out.dr
          rw [HMV.out] at h
          exact h
         case measure => simp [intOf]; omega
    ·have hps : p = s := by have := HSI.out; have := HPK.out; omega
     subst hps
     have HF : Hid (OwnS rawR wr wo.heap.size 48 All (.slice (some ⟨g, 0, none⟩) n c) (P ++ (mrg ltRw X [y] ++ Q))) := hid (by rw [HIN.out]; exact HE2.out)
     go_wp2
     (try simp only [Exit.inBlock, Exit.then])
     refine bodyPost_ret (results_none rfl _ _ _) rfl ?_
     exact ⟨rfl, HXR2.out, HF.out⟩
end Go.Proofs.YtacmjhcfjhpkeaaGreatDoor

namespace Go.Proofs.YtacmjhcfjhpkeaaGreatDoor
open Go.RowKit Go.Deco
set_option linter.unusedSimpArgs false
set_option linter.unusedVariables false

/-- What symMerge does to two neighbouring sorted parts. -/
def SymgOk (wo : World) (g n c N : Nat) : Prop := ∀ (w : World) (P X Y Q : List Raw) (a m b : Nat), Ext wo w → OwnS rawR w wo.heap.size 48 All (.slice (some ⟨g, 0, none⟩) n c) (P ++ (X ++ (Y ++ Q))) → X ≠ [] → Y ≠ [] → Srt ltRw X → Srt ltRw Y → X.length + Y.length < N →
 a = P.length → m = P.length + X.length → b = P.length + X.length + Y.length → Calls Tryz.prog 138 #[.slice (some ⟨g, 0, none⟩) n c, .int .i64 a, .int .i64 m, .int .i64 b, .func (.func 83) #[] #[]] w (RowS wo g n c (P ++ (mrg ltRw X Y ++ Q)))
theorem mrg_nil2 {X Y : List Raw} (h : X = [] ∨ Y = []) : mrg ltRw X Y = X ++ Y := by
 rcases h with rfl | rfl
 ·rw [mrg_nil]; rfl
 ·rw [mrg_nil', List.append_nil]

set_option maxRecDepth 100000 in
set_option maxHeartbeats 8000000 in
theorem symg_big (wo w : World) (g n c : Nat) (P X Y Q : List Raw) (hx : Ext wo w) (ho : OwnS rawR w wo.heap.size 48 All (.slice (some ⟨g, 0, none⟩) n c) (P ++ (X ++ (Y ++ Q)))) (hX : Srt ltRw X) (hY : Srt ltRw Y) (hX2 : 2 ≤ X.length) (hY2 : 2 ≤ Y.length) (hn : n ≤ 1000000) (ih : SymgOk wo g n c (X.length + Y.length)) (a m b : Nat) (ha : a = P.length) (hm : m = P.length + X.length) (hb : b = P.length + X.length + Y.length) :
  Calls Tryz.prog 138 #[.slice (some ⟨g, 0, none⟩) n c, .int .i64 a, .int .i64 m, .int .i64 b, .func (.func 83) #[] #[]] w (RowS wo g n c (P ++ (mrg ltRw X Y ++ Q))) := by
 have hg := call_ord
 have hln := ho.len
 simp only [List.length_append] at hln
 have hgw : wo.heap.size ≤ g := (ho.block g rfl).1
 obtain ⟨lx, hlx⟩ : ∃ lx, X.length = lx := ⟨_, rfl⟩
 obtain ⟨ly, hly⟩ : ∃ ly, Y.length = ly := ⟨_, rfl⟩
 obtain ⟨mid, hmid⟩ : ∃ mid, (a + b) / 2 = mid := ⟨_, rfl⟩
 obtain ⟨n', hn'⟩ : ∃ n', mid + m = n' := ⟨_, rfl⟩
 obtain ⟨pp, hpp⟩ : ∃ pp, n' - 1 = pp := ⟨_, rfl⟩
 rw [hlx] at hX2 hm hb hln
 rw [hly] at hY2 hb hln
 have HLX := hid hlx
 have HLY := hid hly
 have HPL := hid ha
 obtain ⟨st0, r0, hst⟩ : ∃ st0 r0 : Nat, (mid < m ∧ st0 + b = n' ∧ r0 = mid) ∨ (m ≤ mid ∧ st0 = a ∧ r0 = m) := by
  by_cases h : mid < m
  ·exact ⟨n' - b, mid, .inl ⟨h, by omega, rfl⟩⟩
  ·exact ⟨a, m, .inr ⟨by omega, rfl, rfl⟩⟩
 have HST := hid hst
 -- the places, as one fact of numbers
 have HN : Hid (m = a + lx ∧ b = m + ly ∧ 2 * mid ≤ a + b ∧ a + b ≤ 2 * mid + 1 ∧ n' = mid + m ∧ pp + 1 = n' ∧ b ≤ n) := hid (by omega)
 have hab : a ≤ 1000000 := by omega
 have hbb : b ≤ 1000000 := by omega
 have hmm : m ≤ 1000000 := by omega
 have hmi : mid ≤ 1000000 := by omega
 have w1 : IntKind.i64.wrap ((m : Int) - (a : Int)) = (lx : Int) := by rw [IntWalk.i64_in _ (by omega)]; omega
 have w2 : IntKind.i64.wrap ((b : Int) - (m : Int)) = (ly : Int) := by rw [IntWalk.i64_in _ (by omega)]; omega
 have n1 : ((lx : Int) == 1) = false := by simp; omega
 have n2 : ((ly : Int) == 1) = false := by simp; omega
 have e1 : ((a : Int) + (b : Int)) / 2 = (mid : Int) := by omega
 have w3 : IntKind.i64.wrap ((mid : Int) + (m : Int)) = (n' : Int) := by rw [IntWalk.i64_in _ (by omega)]; omega
 have w4 : IntKind.i64.wrap ((n' : Int) - 1) = (pp : Int) := by rw [IntWalk.i64_in _ (by omega)]; omega
 have w5 : mid < m → IntKind.i64.wrap ((n' : Int) - (b : Int)) = (st0 : Int) := fun h => by
  rcases HST.out with h2 | h2
  ·rw [IntWalk.i64_in _ (by omega)]; omega
  ·omega
 have HW5 := hid w5
 have HW4 := hid w4
 have HSX := hid hX
 have HSY := hid hY
 have HIH := hid ih
 have HX := hid hx
 have HO := hid ho
 have hppn : pp ≤ 2000000 := by omega
 have hn'n : n' ≤ 2000000 := by omega
 have hr0 : r0 ≤ n := by omega
 have hst0 : st0 ≤ r0 := by omega
 clear hx ho hln hX hY ih ha hm hb hlx hly hmid hn' hpp hst w5 w4 hX2 hY2
 go_enter Tryz.func138, Tryz.ntmps138
 go_upto_if 140 with fail
 clear w1 w2 n1 n2 e1 w3
 go_cut [20, 21] from 138 to 146 (fun s20 s21 wx => s20 = .int .i64 st0 ∧ s21 = .int .i64 r0 ∧ wx = w)
 case first =>
  by_cases h : mid < m
  ·have w5 := HW5.out h
   have hr : r0 = mid := by have := HST.out; omega
   subst hr
   go_wp2
   go_meet
   exact ⟨rfl, rfl, rfl⟩
  ·have hr : r0 = m ∧ st0 = a := by have := HST.out; omega
   obtain ⟨rfl, rfl⟩ := hr
   go_wp2
   go_meet
   exact ⟨rfl, rfl, rfl⟩
 case rest =>
  obtain ⟨rfl, rfl, rfl⟩ := hcut
  have w4 := HW4.out
  go_wp2
  clear w4
  go_loopw [20, 21] (fun s20 s21 wr => ∃ (i j : Nat), st0 ≤ i ∧ i ≤ j ∧ j ≤ r0 ∧ s20 = .int .i64 i ∧ s21 = .int .i64 j ∧ Hid (∀ x y, i ≠ st0 → X[i - 1 - a]? = some x → Y[pp - (i - 1) - m]? = some y → ltRw y x = false) ∧ Hid (∀ x y, j ≠ r0 → X[j - a]? = some x → Y[pp - j - m]? = some y → ltRw y x = true) ∧ Hid (OwnS rawR wr wo.heap.size 48 All (.slice (some ⟨g, 0, none⟩) n c) (P ++ (X ++ (Y ++ Q)))) ∧ Hid (Ext wo wr)) (fun s20 s21 _ => (intOf s21).toNat - (intOf s20).toNat)
  case atStart => exact ⟨st0, r0, Nat.le_refl _, hst0, Nat.le_refl _, rfl, rfl, hid (fun x y h => absurd rfl h), hid (fun x y h => absurd rfl h), HO, HX⟩
  case round =>
   obtain ⟨i, j, hmi', hij, hjb, rfl, rfl, HLO, HHI, HE, HXR⟩ := hrel
   by_cases h1 : i < j
   ·obtain ⟨h, hh⟩ : ∃ h, (i + j) / 2 = h := ⟨_, rfl⟩
    have e2 : ((i : Int) + (j : Int)) / 2 = (h : Int) := by omega
    have hh1 : i ≤ h := by omega
    have hh2 : h < j := by omega
    obtain ⟨u, hu⟩ : ∃ u, pp - h = u := ⟨_, rfl⟩
    have hhx : a ≤ h ∧ h < m ∧ m ≤ u ∧ u < b ∧ h ≤ pp := by have h2 := HST.out; have h3 := HN.out; omega
    obtain ⟨x, hx⟩ : ∃ x, X[h - a]? = some x := ⟨_, List.getElem?_eq_getElem (by have h2 := HLX.out; have h3 := HN.out; omega)⟩
    obtain ⟨y, hy⟩ : ∃ y, Y[u - m]? = some y := ⟨_, List.getElem?_eq_getElem (by have h2 := HLY.out; have h3 := HN.out; omega)⟩
    have hdx : (P ++ (X ++ (Y ++ Q)))[h]? = some x := by
     have e : h = P.length + (h - a) := by have := HPL.out; omega
     rw [e, part_at _ _ _ (List.getElem?_eq_some_iff.1 hx).1]
     exact hx
    have hdy : (P ++ (X ++ (Y ++ Q)))[u]? = some y := by
     have e : u = (P ++ X).length + (u - m) := by rw [List.length_append]; have := HPL.out; have := HLX.out; have := HN.out; omega
     rw [← List.append_assoc, e, part_at _ _ _ (List.getElem?_eq_some_iff.1 hy).1]
     exact hy
    obtain ⟨⟨x0, x1, x2, x3, x4, x5⟩, -, -, -, -, -, -⟩ := raw_cells HE.out hdx
    obtain ⟨⟨y0, y1, y2, y3, y4, y5⟩, -, -, -, -, -, -⟩ := raw_cells HE.out hdy
    have w66 : IntKind.i64.wrap ((pp : Int) - (h : Int)) = (u : Int) := by rw [IntWalk.i64_in _ (by omega)]; omega
    have i1 : (0 : Int) ≤ (u : Int) := by omega
    have i2 : (u : Int) < (n : Int) := by have := HN.out; omega
    have i3 : (0 : Int) ≤ (h : Int) := by omega
    have i4 : (h : Int) < (n : Int) := by omega
    have HXH := hid hx
    have HYU := hid hy
    obtain ⟨r, hr⟩ : ∃ r, ltRw y x = r := ⟨_, rfl⟩
    have HR := hid hr
    have HU := hid hu
    clear hh hx hy hdx hdy hr hu hhx
    go_upto_region 35 with fail
    clear e2
    refine wp_region_held_drew (S := (fun w' => w'.cell? ⟨g, u * 6, none⟩ = some (.int .i64 y.off) ∧ w'.cell? ⟨g, u * 6 + 1, none⟩ = some (.int .i64 y.kind) ∧ w'.cell? ⟨g, u * 6 + 2, none⟩ = some (.int .i64 y.size) ∧ w'.cell? ⟨g, u * 6 + 3, none⟩ = some (.int .i64 y.count) ∧ w'.cell? ⟨g, u * 6 + 4, none⟩ = some (.slice y.A y.n y.c) ∧ w'.cell? ⟨g, u * 6 + 5, none⟩ = some (.slice y.B y.m y.e) ∧ w'.cell? ⟨g, h * 6, none⟩ = some (.int .i64 x.off) ∧ w'.cell? ⟨g, h * 6 + 1, none⟩ = some (.int .i64 x.kind) ∧ w'.cell? ⟨g, h * 6 + 2, none⟩ = some (.int .i64 x.size) ∧ w'.cell? ⟨g, h * 6 + 3, none⟩ = some (.int .i64 x.count) ∧ w'.cell? ⟨g, h * 6 + 4, none⟩ = some (.slice x.A x.n x.c) ∧ w'.cell? ⟨g, h * 6 + 5, none⟩ = some (.slice x.B x.m x.e))) (by kernel_rfl) ⟨y0, y1, y2, y3, y4, y5, x0, x1, x2, x3, x4, x5⟩ (fun hSg57q0 => ?_)
    refine rgT6 0 1 2 3 4 5 ?_
    refine rgT4 6 7 8 9 ?_
    refine rgT 10 ?_
    refine rgC 11 (fun K hK => ?_)
    go_simp
    go_at_call 83
    refine (cmp_raw _ y x).mono ?_
    rintro e w6 ⟨⟨z, rfl, hz⟩, hx6⟩
    have HX6 := hid hx6.drew_left
    rw [HR.out] at hz
    clear hx6
    refine rgK hK ⟨HX6.out.cell y0, HX6.out.cell y1, HX6.out.cell y2, HX6.out.cell y3, HX6.out.cell y4, HX6.out.cell y5, HX6.out.cell x0, HX6.out.cell x1, HX6.out.cell x2, HX6.out.cell x3, HX6.out.cell x4, HX6.out.cell x5⟩ (fun hSg57q1 => ?_)
    clear hK K
    refine rgT2 12 13 ?_
    refine wpAnyH_done (by kernel_rfl) ?_ _
    have HE6 := hid (HE.out.ext HX6.out)
    have HXR6 := hid (HXR.out.trans HX6.out)
    clear w66
    cases r with
    | false =>
     have hz' : ¬ z < 0 := by simpa using hz
     clear hz
     go_wp2
     first
      | go_roundw
      | refine ⟨?rel, ?measure⟩
     case rel =>
      refine ⟨h + 1, j, by omega, by omega, by omega, by first | rfl | go_num, rfl, hid (fun x' y' _ hx' hy' => ?_), HHI, HE6, HXR6⟩
      rw [Nat.add_sub_cancel, HXH.out] at hx'
      rw [Nat.add_sub_cancel, HU.out, HYU.out] at hy'
      cases hx'
      cases hy'
      exact HR.out
     case measure => simp [intOf]; omega
    | true =>
     have hz' : z < 0 := by simpa using hz
     clear hz
     go_wp2
     first
      | go_roundw
      | refine ⟨?rel, ?measure⟩
     case rel =>
      refine ⟨i, h, by omega, by omega, by omega, rfl, by first | rfl | go_num, HLO, hid (fun x' y' _ hx' hy' => ?_), HE6, HXR6⟩
      rw [HXH.out] at hx'
      rw [HU.out, HYU.out] at hy'
      cases hx'
      cases hy'
      exact HR.out
     case measure => simp [intOf]; omega
   ·obtain rfl : i = j := by omega
    obtain ⟨ex, hex⟩ : ∃ ex, i - a = ex := ⟨_, rfl⟩
    obtain ⟨ey, hey⟩ : ∃ ey, n' - i - m = ey := ⟨_, rfl⟩
    obtain ⟨e, he⟩ : ∃ e, n' - i = e := ⟨_, rfl⟩
    have hp : a ≤ i ∧ i ≤ m ∧ m ≤ e ∧ e ≤ b ∧ ex ≤ lx ∧ ey ≤ ly ∧ a + ex = i ∧ m + ey = e ∧ ex + ey + a = mid ∧ e + i = n' := by have h2 := HST.out; have h3 := HN.out; omega
    have hsp : mrg ltRw X Y = mrg ltRw (X.take ex) (Y.take ey) ++ mrg ltRw (X.drop ex) (Y.drop ey) := by
     refine split_ok weakRw HSX.out HSY.out ex ey (by have := HLX.out; omega) (by have := HLY.out; omega) (fun x y h0 hx hy => ?_) (fun x y h0 hx hy => ?_)
     ·have hxl := (List.getElem?_eq_some_iff.1 hx).1
      refine HHI.out x y (fun h => ?_) (by rw [hex]; exact hx) (by rw [show pp - i - m = ey - 1 by have := HN.out; omega]; exact hy)
      have h2 := HST.out
      have h3 := HN.out
      have h4 := HLX.out
      omega
     ·have hyl := (List.getElem?_eq_some_iff.1 hy).1
      refine HLO.out x y (fun h => ?_) (by rw [show i - 1 - a = ex - 1 by omega]; exact hx) (by rw [show pp - (i - 1) - m = ey by have := HN.out; omega]; exact hy)
      have h2 := HST.out
      have h3 := HN.out
      have h4 := HLY.out
      omega
    have HSP := hid hsp
    have HPP := hid hp
    have w7 : IntKind.i64.wrap ((n' : Int) - (i : Int)) = (e : Int) := by rw [IntWalk.i64_in _ (by omega)]; omega
    have hin : i ≤ n := by have := HN.out; omega
    have hen : e ≤ n := by have := HN.out; omega
    have hV : ∃ V, V = wr := ⟨_, rfl⟩
    obtain ⟨V, rfl⟩ := hV
    obtain ⟨X1, hX1⟩ : ∃ X1, X.take ex = X1 := ⟨_, rfl⟩
    obtain ⟨X2, hX2⟩ : ∃ X2, X.drop ex = X2 := ⟨_, rfl⟩
    obtain ⟨Y1, hY1⟩ : ∃ Y1, Y.take ey = Y1 := ⟨_, rfl⟩
    obtain ⟨Y2, hY2⟩ : ∃ Y2, Y.drop ey = Y2 := ⟨_, rfl⟩
    have HL1 : Hid (X1.length = ex) := hid (by rw [← hX1, List.length_take]; have := HLX.out; omega)
    have HL2 : Hid (X2.length + ex = lx) := hid (by rw [← hX2, List.length_drop]; have := HLX.out; omega)
    have HL3 : Hid (Y1.length = ey) := hid (by rw [← hY1, List.length_take]; have := HLY.out; omega)
    have HL4 : Hid (Y2.length + ey = ly) := hid (by rw [← hY2, List.length_drop]; have := HLY.out; omega)
    have HS1 : Hid (Srt ltRw X1 ∧ Srt ltRw X2 ∧ Srt ltRw Y1 ∧ Srt ltRw Y2) := hid ⟨by rw [← hX1]; exact srt_take HSX.out _, by rw [← hX2]; exact srt_drop HSX.out _, by rw [← hY1]; exact srt_take HSY.out _, by rw [← hY2]; exact srt_drop HSY.out _⟩
    have HD : Hid (P ++ (X ++ (Y ++ Q)) = (P ++ X1) ++ (X2 ++ (Y1 ++ (Y2 ++ Q)))) := hid (by rw [cut2 X ex, cut2 Y ey, hX1, hX2, hY1, hY2]; simp)
    rw [hX1, hX2, hY1, hY2] at HSP
    have HE1 : Hid (OwnS rawR V wo.heap.size 48 All (.slice (some ⟨g, 0, none⟩) n c) ((P ++ X1) ++ (X2 ++ (Y1 ++ (Y2 ++ Q))))) := hid (by rw [← HD.out]; exact HE.out)
    clear hex hey he hp hsp hX1 hX2 hY1 hY2 HLO HHI HE
    obtain ⟨r1, hr1⟩ : ∃ r1, (decide (i < m) && decide (m < e)) = r1 := ⟨_, rfl⟩
    obtain ⟨r2, hr2⟩ : ∃ r2, (decide (a < i) && decide (i < mid)) = r2 := ⟨_, rfl⟩
    obtain ⟨r3, hr3⟩ : ∃ r3, (decide (mid < e) && decide (e < b)) = r3 := ⟨_, rfl⟩
    have HR1 := hid hr1
    have HR2 := hid hr2
    have HR3 := hid hr3
    clear hr1 hr2 hr3
    go_upto_region 39 with fail
    clear w7
    go_cut [185] from 178 to 185 (fun s185 wx => s185 = .bool r1 ∧ wx = V)
    case first =>
     have h5 := HR1.out
     by_cases q1 : i < m
     ·by_cases q2 : m < e
      ·have h6 : r1 = true := by rw [← h5]; simp [q1, q2]
       subst h6
       clear h5
       go_wp2
       go_meet
       exact ⟨rfl, rfl⟩
      ·have h6 : r1 = false := by rw [← h5]; simp [q2]
       subst h6
       clear h5
       go_wp2
       go_meet
       exact ⟨rfl, rfl⟩
     ·have h6 : r1 = false := by rw [← h5]; simp [q1]
      subst h6
      clear h5
      go_wp2
      go_meet
      exact ⟨rfl, rfl⟩
    case rest =>
     obtain ⟨rfl, rfl⟩ := hcut
     have hV : ∃ V1, V1 = wc := ⟨_, rfl⟩
     obtain ⟨V1, rfl⟩ := hV
     go_upto_if 185 with fail
     go_cut [] from 186 to 191 (fun wx => Hid (OwnS rawR wx wo.heap.size 48 All (.slice (some ⟨g, 0, none⟩) n c) (P ++ (X1 ++ (Y1 ++ (X2 ++ (Y2 ++ Q)))))) ∧ Hid (Ext wo wx))
     case first =>
      have hp := HPP.out
      have h2 := HL2.out
      have h3 := HL3.out
      have h5 := HR1.out
      cases r1 with
      | false =>
       have hsw : (P ++ X1) ++ (X2 ++ (Y1 ++ (Y2 ++ Q))) = P ++ (X1 ++ (Y1 ++ (X2 ++ (Y2 ++ Q)))) := by
        have hor : X2 = [] ∨ Y1 = [] := by
         rw [Bool.and_eq_false_iff] at h5
         rcases h5 with h | h
         ·have := of_decide_eq_false h
          exact .inl (List.length_eq_zero_iff.1 (by have := HN.out; omega))
         ·have := of_decide_eq_false h
          exact .inr (List.length_eq_zero_iff.1 (by omega))
        rcases hor with e | e <;> rw [e] <;> simp
       have HF : Hid (OwnS rawR V1 wo.heap.size 48 All (.slice (some ⟨g, 0, none⟩) n c) (P ++ (X1 ++ (Y1 ++ (X2 ++ (Y2 ++ Q)))))) := hid (by rw [← hsw]; exact HE1.out)
       clear hp h2 h3 h5 hsw
       go_wp2
       go_meet
       exact ⟨HF, HXR⟩
      | true =>
       rw [Bool.and_eq_true, decide_eq_true_iff, decide_eq_true_iff] at h5
       have HRT := hid (rotate_any wo V1 g n c (P ++ X1) X2 Y1 (Y2 ++ Q) HXR.out HE1.out (fun h => by rw [h] at h2; simp at h2; have := HN.out; omega) (fun h => by rw [h] at h3; simp at h3; omega) hn (.func (.func 83) #[] #[]) i m e (by rw [List.length_append]; have := HPL.out; have := HL1.out; omega) (by rw [List.length_append]; have := HPL.out; have := HL1.out; have := HN.out; omega) (by rw [List.length_append]; have := HPL.out; have := HL1.out; have := HN.out; omega))
       clear hp h2 h3 h5
       go_wp2_with fail
       refine (HRT.out).mono ?_
       rintro e' w5 ⟨rfl, hx5, ho5⟩
       have HF : Hid (OwnS rawR w5 wo.heap.size 48 All (.slice (some ⟨g, 0, none⟩) n c) (P ++ (X1 ++ (Y1 ++ (X2 ++ (Y2 ++ Q)))))) := hid (by rw [List.append_assoc] at ho5; exact ho5)
       have HX5 := hid hx5
       clear ho5 hx5
       go_wp2
       go_meet
       exact ⟨HF, HX5⟩
     case rest =>
     obtain ⟨HE2, HX2⟩ := hcut
     have hV : ∃ V2, V2 = wc := ⟨_, rfl⟩
     obtain ⟨V2, rfl⟩ := hV
     go_upto_region 41 with fail
     go_cut [199] from 192 to 199 (fun s199 wx => s199 = .bool r2 ∧ wx = V2)
     case first =>
      have h5 := HR2.out
      by_cases q1 : a < i
      ·by_cases q2 : i < mid
       ·have h6 : r2 = true := by rw [← h5]; simp [q1, q2]
        subst h6
        clear h5
        go_wp2
        go_meet
        exact ⟨rfl, rfl⟩
       ·have h6 : r2 = false := by rw [← h5]; simp [q2]
        subst h6
        clear h5
        go_wp2
        go_meet
        exact ⟨rfl, rfl⟩
      ·have h6 : r2 = false := by rw [← h5]; simp [q1]
       subst h6
       clear h5
       go_wp2
       go_meet
       exact ⟨rfl, rfl⟩
     case rest =>
     obtain ⟨rfl, rfl⟩ := hcut
     have hV : ∃ V2, V2 = wc := ⟨_, rfl⟩
     obtain ⟨V2, rfl⟩ := hV
     go_upto_if 199 with fail
     go_cut [] from 200 to 205 (fun wx => Hid (OwnS rawR wx wo.heap.size 48 All (.slice (some ⟨g, 0, none⟩) n c) (P ++ (mrg ltRw X1 Y1 ++ (X2 ++ (Y2 ++ Q))))) ∧ Hid (Ext wo wx))
     case first =>
      have hp := HPP.out
      have h2 := HL1.out
      have h3 := HL3.out
      have h5 := HR2.out
      cases r2 with
      | false =>
       have hsw : mrg ltRw X1 Y1 = X1 ++ Y1 := by
        refine mrg_nil2 ?_
        rw [Bool.and_eq_false_iff] at h5
        rcases h5 with h | h
        ·have := of_decide_eq_false h
         exact .inl (List.length_eq_zero_iff.1 (by omega))
        ·have := of_decide_eq_false h
         exact .inr (List.length_eq_zero_iff.1 (by omega))
       have HF : Hid (OwnS rawR V2 wo.heap.size 48 All (.slice (some ⟨g, 0, none⟩) n c) (P ++ (mrg ltRw X1 Y1 ++ (X2 ++ (Y2 ++ Q))))) := hid (by rw [hsw, List.append_assoc]; exact HE2.out)
       clear hp h2 h3 h5 hsw
       go_wp2
       go_meet
       exact ⟨HF, HX2⟩
      | true =>
       rw [Bool.and_eq_true, decide_eq_true_iff, decide_eq_true_iff] at h5
       have HRT := hid (HIH.out V2 P X1 Y1 (X2 ++ (Y2 ++ Q)) a i mid HX2.out HE2.out (fun h => by rw [h] at h2; simp at h2; omega) (fun h => by rw [h] at h3; simp at h3; omega) HS1.out.1 HS1.out.2.2.1 (by have := HLX.out; have := HLY.out; have := HN.out; omega) HPL.out (by have := HPL.out; omega) (by have := HPL.out; omega))
       clear hp h2 h3 h5
       go_wp2_with fail
       refine (HRT.out).mono ?_
       rintro e' w5 ⟨rfl, hx5, ho5⟩
       have HF := hid ho5
       have HX5 := hid hx5
       clear ho5 hx5
       go_wp2
       go_meet
       exact ⟨HF, HX5⟩
     case rest =>
     obtain ⟨HE3, HX3⟩ := hcut
     have hV : ∃ V3, V3 = wc := ⟨_, rfl⟩
     obtain ⟨V3, rfl⟩ := hV
     go_upto_region 43 with fail
     go_cut [213] from 206 to 213 (fun s213 wx => s213 = .bool r3 ∧ wx = V3)
     case first =>
      have h5 := HR3.out
      by_cases q1 : mid < e
      ·by_cases q2 : e < b
       ·have h6 : r3 = true := by rw [← h5]; simp [q1, q2]
        subst h6
        clear h5
        go_wp2
        go_meet
        exact ⟨rfl, rfl⟩
       ·have h6 : r3 = false := by rw [← h5]; simp [q2]
        subst h6
        clear h5
        go_wp2
        go_meet
        exact ⟨rfl, rfl⟩
      ·have h6 : r3 = false := by rw [← h5]; simp [q1]
       subst h6
       clear h5
       go_wp2
       go_meet
       exact ⟨rfl, rfl⟩
     case rest =>
     obtain ⟨rfl, rfl⟩ := hcut
     have hV : ∃ V3, V3 = wc := ⟨_, rfl⟩
     obtain ⟨V3, rfl⟩ := hV
     have hp := HPP.out
     have h2 := HL2.out
     have h3 := HL4.out
     have h5 := HR3.out
     have hml : (mrg ltRw X1 Y1).length = X1.length + Y1.length := mrg_len _ (Nat.le_refl _)
     cases r3 with
     | false =>
      have hsw : mrg ltRw X2 Y2 = X2 ++ Y2 := by
       refine mrg_nil2 ?_
       rw [Bool.and_eq_false_iff] at h5
       rcases h5 with h | h
       ·have := of_decide_eq_false h
        exact .inl (List.length_eq_zero_iff.1 (by have := HN.out; omega))
       ·have := of_decide_eq_false h
        exact .inr (List.length_eq_zero_iff.1 (by have := HN.out; omega))
      have HF : Hid (OwnS rawR V3 wo.heap.size 48 All (.slice (some ⟨g, 0, none⟩) n c) (P ++ (mrg ltRw X Y ++ Q))) := hid (by rw [HSP.out, hsw]; simpa using HE3.out)
      clear hp h2 h3 h5 hsw hml
      go_wp2
      (try simp only [Exit.inBlock, Exit.then])
      refine bodyPost_ret (results_none rfl _ _ _) rfl ?_
      exact ⟨rfl, HX3.out, HF.out⟩
     | true =>
      rw [Bool.and_eq_true, decide_eq_true_iff, decide_eq_true_iff] at h5
      have HRT := hid (HIH.out V3 (P ++ mrg ltRw X1 Y1) X2 Y2 Q mid e b HX3.out (by rw [List.append_assoc]; exact HE3.out) (fun h => by rw [h] at h2; simp at h2; have := HN.out; omega) (fun h => by rw [h] at h3; simp at h3; have := HN.out; omega) HS1.out.2.1 HS1.out.2.2.2 (by have := HLX.out; have := HLY.out; have := HN.out; omega) (by rw [List.length_append, hml]; have := HPL.out; have := HL1.out; have := HL3.out; omega) (by rw [List.length_append, hml]; have := HPL.out; have := HL1.out; have := HL3.out; have := HN.out; omega) (by rw [List.length_append, hml]; have := HPL.out; have := HL1.out; have := HL3.out; have := HN.out; omega))
      clear hp h2 h3 h5 hml
      go_wp2_with fail
      refine (HRT.out).mono ?_
      rintro e' w5 ⟨rfl, hx5, ho5⟩
      have HF : Hid (OwnS rawR w5 wo.heap.size 48 All (.slice (some ⟨g, 0, none⟩) n c) (P ++ (mrg ltRw X Y ++ Q))) := hid (by rw [HSP.out]; simpa using ho5)
      have HX5 := hid hx5
      clear ho5 hx5
      go_wp2
      (try simp only [Exit.inBlock, Exit.then])
      refine bodyPost_ret (results_none rfl _ _ _) rfl ?_
      exact ⟨rfl, HX5.out, HF.out⟩

theorem symg_any (wo : World) (g n c : Nat) (hn : n ≤ 1000000) : ∀ N, SymgOk wo g n c N := by
 intro N
 induction N with
 | zero => intro w P X Y Q a m b _ _ _ _ _ _ h; omega
 | succ N ih =>
  intro w P X Y Q a m b hx ho hX0 hY0 hX hY hl ha hm hb
  have hX1 : 0 < X.length := List.length_pos_iff.2 hX0
  have hY1 : 0 < Y.length := List.length_pos_iff.2 hY0
  by_cases h1 : X.length = 1
  ·obtain ⟨x, rfl⟩ := List.length_eq_one_iff.1 h1
   exact symg_l wo w g n c P Y Q x hx ho hY hn a m b ha (by simpa using hm) (by simpa using hb)
  by_cases h2 : Y.length = 1
  ·obtain ⟨y, rfl⟩ := List.length_eq_one_iff.1 h2
   exact symg_r wo w g n c P X Q y hx (by rw [insP_all]; simpa using ho) hX h1 hn a m b ha hm (by simpa using hb)
  exact symg_big wo w g n c P X Y Q hx ho hX hY (by omega) (by omega) hn (fun w P' X' Y' Q' a' m' b' q1 q2 q3 q4 q5 q6 q7 q8 q9 q10 => ih w P' X' Y' Q' a' m' b' q1 q2 q3 q4 q5 q6 (by omega) q8 q9 q10) a m b ha hm hb
end Go.Proofs.YtacmjhcfjhpkeaaGreatDoor

namespace Go.Proofs.YtacmjhcfjhpkeaaGreatDoor
open Go.RowKit Go.Deco
set_option linter.unusedSimpArgs false
set_option linter.unusedVariables false

/-- The chunks of k elements sorted, each by itself. -/
def csort (k : Nat) (l : List Raw) : List Raw := if h : 0 < k ∧ k ≤ l.length then stab ltRw (l.take k) ++ csort k (l.drop k) else stab ltRw l
termination_by l.length
decreasing_by rw [List.length_drop]; omega
theorem csort_ge {k : Nat} {l : List Raw} (h : 0 < k) (hl : k ≤ l.length) : csort k l = stab ltRw (l.take k) ++ csort k (l.drop k) := by rw [csort, dif_pos ⟨h, hl⟩]
theorem csort_lt {k : Nat} {l : List Raw} (hl : l.length < k) : csort k l = stab ltRw l := by rw [csort, dif_neg (by omega)]
theorem csort_le {k : Nat} {l : List Raw} (h : 0 < k) (hl : l.length ≤ k) : csort k l = stab ltRw l := by
 by_cases e : l.length = k
 ·rw [csort_ge h (by omega), List.take_of_length_le (by omega), List.drop_eq_nil_of_le (by omega), csort_lt (by simpa using h)]
  simp [stab]
 ·exact csort_lt (by omega)
theorem stab_two (l : List Raw) (k : Nat) : mrg ltRw (stab ltRw (l.take k)) (stab ltRw (l.drop k)) = stab ltRw l := by
 rw [← stab_app weakRw, List.take_append_drop]

set_option maxRecDepth 100000 in
set_option maxHeartbeats 8000000 in
theorem stableF_any (wo w : World) (g n c : Nat) (l : List Raw) (hx : Ext wo w) (ho : OwnS rawR w wo.heap.size 48 All (.slice (some ⟨g, 0, none⟩) n c) l) (hn : n ≤ 1000000) :
  Calls Tryz.prog 112 #[.slice (some ⟨g, 0, none⟩) n c, .int .i64 n, .func (.func 83) #[] #[]] w (RowS wo g n c (stab ltRw l)) := by
 have hln := ho.len
 have HLN := hid hln
 have HX := hid hx
 have HO := hid ho
 clear hx ho hln
 go_enter Tryz.func112, Tryz.ntmps112
 go_wp2
 go_loopw [7, 8] (fun s7 s8 wr => ∃ (a b : Nat) (pre : List Raw), a ≤ n ∧ b ≤ n + 20 ∧ s7 = .int .i64 a ∧ s8 = .int .i64 b ∧ Hid (b = a + 20) ∧ Hid (pre.length = a ∧ csort 20 l = pre ++ csort 20 (l.drop a)) ∧ Hid (OwnS rawR wr wo.heap.size 48 All (.slice (some ⟨g, 0, none⟩) n c) (pre ++ l.drop a)) ∧ Hid (Ext wo wr)) (fun _ s8 _ => n + 40 - (intOf s8).toNat)
 case atStart => exact ⟨0, 20, [], by omega, by omega, rfl, rfl, hid rfl, hid ⟨rfl, by simp⟩, hid (by simpa using HO.out), HX⟩
 case round =>
  obtain ⟨a, b, pre, han, hbn, rfl, rfl, HAB, HPR, HE, HXR⟩ := hrel
  obtain ⟨R, hR⟩ : ∃ R, l.drop a = R := ⟨_, rfl⟩
  have hRl : R.length = n - a := by rw [← hR, List.length_drop]; have := HLN.out; omega
  have HR := hid hR
  have HRL := hid hRl
  rw [hR] at HPR HE
  clear hR hRl
  by_cases h1 : b ≤ n
  ·have hb2 : b + 20 ≤ n + 20 := by omega
   have HIN : Hid (Calls Tryz.prog 137 #[.slice (some ⟨g, 0, none⟩) n c, .int .i64 a, .int .i64 b, .func (.func 83) #[] #[]] wr (RowS wo g n c (pre ++ (stab ltRw (R.take 20) ++ R.drop 20)))) := hid
    (inscmp_any wo wr g n c pre (R.take 20) (R.drop 20) HXR.out (by rw [List.take_append_drop]; exact HE.out) hn a b HPR.out.1.symm (by rw [List.length_take]; have := HPR.out.1; have := HAB.out; have := HRL.out; omega))
   have HNX : Hid ((pre ++ stab ltRw (R.take 20)).length = b ∧ csort 20 l = (pre ++ stab ltRw (R.take 20)) ++ csort 20 (l.drop b)) := hid (by
    have hb := HAB.out
    have hl2 := HRL.out
    refine ⟨by rw [List.length_append, stab_len, List.length_take]; have := HPR.out.1; omega, ?_⟩
    rw [HPR.out.2, csort_ge (by omega) (by omega), List.append_assoc, ← HR.out, List.drop_drop, hb])
   have HDB : Hid (R.drop 20 = l.drop b) := hid (by rw [← HR.out, List.drop_drop, HAB.out])
   go_wp2_with fail
   refine (HIN.out).mono ?_
   rintro e w5 ⟨rfl, hx5, ho5⟩
   have HX5 := hid hx5
   rw [HDB.out, ← List.append_assoc] at ho5
   have HO5 := hid ho5
   clear hx5 ho5
   go_wp2
   first
    | go_roundw
    | refine ⟨?rel, ?measure⟩
   case rel => exact ⟨b, b + 20, _, h1, hb2, rfl, by first | rfl | go_num, hid rfl, HNX, HO5, HX5⟩
   case measure => simp [intOf]; omega
  ·have HFIN : Hid (csort 20 l = pre ++ stab ltRw R) := hid (by rw [HPR.out.2, csort_lt (by have := HRL.out; have := HAB.out; omega)])
   have HIN : Hid (Calls Tryz.prog 137 #[.slice (some ⟨g, 0, none⟩) n c, .int .i64 a, .int .i64 n, .func (.func 83) #[] #[]] wr (RowS wo g n c (csort 20 l))) := hid (by
    have h := inscmp_any wo wr g n c pre R [] HXR.out (by simpa using HE.out) hn a n HPR.out.1.symm (by have := HPR.out.1; have := HRL.out; omega)
    rw [HFIN.out]
    simpa using h)
   go_wp2_with fail
   refine (HIN.out).mono ?_
   rintro e w5 ⟨rfl, hx5, ho5⟩
   have HX5 := hid hx5
   have HO5 := hid ho5
   clear hx5 ho5 HIN HFIN HE HPR HAB HR HRL HXR
   go_wp2
   go_loopw [6] (fun s6 wr => ∃ z : Nat, 20 ≤ z ∧ z ≤ 2 * n + 20 ∧ s6 = .int .i64 z ∧ Hid (OwnS rawR wr wo.heap.size 48 All (.slice (some ⟨g, 0, none⟩) n c) (csort z l)) ∧ Hid (Ext wo wr)) (fun s6 _ => 2 * n + 40 - (intOf s6).toNat)
   case atStart => exact ⟨20, by omega, by omega, rfl, HO5, HX5⟩
   case round =>
    obtain ⟨z, hz20, hzn, rfl, HE6, HX6⟩ := hrel
    by_cases h2 : z < n
    ·obtain ⟨zz, hzz⟩ : ∃ zz, 2 * z = zz := ⟨_, rfl⟩
     have e1 : 2 * (z : Int) = (zz : Int) := by omega
     have e1' : (z : Int) * 2 = (zz : Int) := by omega
     have hzz2 : zz ≤ 2 * n := by omega
     have hzz4 : z < zz := by omega
     have HZZ := hid hzz
     clear hzz
     obtain ⟨U, hU⟩ : ∃ U, U = wr := ⟨_, rfl⟩
     obtain rfl := hU
     go_wp2
     go_loopw [7, 8] (fun s7 s8 wr => ∃ (a b : Nat) (pre : List Raw), a ≤ n ∧ b ≤ n + zz ∧ s7 = .int .i64 a ∧ s8 = .int .i64 b ∧ Hid (b = a + zz) ∧ Hid (pre.length = a ∧ csort zz l = pre ++ csort zz (l.drop a)) ∧ Hid (OwnS rawR wr wo.heap.size 48 All (.slice (some ⟨g, 0, none⟩) n c) (pre ++ csort z (l.drop a))) ∧ Hid (Ext wo wr)) (fun _ s8 _ => n + 2 * zz - (intOf s8).toNat)
     case atStart => exact ⟨0, zz, [], by omega, by omega, rfl, rfl, hid (by omega), hid ⟨rfl, by simp⟩, hid (by simpa using HE6.out), HX6⟩
     case round =>
      obtain ⟨a, b, pre, han, hbn, rfl, rfl, HAB, HPR, HE, HXR⟩ := hrel
      obtain ⟨R, hR⟩ : ∃ R, l.drop a = R := ⟨_, rfl⟩
      have hRl : R.length = n - a := by rw [← hR, List.length_drop]; have := HLN.out; omega
      have HR := hid hR
      have HRL := hid hRl
      rw [hR] at HPR HE
      clear hR hRl
      obtain ⟨m2, hm2⟩ : ∃ m2, a + z = m2 := ⟨_, rfl⟩
      have e4 : IntKind.i64.wrap ((a : Int) + (z : Int)) = (m2 : Int) := by rw [IntWalk.i64_in _ (by omega)]; omega
      have e5 : (a : Int) + (z : Int) = (m2 : Int) := by omega
      have HM2 := hid hm2
      by_cases h3 : b ≤ n
      ·obtain ⟨b3, hb3⟩ : ∃ b3, b + zz = b3 := ⟨_, rfl⟩
       have e6 : IntKind.i64.wrap ((b : Int) + (zz : Int)) = (b3 : Int) := by rw [IntWalk.i64_in _ (by omega)]; omega
       have e7 : (b : Int) + (zz : Int) = (b3 : Int) := by omega
       have hb30 : b3 ≤ n + zz := by omega
       have hbb3 : b < b3 := by omega
       have HB3 := hid hb3.symm
       have hsplit : csort z R = stab ltRw ((R.take zz).take z) ++ (stab ltRw ((R.take zz).drop z) ++ csort z (R.drop zz)) := by
        have h5 := HRL.out
        have h6 := HAB.out
        have h7 := HZZ.out
        rw [csort_ge (by omega) (by omega), csort_ge (by omega) (by rw [List.length_drop]; omega), List.drop_drop, List.take_take, Nat.min_eq_left (by omega), List.drop_take, show zz - z = z by omega, show z + z = zz by omega]
       have HS : Hid (Calls Tryz.prog 138 #[.slice (some ⟨g, 0, none⟩) n c, .int .i64 a, .int .i64 m2, .int .i64 b, .func (.func 83) #[] #[]] wr (RowS wo g n c (pre ++ (stab ltRw (R.take zz) ++ csort z (R.drop zz))))) := hid (by
        have h5 := HRL.out
        have h6 := HAB.out
        have h7 := HZZ.out
        have h8 := HPR.out.1
        have hl1 : (stab ltRw ((R.take zz).take z)).length = z := by rw [stab_len, List.length_take, List.length_take]; omega
        have hl2 : (stab ltRw ((R.take zz).drop z)).length = z := by rw [stab_len, List.length_drop, List.length_take]; omega
        have h := symg_any wo g n c hn (n + n + 1) wr pre (stab ltRw ((R.take zz).take z)) (stab ltRw ((R.take zz).drop z)) (csort z (R.drop zz)) a m2 b HXR.out (by rw [← hsplit]; exact HE.out) (fun e => by rw [e] at hl1; simp at hl1; omega) (fun e => by rw [e] at hl2; simp at hl2; omega) (stab_ok weakRw _).1 (stab_ok weakRw _).1 (by omega) h8.symm (by omega) (by omega)
        rw [stab_two] at h
        exact h)
       have HNX : Hid ((pre ++ stab ltRw (R.take zz)).length = b ∧ csort zz l = (pre ++ stab ltRw (R.take zz)) ++ csort zz (l.drop b)) := hid (by
        have hb := HAB.out
        have hl2 := HRL.out
        refine ⟨by rw [List.length_append, stab_len, List.length_take]; have := HPR.out.1; omega, ?_⟩
        rw [HPR.out.2, csort_ge (by omega) (by omega), List.append_assoc, ← HR.out, List.drop_drop, hb])
       have HDB : Hid (R.drop zz = l.drop b) := hid (by rw [← HR.out, List.drop_drop, HAB.out])
       clear hsplit hm2 hb3
       go_wp2_with fail
       refine (HS.out).mono ?_
       rintro e w9 ⟨rfl, hx9, ho9⟩
       have HX9 := hid hx9
       rw [HDB.out, ← List.append_assoc] at ho9
       have HO9 := hid ho9
       clear hx9 ho9
       go_wp2
       first
        | go_roundw
        | refine ⟨?rel, ?measure⟩
       case rel => exact ⟨b, b3, _, h3, hb30, rfl, by first | rfl | go_num, HB3, HNX, HO9, HX9⟩
       case measure => simp [intOf]; omega
      ·have HFIN : Hid (csort zz l = pre ++ stab ltRw R) := hid (by rw [HPR.out.2, csort_lt (by have := HRL.out; have := HAB.out; omega)])
       by_cases h4 : m2 < n
       ·have hsplit : csort z R = stab ltRw (R.take z) ++ stab ltRw (R.drop z) := by
         have h5 := HRL.out
         have h6 := HAB.out
         have h7 := HZZ.out
         rw [csort_ge (by omega) (by omega), csort_lt (by rw [List.length_drop]; omega)]
        have HS : Hid (Calls Tryz.prog 138 #[.slice (some ⟨g, 0, none⟩) n c, .int .i64 a, .int .i64 m2, .int .i64 n, .func (.func 83) #[] #[]] wr (RowS wo g n c (csort zz l))) := hid (by
         have h5 := HRL.out
         have h6 := HAB.out
         have h7 := HZZ.out
         have h8 := HPR.out.1
         have hl1 : (stab ltRw (R.take z)).length = z := by rw [stab_len, List.length_take]; omega
         have hl2 : (stab ltRw (R.drop z)).length = R.length - z := by rw [stab_len, List.length_drop]
         have h := symg_any wo g n c hn (n + n + 1) wr pre (stab ltRw (R.take z)) (stab ltRw (R.drop z)) [] a m2 n HXR.out (by rw [List.append_nil, ← hsplit]; exact HE.out) (fun e => by rw [e] at hl1; simp at hl1; omega) (fun e => by rw [e] at hl2; simp at hl2; omega) (stab_ok weakRw _).1 (stab_ok weakRw _).1 (by omega) h8.symm (by omega) (by omega)
         rw [stab_two, List.append_nil] at h
         rw [HFIN.out]
         exact h)
        clear hsplit hm2
        go_wp2_with fail
        refine (HS.out).mono ?_
        rintro e w9 ⟨rfl, hx9, ho9⟩
        have HX9 := hid hx9
        have HO9 := hid ho9
        clear hx9 ho9
        go_wp2
        first
         | go_roundw
         | refine ⟨?rel, ?measure⟩
        case rel => exact ⟨zz, by omega, by omega, by first | rfl | go_num, HO9, HX9⟩
        case measure => simp [intOf]; omega
       ·have HO9 : Hid (OwnS rawR wr wo.heap.size 48 All (.slice (some ⟨g, 0, none⟩) n c) (csort zz l)) := hid (by
         rw [HFIN.out]
         have h := HE.out
         rw [csort_le (by omega) (by have := HRL.out; omega)] at h
         exact h)
        clear hm2
        go_wp2
        first
         | go_roundw
         | refine ⟨?rel, ?measure⟩
        case rel => exact ⟨zz, by omega, by omega, by first | rfl | go_num, HO9, HXR⟩
        case measure => simp [intOf]; omega
    ·have HF : Hid (OwnS rawR wr wo.heap.size 48 All (.slice (some ⟨g, 0, none⟩) n c) (stab ltRw l)) := hid (by
      have h := HE6.out
      rw [csort_le (by omega) (by have := HLN.out; omega)] at h
      exact h)
     go_wp2
     (try simp only [Exit.inBlock, Exit.then])
     refine bodyPost_ret (results_none rfl _ _ _) rfl ?_
     exact ⟨rfl, HX6.out, HF.out⟩
end Go.Proofs.YtacmjhcfjhpkeaaGreatDoor
