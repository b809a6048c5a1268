/- The library's stable sort at symbols: swapRange, rotate. The library's stable sort at symbols: insertion sort. -/
import Derived.Test.YtacmjhcfjhpkeaaGreatDoorPlbm
import Derived.Test.YtacmjhcfjhpkeaaGreatDoorFsOm
import Derived.Test.YtacmjhcfjhpkeaaGreatDoorSplitm
import Derived.Test.YtacmjhcfjhpkeaaGreatDoorRows
import Derived.Deep.QuietTactic
import Derived.Deep.CutRange
import Derived.Test.YtacmjhcfjhpkeaaGreatDoorReg
namespace Go.Proofs.YtacmjhcfjhpkeaaGreatDoor
open Go.RowKit Go.Deco
set_option linter.unusedSimpArgs false
set_option linter.unusedVariables false

theorem keepT {a w : World} (_ : Ext a w) : True := trivial
/-- The row sorted: what a step of the sort leaves. -/
def RowS (wo : World) (g n c : Nat) (D : List Raw) (e : Ending) (w' : World) : Prop := e = .returned (.tuple #[]) ∧ Ext wo w' ∧ OwnS rawR w' wo.heap.size 48 All (.slice (some ⟨g, 0, none⟩) n c) D

set_option maxRecDepth 100000 in
set_option maxHeartbeats 4000000 in
theorem swapr_any (wo w : World) (g n c : Nat) (D : List Raw) (hx : Ext wo w) (ho : OwnS rawR w wo.heap.size 48 All (.slice (some ⟨g, 0, none⟩) n c) D) (a b m : Nat) (hab : a + m ≤ b) (hb : b + m ≤ n) (hn : n ≤ 1000000) (F : Value) (D' : List Raw) (hD : ∀ E, Swp D a b m E → E = D') :
  Calls Tryz.prog 149 #[.slice (some ⟨g, 0, none⟩) n c, .int .i64 a, .int .i64 b, .int .i64 m, F] w (RowS wo g n c D') := by
 have hln := ho.len
 have hgw : wo.heap.size ≤ g := (ho.block g rfl).1
 have HLN := hid hln
 have HO := hid ho
 have HX := hid hx
 have HD := hid hD
 clear ho hx hD hln
 go_enter Tryz.func149, Tryz.ntmps149
 go_wp2
 go_loopw [10] (fun i wr => ∃ (k : Nat) (E : List Raw), k ≤ m ∧ i = .int .i64 k ∧ Hid (Swp D a b k E) ∧ Hid (OwnS rawR wr wo.heap.size 48 All (.slice (some ⟨g, 0, none⟩) n c) E) ∧ Hid (Ext wo wr)) (fun i _ => m - (intOf i).toNat)
 case atStart => exact ⟨0, D, by omega, rfl, hid (Swp.start D a b), HO, HX⟩
 case round =>
  obtain ⟨k, E, hk, rfl, HS, HE, HXR⟩ := hrel
  by_cases h1 : k < m
  ·obtain ⟨x, hx⟩ : ∃ x, D[b + k]? = some x := ⟨_, List.getElem?_eq_getElem (by have := HLN.out; omega)⟩
   obtain ⟨y, hy⟩ : ∃ y, D[a + k]? = some y := ⟨_, List.getElem?_eq_getElem (by have := HLN.out; omega)⟩
   have ex : E[b + k]? = some x := by rw [HS.out.at2 hab h1]; exact hx
   have ey : E[a + k]? = some y := by rw [HS.out.at1 hab h1]; exact hy
   obtain ⟨⟨x0, x1, x2, x3, x4, x5⟩, f0, f1, f2, f3, f4, f5⟩ := raw_cells HE.out ex
   obtain ⟨⟨y0, y1, y2, y3, y4, y5⟩, g0, g1, g2, g3, g4, g5⟩ := raw_cells HE.out ey
   have HST := hid (HS.out.step hab h1 hx hy)
   have w1 : IntKind.i64.wrap ((a : Int) + (k : Int)) = ((a + k : Nat) : Int) := by rw [IntWalk.i64_in _ (by omega)]; omega
   have w2 : IntKind.i64.wrap ((b : Int) + (k : Int)) = ((b + k : Nat) : Int) := by rw [IntWalk.i64_in _ (by omega)]; omega
   obtain ⟨p, hp⟩ : ∃ p, a + k = p := ⟨_, rfl⟩
   obtain ⟨q, hq⟩ : ∃ q, b + k = q := ⟨_, rfl⟩
   have hp1 : p < n := by omega
   have hq1 : q < n := by omega
   have hpq : p ≠ q := by omega
   rw [hp] at w1 ey y0 y1 y2 y3 y4 y5 g0 g1 g2 g3 g4 g5 HST
   rw [hq] at w2 ex x0 x1 x2 x3 x4 x5 f0 f1 f2 f3 f4 f5 HST
   have i1 : (0 : Int) ≤ (p : Int) := by omega
   have i2 : (p : Int) < (n : Int) := by omega
   have i3 : (0 : Int) ≤ (q : Int) := by omega
   have i4 : (q : Int) < (n : Int) := by omega
   clear hp hq hx hy
   have hokx := rawP.own_ok HE.out x (List.mem_of_getElem? ex)
   have hoky := rawP.own_ok HE.out y (List.mem_of_getElem? ey)
   obtain ⟨W1, hW1⟩ : ∃ W1, (((((wr.setCell ⟨g, p * 6, none⟩ (.int .i64 x.off)).setCell ⟨g, p * 6 + 1, none⟩ (.int .i64 x.kind)).setCell ⟨g, p * 6 + 2, none⟩ (.int .i64 x.size)).setCell ⟨g, p * 6 + 3, none⟩ (.int .i64 x.count)).setCell ⟨g, p * 6 + 4, none⟩ (.slice x.A x.n x.c)).setCell ⟨g, p * 6 + 5, none⟩ (.slice x.B x.m x.e) = W1 := ⟨_, rfl⟩
   have ho1 := raw_put HE.out ey hokx
   rw [hW1] at ho1
   have ex1 : (E.set p x)[q]? = some x := by rw [List.getElem?_set_ne hpq]; exact ex
   obtain ⟨⟨u0, u1, u2, u3, u4, u5⟩, v0, v1, v2, v3, v4, v5⟩ := raw_cells ho1 ex1
   obtain ⟨W2, hW2⟩ : ∃ W2, (((((W1.setCell ⟨g, q * 6, none⟩ (.int .i64 y.off)).setCell ⟨g, q * 6 + 1, none⟩ (.int .i64 y.kind)).setCell ⟨g, q * 6 + 2, none⟩ (.int .i64 y.size)).setCell ⟨g, q * 6 + 3, none⟩ (.int .i64 y.count)).setCell ⟨g, q * 6 + 4, none⟩ (.slice y.A y.n y.c)).setCell ⟨g, q * 6 + 5, none⟩ (.slice y.B y.m y.e) = W2 := ⟨_, rfl⟩
   have ho2 := raw_put ho1 ex1 hoky
   rw [hW2] at ho2
   have hx1 : Ext wo W1 := by rw [← hW1]; exact (((((HXR.out.setCell (p := ⟨g, p * 6, none⟩) hgw _).setCell (p := ⟨g, p * 6 + 1, none⟩) hgw _).setCell (p := ⟨g, p * 6 + 2, none⟩) hgw _).setCell (p := ⟨g, p * 6 + 3, none⟩) hgw _).setCell (p := ⟨g, p * 6 + 4, none⟩) hgw _).setCell (p := ⟨g, p * 6 + 5, none⟩) hgw _
   have hx2 : Ext wo W2 := by rw [← hW2]; exact (((((hx1.setCell (p := ⟨g, q * 6, none⟩) hgw _).setCell (p := ⟨g, q * 6 + 1, none⟩) hgw _).setCell (p := ⟨g, q * 6 + 2, none⟩) hgw _).setCell (p := ⟨g, q * 6 + 3, none⟩) hgw _).setCell (p := ⟨g, q * 6 + 4, none⟩) hgw _).setCell (p := ⟨g, q * 6 + 5, none⟩) hgw _
   have HO2 := hid ho2
   have HX2 := hid hx2
   clear hokx hoky ho1 ex1 ho2 hx1 hx2
   go_upto_region 3 with fail
   have HXg49q_0 := hid ((Ext.refl wr).drew)
   refine wp_region_held_drew (S := (fun w' => True)) (by kernel_rfl) trivial (fun hSg49q0 => ?_)
   refine rgT6 0 1 2 3 4 5 ?_
   refine rgT6 6 7 8 9 10 11 ?_
   refine rgT6 12 14 15 16 17 18 ?_
   refine wpAnyH_ready (rs := [13, 19]) (by kernel_rfl) (by simp) ?_
   refine (AllReadyH.consL rfl (fun K hK => ?g49qb13x19) (AllReadyH.consL rfl (fun K hK => ?g49qb19x19) AllReadyH.nil))
   case' g49qb13x19 =>
    have hEg49q1 := Ext.refl wr.drew
    go_simp
    have HXg49q_1 := hid (HXg49q_0.out.trans hEg49q1)
    clear hEg49q1
    refine rgK hK (keepT HXg49q_1.out) (fun hSg49q1 => ?_)
    clear hK K
    refine wpAnyH_ready (rs := [19]) (by kernel_rfl) (by simp) ?_
    refine (AllReadyH.consL rfl (fun K hK => ?g49qb19x20) AllReadyH.nil)
    case' g49qb19x20 =>
     have hEg49q2 := Ext.refl wr.drew
     go_simp
     have HXg49q_2 := hid (HXg49q_1.out.trans hEg49q2)
     clear hEg49q2
     refine rgK hK (keepT HXg49q_2.out) (fun hSg49q2 => ?_)
     clear hK K
     refine rgT 20 ?_
     refine wpAnyH_ready (rs := [21]) (by kernel_rfl) (by simp) ?_
     refine (AllReadyH.consL rfl (fun K hK => ?g49qb21x22) AllReadyH.nil)
     case' g49qb21x22 =>
      go_simp
      refine rgK hK trivial (fun hSg49q3 => ?_)
      clear hK K
      refine rgT 22 ?_
      refine wpAnyH_ready (rs := [23]) (by kernel_rfl) (by simp) ?_
      refine (AllReadyH.consL rfl (fun K hK => ?g49qb23x24) AllReadyH.nil)
      case' g49qb23x24 =>
       go_simp
       refine rgK hK trivial (fun hSg49q4 => ?_)
       clear hK K
       refine wpAnyH_done (by kernel_rfl) ?_ _
       go_wp2
       first
        | go_roundw
        | refine ⟨?rel, ?measure⟩
       case rel => exact ⟨k + 1, _, by omega, by go_num, HST, hid HO2.out.dr, hid HX2.out.drew⟩
       case measure => simp [intOf]; omega
   case' g49qb19x19 =>
    have hEg49q1 := Ext.refl wr.drew
    go_simp
    have HXg49q_1 := hid (HXg49q_0.out.trans hEg49q1)
    clear hEg49q1
    refine rgK hK (keepT HXg49q_1.out) (fun hSg49q1 => ?_)
    clear hK K
    refine wpAnyH_ready (rs := [13]) (by kernel_rfl) (by simp) ?_
    refine (AllReadyH.consL rfl (fun K hK => ?g49qb13x25) AllReadyH.nil)
    case' g49qb13x25 =>
     have hEg49q2 := Ext.refl wr.drew
     go_simp
     have HXg49q_2 := hid (HXg49q_1.out.trans hEg49q2)
     clear hEg49q2
     refine rgK hK (keepT HXg49q_2.out) (fun hSg49q2 => ?_)
     clear hK K
     refine rgT 20 ?_
     refine wpAnyH_ready (rs := [21]) (by kernel_rfl) (by simp) ?_
     refine (AllReadyH.consL rfl (fun K hK => ?g49qb21x27) AllReadyH.nil)
     case' g49qb21x27 =>
      go_simp
      refine rgK hK trivial (fun hSg49q3 => ?_)
      clear hK K
      refine rgT 22 ?_
      refine wpAnyH_ready (rs := [23]) (by kernel_rfl) (by simp) ?_
      refine (AllReadyH.consL rfl (fun K hK => ?g49qb23x29) AllReadyH.nil)
      case' g49qb23x29 =>
       go_simp
       refine rgK hK trivial (fun hSg49q4 => ?_)
       clear hK K
       refine wpAnyH_done (by kernel_rfl) ?_ _
       go_wp2
       first
        | go_roundw
        | refine ⟨?rel, ?measure⟩
       case rel => exact ⟨k + 1, _, by omega, by go_num, HST, hid HO2.out.dr, hid HX2.out.drew⟩
       case measure => simp [intOf]; omega
  ·obtain rfl : k = m := by omega
   go_wp2
   (try simp only [Exit.inBlock, Exit.then])
   refine bodyPost_ret (results_none rfl _ _ _) rfl ?_
   refine ⟨rfl, HXR.out, ?_⟩
   have h := HE.out
   rw [HD.out E HS.out] at h
   exact h

theorem swapp_any (wo w : World) (g n c : Nat) (P X M Y Q : List Raw) (hx : Ext wo w) (ho : OwnS rawR w wo.heap.size 48 All (.slice (some ⟨g, 0, none⟩) n c) (P ++ (X ++ (M ++ (Y ++ Q))))) (hxy : Y.length = X.length) (hn : n ≤ 1000000) (F : Value) (a b m : Nat) (ha : a = P.length) (hb : b = P.length + X.length + M.length) (hm : m = X.length) :
  Calls Tryz.prog 149 #[.slice (some ⟨g, 0, none⟩) n c, .int .i64 a, .int .i64 b, .int .i64 m, F] w (RowS wo g n c (P ++ (Y ++ (M ++ (X ++ Q))))) := by
 have hln := ho.len
 simp only [List.length_append] at hln
 refine swapr_any wo w g n c _ hx ho a b m (by omega) (by omega) hn F _ fun E hE => ?_
 rw [ha, hb, hm] at hE
 exact hE.fin hxy

set_option maxRecDepth 100000 in
set_option maxHeartbeats 4000000 in
theorem rotate_any (wo w : World) (g n c : Nat) (P A B Q : List Raw) (hx : Ext wo w) (ho : OwnS rawR w wo.heap.size 48 All (.slice (some ⟨g, 0, none⟩) n c) (P ++ (A ++ (B ++ Q)))) (hA : A ≠ []) (hB : B ≠ []) (hn : n ≤ 1000000) (F : Value) (a m b : Nat) (ha : a = P.length) (hm : m = P.length + A.length) (hb : b = P.length + A.length + B.length) :
  Calls Tryz.prog 147 #[.slice (some ⟨g, 0, none⟩) n c, .int .i64 a, .int .i64 m, .int .i64 b, F] w (RowS wo g n c (P ++ (B ++ (A ++ Q)))) := by
 have hln := ho.len
 simp only [List.length_append] at hln
 have hA0 : 0 < A.length := List.length_pos_iff.2 hA
 have hB0 : 0 < B.length := List.length_pos_iff.2 hB
 obtain ⟨i0, hi0⟩ : ∃ i0, A.length = i0 := ⟨_, rfl⟩
 obtain ⟨j0, hj0⟩ : ∃ j0, B.length = j0 := ⟨_, rfl⟩
 rw [hi0] at hA0 hm hb hln
 rw [hj0] at hB0 hb hln
 obtain ⟨D, hD⟩ : ∃ D, P ++ (B ++ (A ++ Q)) = D := ⟨_, rfl⟩
 rw [hD]
 have HO := hid ho
 have HX := hid hx
 have HI0 := hid hi0
 have HJ0 := hid hj0
 have HD := hid hD
 have HP := hid ha
 have w1 : IntKind.i64.wrap ((m : Int) - (a : Int)) = (i0 : Int) := by rw [IntWalk.i64_in _ (by omega)]; omega
 have w2 : IntKind.i64.wrap ((b : Int) - (m : Int)) = (j0 : Int) := by rw [IntWalk.i64_in _ (by omega)]; omega
 have hmn : m ≤ 1000000 := by omega
 have hbn : b ≤ n := by omega
 have hmi : i0 ≤ m := by omega
 have hmj : m + j0 ≤ n := by omega
 have HMA : Hid (m = a + i0) := hid (by omega)
 clear ho hx hD ha hi0 hj0 hln hm hb hA hB
 go_enter Tryz.func147, Tryz.ntmps147
 go_wp2
 clear w1 w2
 go_loopw [10, 11] (fun s10 s11 wr => ∃ (i j : Nat) (P' A' B' Q' : List Raw), 0 < i ∧ 0 < j ∧ i ≤ m ∧ m + j ≤ n ∧ s10 = .int .i64 i ∧ s11 = .int .i64 j ∧ Hid (A'.length = i) ∧ Hid (B'.length = j) ∧ Hid (P'.length + i = m) ∧ Hid (P' ++ (B' ++ (A' ++ Q')) = D) ∧
  Hid (OwnS rawR wr wo.heap.size 48 All (.slice (some ⟨g, 0, none⟩) n c) (P' ++ (A' ++ (B' ++ Q')))) ∧ Hid (Ext wo wr)) (fun s10 s11 _ => (intOf s10).toNat + (intOf s11).toNat)
 case atStart => exact ⟨i0, j0, P, A, B, Q, hA0, hB0, hmi, hmj, rfl, rfl, HI0, HJ0, hid (by have := HP.out; have := HMA.out; omega), HD, HO, HX⟩
 case round =>
  obtain ⟨i, j, P', A', B', Q', hi, hj, him, hjn, rfl, rfl, HA, HB, HPL, HDD, HO1, HX1⟩ := hrel
  have w3 : IntKind.i64.wrap ((m : Int) - (i : Int)) = ((m - i : Nat) : Int) := by rw [IntWalk.i64_in _ (by omega)]; omega
  rcases Nat.lt_trichotomy i j with h1 | h1 | h1
  ·have n1 : ((i : Int) != (j : Int)) = true := by simp; omega
   have w4 : IntKind.i64.wrap ((m : Int) + (j : Int)) = ((m + j : Nat) : Int) := by rw [IntWalk.i64_in _ (by omega)]; omega
   have w5 : IntKind.i64.wrap (((m + j : Nat) : Int) - (i : Int)) = ((m + j - i : Nat) : Int) := by rw [IntWalk.i64_in _ (by omega)]; omega
   have w6 : IntKind.i64.wrap ((j : Int) - (i : Int)) = ((j - i : Nat) : Int) := by rw [IntWalk.i64_in _ (by omega)]; omega
   obtain ⟨u, hu⟩ : ∃ u, m + j = u := ⟨_, rfl⟩
   obtain ⟨v, hv⟩ : ∃ v, u - i = v := ⟨_, rfl⟩
   obtain ⟨t, ht⟩ : ∃ t, m - i = t := ⟨_, rfl⟩
   obtain ⟨z, hz⟩ : ∃ z, j - i = z := ⟨_, rfl⟩
   rw [hu] at w4 w5
   rw [hv] at w5
   rw [ht] at w3
   rw [hz] at w6
   have HS := hid (swapp_any wo wr g n c P' A' (B'.take (j - i)) (B'.drop (j - i)) Q' HX1.out (by have h := HO1.out; rw [cut2 B' (j - i), List.append_assoc] at h; simpa using h) (by rw [List.length_drop]; have := HA.out; have := HB.out; omega) hn F t v i (by have := HPL.out; omega) (by rw [List.length_take]; have := HA.out; have := HB.out; have := HPL.out; omega) HA.out.symm)
   have HZ := hid hz
   have hz1 : 0 < z := by omega
   have hz2 : m + z ≤ n := by omega
   have hz3 : z < j := by omega
   clear hu hv ht hz
   go_wp2_with fail
   refine (HS.out).mono ?_
   rintro e w5 ⟨rfl, hx5, ho5⟩
   have HX5 := hid hx5
   have HO5 := hid ho5
   clear hx5 ho5
   go_wp2
   first
    | go_roundw
    | refine ⟨?rel, ?measure⟩
   case rel =>
    refine ⟨i, z, P', B'.drop (j - i), B'.take (j - i), A' ++ Q', hi, hz1, him, hz2, rfl, by first | rfl | go_num, hid (by rw [List.length_drop]; have := HB.out; omega), hid (by rw [List.length_take]; have := HB.out; have := HZ.out; omega), HPL, hid ?_, hid (by simpa using HO5.out), HX5⟩
    rw [← HDD.out, ← List.append_assoc (B'.take (j - i)), List.take_append_drop]
   case measure => simp [intOf]; omega
  ·subst h1
   have n1 : ((i : Int) != (i : Int)) = false := by simp
   obtain ⟨t, ht⟩ : ∃ t, m - i = t := ⟨_, rfl⟩
   rw [ht] at w3
   have HS := hid (swapp_any wo wr g n c P' A' [] B' Q' HX1.out HO1.out (by have := HA.out; have := HB.out; omega) hn F t m i (by have := HPL.out; omega) (by have := HPL.out; have := HA.out; simp; omega) HA.out.symm)
   rw [List.nil_append] at HS
   clear ht
   go_wp2_with fail
   refine (HS.out).mono ?_
   rintro e w5 ⟨rfl, hx5, ho5⟩
   rw [HDD.out] at ho5
   have HX5 := hid hx5
   have HO5 := hid ho5
   clear hx5 ho5
   go_wp2
   (try simp only [Exit.inBlock, Exit.then])
   refine bodyPost_ret (results_none rfl _ _ _) rfl ?_
   exact ⟨rfl, HX5.out, HO5.out⟩
  ·have n1 : ((i : Int) != (j : Int)) = true := by simp; omega
   have w6 : IntKind.i64.wrap ((i : Int) - (j : Int)) = ((i - j : Nat) : Int) := by rw [IntWalk.i64_in _ (by omega)]; omega
   obtain ⟨t, ht⟩ : ∃ t, m - i = t := ⟨_, rfl⟩
   obtain ⟨z, hz⟩ : ∃ z, i - j = z := ⟨_, rfl⟩
   rw [ht] at w3
   rw [hz] at w6
   have HS := hid (swapp_any wo wr g n c P' (A'.take j) (A'.drop j) B' Q' HX1.out (by have h := HO1.out; rw [cut2 A' j, List.append_assoc] at h; simpa using h) (by rw [List.length_take]; have := HA.out; have := HB.out; omega) hn F t m j (by have := HPL.out; omega) (by rw [List.length_take, List.length_drop]; have := HA.out; have := HPL.out; omega) (by rw [List.length_take]; have := HA.out; omega))
   have HZ := hid hz
   have hz1 : 0 < z := by omega
   have hz2 : z ≤ m := by omega
   have hz3 : z < i := by omega
   clear ht hz
   go_wp2_with fail
   refine (HS.out).mono ?_
   rintro e w5 ⟨rfl, hx5, ho5⟩
   have HX5 := hid hx5
   have HO5 := hid ho5
   clear hx5 ho5
   go_wp2
   first
    | go_roundw
    | refine ⟨?rel, ?measure⟩
   case rel =>
    refine ⟨z, j, P' ++ B', A'.drop j, A'.take j, Q', hz1, hj, hz2, hjn, by first | rfl | go_num, rfl, hid (by rw [List.length_drop]; have := HA.out; have := HZ.out; omega), hid (by rw [List.length_take]; have := HA.out; omega), hid (by rw [List.length_append]; have := HPL.out; have := HB.out; have := HZ.out; omega), hid ?_, hid (by simpa using HO5.out), HX5⟩
    rw [← HDD.out, List.append_assoc, ← List.append_assoc (A'.take j), List.take_append_drop]
   case measure => simp [intOf]; omega
end Go.Proofs.YtacmjhcfjhpkeaaGreatDoor

namespace Go.Proofs.YtacmjhcfjhpkeaaGreatDoor
open Go.RowKit Go.Deco
set_option linter.unusedSimpArgs false
set_option linter.unusedVariables false

set_option maxRecDepth 100000 in
set_option maxHeartbeats 4000000 in
theorem inscmp_any (wo w : World) (g n c : Nat) (P X Q : List Raw) (hx : Ext wo w) (ho : OwnS rawR w wo.heap.size 48 All (.slice (some ⟨g, 0, none⟩) n c) (P ++ (X ++ Q))) (hn : n ≤ 1000000) (a b : Nat) (ha : a = P.length) (hb : b = P.length + X.length) :
  Calls Tryz.prog 137 #[.slice (some ⟨g, 0, none⟩) n c, .int .i64 a, .int .i64 b, .func (.func 83) #[] #[]] w (RowS wo g n c (P ++ (stab ltRw X ++ Q))) := by
 have hg := call_ord
 have hln := ho.len
 simp only [List.length_append] at hln
 have hgw : wo.heap.size ≤ g := (ho.block g rfl).1
 obtain ⟨N, hN⟩ : ∃ N, X.length = N := ⟨_, rfl⟩
 rw [hN] at hb hln
 obtain ⟨b', hb'⟩ : ∃ b', a + N = b' := ⟨_, rfl⟩
 have hbb : b = b' := by omega
 subst hbb
 have HN := hid hN
 have HA := hid ha
 have HBB := hid hb'
 have hbn : b ≤ n := by omega
 have hab : a ≤ b := by omega
 have HO := hid ho
 have HX := hid hx
 have w1 : IntKind.i64.wrap ((a : Int) + 1) = ((a + 1 : Nat) : Int) := by rw [IntWalk.i64_in _ (by omega)]; omega
 obtain ⟨a1, ha1⟩ : ∃ a1, a + 1 = a1 := ⟨_, rfl⟩
 rw [ha1] at w1
 have HA1 := hid ha1
 clear ho hx hN ha hb hb' hln ha1
 go_enter Tryz.func137, Tryz.ntmps137
 go_wp2
 clear w1
 go_loopw [8] (fun i wr => ∃ (k ik : Nat), 0 < k ∧ ik ≤ n + 1 ∧ i = .int .i64 ik ∧ Hid (a + k = ik ∧ (k ≤ N ∨ k = 1)) ∧ Hid (OwnS rawR wr wo.heap.size 48 All (.slice (some ⟨g, 0, none⟩) n c) (P ++ (stab ltRw (X.take k) ++ (X.drop k ++ Q)))) ∧ Hid (Ext wo wr)) (fun i _ => (n + 2) - (intOf i).toNat)
 case atStart =>
  refine ⟨1, a1, by omega, by have := HA1.out; omega, rfl, hid ⟨HA1.out, .inr rfl⟩, hid ?_, HX⟩
  have h := HO.out
  cases X with
  | nil => simpa [stab] using h
  | cons x X => simpa [stab, insR] using h
 case round =>
  obtain ⟨k, ik, hk0, hik, rfl, HK, HE0, HX0⟩ := hrel
  by_cases h1 : ik < b
  ·have hkN : k < N := by have := HK.out.1; have := HBB.out; omega
   obtain ⟨x, hx⟩ : ∃ x, X[k]? = some x := ⟨_, List.getElem?_eq_getElem (by have := HN.out; omega)⟩
   obtain ⟨O, hO⟩ : ∃ O, stab ltRw (X.take k) = O := ⟨_, rfl⟩
   obtain ⟨R, hR⟩ : ∃ R, X.drop (k + 1) ++ Q = R := ⟨_, rfl⟩
   have hOl : O.length = k := by rw [← hO, stab_len, List.length_take]; have := HN.out; omega
   have he : P ++ (stab ltRw (X.take k) ++ (X.drop k ++ Q)) = P ++ (insP O x k ++ R) := by
    rw [hO, ← hOl, insP_all, hOl, drop_cons' hx, ← hR]
    simp
   have hE1 := HE0.out
   rw [he] at hE1
   have HE1 := hid hE1
   have HOL := hid hOl
   have HOS : Hid (Srt ltRw O) := hid (by rw [← hO]; exact (stab_ok weakRw _).1)
   have HNX : Hid (stab ltRw (X.take (k + 1)) = insR ltRw x O) := hid (by rw [take_snoc' hx, stab_snoc, hO])
   have HRR := hid hR
   have HIK : Hid (a + k = ik) := hid HK.out.1
   clear hx hO hR hOl he hE1
   go_wp2
   go_loopw [9] (fun s9 wr => ∃ (p pj : Nat), p ≤ k ∧ pj ≤ ik ∧ s9 = .int .i64 pj ∧ Hid (a + p = pj) ∧ Hid (∀ q, p ≤ q → ∀ y, O[q]? = some y → ltRw x y = true) ∧ Hid (OwnS rawR wr wo.heap.size 48 All (.slice (some ⟨g, 0, none⟩) n c) (P ++ (insP O x p ++ R))) ∧ Hid (Ext wo wr)) (fun s9 _ => (intOf s9).toNat)
   case atStart => exact ⟨k, ik, by omega, by omega, rfl, HIK, hid (fun q hq y hy => by rw [List.getElem?_eq_none (by have := HOL.out; omega)] at hy; cases hy), HE1, HX0⟩
   case round =>
    obtain ⟨p, pj, hp, hpj, rfl, HPJ, HALL, HE, HXR⟩ := hrel
    rcases p with _ | p'
    ·have hpa : pj = a := by have := HPJ.out; omega
     have d1 : decide ((pj : Int) > (a : Int)) = false := decide_eq_false (by omega)
     have d2 : decide ((a : Int) < (pj : Int)) = false := decide_eq_false (by omega)
     have d3 : decide (a < pj) = false := decide_eq_false (by omega)
     have HIN : Hid (insR ltRw x O = insP O x 0) := hid (insR_insP weakRw HOS.out (by omega) (fun y h => absurd rfl h) (fun q hq y hy => HALL.out q hq y hy))
     have HEND := hid HE.out.dr
     have HXD := hid HXR.out.drew
     clear hpa
     go_upto_region 4 with fail
     refine wp_region_held_drew (S := (fun w' => True)) (by kernel_rfl) trivial (fun hSg50q0 => ?_)
     refine rgT4 0 1 2 3 ?_
     refine rgU4 4 5 6 7 ?_
     refine rgU4 8 9 10 11 ?_
     refine rgU2 12 13 ?_
     refine rgC 14 (fun K hK => ?_)
     refine cast (if_neg (fun h => Bool.noConfusion (show false = true from h))).symm ?_
     refine rgK hK (by assumption) (fun hSg50q1 => ?_)
     clear hK K
     refine rgU 15 ?_
     refine rgT 16 ?_
     refine wpAnyH_done (by kernel_rfl) ?_ _
     go_wp2
     first
      | go_roundw
      | refine ⟨?rel, ?measure⟩
     case rel =>
      refine ⟨k + 1, ik + 1, by omega, by have := HBB.out; omega, by first | rfl | go_num, hid ⟨by have := HIK.out; omega, .inl (by omega)⟩, hid ?_, HXD⟩
      rw [HNX.out, HIN.out, HRR.out]
      exact HEND.out
     case measure => simp [intOf]; omega
    ·obtain ⟨y, hy⟩ : ∃ y, O[p']? = some y := ⟨_, List.getElem?_eq_getElem (by have := HOL.out; omega)⟩
     obtain ⟨m1, m2, m3⟩ := move_down (P := P) (R := R) (x := x) hy
     obtain ⟨pi, hpi⟩ : ∃ pi, P.length + p' = pi := ⟨_, rfl⟩
     have hpj2 : pi + 1 = pj := by have := HPJ.out; have := HA.out; omega
     rw [hpi] at m1 m2 m3
     rw [hpj2] at m2 m3
     have HMV := hid m3
     have HYO := hid hy
     have HPI : Hid (a + p' = pi) := hid (by have := HA.out; omega)
     obtain ⟨E, hE⟩ : ∃ E, P ++ (insP O x (p' + 1) ++ R) = E := ⟨_, rfl⟩
     rw [hE] at m1 m2 HE HMV
     have HEE := hid hE
     have ex := m1
     have ey := m2
     obtain ⟨⟨x0, x1, x2, x3, x4, x5⟩, f0, f1, f2, f3, f4, f5⟩ := raw_cells HE.out ex
     obtain ⟨⟨y0, y1, y2, y3, y4, y5⟩, g0, g1, g2, g3, g4, g5⟩ := raw_cells HE.out ey
     have w9 : IntKind.i64.wrap ((pj : Int) - 1) = (pi : Int) := by rw [IntWalk.i64_in _ (by omega)]; omega
     have d1 : decide ((pj : Int) > (a : Int)) = true := decide_eq_true (by have := HPJ.out; omega)
     have d2 : decide ((a : Int) < (pj : Int)) = true := decide_eq_true (by have := HPJ.out; omega)
     have d3 : decide (a < pj) = true := decide_eq_true (by have := HPJ.out; omega)
     have i1 : (0 : Int) ≤ (pi : Int) := by omega
     have i3 : (0 : Int) ≤ (pj : Int) := by omega
     have hpjn : pj < n := by omega
     have i4 : (pj : Int) < (n : Int) := by omega
     have i2 : (pi : Int) < (n : Int) := by omega
     have hpq : pj ≠ pi := by omega
     have hpp : pi < pj := by omega
     obtain ⟨r, hr⟩ : ∃ r, ltRw x y = r := ⟨_, rfl⟩
     have HR' := hid hr
     have HXY := hid (And.intro ex ey)
     clear hy hpi hpj2 hE m1 m2 m3 hr ex ey
     go_upto_region 4 with fail
     refine wp_region_held_drew (S := (fun w' => w'.cell? ⟨g, pi * 6, none⟩ = some (.int .i64 y.off) ∧ w'.cell? ⟨g, pi * 6 + 1, none⟩ = some (.int .i64 y.kind) ∧ w'.cell? ⟨g, pi * 6 + 2, none⟩ = some (.int .i64 y.size) ∧ w'.cell? ⟨g, pi * 6 + 3, none⟩ = some (.int .i64 y.count) ∧ w'.cell? ⟨g, pi * 6 + 4, none⟩ = some (.slice y.A y.n y.c) ∧ w'.cell? ⟨g, pi * 6 + 5, none⟩ = some (.slice y.B y.m y.e) ∧ w'.cell? ⟨g, pj * 6, none⟩ = some (.int .i64 x.off) ∧ w'.cell? ⟨g, pj * 6 + 1, none⟩ = some (.int .i64 x.kind) ∧ w'.cell? ⟨g, pj * 6 + 2, none⟩ = some (.int .i64 x.size) ∧ w'.cell? ⟨g, pj * 6 + 3, none⟩ = some (.int .i64 x.count) ∧ w'.cell? ⟨g, pj * 6 + 4, none⟩ = some (.slice x.A x.n x.c) ∧ w'.cell? ⟨g, pj * 6 + 5, none⟩ = some (.slice x.B x.m x.e))) (by kernel_rfl) ⟨x0, x1, x2, x3, x4, x5, y0, y1, y2, y3, y4, y5⟩ (fun hSg51q0 => ?_)
     refine rgT6 0 1 2 3 4 5 ?_
     refine rgT6 6 7 8 9 10 11 ?_
     refine rgT2 12 13 ?_
     refine rgC 14 (fun K hK => ?_)
     go_simp
     go_at_call 83
     refine (cmp_raw _ x y).mono ?_
     rintro e w6 ⟨⟨z, rfl, hz⟩, hx6⟩
     have HX6 := hid hx6.drew_left
     rw [HR'.out] at hz
     clear hx6
     refine rgK hK ⟨HX6.out.cell x0, HX6.out.cell x1, HX6.out.cell x2, HX6.out.cell x3, HX6.out.cell x4, HX6.out.cell x5, HX6.out.cell y0, HX6.out.cell y1, HX6.out.cell y2, HX6.out.cell y3, HX6.out.cell y4, HX6.out.cell y5⟩ (fun hSg51q1 => ?_)
     clear hK K
     refine rgT2 15 16 ?_
     refine wpAnyH_done (by kernel_rfl) ?_ _
     cases r with
     | false =>
      have hz' : ¬ z < 0 := by simpa using hz
      have HIN : Hid (insR ltRw x O = insP O x (p' + 1)) := hid (insR_insP weakRw HOS.out (by have := HOL.out; omega) (fun y' _ h => by rw [Nat.add_sub_cancel] at h; rw [HYO.out] at h; cases h; exact HR'.out) (fun q hq y hy => HALL.out q hq y hy))
      have HEND : Hid (OwnS rawR w6 wo.heap.size 48 All (.slice (some ⟨g, 0, none⟩) n c) (P ++ (insP O x (p' + 1) ++ R))) := hid (by rw [HEE.out]; exact HE.out.ext HX6.out)
      have HXD := hid (HXR.out.trans HX6.out)
      clear hz
      go_wp2
      first
       | go_roundw
       | refine ⟨?rel, ?measure⟩
      case rel =>
       refine ⟨k + 1, ik + 1, by omega, by have := HBB.out; omega, by first | rfl | go_num, hid ⟨by have := HIK.out; omega, .inl (by omega)⟩, hid ?_, HXD⟩
       rw [HNX.out, HIN.out, HRR.out]
       exact HEND.out
      case measure => simp [intOf]; omega
     | true =>
      have hz' : z < 0 := by simpa using hz
      have HLT := HR'
      have HE := hid (HE.out.ext HX6.out)
      have HXR := hid (HXR.out.trans HX6.out)
      have ex := HXY.out.1
      have ey := HXY.out.2
      obtain ⟨⟨x0, x1, x2, x3, x4, x5⟩, f0, f1, f2, f3, f4, f5⟩ := raw_cells HE.out ex
      obtain ⟨⟨y0, y1, y2, y3, y4, y5⟩, g0, g1, g2, g3, g4, g5⟩ := raw_cells HE.out ey
      clear hz
      have hokx := rawP.own_ok HE.out y (List.mem_of_getElem? ex)
      have hoky := rawP.own_ok HE.out x (List.mem_of_getElem? ey)
      obtain ⟨W1, hW1⟩ : ∃ W1, (((((w6.setCell ⟨g, pj * 6, none⟩ (.int .i64 y.off)).setCell ⟨g, pj * 6 + 1, none⟩ (.int .i64 y.kind)).setCell ⟨g, pj * 6 + 2, none⟩ (.int .i64 y.size)).setCell ⟨g, pj * 6 + 3, none⟩ (.int .i64 y.count)).setCell ⟨g, pj * 6 + 4, none⟩ (.slice y.A y.n y.c)).setCell ⟨g, pj * 6 + 5, none⟩ (.slice y.B y.m y.e) = W1 := ⟨_, rfl⟩
      have ho1 := raw_put HE.out ey hokx
      rw [hW1] at ho1
      have ex1 : (E.set pj y)[pi]? = some y := by rw [List.getElem?_set_ne hpq]; exact ex
      obtain ⟨⟨u0, u1, u2, u3, u4, u5⟩, v0, v1, v2, v3, v4, v5⟩ := raw_cells ho1 ex1
      obtain ⟨W2, hW2⟩ : ∃ W2, (((((W1.setCell ⟨g, pi * 6, none⟩ (.int .i64 x.off)).setCell ⟨g, pi * 6 + 1, none⟩ (.int .i64 x.kind)).setCell ⟨g, pi * 6 + 2, none⟩ (.int .i64 x.size)).setCell ⟨g, pi * 6 + 3, none⟩ (.int .i64 x.count)).setCell ⟨g, pi * 6 + 4, none⟩ (.slice x.A x.n x.c)).setCell ⟨g, pi * 6 + 5, none⟩ (.slice x.B x.m x.e) = W2 := ⟨_, rfl⟩
      have ho2 := raw_put ho1 ex1 hoky
      rw [hW2] at ho2
      have hx1 : Ext wo W1 := by rw [← hW1]; exact (((((HXR.out.setCell (p := ⟨g, pj * 6, none⟩) hgw _).setCell (p := ⟨g, pj * 6 + 1, none⟩) hgw _).setCell (p := ⟨g, pj * 6 + 2, none⟩) hgw _).setCell (p := ⟨g, pj * 6 + 3, none⟩) hgw _).setCell (p := ⟨g, pj * 6 + 4, none⟩) hgw _).setCell (p := ⟨g, pj * 6 + 5, none⟩) hgw _
      have hx2 : Ext wo W2 := by rw [← hW2]; exact (((((hx1.setCell (p := ⟨g, pi * 6, none⟩) hgw _).setCell (p := ⟨g, pi * 6 + 1, none⟩) hgw _).setCell (p := ⟨g, pi * 6 + 2, none⟩) hgw _).setCell (p := ⟨g, pi * 6 + 3, none⟩) hgw _).setCell (p := ⟨g, pi * 6 + 4, none⟩) hgw _).setCell (p := ⟨g, pi * 6 + 5, none⟩) hgw _
      have HO2 := hid ho2
      have HX2 := hid hx2
      clear hokx hoky ho1 ex1 ho2 hx1 hx2
      go_upto_region 6 with fail
      have HXg52q_0 := hid ((Ext.refl w6).drew)
      refine wp_region_held_drew (S := (fun w' => True)) (by kernel_rfl) trivial (fun hSg52q0 => ?_)
      refine rgT6 0 1 2 3 4 5 ?_
      refine rgT6 6 7 8 10 11 12 ?_
      refine wpAnyH_ready (rs := [9, 13]) (by kernel_rfl) (by simp) ?_
      refine (AllReadyH.consL rfl (fun K hK => ?g52qb9x13) (AllReadyH.consL rfl (fun K hK => ?g52qb13x13) AllReadyH.nil))
      case' g52qb9x13 =>
       have hEg52q1 := Ext.refl w6.drew
       go_simp
       have HXg52q_1 := hid (HXg52q_0.out.trans hEg52q1)
       clear hEg52q1
       refine rgK hK (keepT HXg52q_1.out) (fun hSg52q1 => ?_)
       clear hK K
       refine wpAnyH_ready (rs := [13]) (by kernel_rfl) (by simp) ?_
       refine (AllReadyH.consL rfl (fun K hK => ?g52qb13x14) AllReadyH.nil)
       case' g52qb13x14 =>
        have hEg52q2 := Ext.refl w6.drew
        go_simp
        have HXg52q_2 := hid (HXg52q_1.out.trans hEg52q2)
        clear hEg52q2
        refine rgK hK (keepT HXg52q_2.out) (fun hSg52q2 => ?_)
        clear hK K
        refine rgT 14 ?_
        refine wpAnyH_ready (rs := [15]) (by kernel_rfl) (by simp) ?_
        refine (AllReadyH.consL rfl (fun K hK => ?g52qb15x16) AllReadyH.nil)
        case' g52qb15x16 =>
         go_simp
         refine rgK hK trivial (fun hSg52q3 => ?_)
         clear hK K
         refine rgT 16 ?_
         refine wpAnyH_ready (rs := [17]) (by kernel_rfl) (by simp) ?_
         refine (AllReadyH.consL rfl (fun K hK => ?g52qb17x18) AllReadyH.nil)
         case' g52qb17x18 =>
          go_simp
          refine rgK hK trivial (fun hSg52q4 => ?_)
          clear hK K
          refine wpAnyH_done (by kernel_rfl) ?_ _
          go_wp2
          first
           | go_roundw
           | refine ⟨?rel, ?measure⟩
          case rel =>
           refine ⟨p', pi, by omega, by omega, by first | rfl | go_num, hid HPI.out, hid ?_, hid ?_, hid HX2.out.drew⟩
           ·intro q' hq' y' hy'
            by_cases e : q' = p'
            ·subst e
             have h := HYO.out.symm.trans hy'
             cases h
             exact HLT.out
            ·exact HALL.out q' (by omega) y' hy'
           ·have h := HO2.out.dr
            rw [HMV.out] at h
            exact h
          case measure => simp [intOf]; omega
      case' g52qb13x13 =>
       have hEg52q1 := Ext.refl w6.drew
       go_simp
       have HXg52q_1 := hid (HXg52q_0.out.trans hEg52q1)
       clear hEg52q1
       refine rgK hK (keepT HXg52q_1.out) (fun hSg52q1 => ?_)
       clear hK K
       refine wpAnyH_ready (rs := [9]) (by kernel_rfl) (by simp) ?_
       refine (AllReadyH.consL rfl (fun K hK => ?g52qb9x19) AllReadyH.nil)
       case' g52qb9x19 =>
        have hEg52q2 := Ext.refl w6.drew
        go_simp
        have HXg52q_2 := hid (HXg52q_1.out.trans hEg52q2)
        clear hEg52q2
        refine rgK hK (keepT HXg52q_2.out) (fun hSg52q2 => ?_)
        clear hK K
        refine rgT 14 ?_
        refine wpAnyH_ready (rs := [15]) (by kernel_rfl) (by simp) ?_
        refine (AllReadyH.consL rfl (fun K hK => ?g52qb15x21) AllReadyH.nil)
        case' g52qb15x21 =>
         go_simp
         refine rgK hK trivial (fun hSg52q3 => ?_)
         clear hK K
         refine rgT 16 ?_
         refine wpAnyH_ready (rs := [17]) (by kernel_rfl) (by simp) ?_
         refine (AllReadyH.consL rfl (fun K hK => ?g52qb17x23) AllReadyH.nil)
         case' g52qb17x23 =>
          go_simp
          refine rgK hK trivial (fun hSg52q4 => ?_)
          clear hK K
          refine wpAnyH_done (by kernel_rfl) ?_ _
          go_wp2
          first
           | go_roundw
           | refine ⟨?rel, ?measure⟩
          case rel =>
           refine ⟨p', pi, by omega, by omega, by first | rfl | go_num, hid HPI.out, hid ?_, hid ?_, hid HX2.out.drew⟩
           ·intro q' hq' y' hy'
            by_cases e : q' = p'
            ·subst e
             have h := HYO.out.symm.trans hy'
             cases h
             exact HLT.out
            ·exact HALL.out q' (by omega) y' hy'
           ·have h := HO2.out.dr
            rw [HMV.out] at h
            exact h
          case measure => simp [intOf]; omega
  ·have hkN : X.take k = X := by
    rcases HK.out.2 with h | h
    ·exact List.take_of_length_le (by have := HK.out.1; have := HBB.out; have := HN.out; omega)
    ·exact List.take_of_length_le (by have := HK.out.1; have := HBB.out; have := HN.out; omega)
   have hdr : X.drop k = [] := List.drop_eq_nil_of_le (by have := HK.out.1; have := HBB.out; have := HN.out; omega)
   have h := HE0.out
   rw [hkN, hdr, List.nil_append] at h
   have HF := hid h
   clear h hkN hdr
   go_wp2
   (try simp only [Exit.inBlock, Exit.then])
   refine bodyPost_ret (results_none rfl _ _ _) rfl ?_
   exact ⟨rfl, HX0.out, HF.out⟩
end Go.Proofs.YtacmjhcfjhpkeaaGreatDoor
